/- Programs: what the spec gathers over all commands: the changed variables. -/
import Derived.Test.YtjaohekkmlkinaaGreatMaCmdIc
set_option linter.unusedSimpArgs false
set_option linter.unusedVariables false
set_option maxRecDepth 100000
set_option maxHeartbeats 25600000
namespace Go.Proofs.YtjaohekkmlkinaaGreat
section
open Go Go.RowKit Go.Proofs
theorem l8Changed_go:∀ (N:Nat) (L:Cms),L.sz<N→∀ (A:Option Addr) (c lo hi g S d:Nat) (w:World),CmsV w lo hi A L→L.len≤1049600→L.small 1049600→L.shape d=true→hi≤g→S<512→Blk w g tB (encB (zj S)).toArray→
  Calls Tryz.prog 130 #[.slice (some ⟨g,0,none⟩) 9 9,.slice A L.len c] w fun e w'=>e=.returned (.slice (some ⟨g,0,none⟩) 9 9)∧Blk w' g tB (encB (zj (L.fold chF S))).toArray∧Mk (fun x=>x=g) w w':=by
 intro N
 induction N with
 | zero=>intro L h;omega
 | succ N IH=>
  intro L hsz A c lo hi g S d w hV hlen hsm hsh hgS hS hK;replace IH:=ax IH;replace hsm:=ax hsm;replace hsz:=ax hsz;replace hsh:=ax hsh;obtain ⟨n,hn⟩:∃ n,n=L.len:=⟨_,rfl⟩;rw[←hn];rw[←hn] at hlen;replace hn:=ax hn;have hgl:=hK.lt;replace hV:=ax hV;(go_enter Tryz.func130,Tryz.ntmps130);(go_wp2_with fail)
  go_loopw [0,5] (fun y x wr=>∃ (j S1:Nat),j≤n∧x=.int .i64 j∧y=.slice (some ⟨g,0,none⟩) 9 9∧S1<512∧aJ (L.fold chF S=(L.drop j).fold chF S1)∧Blk wr g tB (encB (zj S1)).toArray∧Mk (fun x=>x=g) w wr) (fun _ x _=>n - (intOf x).toNat)
  case atStart=>exact ⟨0,S,Nat.zero_le _,rfl,rfl,hS,ax rfl,hK,Mk.refl _ _⟩
  case round=>
   clear hK;obtain ⟨j,S1,hj,rfl,rfl,hS1,HR,kS,hM⟩:=hrel;by_cases hlt:j<n
   ·have hpos:0<(L.drop j).len:=by rw[Cms.drop_len,←hn.o];omega
    obtain ⟨k,a,b,t,i,body,els,r,eL⟩:=Cms.cons_of_len hpos;obtain ⟨bl,o,rfl,-,hblt,hAt⟩:=(hV.o.mk1 hM hgS hgl) (by rw[←hn.o];omega);have hD:=hAt.drop j;have hSm:=Cms.small_drop j hsm.o;have hZ:=Cms.sz_drop j L;have hDs:=Cms.drop_succ j L eL;have hshj:=Cms.shape_drop j hsh.o;have HR':=HR.o;rw[eL] at hD hSm hZ HR' hshj;obtain ⟨⟨p0,p1,p2,p3,p4,p5⟩,⟨A6,c6,p6,g6⟩,⟨A7,c7,p7,g7⟩,⟨A8,c8,p8,g8⟩,⟨A9,c9,p9,g9⟩,-⟩:=hD;obtain ⟨s1,s2,s3,s4,s5,s6,-⟩:=hSm;simp only[Cms.sz] at hZ;have hbs:body.sz<N:=by have:=hsz.o;omega
    have hes:els.sz<N:=by have:=hsz.o;omega
    have gB:aJ (CmsV wr lo hi A8 body):=g8;have gE:aJ (CmsV wr lo hi A9 els):=g9;rw[Cms.fold,←hDs] at HR';rw[Cms.shape] at hshj;simp only[Bool.and_eq_true] at hshj;obtain ⟨-,hfv,hsb,hse,-⟩:=hshj;have hta:=zjA.1 (fval_terms hfv).1;obtain ⟨S2,hS2⟩:∃ x,x=chF S1 k a b t i:=⟨_,rfl⟩;have l2:S2<512:=by rw[hS2];exact chF_lt hS1 k a b t i
    obtain ⟨S3,hS3⟩:∃ x,x=body.fold chF S2:=⟨_,rfl⟩;have l3:S3<512:=by rw[hS3];exact Cms.fold_lt (fun S k a b t i h=>chF_lt h k a b t i) body l2
    obtain ⟨S4,hS4⟩:∃ x,x=els.fold chF S3:=⟨_,rfl⟩;have l4:S4<512:=by rw[hS4];exact Cms.fold_lt (fun S k a b t i h=>chF_lt h k a b t i) els l3
    rw[←hS2,←hS3,←hS4] at HR';obtain ⟨m,e1⟩:=Int.eq_ofNat_of_zero_le hta.1;have m8:(m:Int)<9:=by omega
    have hin:(k=1∨k=2∨k=4)→S2=tins S1 (m:Int):=fun h=>by rw[hS2,←e1];exact if_pos h
    have hout:¬(k=1∨k=2∨k=4)→S2=S1:=fun h=>by rw[hS2];exact if_neg h
    rw[e1] at p1;replace HR':=ax HR';replace hS3:=ax hS3;replace hS4:=ax hS4;replace hbs:=ax hbs;replace hes:=ax hes;replace s5:=ax s5;replace s6:=ax s6;replace hsb:=ax hsb;replace hse:=ax hse;have hgl1:=kS.lt;have hbl:=block_lt_of_cell p8;have hbg:bl≠g:=by omega
    have q1:wr.cell? ⟨g,m,none⟩=some (.bool (S1.testBit m)):=(kS.cell m).trans (flags_cell S1 _ rfl (by omega));have r1:=kS.frozen;clear hZ hpos hAt g6 g7 g8 g9 HR hDs eL hta e1 hfv hS2;have key:∀ V:World,Blk V g tB (encB (zj S2)).toArray→Mk (fun x=>x=g) wr V→V.cell? ⟨bl,o+j * 10+8,none⟩=some (.slice A8 body.len c8)→V.cell? ⟨bl,o+j * 10+9,none⟩=some (.slice A9 els.len c9)→True:=fun _ _ _ _ _=>trivial;clear key;by_cases hk:k=1∨k=2∨k=4
    case' pos=>
     have e2:=hin hk
     have k2:Blk (wr.setCell ⟨g,m,none⟩ (.bool true)) g tB (encB (zj S2)).toArray:=by
      rw[e2,←tins_flags S1 m (by omega)];exact kS.set_ m _
     have M2:Mk (fun x=>x=g) wr (wr.setCell ⟨g,m,none⟩ (.bool true)):=(Mk.refl (fun x=>x=g) _).set (x:=⟨g,m,none⟩) rfl _;have P8:(wr.setCell ⟨g,m,none⟩ (.bool true)).cell? ⟨bl,o+j * 10+8,none⟩=some (.slice A8 body.len c8):=(World.cell?_of_block (a:=⟨bl,o+j * 10+8,none⟩) (M2.block bl hbl hbg)).trans p8;have P9:(wr.setCell ⟨g,m,none⟩ (.bool true)).cell? ⟨bl,o+j * 10+9,none⟩=some (.slice A9 els.len c9):=(World.cell?_of_block (a:=⟨bl,o+j * 10+9,none⟩) (M2.block bl hbl hbg)).trans p9;replace k2:=ax k2;replace M2:=ax M2;replace P8:=ax P8;replace P9:=ax P9;clear hin hout e2;rcases hk with rfl|rfl|rfl
    case' neg=>
     have e2:=hout hk;rw[←e2] at kS;have k2:=ax kS;have M2:=ax (Mk.refl (fun x=>x=g) wr);have P8:=ax p8;have P9:=ax p9;have k1:(k == 1)=false:=beq_false_of_ne fun e=>hk (.inl e);have k2':(k == 2)=false:=beq_false_of_ne fun e=>hk (.inr (.inl e));have k4:(k == 4)=false:=beq_false_of_ne fun e=>hk (.inr (.inr e));clear hin hout e2 hk
    all_goals
     (go_wp2_with fail);replace k2:=k2.o;replace M2:=M2.o;replace P8:=P8.o;replace P9:=P9.o;clear kS q1 r1 p0 p1 p2 p3 p4 p5 p6 p7 p8 p9
    all_goals
     (try clear k1 k2' k4);refine wp_region_noPanic ?_;refine wp_region_held_drew (S:=(fun w'=>w'.cell? ⟨bl,o+j * 10+8,none⟩=some (.slice A8 body.len c8)∧w'.cell? ⟨bl,o+j * 10+9,none⟩=some (.slice A9 els.len c9))) (by kernel_rfl) (⟨P8,P9⟩) (fun aH=>?_);refine tk2 0 rfl aH (h:=tk2 1 rfl aH (h:=tk2 2 rfl aH (h:=?_)));(try simp only[zz]);refine tk2 3 rfl aH (h:=tk2 4 rfl aH (h:=tk2 5 rfl aH (h:=?_)));(try simp only[zz]);refine tk2 7 rfl aH (h:=tk2 8 rfl aH (h:=tk2 9 rfl aH (h:=?_)));(try simp only[zz]);refine tk2 10 rfl aH (h:=tk2 11 rfl aH (h:=?_));refine rdc 6 rfl fun K hK=>?_;(try simp only[zz]);(go_simp;refine (IH.o body hbs.o A8 c8 lo hi g S2 (d - 1) _ ((gB.o.mk1 M2 hgS hgl1).bz bel) s3 s5.o hsb.o hgS l2 (k2.drew)).mono ?_;rintro e w8 ⟨rfl,k3,M3⟩;rw[←hS3.o] at k3;have M4:=(M2.trans (Mk.below_ (Below.refl _ _).drew)).trans M3;have Q8:=(World.cell?_of_block (a:=⟨bl,o+j * 10+8,none⟩) (M3.block bl (block_lt_of_cell P8) hbg)).trans P8;have Q9:=(World.cell?_of_block (a:=⟨bl,o+j * 10+9,none⟩) (M3.block bl (block_lt_of_cell P8) hbg)).trans P9;clear M3);refine hK.out _ _ (⟨Q8,Q9⟩) ?_;clear aH hK K;intro aH;refine rdc 12 rfl fun K hK=>?_;(try simp only[zz]);(go_simp;refine (IH.o els hes.o A9 c9 lo hi g S3 (d - 1) _ (gE.o.mk1 M4 hgS hgl1) s4 s6.o hse.o hgS l3 k3).mono ?_;rintro e w9 ⟨rfl,k4,M5⟩;rw[←hS4.o] at k4;have M6:=M4.trans M5;have R8:=(World.cell?_of_block (a:=⟨bl,o+j * 10+8,none⟩) (M5.block bl (block_lt_of_cell Q8) hbg)).trans Q8;have R9:=(World.cell?_of_block (a:=⟨bl,o+j * 10+9,none⟩) (M5.block bl (block_lt_of_cell Q8) hbg)).trans Q9;clear M5);refine hK.out _ _ (⟨R8,R9⟩) ?_;clear aH hK K;intro aH;(try simp only[zz]);refine tk2 13 rfl aH (h:=?_);(try simp only[zz]);refine dn1 ?_;clear P8 P9 Q8 Q9 R8 R9;(go_wp2_with fail)
     go_round
     case rel=>exact ⟨j+1,S4,by omega,by go_num,rfl,l4,HR',k4,hM.trans M6⟩
     case measure=>simp[intOf];omega
   ·(go_wp2_with fail);go_ret;obtain rfl:j=n:=by omega
    have e1:L.drop j=.nil:=by rw[hn.o];exact Cms.drop_all L
    have h2:=HR.o;rw[e1] at h2;exact ⟨rfl,by rw[h2];exact kS,hM⟩
theorem stepI2 {ops:Array Oper} {o:Oper} {a:Act} {K:Act→World→Prop} {Q:Exit→Act→World→Prop} {E:Prop} {w:World} {base lo hi c:Nat} {v:Value} {A:Option Addr} (hgd:o.guard=none) (s x:Operand) (ho:o.op=.call { callee:=.builtin .append,args:=#[s,x],argTypes:=#[31,31] })
  {xs ys:List Int} (hs:a.eval s=v) (hown:IntsO w base v xs) (hx:a.eval x=.slice A ys.length c) (hR:IntsV w lo hi A ys) (hn:xs.length+ys.length≤1049600) (hb:base≤w.heap.size)
  (h:∀ A' c' w',IntsO w' base (.slice A' (xs++ys).length c') (xs++ys)→w.grownBy w' v.ownBlock→Below base w w'→K (a.put o.dst (.slice A' (xs++ys).length c')) w'):if Region.wanted o (yielded ops a.tmps)=true then Oper.wp Tryz.prog o a w K Q else E:=by
 have hw:Region.wanted o (yielded ops a.tmps)=true:=by simp[Region.wanted,hgd]
 rw[if_pos hw];refine wp_appL s x 31 ho Tryz.underlying31 infoI rfl (by decide) (by decide) hs hown.1 hx hR.raw (encI_one _) hn hb ?_;intro v' w' h1 h2 h3;have hO:IntsO w' base v' (xs++ys):=⟨by rw[List.length_append,show encI (xs++ys)=encI xs++encI ys from List.map_append];exact h1,by simp[Lim];omega⟩;obtain ⟨A',c',rfl,-⟩:=hO.rj;exact h A' c' w' hO h2 h3
theorem IntsO.four (w:World) (a b c d:Int) {base:Nat} (hb:base≤w.heap.size):IntsO (w.alloc (.cells #[.int .i64 a,.int .i64 b,.int .i64 c,.int .i64 d] tI)) base (.slice (some ⟨w.heap.size,0,none⟩) 4 4) [a,b,c,d]:=
 ⟨own_of_blk (n:=4) (cap:=4) (Blk.new w tI _) hb (by simp) (by intro j hj;simp) (Nat.le_refl _) (by decide) (by simp),by simp[Lim]⟩
theorem foldl_at {S:Nat} (xs:List Int) (q:Nat) (hq:q<xs.length):(xs.drop q).foldl tsup S=(xs.drop (q+1)).foldl tsup (tsup S xs[q]):=by
 rw[List.drop_eq_getElem_cons hq];rfl
theorem l8Logical_go:∀ (N:Nat) (L:Cms),L.sz<N→∀ (A:Option Addr) (c lo hi g S d:Nat) (w:World),CmsV w lo hi A L→L.len≤1049600→L.small 1049600→L.shape d=true→hi≤g→S<512→Blk w g tB (encB (zj S)).toArray→
  Calls Tryz.prog 122 #[.slice (some ⟨g,0,none⟩) 9 9,.slice A L.len c] w fun e w'=>e=.returned (.slice (some ⟨g,0,none⟩) 9 9)∧Blk w' g tB (encB (zj (L.fold lsF S))).toArray∧Mk (fun x=>x=g) w w':=by
 intro N
 induction N with
 | zero=>intro L h;omega
 | succ N IH=>
  intro L hsz A c lo hi g S d w hV hlen hsm hsh hgS hS hK;replace IH:=ax IH;replace hsm:=ax hsm;replace hsz:=ax hsz;replace hsh:=ax hsh;obtain ⟨n,hn⟩:∃ n,n=L.len:=⟨_,rfl⟩;rw[←hn];rw[←hn] at hlen;replace hn:=ax hn;have hgl:=hK.lt;replace hV:=ax hV;(go_enter Tryz.func122,Tryz.ntmps122);(go_wp2_with fail)
  go_loopw [0,5] (fun y x wr=>∃ (j S1:Nat),j≤n∧x=.int .i64 j∧y=.slice (some ⟨g,0,none⟩) 9 9∧S1<512∧aJ (L.fold lsF S=(L.drop j).fold lsF S1)∧Blk wr g tB (encB (zj S1)).toArray∧Mk (fun x=>x=g) w wr) (fun _ x _=>n - (intOf x).toNat)
  case atStart=>exact ⟨0,S,Nat.zero_le _,rfl,rfl,hS,ax rfl,hK,Mk.refl _ _⟩
  case round=>
   clear hK;obtain ⟨j,S1,hj,rfl,rfl,hS1,HR,kS,hM⟩:=hrel;obtain ⟨wo,rfl⟩:∃ x,x=wr:=⟨_,rfl⟩;by_cases hlt:j<n
   ·have hpos:0<(L.drop j).len:=by rw[Cms.drop_len,←hn.o];omega
    obtain ⟨k,a,b,t,i,body,els,r,eL⟩:=Cms.cons_of_len hpos;obtain ⟨bl,o,rfl,-,hblt,hAt⟩:=(hV.o.mk1 hM hgS hgl) (by rw[←hn.o];omega);have hD:=hAt.drop j;have hSm:=Cms.small_drop j hsm.o;have hZ:=Cms.sz_drop j L;have hDs:=Cms.drop_succ j L eL;have hshj:=Cms.shape_drop j hsh.o;have HR':=HR.o;rw[eL] at hD hSm hZ HR' hshj;obtain ⟨⟨p0,p1,p2,p3,p4,p5⟩,⟨A6,c6,p6,g6⟩,⟨A7,c7,p7,g7⟩,⟨A8,c8,p8,g8⟩,⟨A9,c9,p9,g9⟩,-⟩:=hD;obtain ⟨s1,s2,s3,s4,s5,s6,-⟩:=hSm;simp only[Cms.sz] at hZ;have hbs:body.sz<N:=by have:=hsz.o;omega
    have hes:els.sz<N:=by have:=hsz.o;omega
    have gA:aJ (AsnV wo lo hi (.agg #[.slice A6 i.facts.length c6,.slice A7 i.atoms.length c7]) i):=⟨_,_,_,_,rfl,⟨g6,s1⟩,⟨g7,s2⟩⟩;have gB:aJ (CmsV wo lo hi A8 body):=g8;have gE:aJ (CmsV wo lo hi A9 els):=g9;rw[Cms.fold,←hDs] at HR';rw[Cms.shape] at hshj;simp only[Bool.and_eq_true] at hshj;obtain ⟨-,hfv,hsb,hse,-⟩:=hshj;obtain ⟨x1,x2,x3,x4,x5⟩:=fval_terms hfv
    have hall:∀ x∈lsL a b t i,0≤x∧x≤8:=by
     intro x hx;simp only[lsL,List.mem_append,List.mem_cons,List.not_mem_nil,or_false] at hx;rcases hx with (rfl|rfl|rfl|rfl)|hx
     ·exact zjA.1 x1
     ·exact zjA.1 x2
     ·exact zjA.1 x3
     ·exact zjA.1 x4
     ·unfold tlistL at hx;obtain ⟨m,hm,rfl⟩:=List.mem_map.1 hx;have:=(List.mem_filter.1 hm).1;simp at this;omega
    obtain ⟨S2,hS2⟩:∃ x,x=lsF S1 k a b t i:=⟨_,rfl⟩;have l2:S2<512:=by rw[hS2];exact lsF_lt hS1 k a b t i
    obtain ⟨S3,hS3⟩:∃ x,x=body.fold lsF S2:=⟨_,rfl⟩;have l3:S3<512:=by rw[hS3];exact Cms.fold_lt (fun S k a b t i h=>lsF_lt h k a b t i) body l2
    obtain ⟨S4,hS4⟩:∃ x,x=els.fold lsF S3:=⟨_,rfl⟩;have l4:S4<512:=by rw[hS4];exact Cms.fold_lt (fun S k a b t i h=>lsF_lt h k a b t i) els l3
    rw[←hS2,←hS3,←hS4] at HR';obtain ⟨Y,hY⟩:∃ Y,Y=tlistL (tset (mz i)) 9:=⟨_,rfl⟩;obtain ⟨Q,hQ⟩:∃ Q,Q=lsL a b t i:=⟨_,rfl⟩;have hYl:Y.length≤9:=by rw[hY];exact tlistL_length _ _
    have hQ2:[a,b,t.a,t.b]++Y=Q:=by rw[hQ,hY];rfl
    have hQl:Q.length≤13:=by rw[←hQ2];simp;omega
    have hS2':S2=Q.foldl tsup S1:=by rw[hS2,hQ];rfl
    rw[←hQ] at hall;replace hall:=ax hall;replace HR':=ax HR';replace hS2:=ax hS2';replace hS3:=ax hS3;replace hS4:=ax hS4;replace hY:=ax hY;replace hQ2:=ax hQ2;replace x5:=ax x5;replace hbs:=ax hbs;replace hes:=ax hes;replace s5:=ax s5;replace s6:=ax s6;replace hsb:=ax hsb;replace hse:=ax hse;have hgl1:=kS.lt;have hrg:wo.heap.size≠g:=by omega
    clear hZ hpos hAt g6 g7 g8 g9 HR hDs eL hfv x1 x2 x3 x4 hQ hS2';(go_wp2_with fail);have k00:Blk (wo.alloc (.cells #[.int .i64 k,.int .i64 a,.int .i64 b,.bool t.eq,.int .i64 t.a,.int .i64 t.b,.slice A6 i.facts.length c6,.slice A7 i.atoms.length c7,.slice A8 body.len c8,.slice A9 els.len c9] tC)) wo.heap.size tC #[.int .i64 k,.int .i64 a,.int .i64 b,.bool t.eq,.int .i64 t.a,.int .i64 t.b,.slice A6 i.facts.length c6,.slice A7 i.atoms.length c7,.slice A8 body.len c8,.slice A9 els.len c9]:=Blk.new _ _ _;refine wp_region_noPanic ?_;refine wp_region_held_drew (S:=(fun w'=>∀ j,w'.cell? ⟨wo.heap.size,j,none⟩=#[.int .i64 k,.int .i64 a,.int .i64 b,.bool t.eq,.int .i64 t.a,.int .i64 t.b,.slice A6 i.facts.length c6,.slice A7 i.atoms.length c7,.slice A8 body.len c8,.slice A9 els.len c9][j]?)) (by kernel_rfl) (k00.cell) (fun aH=>?_);refine tk2 0 rfl aH (h:=tk2 1 rfl aH (h:=tk2 2 rfl aH (h:=?_)));(try simp only[zz]);refine tk2 3 rfl aH (h:=tk2 4 rfl aH (h:=tk2 5 rfl aH (h:=?_)));(try simp only[zz]);refine tk2 6 rfl aH (h:=tk2 7 rfl aH (h:=tk2 8 rfl aH (h:=?_)));(try simp only[zz]);refine tk2 9 rfl aH (h:=tk2 11 rfl aH (h:=tk2 12 rfl aH (h:=?_)));(try simp only[zz]);obtain ⟨X,hX⟩:∃ X,X=(wo.alloc (.cells #[.int .i64 k,.int .i64 a,.int .i64 b,.bool t.eq,.int .i64 t.a,.int .i64 t.b,.slice A6 i.facts.length c6,.slice A7 i.atoms.length c7,.slice A8 body.len c8,.slice A9 els.len c9] tC)).drew:=⟨_,rfl⟩;have hBX:Below wo.heap.size wo X:=by rw[hX];exact bel
    have kX:Blk X wo.heap.size tC #[.int .i64 k,.int .i64 a,.int .i64 b,.bool t.eq,.int .i64 t.a,.int .i64 t.b,.slice A6 i.facts.length c6,.slice A7 i.atoms.length c7,.slice A8 body.len c8,.slice A9 els.len c9]:=by rw[hX];exact k00.drew
    have kSX:Blk X g tB (encB (zj S1)).toArray:=by rw[hX];exact (kS.alloc _).drew
    have hzX:wo.heap.size≤X.heap.size:=hBX.size;rw[←hX] at aH ⊢;clear hX kS k00 p0 p1 p2 p3 p4 p5 p6 p7 p8 p9;refine rdd 10 13 rfl rfl (fun K hK=>?_) fun K hK=>?_
    ·go_simp;have kX2:=kX.alloc (.cells #[.int .i64 a,.int .i64 b,.int .i64 t.a,.int .i64 t.b] tI);have kS2:=kSX.alloc (.cells #[.int .i64 a,.int .i64 b,.int .i64 t.a,.int .i64 t.b] tI);have B2:Below wo.heap.size wo (X.alloc (.cells #[.int .i64 a,.int .i64 b,.int .i64 t.a,.int .i64 t.b] tI)):=bbox hBX _;have o0:IntsO (X.alloc (.cells #[.int .i64 a,.int .i64 b,.int .i64 t.a,.int .i64 t.b] tI)) wo.heap.size (.slice (some ⟨X.heap.size,0,none⟩) 4 4) [a,b,t.a,t.b]:=IntsO.four _ _ _ _ _ hzX;refine hK.out _ _ (kX2.cell) ?_;clear aH hK K;intro aH;(try simp only[zz]);clear kX kSX hBX;refine rdc 13 rfl fun K hK=>?_;(try simp only[zz]);(go_simp;refine (c_spec_l3Terms _ i _ (gA.o.bz B2) x5.o).mono ?_;rintro e w3 ⟨r3,rfl,o3,hB3⟩;obtain ⟨T3,ct3,rfl,f3⟩:=o3.rj;rw[zjB];have B3:=bgo B2 hB3;have kX3:=kX2.nz hB3;have kS3:=kS2.nz hB3;have o0:=o0.bz hB3);refine hK.out _ _ (kX3.cell) ?_;clear aH hK K;intro aH;refine rdc 14 rfl fun K hK=>?_;(try simp only[zz]);(go_simp;have hl3:=c_spec_l3List T3 ct3 _ _ f3 (by rw[zjB];omega);rw[tlistL_idx,zjB,←hY.o] at hl3;refine hl3.mono ?_;rintro e w4 ⟨r4,rfl,o4,hB4⟩;obtain ⟨T4,ct4,rfl,f4⟩:=o4.rj;have B4:=bgo B3 hB4;have kX4:=kX3.nz hB4;have kS4:=kS3.nz hB4;have o0:=o0.bz hB4);refine hK.out _ _ (kX4.cell) ?_;clear aH hK K;intro aH;(try simp only[zz]);refine rdc 15 rfl fun K hK=>?_;skip;(refine stepI2 (xs:=[a,b,t.a,t.b]) (ys:=Y) rfl _ _ rfl rfl o0 rfl f4 (by simp;omega) B4.size ?_;intro AX cX w5 hO hg hB5;rw[hQ2.o] at hO ⊢;have kX5:=Blk.zm (hg:=hg) kX4 o0.1 (by decide);have kS5:=Blk.zm (hg:=hg) kS4 o0.1 (by decide);have B5:=Below.trans B4 hB5);refine hK.out _ _ (kX5.cell) ?_;clear aH hK K;intro aH;(try simp only[zz]);refine tk2 16 rfl aH (h:=?_);(try simp only[zz]);refine dn1 ?_;have M5:=Mk.below_ (p:=fun x=>x=g) B5;replace hO:=ax hO;clear o0 hg hB5 f3 f4 o3 o4 hB3 hB4 B3 B4 kX3 kX4 kS3 kS4 aH;have q5:=kX5.cell;have l5:=kX5.lt;(go_wp2_with fail)
     go_loopw [8] (fun x wx=>∃ (q T:Nat),q≤Q.length∧x=.int .i64 q∧T<512∧aJ (S2=(Q.drop q).foldl tsup T)∧Blk wx g tB (encB (zj T)).toArray∧aJ (Mk (fun x=>x=g) w5 wx)) (fun x _=>Q.length - (intOf x).toNat)
     case atStart=>exact ⟨0,S1,Nat.zero_le _,rfl,hS1,hS2,kS5,ax (Mk.refl _ _)⟩
     case round=>
      clear kS5;obtain ⟨q,T,hq,rfl,hT,HT,kT,HM⟩:=hrel;have kX6:=HM.o.blk kX5 hrg;clear q5 l5;by_cases hlq:q<Q.length
      ·have hx:=hall.o Q[q] (List.getElem_mem hlq);obtain ⟨m,e1⟩:=Int.eq_ofNat_of_zero_le hx.1;have oQ:IntsO wr wo.heap.size (.slice AX Q.length cX) Q:=hO.o.mk HM.o (fun g' hg' e=>by have:=(hO.o.1.lt g' hg').1;omega);obtain ⟨A',c',eA,fQ⟩:=oQ.rj;injection eA with ea eb ec;subst ea;obtain ⟨b',o',rfl,pq⟩:=fQ.at hlq;rw[e1] at pq;have m8:(m:Int)<9:=by omega
       have q1:wr.cell? ⟨g,m,none⟩=some (.bool (T.testBit m)):=(kT.cell m).trans (flags_cell T _ rfl (by omega));have r1:=kT.frozen;have hgT:=kT.lt;have hfs:=foldl_at (S:=T) Q q hlq;rw[e1] at hfs;replace hfs:=ax hfs;clear hx e1 fQ oQ;by_cases h4:(4:Int)<m
       ·have e4:tsup T (m:Int)=tins T (m:Int):=if_pos h4
        have k2:Blk (wr.setCell ⟨g,m,none⟩ (.bool true)) g tB (encB (zj (tins T (m:Int)))).toArray:=by
         rw[←tins_flags T m (by omega)];exact kT.set_ m _
        replace k2:=ax k2;replace e4:=ax e4;clear kT;(go_wp2_with fail)
        go_round
        case rel=>exact ⟨q+1,tins T (m:Int),by omega,by go_num,tins_lt hT _,ax (by rw[HT.o,hfs.o,e4.o]),k2.o,ax (HM.o.set (x:=⟨g,m,none⟩) rfl _)⟩
        case measure=>simp[intOf];omega
       ·have e4:tsup T (m:Int)=T:=if_neg h4;replace e4:=ax e4;(go_wp2_with fail)
        go_round
        case rel=>exact ⟨q+1,T,by omega,by go_num,hT,ax (by rw[HT.o,hfs.o,e4.o]),kT,HM⟩
        case measure=>simp[intOf];omega
      ·obtain rfl:q=Q.length:=by omega
       have hT2:S2=T:=by rw[HT.o,List.drop_length];rfl
       rw[←hT2] at kT;have M6:=M5.trans HM.o;have q6:=kX6.cell;have l6:=kX6.lt;clear HT hT2 HM kX5;(go_wp2_with fail);refine wp_region_noPanic ?_;refine wp_region_held_drew (S:=(fun w'=>∀ j,w'.cell? ⟨wo.heap.size,j,none⟩=#[.int .i64 k,.int .i64 a,.int .i64 b,.bool t.eq,.int .i64 t.a,.int .i64 t.b,.slice A6 i.facts.length c6,.slice A7 i.atoms.length c7,.slice A8 body.len c8,.slice A9 els.len c9][j]?)) (by kernel_rfl) (kX6.cell) (fun aH=>?_);refine tk2 0 rfl aH (h:=tk2 1 rfl aH (h:=tk2 2 rfl aH (h:=?_)));(try simp only[zz]);refine tk2 4 rfl aH (h:=tk2 5 rfl aH (h:=?_));refine rdc 3 rfl fun K hK=>?_;(try simp only[zz]);(go_simp;refine (IH.o body hbs.o A8 c8 lo hi g S2 (d - 1) _ ((gB.o.mk1 M6 hgS hgl1).bz bel) s3 s5.o hsb.o hgS l2 kT.drew).mono ?_;rintro e w8 ⟨rfl,k7,M7⟩;rw[←hS3.o] at k7;have M8:=(M6.trans (Mk.below_ (Below.refl _ _).drew)).trans M7;have kX8:=M7.blk (kX6.drew) hrg);refine hK.out _ _ (kX8.cell) ?_;clear aH hK K;intro aH;refine rdc 6 rfl fun K hK=>?_;(try simp only[zz]);(go_simp;refine (IH.o els hes.o A9 c9 lo hi g S3 (d - 1) _ (gE.o.mk1 M8 hgS hgl1) s4 s6.o hse.o hgS l3 k7).mono ?_;rintro e w9 ⟨rfl,k9,M9⟩;rw[←hS4.o] at k9;have MA:=M8.trans M9;have kX9:=M9.blk kX8 hrg);refine hK.out _ _ (kX9.cell) ?_;clear aH hK K;intro aH;(try simp only[zz]);refine tk2 7 rfl aH (h:=?_);(try simp only[zz]);refine dn1 ?_;clear q6 l6 kX6 kX8 kX9;(go_wp2_with fail)
       go_round
       case rel=>exact ⟨j+1,S4,by omega,by go_num,rfl,l4,HR',k9,hM.trans MA⟩
       case measure=>simp[intOf];omega
    ·(go_simp;refine (c_spec_l3Terms _ i _ (gA.o.bz hBX) x5.o).mono ?_;rintro e w3 ⟨r3,rfl,o3,hB3⟩;obtain ⟨T3,ct3,rfl,f3⟩:=o3.rj;rw[zjB];have B3:=bgo hBX hB3;have kX3:=kX.nz hB3;have kS3:=kSX.nz hB3);refine hK.out _ _ (kX3.cell) ?_;clear aH hK K;intro aH;(try simp only[zz]);clear kX kSX hBX;refine rdd 10 14 rfl rfl (fun K hK=>?_) fun K hK=>?_
     ·go_simp;have o0:IntsO (w3.alloc (.cells #[.int .i64 a,.int .i64 b,.int .i64 t.a,.int .i64 t.b] tI)) wo.heap.size (.slice (some ⟨w3.heap.size,0,none⟩) 4 4) [a,b,t.a,t.b]:=IntsO.four _ _ _ _ _ B3.size;have f3:=f3.bz (w':=w3.alloc (.cells #[.int .i64 a,.int .i64 b,.int .i64 t.a,.int .i64 t.b] tI)) bel;have kX3:=kX3.alloc (.cells #[.int .i64 a,.int .i64 b,.int .i64 t.a,.int .i64 t.b] tI);have kS3:=kS3.alloc (.cells #[.int .i64 a,.int .i64 b,.int .i64 t.a,.int .i64 t.b] tI);have B3:=bbox B3 (.cells #[.int .i64 a,.int .i64 b,.int .i64 t.a,.int .i64 t.b] tI);refine hK.out _ _ (kX3.cell) ?_;clear aH hK K;intro aH;refine rdc 14 rfl fun K hK=>?_;(try simp only[zz]);(go_simp;have hl3:=c_spec_l3List T3 ct3 _ _ f3 (by rw[zjB];omega);rw[tlistL_idx,zjB,←hY.o] at hl3;refine hl3.mono ?_;rintro e w4 ⟨r4,rfl,o4,hB4⟩;obtain ⟨T4,ct4,rfl,f4⟩:=o4.rj;have B4:=bgo B3 hB4;have kX4:=kX3.nz hB4;have kS4:=kS3.nz hB4;have o0:=o0.bz hB4);refine hK.out _ _ (kX4.cell) ?_;clear aH hK K;intro aH;(try simp only[zz]);refine rdc 15 rfl fun K hK=>?_;skip;(refine stepI2 (xs:=[a,b,t.a,t.b]) (ys:=Y) rfl _ _ rfl rfl o0 rfl f4 (by simp;omega) B4.size ?_;intro AX cX w5 hO hg hB5;rw[hQ2.o] at hO ⊢;have kX5:=Blk.zm (hg:=hg) kX4 o0.1 (by decide);have kS5:=Blk.zm (hg:=hg) kS4 o0.1 (by decide);have B5:=Below.trans B4 hB5);refine hK.out _ _ (kX5.cell) ?_;clear aH hK K;intro aH;(try simp only[zz]);refine tk2 16 rfl aH (h:=?_);(try simp only[zz]);refine dn1 ?_;have M5:=Mk.below_ (p:=fun x=>x=g) B5;replace hO:=ax hO;clear o0 hg hB5 f3 f4 o3 o4 hB3 hB4 B3 B4 kX3 kX4 kS3 kS4 aH;have q5:=kX5.cell;have l5:=kX5.lt;(go_wp2_with fail)
      go_loopw [8] (fun x wx=>∃ (q T:Nat),q≤Q.length∧x=.int .i64 q∧T<512∧aJ (S2=(Q.drop q).foldl tsup T)∧Blk wx g tB (encB (zj T)).toArray∧aJ (Mk (fun x=>x=g) w5 wx)) (fun x _=>Q.length - (intOf x).toNat)
      case atStart=>exact ⟨0,S1,Nat.zero_le _,rfl,hS1,hS2,kS5,ax (Mk.refl _ _)⟩
      case round=>
       clear kS5;obtain ⟨q,T,hq,rfl,hT,HT,kT,HM⟩:=hrel;have kX6:=HM.o.blk kX5 hrg;clear q5 l5;by_cases hlq:q<Q.length
       ·have hx:=hall.o Q[q] (List.getElem_mem hlq);obtain ⟨m,e1⟩:=Int.eq_ofNat_of_zero_le hx.1;have oQ:IntsO wr wo.heap.size (.slice AX Q.length cX) Q:=hO.o.mk HM.o (fun g' hg' e=>by have:=(hO.o.1.lt g' hg').1;omega);obtain ⟨A',c',eA,fQ⟩:=oQ.rj;injection eA with ea eb ec;subst ea;obtain ⟨b',o',rfl,pq⟩:=fQ.at hlq;rw[e1] at pq;have m8:(m:Int)<9:=by omega
        have q1:wr.cell? ⟨g,m,none⟩=some (.bool (T.testBit m)):=(kT.cell m).trans (flags_cell T _ rfl (by omega));have r1:=kT.frozen;have hgT:=kT.lt;have hfs:=foldl_at (S:=T) Q q hlq;rw[e1] at hfs;replace hfs:=ax hfs;clear hx e1 fQ oQ;by_cases h4:(4:Int)<m
        ·have e4:tsup T (m:Int)=tins T (m:Int):=if_pos h4
         have k2:Blk (wr.setCell ⟨g,m,none⟩ (.bool true)) g tB (encB (zj (tins T (m:Int)))).toArray:=by
          rw[←tins_flags T m (by omega)];exact kT.set_ m _
         replace k2:=ax k2;replace e4:=ax e4;clear kT;(go_wp2_with fail)
         go_round
         case rel=>exact ⟨q+1,tins T (m:Int),by omega,by go_num,tins_lt hT _,ax (by rw[HT.o,hfs.o,e4.o]),k2.o,ax (HM.o.set (x:=⟨g,m,none⟩) rfl _)⟩
         case measure=>simp[intOf];omega
        ·have e4:tsup T (m:Int)=T:=if_neg h4;replace e4:=ax e4;(go_wp2_with fail)
         go_round
         case rel=>exact ⟨q+1,T,by omega,by go_num,hT,ax (by rw[HT.o,hfs.o,e4.o]),kT,HM⟩
         case measure=>simp[intOf];omega
       ·obtain rfl:q=Q.length:=by omega
        have hT2:S2=T:=by rw[HT.o,List.drop_length];rfl
        rw[←hT2] at kT;have M6:=M5.trans HM.o;have q6:=kX6.cell;have l6:=kX6.lt;clear HT hT2 HM kX5;(go_wp2_with fail);refine wp_region_noPanic ?_;refine wp_region_held_drew (S:=(fun w'=>∀ j,w'.cell? ⟨wo.heap.size,j,none⟩=#[.int .i64 k,.int .i64 a,.int .i64 b,.bool t.eq,.int .i64 t.a,.int .i64 t.b,.slice A6 i.facts.length c6,.slice A7 i.atoms.length c7,.slice A8 body.len c8,.slice A9 els.len c9][j]?)) (by kernel_rfl) (kX6.cell) (fun aH=>?_);refine tk2 0 rfl aH (h:=tk2 1 rfl aH (h:=tk2 2 rfl aH (h:=?_)));(try simp only[zz]);refine tk2 4 rfl aH (h:=tk2 5 rfl aH (h:=?_));refine rdc 3 rfl fun K hK=>?_;(try simp only[zz]);(go_simp;refine (IH.o body hbs.o A8 c8 lo hi g S2 (d - 1) _ ((gB.o.mk1 M6 hgS hgl1).bz bel) s3 s5.o hsb.o hgS l2 kT.drew).mono ?_;rintro e w8 ⟨rfl,k7,M7⟩;rw[←hS3.o] at k7;have M8:=(M6.trans (Mk.below_ (Below.refl _ _).drew)).trans M7;have kX8:=M7.blk (kX6.drew) hrg);refine hK.out _ _ (kX8.cell) ?_;clear aH hK K;intro aH;refine rdc 6 rfl fun K hK=>?_;(try simp only[zz]);(go_simp;refine (IH.o els hes.o A9 c9 lo hi g S3 (d - 1) _ (gE.o.mk1 M8 hgS hgl1) s4 s6.o hse.o hgS l3 k7).mono ?_;rintro e w9 ⟨rfl,k9,M9⟩;rw[←hS4.o] at k9;have MA:=M8.trans M9;have kX9:=M9.blk kX8 hrg);refine hK.out _ _ (kX9.cell) ?_;clear aH hK K;intro aH;(try simp only[zz]);refine tk2 7 rfl aH (h:=?_);(try simp only[zz]);refine dn1 ?_;clear q6 l6 kX6 kX8 kX9;(go_wp2_with fail)
        go_round
        case rel=>exact ⟨j+1,S4,by omega,by go_num,rfl,l4,HR',k9,hM.trans MA⟩
        case measure=>simp[intOf];omega
     ·(go_simp;have hl3:=c_spec_l3List T3 ct3 _ _ f3 (by rw[zjB];omega);rw[tlistL_idx,zjB,←hY.o] at hl3;refine hl3.mono ?_;rintro e w4 ⟨r4,rfl,o4,hB4⟩;obtain ⟨T4,ct4,rfl,f4⟩:=o4.rj;have B4:=bgo B3 hB4;have kX4:=kX3.nz hB4;have kS4:=kS3.nz hB4);refine hK.out _ _ (kX4.cell) ?_;clear aH hK K;intro aH;(try simp only[zz]);have o0:IntsO (w4.alloc (.cells #[.int .i64 a,.int .i64 b,.int .i64 t.a,.int .i64 t.b] tI)) wo.heap.size (.slice (some ⟨w4.heap.size,0,none⟩) 4 4) [a,b,t.a,t.b]:=IntsO.four _ _ _ _ _ B4.size;have f4:=f4.bz (w':=w4.alloc (.cells #[.int .i64 a,.int .i64 b,.int .i64 t.a,.int .i64 t.b] tI)) bel;have kX4:=kX4.alloc (.cells #[.int .i64 a,.int .i64 b,.int .i64 t.a,.int .i64 t.b] tI);have kS4:=kS4.alloc (.cells #[.int .i64 a,.int .i64 b,.int .i64 t.a,.int .i64 t.b] tI);have B4:=bbox B4 (.cells #[.int .i64 a,.int .i64 b,.int .i64 t.a,.int .i64 t.b] tI);refine rdc 10 rfl fun K hK=>?_;(try simp only[zz]);(go_simp);refine hK.out _ _ (kX4.cell) ?_;clear aH hK K;intro aH;(try simp only[zz]);refine rdc 15 rfl fun K hK=>?_;skip;(refine stepI2 (xs:=[a,b,t.a,t.b]) (ys:=Y) rfl _ _ rfl rfl o0 rfl f4 (by simp;omega) B4.size ?_;intro AX cX w5 hO hg hB5;rw[hQ2.o] at hO ⊢;have kX5:=Blk.zm (hg:=hg) kX4 o0.1 (by decide);have kS5:=Blk.zm (hg:=hg) kS4 o0.1 (by decide);have B5:=Below.trans B4 hB5);refine hK.out _ _ (kX5.cell) ?_;clear aH hK K;intro aH;(try simp only[zz]);refine tk2 16 rfl aH (h:=?_);(try simp only[zz]);refine dn1 ?_;have M5:=Mk.below_ (p:=fun x=>x=g) B5;replace hO:=ax hO;clear o0 hg hB5 f3 f4 o3 o4 hB3 hB4 B3 B4 kX3 kX4 kS3 kS4 aH;have q5:=kX5.cell;have l5:=kX5.lt;(go_wp2_with fail)
      go_loopw [8] (fun x wx=>∃ (q T:Nat),q≤Q.length∧x=.int .i64 q∧T<512∧aJ (S2=(Q.drop q).foldl tsup T)∧Blk wx g tB (encB (zj T)).toArray∧aJ (Mk (fun x=>x=g) w5 wx)) (fun x _=>Q.length - (intOf x).toNat)
      case atStart=>exact ⟨0,S1,Nat.zero_le _,rfl,hS1,hS2,kS5,ax (Mk.refl _ _)⟩
      case round=>
       clear kS5;obtain ⟨q,T,hq,rfl,hT,HT,kT,HM⟩:=hrel;have kX6:=HM.o.blk kX5 hrg;clear q5 l5;by_cases hlq:q<Q.length
       ·have hx:=hall.o Q[q] (List.getElem_mem hlq);obtain ⟨m,e1⟩:=Int.eq_ofNat_of_zero_le hx.1;have oQ:IntsO wr wo.heap.size (.slice AX Q.length cX) Q:=hO.o.mk HM.o (fun g' hg' e=>by have:=(hO.o.1.lt g' hg').1;omega);obtain ⟨A',c',eA,fQ⟩:=oQ.rj;injection eA with ea eb ec;subst ea;obtain ⟨b',o',rfl,pq⟩:=fQ.at hlq;rw[e1] at pq;have m8:(m:Int)<9:=by omega
        have q1:wr.cell? ⟨g,m,none⟩=some (.bool (T.testBit m)):=(kT.cell m).trans (flags_cell T _ rfl (by omega));have r1:=kT.frozen;have hgT:=kT.lt;have hfs:=foldl_at (S:=T) Q q hlq;rw[e1] at hfs;replace hfs:=ax hfs;clear hx e1 fQ oQ;by_cases h4:(4:Int)<m
        ·have e4:tsup T (m:Int)=tins T (m:Int):=if_pos h4
         have k2:Blk (wr.setCell ⟨g,m,none⟩ (.bool true)) g tB (encB (zj (tins T (m:Int)))).toArray:=by
          rw[←tins_flags T m (by omega)];exact kT.set_ m _
         replace k2:=ax k2;replace e4:=ax e4;clear kT;(go_wp2_with fail)
         go_round
         case rel=>exact ⟨q+1,tins T (m:Int),by omega,by go_num,tins_lt hT _,ax (by rw[HT.o,hfs.o,e4.o]),k2.o,ax (HM.o.set (x:=⟨g,m,none⟩) rfl _)⟩
         case measure=>simp[intOf];omega
        ·have e4:tsup T (m:Int)=T:=if_neg h4;replace e4:=ax e4;(go_wp2_with fail)
         go_round
         case rel=>exact ⟨q+1,T,by omega,by go_num,hT,ax (by rw[HT.o,hfs.o,e4.o]),kT,HM⟩
         case measure=>simp[intOf];omega
       ·obtain rfl:q=Q.length:=by omega
        have hT2:S2=T:=by rw[HT.o,List.drop_length];rfl
        rw[←hT2] at kT;have M6:=M5.trans HM.o;have q6:=kX6.cell;have l6:=kX6.lt;clear HT hT2 HM kX5;(go_wp2_with fail);refine wp_region_noPanic ?_;refine wp_region_held_drew (S:=(fun w'=>∀ j,w'.cell? ⟨wo.heap.size,j,none⟩=#[.int .i64 k,.int .i64 a,.int .i64 b,.bool t.eq,.int .i64 t.a,.int .i64 t.b,.slice A6 i.facts.length c6,.slice A7 i.atoms.length c7,.slice A8 body.len c8,.slice A9 els.len c9][j]?)) (by kernel_rfl) (kX6.cell) (fun aH=>?_);refine tk2 0 rfl aH (h:=tk2 1 rfl aH (h:=tk2 2 rfl aH (h:=?_)));(try simp only[zz]);refine tk2 4 rfl aH (h:=tk2 5 rfl aH (h:=?_));refine rdc 3 rfl fun K hK=>?_;(try simp only[zz]);(go_simp;refine (IH.o body hbs.o A8 c8 lo hi g S2 (d - 1) _ ((gB.o.mk1 M6 hgS hgl1).bz bel) s3 s5.o hsb.o hgS l2 kT.drew).mono ?_;rintro e w8 ⟨rfl,k7,M7⟩;rw[←hS3.o] at k7;have M8:=(M6.trans (Mk.below_ (Below.refl _ _).drew)).trans M7;have kX8:=M7.blk (kX6.drew) hrg);refine hK.out _ _ (kX8.cell) ?_;clear aH hK K;intro aH;refine rdc 6 rfl fun K hK=>?_;(try simp only[zz]);(go_simp;refine (IH.o els hes.o A9 c9 lo hi g S3 (d - 1) _ (gE.o.mk1 M8 hgS hgl1) s4 s6.o hse.o hgS l3 k7).mono ?_;rintro e w9 ⟨rfl,k9,M9⟩;rw[←hS4.o] at k9;have MA:=M8.trans M9;have kX9:=M9.blk kX8 hrg);refine hK.out _ _ (kX9.cell) ?_;clear aH hK K;intro aH;(try simp only[zz]);refine tk2 7 rfl aH (h:=?_);(try simp only[zz]);refine dn1 ?_;clear q6 l6 kX6 kX8 kX9;(go_wp2_with fail)
        go_round
        case rel=>exact ⟨j+1,S4,by omega,by go_num,rfl,l4,HR',k9,hM.trans MA⟩
        case measure=>simp[intOf];omega
   ·(go_wp2_with fail);go_ret;obtain rfl:j=n:=by omega
    have e1:L.drop j=.nil:=by rw[hn.o];exact Cms.drop_all L
    have h2:=HR.o;rw[e1] at h2;exact ⟨rfl,by rw[h2];exact kS,hM⟩
def Cms.one:Cms→Nat→Cms
 | .nil,_=>.nil
 | .cons k a b t i body els _,0=>.cons k a b t i body els .nil
 | .cons _ _ _ _ _ _ _ r,n+1=>r.one n
section
variable {w:World} {lo hi:Nat}
theorem CmsAt.one:∀ {L:Cms} {bl o:Nat} (n:Nat),CmsAt w lo hi L bl o→CmsAt w lo hi (L.one n) bl (o+n * 10)
 | .nil,_,_,_,h=>trivial
 | .cons k a b t i body els r,bl,o,0,h=>by
  rw[Nat.zero_mul,Nat.add_zero];exact ⟨h.1,h.2.1,h.2.2.1,h.2.2.2.1,h.2.2.2.2.1,trivial⟩
 | .cons k a b t i body els r,bl,o,n+1,h=>by
  have:=CmsAt.one n h.2.2.2.2.2
  rwa [show o+10+n * 10=o+(n+1) * 10 from by omega] at this
end
theorem fold_ls_bit:∀ (L:Cms) (S n:Nat),(L.fold lsF S).testBit n=(S.testBit n || (L.fold lsF 0).testBit n)
 | .nil,S,n=>by simp[Cms.fold]
 | .cons k a b t i body els r,S,n=>by
  simp only[Cms.fold];rw[fold_ls_bit r,fold_ls_bit els,fold_ls_bit body,fold_ls_bit r (els.fold lsF _),fold_ls_bit els (body.fold lsF (lsF 0 k a b t i)),fold_ls_bit body (lsF 0 k a b t i)];unfold lsF;rw[foldl_tsup_bit,foldl_tsup_bit];simp[Bool.or_assoc]
end
end Go.Proofs.YtjaohekkmlkinaaGreat
