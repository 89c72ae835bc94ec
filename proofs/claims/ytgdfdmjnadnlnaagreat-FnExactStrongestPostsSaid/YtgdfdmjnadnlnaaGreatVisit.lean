/- Programs: what impl gathers over all commands. -/
import Derived.Test.YtgdfdmjnadnlnaaGreatMLogP
import Derived.Test.YtgdfdmjnadnlnaaGreatCmdJ
set_option linter.unusedSimpArgs false
set_option linter.unusedVariables false
set_option maxRecDepth 100000
set_option maxHeartbeats 25600000
namespace Go.Proofs.YtgdfdmjnadnlnaaGreat
section
open Go Go.RowKit Go.Proofs
abbrev tTS2:Nat:=103
theorem c_chClo (S g:Nat) (hS:S<512) (k a b:Int) (t:Fct) (i:Asn) (A1 A2 A3 A4:Option Addr) (c1 c2 c3 c4:Nat) (body els:Cms) (w:World) (hK:Blk w g tTS2 #[.int .u16 (S:Nat)]) :
  Calls Tryz.prog 201 #[.agg #[.int .i64 k,.int .i64 a,.int .i64 b,.bool t.eq,.int .i64 t.a,.int .i64 t.b,.slice A1 i.facts.length c1,.slice A2 i.atoms.length c2,.slice A3 body.len c3,.slice A4 els.len c4],.pointer (some ⟨g,0,none⟩)] w fun e w'=>(∃ v,e=.returned v)∧Blk w' g tTS2 #[.int .u16 (chF S k a b t i:Nat)]∧Mk (fun x=>x=g) w w':=by
 have hg:=hK.lt;have q0:=hK.cell 0;have r0:=hK.frozen 0;by_cases hk:k=1∨k=2∨k=4
 ·have HE:=ax (show chF S k a b t i=tins S a from if_pos hk);replace hK:=ax hK;have hgne:g≠w.heap.size:=by omega
  rcases hk with rfl|rfl|rfl
  all_goals
   (go_enter Tryz.func201,Tryz.ntmps201);(go_wp2_with fail);refine (c_impl_with S a _ hS).mono ?_;rintro e w' ⟨rfl,rfl⟩;(go_wp2_with fail)
   go_end0
   refine ⟨⟨_,rfl⟩,?_,(((Mk.refl (fun x=>x=g) _).set (x:=⟨g,0,none⟩) rfl _).trans (Mk.below_ (bbox (Below.refl _ _) _)))⟩;rw[HE.o];exact (hK.o.set_ 0 _).alloc _
 ·have HE:=ax (show chF S k a b t i=S from if_neg hk);replace hK:=ax hK;have k1:(k == 1)=false:=beq_false_of_ne fun e=>hk (.inl e);have k2:(k == 2)=false:=beq_false_of_ne fun e=>hk (.inr (.inl e));have k4:(k == 4)=false:=beq_false_of_ne fun e=>hk (.inr (.inr e));clear hk;(go_enter Tryz.func201,Tryz.ntmps201);(go_wp2_with fail)
  go_end0
  refine ⟨⟨_,rfl⟩,?_,Mk.below_ (bbox (Below.refl _ _) _)⟩;rw[HE.o];exact hK.o.alloc _
theorem c_loClo {lo hi:Nat} (S g:Nat) (hS:S<512) (k a b:Int) (t:Fct) (i:Asn) (A1 A2 A3 A4:Option Addr) (c1 c2 c3 c4:Nat) (body els:Cms) (w:World) (hA:AsnV w lo hi (.agg #[.slice A1 i.facts.length c1,.slice A2 i.atoms.length c2]) i) (hK:Blk w g tTS2 #[.int .u16 (S:Nat)]) :
  Calls Tryz.prog 127 #[.agg #[.int .i64 k,.int .i64 a,.int .i64 b,.bool t.eq,.int .i64 t.a,.int .i64 t.b,.slice A1 i.facts.length c1,.slice A2 i.atoms.length c2,.slice A3 body.len c3,.slice A4 els.len c4],.pointer (some ⟨g,0,none⟩)] w fun e w'=>(∃ v,e=.returned v)∧Blk w' g tTS2 #[.int .u16 (loF S k a b t i:Nat)]∧Mk (fun x=>x=g) w w':=by
 have hg:=hK.lt;replace hA:=ax hA;obtain ⟨S1,hS1⟩:∃ x,x=tins S a:=⟨_,rfl⟩;obtain ⟨S2,hS2⟩:∃ x,x=tins S1 b:=⟨_,rfl⟩;obtain ⟨S3,hS3⟩:∃ x,x=tins S2 t.a:=⟨_,rfl⟩;obtain ⟨S4,hS4⟩:∃ x,x=tins S3 t.b:=⟨_,rfl⟩;have l1:S1<512:=by rw[hS1];exact tins_lt hS _
 have l2:S2<512:=by rw[hS2];exact tins_lt l1 _
 have l3:S3<512:=by rw[hS3];exact tins_lt l2 _
 have l4:S4<512:=by rw[hS4];exact tins_lt l3 _
 obtain ⟨T,hT⟩:∃ x,x=tset (termsL i):=⟨_,rfl⟩;have lT:T<512:=by rw[hT];exact tset_lt _
 have HE:aJ (loF S k a b t i=S4|||T):=by show _=_;rw[hS4,hS3,hS2,hS1,hT];rfl
 have hU:=u16_or_nat S4 T (by omega) (by omega);replace hS1:=ax hS1;replace hS2:=ax hS2;replace hS3:=ax hS3;replace hS4:=ax hS4;replace hT:=ax hT;(go_enter Tryz.func127,Tryz.ntmps127);have k0:Blk (w.alloc (.cells #[.int .i64 k,.int .i64 a,.int .i64 b,.bool t.eq,.int .i64 t.a,.int .i64 t.b,.slice A1 i.facts.length c1,.slice A2 i.atoms.length c2,.slice A3 body.len c3,.slice A4 els.len c4] tC)) w.heap.size tC #[.int .i64 k,.int .i64 a,.int .i64 b,.bool t.eq,.int .i64 t.a,.int .i64 t.b,.slice A1 i.facts.length c1,.slice A2 i.atoms.length c2,.slice A3 body.len c3,.slice A4 els.len c4]:=Blk.new _ _ _;have k1:Blk (w.alloc (.cells #[.int .i64 k,.int .i64 a,.int .i64 b,.bool t.eq,.int .i64 t.a,.int .i64 t.b,.slice A1 i.facts.length c1,.slice A2 i.atoms.length c2,.slice A3 body.len c3,.slice A4 els.len c4] tC)) g tTS2 #[.int .u16 (S:Nat)]:=hK.alloc _;have hgne:g≠w.heap.size:=by omega
 (go_wp2_with fail);refine wp_region_noPanic ?_;refine wp_region_last' (S:=(fun w'=>(∀ j,w'.cell? ⟨w.heap.size,j,none⟩=#[.int .i64 k,.int .i64 a,.int .i64 b,.bool t.eq,.int .i64 t.a,.int .i64 t.b,.slice A1 i.facts.length c1,.slice A2 i.atoms.length c2,.slice A3 body.len c3,.slice A4 els.len c4][j]?)∧(∀ j,w'.cell? ⟨g,j,none⟩=#[Value.int .u16 (S:Nat)][j]?)∧(∀ j,w'.frozen? ⟨g,j,none⟩=false))) (by simp) (by kernel_rfl) (by kernel_rfl) (⟨k0.cell,k1.cell,k1.frozen⟩) (fun aH=>?_);simp only[List.dropLast,List.getLast,nopOf,List.cons_append,List.nil_append,List.length_cons,List.length_nil,Nat.zero_add,Nat.reduceAdd];refine tk2 0 rfl aH (h:=tk2 1 rfl aH (h:=tk2 2 rfl aH (h:=?_)));(try simp only[zz]);refine tk2 4 rfl aH (h:=tk2 5 rfl aH (h:=tk2 7 rfl aH (h:=?_)));(try simp only[zz]);refine tk2 8 rfl aH (h:=tk2 9 rfl aH (h:=tk2 11 rfl aH (h:=?_)));(try simp only[zz]);refine tk2 12 rfl aH (h:=tk2 13 rfl aH (h:=tk2 15 rfl aH (h:=?_)));(try simp only[zz]);refine tk2 16 rfl aH (h:=?_);refine rdc 3 rfl fun K hK=>?_;(try simp only[zz]);(go_simp;refine (c_impl_with S a _ hS).mono ?_;rintro e w1 ⟨rfl,rfl⟩;rw[←hS1.o]);refine hK.out _ _ (⟨k0.cell,k1.cell,k1.frozen⟩) ?_;clear aH hK K;intro aH;refine rdc 6 rfl fun K hK=>?_;(try simp only[zz]);(go_simp;refine (c_impl_with S1 b _ l1).mono ?_;rintro e w1 ⟨rfl,rfl⟩;rw[←hS2.o]);refine hK.out _ _ (⟨k0.cell,k1.cell,k1.frozen⟩) ?_;clear aH hK K;intro aH;refine rdc 10 rfl fun K hK=>?_;(try simp only[zz]);(go_simp;refine (c_impl_with S2 t.a _ l2).mono ?_;rintro e w1 ⟨rfl,rfl⟩;rw[←hS3.o]);refine hK.out _ _ (⟨k0.cell,k1.cell,k1.frozen⟩) ?_;clear aH hK K;intro aH;refine rdc 14 rfl fun K hK=>?_;(try simp only[zz]);(go_simp;refine (c_impl_with S3 t.b _ l3).mono ?_;rintro e w1 ⟨rfl,rfl⟩;rw[←hS4.o]);refine hK.out _ _ (⟨k0.cell,k1.cell,k1.frozen⟩) ?_;clear aH hK K;intro aH;refine rdc 17 rfl fun K hK=>?_;(try simp only[zz]);(go_simp;refine (c_impl_termsIn _ i _ (hA.o.bz bel)).mono ?_;rintro e w5 ⟨rfl,hB5⟩;rw[←hT.o];replace k0:=Blk.nz (g:=w.heap.size) blks hB5;replace k1:=Blk.nz (g:=g) (t:=tTS2) (cs:=#[.int .u16 (S:Nat)]) blks hB5;have hBB:=bgo (w:=w) bel hB5);refine hK.out _ _ (⟨k0.cell,k1.cell,k1.frozen⟩) ?_;clear aH hK K;intro aH;(try simp only[zz]);refine tk2 18 rfl aH (h:=?_);(try simp only[zz]);refine rdc 19 rfl fun K hK=>?_;go_simp;refine hK.out _ _ (⟨k0.cell,k1.cell,k1.frozen⟩) (fun aH=>?_);clear hK K;refine wpAnyH_done (by kernel_rfl) ?_ _;unfold lastQ;go_simp;refine NoPanic.normal ?_;(go_wp2_with fail)
 go_end0
 refine ⟨⟨_,rfl⟩,?_,((Mk.below_ (p:=fun x=>x=g) hBB).set (x:=⟨g,0,none⟩) rfl _)⟩;rw[HE.o];exact k1.set_ 0 _
theorem visitCh_go:∀ (N:Nat) (L:Cms),L.sz<N→∀ (A:Option Addr) (c lo hi gS S:Nat) (w:World),CmsV w lo hi A L→L.len≤1049600→L.small 1049600→hi≤gS→S<512→Blk w gS tTS2 #[.int .u16 (S:Nat)]→
  Calls Tryz.prog 126 #[.slice A L.len c,.func (.func 201) #[] #[.pointer (some ⟨gS,0,none⟩)]] w fun e w'=>(∃ v,e=.returned v)∧Blk w' gS tTS2 #[.int .u16 (L.fold chF S:Nat)]∧Mk (fun x=>x=gS) w w':=by
 intro N
 induction N with
 | zero=>intro L h;omega
 | succ N IH=>
  intro L hsz A c lo hi gS S w hV hlen hsm hgS hS hK;replace IH:=ax IH;replace hsm:=ax hsm;replace hsz:=ax hsz;obtain ⟨n,hn⟩:∃ n,n=L.len:=⟨_,rfl⟩;rw[←hn];rw[←hn] at hlen;replace hn:=ax hn;have hgl:=hK.lt;replace hV:=ax hV;(go_enter Tryz.func126,Tryz.ntmps126);(go_wp2_with fail)
  go_loopw [8] (fun x wr=>∃ (j S1:Nat),j≤n∧x=.int .i64 j∧S1<512∧aJ (L.fold chF S=(L.drop j).fold chF S1)∧Blk wr gS tTS2 #[.int .u16 (S1:Nat)]∧Mk (fun x=>x=gS) w wr) (fun x _=>n - (intOf x).toNat)
  case atStart=>exact ⟨0,S,Nat.zero_le _,rfl,hS,ax rfl,hK,Mk.refl _ _⟩
  case round=>
   clear hK;obtain ⟨j,S1,hj,rfl,hS1,HR,kS,hM⟩:=hrel;by_cases hlt:j<n
   ·have hpos:0<(L.drop j).len:=by rw[Cms.drop_len,←hn.o];omega
    obtain ⟨k,a,b,t,i,body,els,r,eL⟩:=Cms.cons_of_len hpos;obtain ⟨bl,o,rfl,-,-,hAt⟩:=(hV.o.mk1 hM hgS hgl) (by rw[←hn.o];omega);have hD:=hAt.drop j;have hS:=Cms.small_drop j hsm.o;have hZ:=Cms.sz_drop j L;have hDs:=Cms.drop_succ j L eL;have HR':=HR.o;rw[eL] at hD hS hZ HR';obtain ⟨⟨p0,p1,p2,p3,p4,p5⟩,⟨A6,c6,p6,g6⟩,⟨A7,c7,p7,g7⟩,⟨A8,c8,p8,g8⟩,⟨A9,c9,p9,g9⟩,-⟩:=hD;obtain ⟨s1,s2,s3,s4,s5,s6,-⟩:=hS;simp only[Cms.sz] at hZ;have hbs:body.sz<N:=by have:=hsz.o;omega
    have hes:els.sz<N:=by have:=hsz.o;omega
    have gA:aJ (AsnV wr lo hi (.agg #[.slice A6 i.facts.length c6,.slice A7 i.atoms.length c7]) i):=⟨_,_,_,_,rfl,⟨g6,s1⟩,⟨g7,s2⟩⟩;have gB:aJ (CmsV wr lo hi A8 body):=g8;have gE:aJ (CmsV wr lo hi A9 els):=g9;rw[Cms.fold,←hDs] at HR';obtain ⟨S2,hS2⟩:∃ x,x=chF S1 k a b t i:=⟨_,rfl⟩;have l2:S2<512:=by rw[hS2];exact chF_lt hS1 k a b t i
    obtain ⟨S3,hS3⟩:∃ x,x=body.fold chF S2:=⟨_,rfl⟩;have l3:S3<512:=by rw[hS3];exact Cms.fold_lt (fun S k a b t i h=>chF_lt h k a b t i) body l2
    obtain ⟨S4,hS4⟩:∃ x,x=els.fold chF S3:=⟨_,rfl⟩;have l4:S4<512:=by rw[hS4];exact Cms.fold_lt (fun S k a b t i h=>chF_lt h k a b t i) els l3
    rw[←hS2,←hS3,←hS4] at HR';replace HR':=ax HR';replace hS2:=ax hS2;replace hS3:=ax hS3;replace hS4:=ax hS4;replace hbs:=ax hbs;replace hes:=ax hes;replace s5:=ax s5;replace s6:=ax s6;have hgl1:=kS.lt;have hsne:wr.heap.size≠gS:=by omega
    clear hZ hpos hAt g6 g7 g8 g9 HR hDs eL;(go_wp2_with fail);refine (c_chClo S1 gS hS1 k a b t i A6 A7 A8 A9 c6 c7 c8 c9 body els _ (kS.alloc _)).mono ?_;rintro e w1 ⟨⟨v1,rfl⟩,kS1,hM1⟩;rw[←hS2.o] at kS1;have hW:Mk (fun x=>x=gS) wr w1:=(Mk.below_ (bbox (Below.refl _ _) _)).trans hM1;have k0:Blk w1 wr.heap.size tC #[.int .i64 k,.int .i64 a,.int .i64 b,.bool t.eq,.int .i64 t.a,.int .i64 t.b,.slice A6 i.facts.length c6,.slice A7 i.atoms.length c7,.slice A8 body.len c8,.slice A9 els.len c9]:=hM1.blk (Blk.new _ _ _) hsne;have q0:=k0.cell;have l0:=k0.lt;clear hM1 kS gA p0 p1 p2 p3 p4 p5 p6 p7 p8 p9;(go_wp2_with fail);refine (IH.o body hbs.o A8 c8 lo hi gS S2 w1 (gB.o.mk1 hW hgS hgl1) s3 s5.o hgS l2 kS1).mono ?_;rintro e w2 ⟨⟨v2,rfl⟩,kS2,hM2⟩;rw[←hS3.o] at kS2;replace hW:=hW.trans hM2;replace k0:=hM2.blk k0 hsne;replace q0:=k0.cell;replace l0:=k0.lt;clear hM2 kS1;(go_wp2_with fail);refine (IH.o els hes.o A9 c9 lo hi gS S3 w2 (gE.o.mk1 hW hgS hgl1) s4 s6.o hgS l3 kS2).mono ?_;rintro e w3 ⟨⟨v3,rfl⟩,kS3,hM3⟩;rw[←hS4.o] at kS3;replace hW:=hW.trans hM3;clear hM3 kS2 k0 q0 l0;(go_wp2_with fail)
    go_round
    case rel=>exact ⟨j+1,S4,by omega,by go_num,l4,HR',kS3,hM.trans hW⟩
    case measure=>simp[intOf];omega
   ·go_wp2_with fail
    go_end0
    obtain rfl:j=n:=by omega
    have e1:L.drop j=.nil:=by rw[hn.o];exact Cms.drop_all L
    have h2:=HR.o;rw[e1] at h2;exact ⟨⟨_,rfl⟩,by rw[h2];exact kS,hM⟩
theorem visitLo_go:∀ (N:Nat) (L:Cms),L.sz<N→∀ (A:Option Addr) (c lo hi gS S:Nat) (w:World),CmsV w lo hi A L→L.len≤1049600→L.small 1049600→hi≤gS→S<512→Blk w gS tTS2 #[.int .u16 (S:Nat)]→
  Calls Tryz.prog 126 #[.slice A L.len c,.func (.func 127) #[] #[.pointer (some ⟨gS,0,none⟩)]] w fun e w'=>(∃ v,e=.returned v)∧Blk w' gS tTS2 #[.int .u16 (L.fold loF S:Nat)]∧Mk (fun x=>x=gS) w w':=by
 intro N
 induction N with
 | zero=>intro L h;omega
 | succ N IH=>
  intro L hsz A c lo hi gS S w hV hlen hsm hgS hS hK;replace IH:=ax IH;replace hsm:=ax hsm;replace hsz:=ax hsz;obtain ⟨n,hn⟩:∃ n,n=L.len:=⟨_,rfl⟩;rw[←hn];rw[←hn] at hlen;replace hn:=ax hn;have hgl:=hK.lt;replace hV:=ax hV;(go_enter Tryz.func126,Tryz.ntmps126);(go_wp2_with fail)
  go_loopw [8] (fun x wr=>∃ (j S1:Nat),j≤n∧x=.int .i64 j∧S1<512∧aJ (L.fold loF S=(L.drop j).fold loF S1)∧Blk wr gS tTS2 #[.int .u16 (S1:Nat)]∧Mk (fun x=>x=gS) w wr) (fun x _=>n - (intOf x).toNat)
  case atStart=>exact ⟨0,S,Nat.zero_le _,rfl,hS,ax rfl,hK,Mk.refl _ _⟩
  case round=>
   clear hK;obtain ⟨j,S1,hj,rfl,hS1,HR,kS,hM⟩:=hrel;by_cases hlt:j<n
   ·have hpos:0<(L.drop j).len:=by rw[Cms.drop_len,←hn.o];omega
    obtain ⟨k,a,b,t,i,body,els,r,eL⟩:=Cms.cons_of_len hpos;obtain ⟨bl,o,rfl,-,-,hAt⟩:=(hV.o.mk1 hM hgS hgl) (by rw[←hn.o];omega);have hD:=hAt.drop j;have hS:=Cms.small_drop j hsm.o;have hZ:=Cms.sz_drop j L;have hDs:=Cms.drop_succ j L eL;have HR':=HR.o;rw[eL] at hD hS hZ HR';obtain ⟨⟨p0,p1,p2,p3,p4,p5⟩,⟨A6,c6,p6,g6⟩,⟨A7,c7,p7,g7⟩,⟨A8,c8,p8,g8⟩,⟨A9,c9,p9,g9⟩,-⟩:=hD;obtain ⟨s1,s2,s3,s4,s5,s6,-⟩:=hS;simp only[Cms.sz] at hZ;have hbs:body.sz<N:=by have:=hsz.o;omega
    have hes:els.sz<N:=by have:=hsz.o;omega
    have gA:aJ (AsnV wr lo hi (.agg #[.slice A6 i.facts.length c6,.slice A7 i.atoms.length c7]) i):=⟨_,_,_,_,rfl,⟨g6,s1⟩,⟨g7,s2⟩⟩;have gB:aJ (CmsV wr lo hi A8 body):=g8;have gE:aJ (CmsV wr lo hi A9 els):=g9;rw[Cms.fold,←hDs] at HR';obtain ⟨S2,hS2⟩:∃ x,x=loF S1 k a b t i:=⟨_,rfl⟩;have l2:S2<512:=by rw[hS2];exact loF_lt hS1 k a b t i
    obtain ⟨S3,hS3⟩:∃ x,x=body.fold loF S2:=⟨_,rfl⟩;have l3:S3<512:=by rw[hS3];exact Cms.fold_lt (fun S k a b t i h=>loF_lt h k a b t i) body l2
    obtain ⟨S4,hS4⟩:∃ x,x=els.fold loF S3:=⟨_,rfl⟩;have l4:S4<512:=by rw[hS4];exact Cms.fold_lt (fun S k a b t i h=>loF_lt h k a b t i) els l3
    rw[←hS2,←hS3,←hS4] at HR';replace HR':=ax HR';replace hS2:=ax hS2;replace hS3:=ax hS3;replace hS4:=ax hS4;replace hbs:=ax hbs;replace hes:=ax hes;replace s5:=ax s5;replace s6:=ax s6;have hgl1:=kS.lt;have hsne:wr.heap.size≠gS:=by omega
    clear hZ hpos hAt g6 g7 g8 g9 HR hDs eL;(go_wp2_with fail);refine (c_loClo S1 gS hS1 k a b t i A6 A7 A8 A9 c6 c7 c8 c9 body els _ (gA.o.bz bel) (kS.alloc _)).mono ?_;rintro e w1 ⟨⟨v1,rfl⟩,kS1,hM1⟩;rw[←hS2.o] at kS1;have hW:Mk (fun x=>x=gS) wr w1:=(Mk.below_ (bbox (Below.refl _ _) _)).trans hM1;have k0:Blk w1 wr.heap.size tC #[.int .i64 k,.int .i64 a,.int .i64 b,.bool t.eq,.int .i64 t.a,.int .i64 t.b,.slice A6 i.facts.length c6,.slice A7 i.atoms.length c7,.slice A8 body.len c8,.slice A9 els.len c9]:=hM1.blk (Blk.new _ _ _) hsne;have q0:=k0.cell;have l0:=k0.lt;clear hM1 kS gA p0 p1 p2 p3 p4 p5 p6 p7 p8 p9;(go_wp2_with fail);refine (IH.o body hbs.o A8 c8 lo hi gS S2 w1 (gB.o.mk1 hW hgS hgl1) s3 s5.o hgS l2 kS1).mono ?_;rintro e w2 ⟨⟨v2,rfl⟩,kS2,hM2⟩;rw[←hS3.o] at kS2;replace hW:=hW.trans hM2;replace k0:=hM2.blk k0 hsne;replace q0:=k0.cell;replace l0:=k0.lt;clear hM2 kS1;(go_wp2_with fail);refine (IH.o els hes.o A9 c9 lo hi gS S3 w2 (gE.o.mk1 hW hgS hgl1) s4 s6.o hgS l3 kS2).mono ?_;rintro e w3 ⟨⟨v3,rfl⟩,kS3,hM3⟩;rw[←hS4.o] at kS3;replace hW:=hW.trans hM3;clear hM3 kS2 k0 q0 l0;(go_wp2_with fail)
    go_round
    case rel=>exact ⟨j+1,S4,by omega,by go_num,l4,HR',kS3,hM.trans hW⟩
    case measure=>simp[intOf];omega
   ·go_wp2_with fail
    go_end0
    obtain rfl:j=n:=by omega
    have e1:L.drop j=.nil:=by rw[hn.o];exact Cms.drop_all L
    have h2:=HR.o;rw[e1] at h2;exact ⟨⟨_,rfl⟩,by rw[h2];exact kS,hM⟩
theorem c_impl_changedIn {lo hi:Nat} (L:Cms) (A:Option Addr) (c:Nat) (w:World) (hV:CmsV w lo hi A L) (hhi:hi≤w.heap.size) (hlen:L.len≤1049600) (hsm:L.small 1049600) :
  Calls Tryz.prog 140 #[.slice A L.len c] w fun e w'=>e=.returned (.int .u16 (L.fold chF 0:Nat))∧Below w.heap.size w w':=by
 replace hV:=ax hV;replace hsm:=ax hsm;(go_enter Tryz.func140,Tryz.ntmps140);(go_wp2_with fail);refine (visitCh_go _ L (Nat.lt_succ_self _) A c lo hi w.heap.size 0 _ (hV.o.bz bel) hlen hsm.o hhi (by decide) (Blk.new _ _ _)).mono ?_;rintro e w1 ⟨⟨v1,rfl⟩,kS,hM⟩;have hB:Below w.heap.size w w1:=Below.trans (bbox (Below.refl _ _) _) (hM.bz (fun k hk=>by omega) (by simp));have q0:=kS.cell 0;have l0:=kS.lt;clear hM;(go_wp2_with fail);go_ret;exact ⟨rfl,hB⟩
theorem c_impl_logicalIn {lo hi:Nat} (L:Cms) (A:Option Addr) (c:Nat) (w:World) (hV:CmsV w lo hi A L) (hhi:hi≤w.heap.size) (hlen:L.len≤1049600) (hsm:L.small 1049600) :
  Calls Tryz.prog 68 #[.slice A L.len c] w fun e w'=>e=.returned (.int .u16 (logS (L.fold loF 0):Nat))∧Below w.heap.size w w':=by
 replace hV:=ax hV;replace hsm:=ax hsm;(go_enter Tryz.func68,Tryz.ntmps68);(go_wp2_with fail);refine (visitLo_go _ L (Nat.lt_succ_self _) A c lo hi w.heap.size 0 _ (hV.o.bz bel) hlen hsm.o hhi (by decide) (Blk.new _ _ _)).mono ?_;rintro e w1 ⟨⟨v1,rfl⟩,kS,hM⟩;have hB:Below w.heap.size w w1:=Below.trans (bbox (Below.refl _ _) _) (hM.bz (fun k hk=>by omega) (by simp));have q0:=kS.cell 0;have l0:=kS.lt;clear hM;(go_wp2_with fail);refine (c_impl_logical _ _ (Cms.fold_lt (fun S k a b t i h=>loF_lt h k a b t i) L (by decide))).mono ?_;rintro e w3 ⟨rfl,rfl⟩;(go_wp2_with fail);go_ret;exact ⟨rfl,hB⟩
end
end Go.Proofs.YtgdfdmjnadnlnaaGreat
