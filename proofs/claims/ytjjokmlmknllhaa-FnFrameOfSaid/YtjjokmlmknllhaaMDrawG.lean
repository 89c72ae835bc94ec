/- Frames: spec. -/
import Derived.Test.YtjjokmlmknllhaaMFrmI
import Derived.Test.YtjjokmlmknllhaaMModO
import Derived.Test.YtjjokmlmknllhaaMIntSS
import Derived.Test.YtjjokmlmknllhaaMDefS
import Derived.Test.YtjjokmlmknllhaaDrawE
set_option linter.unusedSimpArgs false
set_option linter.unusedVariables false
namespace Go.Proofs.Ytjjokmlmknllhaa
open Go Go.RowKit Go.Proofs
attribute [local go_sem ↓] Go.wp_at_zero Go.wp_at_succ
set_option maxRecDepth 100000 in
set_option maxHeartbeats 3200000 in
theorem c_l7Pick {lo hi:Nat} (v:Value) (a:Asn) (m:Nat) (w:World) (h:AsnV w lo hi v a) (hm:m≤1000000) (hla:a.atoms.length≤60) :
  Calls Try.prog 35 #[v,.int .i64 m] w fun e w'=>∃ r,e=.returned r∧AsnO w' w.heap.size r (pickA a m)∧Below w.heap.size w w':=by
 obtain ⟨A1,c1,A2,c2,rfl,-,h2⟩:=h
 have H2:=Lib.hid h2
 have hl:=h2.le
 clear h2
 go_enter Try.func35,Try.ntmps35
 obtain ⟨k0,kr,kg⟩:=blk3 w tAs tAs tAs #[.slice A1 a.facts.length c1,.slice A2 a.atoms.length c2] #[.slice none 0 0,.slice none 0 0] #[.slice none 0 0,.slice none 0 0]
 have HB:Hid (Below w.heap.size w (((w.alloc (.cells #[.slice A1 a.facts.length c1,.slice A2 a.atoms.length c2] tAs)).alloc (.cells #[.slice none 0 0,.slice none 0 0] tAs)).alloc (.cells #[.slice none 0 0,.slice none 0 0] tAs))):=Lib.hid bel
 go_wp2_with fail
 generalize (((w.alloc (.cells #[.slice A1 a.facts.length c1,.slice A2 a.atoms.length c2] tAs)).alloc (.cells #[.slice none 0 0,.slice none 0 0] tAs)).alloc (.cells #[.slice none 0 0,.slice none 0 0] tAs))=W at k0 kr kg HB ⊢
 go_loopw [6] (fun i wr=>∃ (j:Nat) (xs:List Atm) (A3:Option Addr) (c3:Nat),j≤a.atoms.length∧i=.int .i64 j∧Hid (xs=maskA m 0 (a.atoms.take j))∧xs.length≤j∧Hid (AtomsO wr w.heap.size (.slice A3 xs.length c3) xs)∧Blk wr w.heap.size tAs #[.slice A1 a.facts.length c1,.slice A2 a.atoms.length c2]∧Blk wr (w.heap.size+1) tAs #[.slice none 0 0,.slice none 0 0]∧Blk wr (w.heap.size+1+1) tAs #[.slice none 0 0,.slice A3 xs.length c3]∧Hid (Below w.heap.size w wr)) (fun i _=>a.atoms.length - (intOf i).toNat)
 case atStart=>exact ⟨0,[],none,0,Nat.zero_le _,rfl,by simp[Hid,maskA],Nat.le_refl _,AtomsO.nil _ _,k0,kr,kg,HB⟩
 case round=>
  clear k0 kr kg HB
  obtain ⟨j,xs,A3,c3,hj,rfl,HXS,hxl,HA,k0,kr,kg,HB⟩:=hrel
  (replace qk0:=k0.cell;replace rk0:=k0.frozen;replace lk0:=k0.lt;replace qkr:=kr.cell;replace rkr:=kr.frozen;replace lkr:=kr.lt;replace qkg:=kg.cell;replace rkg:=kg.frozen;replace lkg:=kg.lt)
  have hsz:=HB.out.size
  by_cases hlt:j<a.atoms.length
  ·have HX:=Lib.hid (H2.out.below HB.out)
   obtain ⟨b,off,rfl,hbl⟩:=HX.out.blt hlt
   have hji:(j:Int)<(a.atoms.length:Int):=by omega
   have HS:=Lib.hid (maskA_snoc m a.atoms j hlt)
   have hbit:=bit_at m j (by omega)
   have hk64:min j 64=j:=by omega
   cases hb:m.testBit j
   ·rw[hb] at hbit
    have HXN:Hid (xs=maskA m 0 (a.atoms.take (j+1))):=Lib.hid (by rw[HS.out,hb,←HXS.out];simp)
    clear hb HS
    go_wp2_with fail
    go_round
    case rel=>exact ⟨j+1,xs,A3,c3,by omega,by go_num,HXN,by omega,HA,k0,kr,kg,HB⟩
    case measure=>simp[intOf];omega
   ·rw[hb] at hbit
    have HXN:Hid (xs++[a.atoms[j]]=maskA m 0 (a.atoms.take (j+1))):=Lib.hid (by rw[HS.out,hb,←HXS.out];simp)
    clear hb HS
    go_wp2_with fail
    refine wp_region_noPanic ?_
    refine wp_region_last' (S:=(fun w'=>(∀ i,w'.cell? ⟨w.heap.size+1+1,i,none⟩=#[.slice none 0 0,.slice A3 xs.length c3][i]?)∧(∀ i,w'.cell? ⟨w.heap.size,i,none⟩=#[.slice A1 a.facts.length c1,.slice (some ⟨b,off,none⟩) a.atoms.length c2][i]?)∧w'.cell? ⟨b,off+j * 3,none⟩=some (.int .i64 a.atoms[j].kind)∧w'.cell? ⟨b,off+j * 3+1,none⟩=some (.int .i64 a.atoms[j].a)∧w'.cell? ⟨b,off+j * 3+2,none⟩=some (.int .i64 a.atoms[j].b))) (by simp) (by kernel_rfl) (by kernel_rfl) (⟨Blk.cell blks,Blk.cell blks,(AtomsV.below HX.out bel).cl hlt⟩) (fun hHeld=>?_)
    simp only[List.dropLast,List.getLast,nopOf,List.cons_append,List.nil_append,List.length_cons,List.length_nil,Nat.zero_add,Nat.reduceAdd]
    refine tk 0 ?_ rfl (fun w hSw=>?_) hHeld ?_
    rotate_left
    ·((try dsimp only at hSw);go_split_ands;go_simp;(try with_reducible rfl))
    try simp only[Act.put,zA,zB,zC,zD,zE,zF]
    refine tk 1 ?_ rfl (fun w hSw=>?_) hHeld ?_
    rotate_left
    ·((try dsimp only at hSw);go_split_ands;go_simp;(try with_reducible rfl))
    try simp only[Act.put,zA,zB,zC,zD,zE,zF]
    refine tk 2 ?_ rfl (fun w hSw=>?_) hHeld ?_
    rotate_left
    ·((try dsimp only at hSw);go_split_ands;go_simp;(try with_reducible rfl))
    try simp only[Act.put,zA,zB,zC,zD,zE,zF]
    refine tk 3 ?_ rfl (fun w hSw=>?_) hHeld ?_
    rotate_left
    ·((try dsimp only at hSw);go_split_ands;go_simp;(try with_reducible rfl))
    try simp only[Act.put,zA,zB,zC,zD,zE,zF]
    refine tk 4 ?_ rfl (fun w hSw=>?_) hHeld ?_
    rotate_left
    ·((try dsimp only at hSw);go_split_ands;go_simp;(try with_reducible rfl))
    try simp only[Act.put,zA,zB,zC,zD,zE,zF]
    refine tk 5 ?_ rfl (fun w hSw=>?_) hHeld ?_
    rotate_left
    ·((try dsimp only at hSw);go_split_ands;go_simp;(try with_reducible rfl))
    try simp only[Act.put,zA,zB,zC,zD,zE,zF]
    refine tk 6 ?_ rfl (fun w hSw=>?_) hHeld ?_
    rotate_left
    ·((try dsimp only at hSw);go_split_ands;go_simp;(try with_reducible rfl))
    try simp only[Act.put,zA,zB,zC,zD,zE,zF]
    refine rdc 7 rfl fun K hK=>?_
    try simp only[zA,zB,zC]
    go_simp
    refine hK.out _ _ (⟨Blk.cell blks,Blk.cell blks,(AtomsV.below HX.out bel).cl hlt⟩) ?_
    clear hHeld hK K
    intro hHeld
    try simp only[Act.put,zA,zB,zC,zD,zE,zF]
    have hBX:Below w.heap.size w (wr.alloc (.cells #[.int .i64 a.atoms[j].kind,.int .i64 a.atoms[j].a,.int .i64 a.atoms[j].b] tA)).drew:=(Below.alloc HB.out hsz _).drew
    have HAX:=Lib.hid (HA.out.below (((Below.refl wr.heap.size wr).alloc (Nat.le_refl _) (.cells #[.int .i64 a.atoms[j].kind,.int .i64 a.atoms[j].a,.int .i64 a.atoms[j].b] tA)).drew))
    have kl:=(Blk.new wr tA #[.int .i64 a.atoms[j].kind,.int .i64 a.atoms[j].a,.int .i64 a.atoms[j].b]).drew
    have kgX:=(kg.alloc (.cells #[.int .i64 a.atoms[j].kind,.int .i64 a.atoms[j].a,.int .i64 a.atoms[j].b] tA)).drew
    have k0X:=(k0.alloc (.cells #[.int .i64 a.atoms[j].kind,.int .i64 a.atoms[j].a,.int .i64 a.atoms[j].b] tA)).drew
    have krX:=(kr.alloc (.cells #[.int .i64 a.atoms[j].kind,.int .i64 a.atoms[j].a,.int .i64 a.atoms[j].b] tA)).drew
    clear kg k0 kr HA HX qk0 rk0 lk0 qkg rkg lkg qkr rkr lkr
    generalize (wr.alloc (.cells #[.int .i64 a.atoms[j].kind,.int .i64 a.atoms[j].a,.int .i64 a.atoms[j].b] tA)).drew=V at hBX HAX kl kgX k0X krX hHeld ⊢
    have hszV:=hBX.size
    generalize wr.heap.size=L at kl ⊢
    clear hsz hbl HB
    refine rdc 8 rfl fun K hK=>?_
    skip
    (refine stepAL (base:=w.heap.size) (xs:=xs) (ys:=[a.atoms[j]]) rfl _ _ rfl rfl HAX.out rfl (AtomsV.one' kl) (by simp;omega) hszV ?_;intro A' d' w2 of2 hg2 hB3;have z2:=Blk.grownO (hg:=hg2) kgX HAX.out.1 (by decide);have z0:=Blk.grownO (hg:=hg2) k0X HAX.out.1 (by decide);have hBw2:Below w.heap.size w w2:=hBX.trans hB3)
    refine hK.out _ _ (⟨z2.cell,z0.cell,(H2.out.below hBw2).cl hlt⟩) ?_
    clear hHeld hK K
    intro hHeld
    try simp only[Act.put,zA,zB,zC,zD,zE,zF]
    have rz2:=z2.frozen
    have lz2:=z2.lt
    refine tk 9 ?_ rfl (fun w hSw=>?_) hHeld ?_
    rotate_left
    ·((try dsimp only at hSw);go_split_ands;go_simp;(try with_reducible rfl))
    try simp only[Act.put,zA,zB,zC,zD,zE,zF]
    refine rdc 10 rfl fun K hK=>?_
    go_simp
    refine hK.out _ _ (⟨z2.cell,z0.cell,(H2.out.below hBw2).cl hlt⟩) (fun hHeld=>?_)
    clear hK K
    refine wpAnyH_done (by kernel_rfl) ?_ _
    unfold lastQ
    go_simp
    refine NoPanic.normal ?_
    have zr:=Blk.grownO (hg:=hg2) krX HAX.out.1 (by decide)
    go_wp2_with fail
    have of3:=of2.setT z2 (by decide) 1 (.slice A' (xs.length+1) d')
    go_round
    case rel=>exact ⟨j+1,xs++[a.atoms[j]],A',d',by omega,by go_num,HXN,by simp;omega,(by simpa using of3:AtomsO _ _ _ _),z0.far (by simp only[];omega) _,zr.far (by simp only[];omega) _,(by have:=z2.set_ 1 (.slice A' (xs.length+1) d');simpa using this),hBw2.setCell (p:=⟨w.heap.size+1+1,1,none⟩) (by simp only;omega) _⟩
    case measure=>simp[intOf];omega
  ·obtain rfl:j=a.atoms.length:=by omega
   have hacc:xs=maskA m 0 a.atoms:=by have:=HXS.out;rwa [List.take_length] at this
   subst hacc
   go_wp2_with fail
   refine bodyPost_ret (v:=.agg #[.slice none 0 0,.slice A3 (maskA m 0 a.atoms).length c3]) (by simp[results,Try.results35,go_sem,qkr]) rfl ⟨_,rfl,⟨_,_,rfl,FactsO.nil _ _,?_⟩,?_⟩
   ·exact (HA.out.setT kr (by decide) 0 _).setT (kr.set_ 0 _) (by decide) 1 _
   ·exact (HB.out.setCell (p:=⟨w.heap.size+1,0,none⟩) (by simp only;omega) _).setCell (p:=⟨w.heap.size+1,1,none⟩) (by simp only;omega) _
set_option maxRecDepth 100000 in
set_option maxHeartbeats 3200000 in
theorem c_l7Frame {lo hi lo' hi':Nat} (v v':Value) (a b:Asn) (w:World) (h:AsnV w lo hi v a) (h':AsnV w lo' hi' v' b) (hv:a.valid=true) (hv':b.valid=true) :
  Calls Try.prog 21 #[v,v'] w fun e w'=>∃ r,e=.returned (.tuple #[r,.bool (frameF a b).isSome])∧AsnO w' w.heap.size r ((frameF a b).getD ⟨[],[]⟩)∧Below w.heap.size w w':=by
 have HA:=Lib.hid h
 have HB:=Lib.hid h'
 have hla:=(valid_len hv)
 have hlb:=(valid_len hv')
 have HF:=Lib.hid (frame_map hv hv')
 obtain ⟨A1,c1,A2,c2,rfl,-,-⟩:=h
 obtain ⟨A3,c3,A4,c4,rfl,-,-⟩:=h'
 obtain ⟨n,hn⟩:∃ n,n=a.atoms.length:=⟨_,rfl⟩
 obtain ⟨N,hN⟩:∃ N:Nat,N=2 ^ n:=⟨_,rfl⟩
 have hN64:N≤64:=by rw[hN];exact Nat.pow_le_pow_right (n:=2) (by decide) (show n≤6 by omega)
 have HM:Hid (frM a b=seekM (frB a b) (N - 0) 0):=Lib.hid (by rw[hN,hn];rfl)
 have hp:(2:Int) ^ n=(N:Int):=by rw[hN];simp
 have hn64:min n 64=n:=by omega
 rw[←hn] at hla ⊢
 have hPL:∀ m,(pickA a m).facts.length≤12∧(pickA a m).atoms.length≤n:=fun m=>⟨Nat.zero_le _,by rw[hn];exact maskA_len m _ 0⟩
 have HPL:=Lib.hid hPL
 replace hN:=Lib.hid hN
 clear hv hv' hPL
 go_enter Try.func21,Try.ntmps21
 obtain ⟨k2,k3,k4⟩:=blk3 w tAs tAs tAs #[.slice A1 a.facts.length c1,.slice A2 n c2] #[.slice A3 b.facts.length c3,.slice A4 b.atoms.length c4] #[.slice none 0 0,.slice none 0 0]
 have hB:Hid (Below w.heap.size w (((w.alloc (.cells #[.slice A1 a.facts.length c1,.slice A2 n c2] tAs)).alloc (.cells #[.slice A3 b.facts.length c3,.slice A4 b.atoms.length c4] tAs)).alloc (.cells #[.slice none 0 0,.slice none 0 0] tAs))):=Lib.hid bel
 rw[←hn] at HA
 replace hn:=Lib.hid hn
 go_wp2_with fail
 generalize (((w.alloc (.cells #[.slice A1 a.facts.length c1,.slice A2 n c2] tAs)).alloc (.cells #[.slice A3 b.facts.length c3,.slice A4 b.atoms.length c4] tAs)).alloc (.cells #[.slice none 0 0,.slice none 0 0] tAs))=W at k2 k3 k4 hB ⊢
 go_loopw [6] (fun i wr=>∃ k:Nat,k≤N∧i=.int .i64 k∧Hid (frM a b=seekM (frB a b) (N - k) k)∧Blk wr w.heap.size tAs #[.slice A1 a.facts.length c1,.slice A2 n c2]∧Blk wr (w.heap.size+1) tAs #[.slice A3 b.facts.length c3,.slice A4 b.atoms.length c4]∧Blk wr (w.heap.size+1+1) tAs #[.slice none 0 0,.slice none 0 0]∧Hid (Below w.heap.size w wr)) (fun i _=>N - (intOf i).toNat)
 case atStart=>exact ⟨0,Nat.zero_le _,rfl,HM,k2,k3,k4,hB⟩
 case round=>
  clear HM k2 k3 k4 hB
  obtain ⟨k,hk,rfl,HM,k2,k3,k4,hB⟩:=hrel
  (replace qk2:=k2.cell;replace rk2:=k2.frozen;replace lk2:=k2.lt;replace qk3:=k3.cell;replace rk3:=k3.frozen;replace lk3:=k3.lt;replace qk4:=k4.cell;replace rk4:=k4.frozen;replace lk4:=k4.lt)
  by_cases hlt:k<N
  ·have hki:(k:Int)<(N:Int):=by omega
   have HS:Hid (frM a b=if frB a b k then some k else seekM (frB a b) (N - (k+1)) (k+1)):=Lib.hid (by rw[HM.out,seekM_step hlt])
   have HFS:=Lib.hid (frB_spec (a:=a) (b:=b) k)
   clear HM
   go_wp2_with fail
   refine (c_l7Pick _ a k _ (HA.out.below hB.out) (by omega) (by have:=hn.out;omega)).mono ?_
   rintro e w1 ⟨r1,rfl,o1,hB1⟩
   obtain ⟨hp1,hp2⟩:=HPL.out k
   obtain ⟨P,hP⟩:∃ P,P=pickA a k:=⟨_,rfl⟩
   rw[←hP] at o1 HFS hp1 hp2
   replace hP:=Lib.hid hP
   obtain ⟨F1,f1,G1,g1,rfl⟩:=o1.I.form
   have O1:=Lib.hid o1
   have hzr:=hB.out.size
   (replace k2:=k2.next hB1;replace qk2:=k2.cell;replace rk2:=k2.frozen;replace lk2:=k2.lt;replace k3:=k3.next hB1;replace qk3:=k3.cell;replace rk3:=k3.frozen;replace lk3:=k3.lt;replace k4:=k4.next hB1;replace qk4:=k4.cell;replace rk4:=k4.frozen;replace lk4:=k4.lt)
   have HB1:=Lib.hid (bgo hB.out hB1)
   clear hB1 o1 hB
   have k7:=Blk.new w1 tAs #[.slice F1 P.facts.length f1,.slice G1 P.atoms.length g1]
   have hbx:=bbox HB1.out (.cells #[.slice F1 P.facts.length f1,.slice G1 P.atoms.length g1] tAs)
   have k2x:=k2.alloc (.cells #[.slice F1 P.facts.length f1,.slice G1 P.atoms.length g1] tAs)
   have k3x:=k3.alloc (.cells #[.slice F1 P.facts.length f1,.slice G1 P.atoms.length g1] tAs)
   have k4x:=k4.alloc (.cells #[.slice F1 P.facts.length f1,.slice G1 P.atoms.length g1] tAs)
   have O1x:=Lib.hid ((O1.out.below (bbox (Below.refl _ _) (.cells #[.slice F1 P.facts.length f1,.slice G1 P.atoms.length g1] tAs))).lower (base':=w.heap.size) hzr)
   clear O1
   go_upto_region 5 with fail
   generalize (w1.alloc (.cells #[.slice F1 P.facts.length f1,.slice G1 P.atoms.length g1] tAs))=V1 at k7 hbx k2x k3x k4x O1x ⊢
   clear k2 k3 k4 qk2 rk2 lk2 qk3 rk3 lk3 qk4 rk4 lk4
   (replace qk7:=k7.cell;replace rk7:=k7.frozen;replace lk7:=k7.lt;replace qk2x:=k2x.cell;replace rk2x:=k2x.frozen;replace lk2x:=k2x.lt;replace qk3x:=k3x.cell;replace rk3x:=k3x.frozen;replace lk3x:=k3x.lt;replace qk4x:=k4x.cell;replace rk4x:=k4x.frozen;replace lk4x:=k4x.lt)
   have hzV:=hbx.size
   go_wp2_with fail
   refine (c_spec_l3Star _ _ b P _ (HB.out.below hbx) O1x.out.reads (by omega) (by omega)).mono ?_
   rintro e w2 ⟨r2,rfl,o2,hB2⟩
   obtain ⟨C,hC⟩:∃ C,C=starA b P:=⟨_,rfl⟩
   rw[←hC] at o2
   rw[hP.out,←hP.out,←hC] at HFS
   replace hC:=Lib.hid hC
   obtain ⟨F2,f2,G2,g2,rfl⟩:=o2.I.form
   have hC2:=Lib.hid o2.reads
   have O2x:=Lib.hid (O1x.out.below hB2)
   (replace k7:=k7.next hB2;replace k2x:=k2x.next hB2;replace k3x:=k3x.next hB2;replace k4x:=k4x.next hB2)
   have HB2:=Lib.hid (bgo hbx hB2)
   clear hB2 o2 hbx O1x
   have k8:=Blk.new w2 tAs #[.slice F2 C.facts.length f2,.slice G2 C.atoms.length g2]
   have hbx:=bbox HB2.out (.cells #[.slice F2 C.facts.length f2,.slice G2 C.atoms.length g2] tAs)
   replace k7:=k7.alloc (.cells #[.slice F2 C.facts.length f2,.slice G2 C.atoms.length g2] tAs)
   replace k2x:=k2x.alloc (.cells #[.slice F2 C.facts.length f2,.slice G2 C.atoms.length g2] tAs)
   replace k3x:=k3x.alloc (.cells #[.slice F2 C.facts.length f2,.slice G2 C.atoms.length g2] tAs)
   replace k4x:=k4x.alloc (.cells #[.slice F2 C.facts.length f2,.slice G2 C.atoms.length g2] tAs)
   have HC:=Lib.hid ((hC2.out.below (bbox (Below.refl _ _) (.cells #[.slice F2 C.facts.length f2,.slice G2 C.atoms.length g2] tAs))))
   have O1x:=Lib.hid (O2x.out.below (bbox (Below.refl _ _) (.cells #[.slice F2 C.facts.length f2,.slice G2 C.atoms.length g2] tAs)))
   have hzc:w2.heap.size≤(w2.alloc (.cells #[.slice F2 C.facts.length f2,.slice G2 C.atoms.length g2] tAs)).heap.size:=by simp
   obtain ⟨pf,hpf⟩:∃ x,x=V1.heap.size:=⟨_,rfl⟩
   clear hC2 O2x qk7 rk7 lk7 qk2x rk2x lk2x qk3x rk3x lk3x qk4x rk4x lk4x
   go_upto_region 6 with fail
   generalize (w2.alloc (.cells #[.slice F2 C.facts.length f2,.slice G2 C.atoms.length g2] tAs))=V2 at k7 hbx k2x k3x k4x O1x k8 HC hzc ⊢
   (replace qk7:=k7.cell;replace rk7:=k7.frozen;replace lk7:=k7.lt;replace qk2x:=k2x.cell;replace rk2x:=k2x.frozen;replace lk2x:=k2x.lt;replace qk3x:=k3x.cell;replace rk3x:=k3x.frozen;replace lk3x:=k3x.lt;replace qk4x:=k4x.cell;replace rk4x:=k4x.frozen;replace lk4x:=k4x.lt;replace qk8:=k8.cell;replace rk8:=k8.frozen;replace lk8:=k8.lt)
   go_wp2_with fail
   refine (c_spec_AssertionValid _ C _ HC.out).mono ?_
   rintro e w3 ⟨rfl,hB3⟩
   (replace k7:=k7.next hB3;replace qk7:=k7.cell;replace rk7:=k7.frozen;replace lk7:=k7.lt;replace k8:=k8.next hB3;replace qk8:=k8.cell;replace rk8:=k8.frozen;replace lk8:=k8.lt;replace k2x:=k2x.next hB3;replace qk2x:=k2x.cell;replace rk2x:=k2x.frozen;replace lk2x:=k2x.lt;replace k3x:=k3x.next hB3;replace qk3x:=k3x.cell;replace rk3x:=k3x.frozen;replace lk3x:=k3x.lt;replace k4x:=k4x.next hB3;replace qk4x:=k4x.cell;replace rk4x:=k4x.frozen;replace lk4x:=k4x.lt)
   have HB3:=Lib.hid (bgo hbx hB3)
   have HC3:=Lib.hid (HC.out.below hB3)
   have O3:=Lib.hid (O1x.out.below hB3)
   have hz3:=hB3.size
   clear hB3 hbx HC O1x
   cases hcv:C.valid
   ·have HM2:Hid (frM a b=seekM (frB a b) (N - (k+1)) (k+1)):=Lib.hid (by rw[HS.out,HFS.out,hcv];rfl)
    clear hcv HS HFS
    go_wp2_with fail
    go_round
    case rel=>exact ⟨k+1,by omega,by go_num,HM2,k2x,k3x,k4x,HB3⟩
    case measure=>simp[intOf];omega
   ·rw[hcv,Bool.true_and] at HFS
    clear hcv
    go_wp2_with fail
    refine (c_spec_Entails _ _ a C _ (HA.out.below HB3.out) HC3.out).mono ?_
    rintro e w4 ⟨rfl,hB4⟩
    rw[←HFS.out]
    (replace k7:=k7.next hB4;replace qk7:=k7.cell;replace rk7:=k7.frozen;replace lk7:=k7.lt;replace k2x:=k2x.next hB4;replace qk2x:=k2x.cell;replace rk2x:=k2x.frozen;replace lk2x:=k2x.lt;replace k3x:=k3x.next hB4;replace qk3x:=k3x.cell;replace rk3x:=k3x.frozen;replace lk3x:=k3x.lt;replace k4x:=k4x.next hB4;replace qk4x:=k4x.cell;replace rk4x:=k4x.frozen;replace lk4x:=k4x.lt)
    have HB4:=Lib.hid (bgo HB3.out hB4)
    have O4:=Lib.hid (O3.out.below hB4)
    clear hB4 HB3 HC3 O3 k8 qk8 rk8 lk8
    cases hp:frB a b k
    ·have HM2:Hid (frM a b=seekM (frB a b) (N - (k+1)) (k+1)):=Lib.hid (by rw[HS.out,hp];rfl)
     clear hp HS HFS
     go_wp2_with fail
     go_round
     case rel=>exact ⟨k+1,by omega,by go_num,HM2,k2x,k3x,k4x,HB4⟩
     case measure=>simp[intOf];omega
    ·have E:Hid (frameF a b=some P):=Lib.hid (by rw[HF.out,HS.out,hp,if_pos rfl,Option.map_some,←hP.out])
     clear hp HS HFS
     go_wp2_with fail
     refine bodyPost_ret (v:=.tuple #[.agg #[.slice F1 P.facts.length f1,.slice G1 P.atoms.length g1],.bool true]) (by simp[results,Try.results21,go_sem,qk4x,lk4x]) rfl ⟨_,by rw[E.out];rfl,?_,?_⟩
     ·rw[E.out]
      exact AsnO.setW O4.out k4x _ _
     ·exact (HB4.out.setCell (p:=⟨w.heap.size+1+1,0,none⟩) (by simp only;omega) _).setCell (p:=⟨w.heap.size+1+1,1,none⟩) (by simp only;omega) _
  ·obtain rfl:k=N:=by omega
   have E:Hid (frameF a b=none):=Lib.hid (by rw[HF.out,HM.out,Nat.sub_self];rfl)
   have hBw:=hB.out
   go_wp2_with fail
   refine bodyPost_ret (v:=.tuple #[.agg #[.slice none 0 0,.slice none 0 0],.bool false]) (by simp[results,Try.results21,go_sem,qk4,lk4]) rfl ⟨_,by rw[E.out];rfl,by rw[E.out];exact AsnO.zero _ _,bel⟩
set_option maxRecDepth 100000 in
set_option maxHeartbeats 3200000 in
theorem c_spec_FrameOf {lo hi lo' hi':Nat} (v v':Value) (a b:Asn) (w:World) (h:AsnV w lo hi v a) (h':AsnV w lo' hi' v' b) :
  Calls Try.prog 6 #[v,v'] w fun e w'=>∃ r,e=.returned (.tuple #[r,.bool (frameF a b).isSome])∧AsnO w' w.heap.size r ((frameF a b).getD ⟨[],[]⟩)∧Below w.heap.size w w':=by
 have HA:=Lib.hid h
 have HB:=Lib.hid h'
 obtain ⟨A1,c1,A2,c2,rfl,-,-⟩:=h
 obtain ⟨A3,c3,A4,c4,rfl,-,-⟩:=h'
 have H1:=Lib.hid (@frame_none1 a b)
 have H2:=Lib.hid (@frame_none2 a b)
 obtain ⟨k1,k2,k4⟩:=blk3 w tAs tAs tAs #[.slice A1 a.facts.length c1,.slice A2 a.atoms.length c2] #[.slice A3 b.facts.length c3,.slice A4 b.atoms.length c4] #[.slice none 0 0,.slice none 0 0]
 have hB:Below w.heap.size w (((w.alloc (.cells #[.slice A1 a.facts.length c1,.slice A2 a.atoms.length c2] tAs)).alloc (.cells #[.slice A3 b.facts.length c3,.slice A4 b.atoms.length c4] tAs)).alloc (.cells #[.slice none 0 0,.slice none 0 0] tAs)):=bel
 go_enter Try.func6,Try.ntmps6
 go_upto_region 1 with fail
 generalize (((w.alloc (.cells #[.slice A1 a.facts.length c1,.slice A2 a.atoms.length c2] tAs)).alloc (.cells #[.slice A3 b.facts.length c3,.slice A4 b.atoms.length c4] tAs)).alloc (.cells #[.slice none 0 0,.slice none 0 0] tAs))=W at k1 k2 k4 hB ⊢
 (replace qk1:=k1.cell;replace rk1:=k1.frozen;replace lk1:=k1.lt;replace qk2:=k2.cell;replace rk2:=k2.frozen;replace lk2:=k2.lt;replace qk4:=k4.cell;replace rk4:=k4.frozen;replace lk4:=k4.lt)
 go_wp2_with fail
 refine (c_spec_AssertionValid _ a _ (HA.out.below hB)).mono ?_
 rintro e w1 ⟨rfl,hB1⟩
 (replace hB:=bgo hB hB1;replace k1:=k1.next hB1;replace qk1:=k1.cell;replace rk1:=k1.frozen;replace lk1:=k1.lt;replace k2:=k2.next hB1;replace qk2:=k2.cell;replace rk2:=k2.frozen;replace lk2:=k2.lt;replace k4:=k4.next hB1;replace qk4:=k4.cell;replace rk4:=k4.frozen;replace lk4:=k4.lt)
 clear hB1
 cases ha:a.valid
 ·have E:=Lib.hid (H1.out ha)
  clear ha H1 H2
  go_wp2_with fail
  refine bodyPost_ret (v:=.tuple #[.agg #[.slice none 0 0,.slice none 0 0],.bool false]) (by simp[results,Try.results6,go_sem,qk4,lk4]) rfl ⟨_,by rw[E.out];rfl,by rw[E.out];exact AsnO.zero _ _,bel⟩
 have HV:=Lib.hid ha
 clear ha
 go_wp2_with fail
 refine (c_spec_AssertionValid _ b _ (HB.out.below hB)).mono ?_
 rintro e w2 ⟨rfl,hB2⟩
 (replace hB:=bgo hB hB2;replace k1:=k1.next hB2;replace qk1:=k1.cell;replace rk1:=k1.frozen;replace lk1:=k1.lt;replace k2:=k2.next hB2;replace qk2:=k2.cell;replace rk2:=k2.frozen;replace lk2:=k2.lt;replace k4:=k4.next hB2;replace qk4:=k4.cell;replace rk4:=k4.frozen;replace lk4:=k4.lt)
 clear hB2
 cases hb:b.valid
 ·have E:=Lib.hid (H2.out HV.out hb)
  clear hb H1 H2
  go_wp2_with fail
  refine bodyPost_ret (v:=.tuple #[.agg #[.slice none 0 0,.slice none 0 0],.bool false]) (by simp[results,Try.results6,go_sem,qk4,lk4]) rfl ⟨_,by rw[E.out];rfl,by rw[E.out];exact AsnO.zero _ _,bel⟩
 have HV':=Lib.hid hb
 clear hb H1 H2
 have CF:=Lib.hid (c_l7Frame (.agg #[.slice A1 a.facts.length c1,.slice A2 a.atoms.length c2]) (.agg #[.slice A3 b.facts.length c3,.slice A4 b.atoms.length c4]) a b w2 (HA.out.below hB) (HB.out.below hB) HV.out HV'.out)
 obtain ⟨q,hq⟩:∃ q,q=(frameF a b).isSome:=⟨_,rfl⟩
 obtain ⟨R,hR⟩:∃ R,R=(frameF a b).getD ⟨[],[]⟩:=⟨_,rfl⟩
 rw[←hq,←hR] at CF
 replace hq:=Lib.hid hq
 replace hR:=Lib.hid hR
 have hz:=hB.size
 go_wp2_with fail
 refine CF.out.mono ?_
 rintro e w3 ⟨r,rfl,o,hB3⟩
 (replace hB:=bgo hB hB3;replace k4:=k4.next hB3;replace qk4:=k4.cell;replace rk4:=k4.frozen;replace lk4:=k4.lt)
 clear hB3 k1 k2 qk1 rk1 lk1 qk2 rk2 lk2
 obtain ⟨F,f,G,g,rfl⟩:=o.I.form
 have O:=Lib.hid o
 clear o
 go_wp2_with fail
 refine bodyPost_ret (v:=.tuple #[.agg #[.slice F R.facts.length f,.slice G R.atoms.length g],.bool q]) (by simp[results,Try.results6,go_sem,qk4,lk4]) rfl ⟨_,by rw[←hq.out],?_,bel⟩
 rw[←hR.out]
 exact (AsnO.setW O.out k4 _ _).lower (by omega)
end Go.Proofs.Ytjjokmlmknllhaa

/- Contracts: drawing of entailments: l6Without. -/
namespace Go.Proofs.Ytjjokmlmknllhaa
open Go Go.RowKit Go.Proofs
attribute [local go_sem ↓] Go.wp_at_zero Go.wp_at_succ
theorem wp_appFL {o:Oper} {a:Act} {K:Act→World→Prop} {Q:Exit→Act→World→Prop} {w:World} {base lo hi c:Nat} {v:Value} {A:Option Addr} (s x:Operand) (ho:o.op=.call { callee:=.builtin .append,args:=#[s,x],argTypes:=#[23,23] })
  {xs ys:List Fct} (hs:a.eval s=v) (hown:FactsO w base v xs) (hx:a.eval x=.slice A ys.length c) (hR:FactsV w lo hi A ys) (hn:xs.length+ys.length≤1049600) (hb:base≤w.heap.size)
  (h:∀ A' c' w',FactsO w' base (.slice A' (xs++ys).length c') (xs++ys)→w.grownBy w' v.ownBlock→Below base w w'→K (a.put o.dst (.slice A' (xs++ys).length c')) w'):Oper.wp Try.prog o a w K Q:=by
 refine wp_appL s x 23 ho Try.underlying23 infoF rfl (by decide) (by decide) hs hown.1 hx hR.raw (encF_one _) hn hb ?_
 intro v' w' h1 h2 h3
 have hO:FactsO w' base v' (xs++ys):=⟨by rw[List.length_append,show encF (xs++ys)=encF xs++encF ys from List.flatMap_append];exact h1,by simp[Lim];omega⟩
 obtain ⟨A',c',rfl,-⟩:=hO.reads
 exact h A' c' w' hO h2 h3
theorem AtomsO.oneN (w:World) (x:Atm) {base:Nat} (hb:base≤w.heap.size):AtomsO (w.alloc (.cells #[.int .i64 x.kind,.int .i64 x.a,.int .i64 x.b] tA)) base (.slice (some ⟨w.heap.size,0,none⟩) 1 1) [x]:=
 ⟨own_of_blk (Blk.new w _ _) hb rfl (by intro j hj;match j,hj with|0,_=>rfl|1,_=>rfl|2,_=>rfl) (Nat.le_refl _) (by decide) rfl,by simp[Lim]⟩
set_option maxRecDepth 100000 in
set_option maxHeartbeats 3200000 in
theorem c_l6Without {lo hi:Nat} (v:Value) (a:Asn) (i k:Int) (x:Atm) (w:World) (h:AsnV w lo hi v a) (hl1:a.facts.length≤1000) (hl2:a.atoms.length≤1000) :
  Calls Try.prog 57 #[v,.int .i64 i,.int .i64 k,.agg #[.int .i64 x.kind,.int .i64 x.a,.int .i64 x.b]] w fun e w'=>∃ r b,e=.returned r∧AsnO w' w.heap.size r b∧b.facts.length≤a.facts.length∧b.atoms.length≤a.atoms.length+1∧Below w.heap.size w w':=by
 obtain ⟨A1,c1,A2,c2,rfl,h1,h2⟩:=h
 have H1:=Lib.hid h1
 have H2:=Lib.hid h2
 clear h1 h2
 go_enter Try.func57,Try.ntmps57
 have k0:Blk (((w.alloc (.cells #[.slice A1 a.facts.length c1,.slice A2 a.atoms.length c2] tAs)).alloc (.cells #[.int .i64 x.kind,.int .i64 x.a,.int .i64 x.b] tA)).alloc (.cells #[.slice none 0 0,.slice none 0 0] tAs)) w.heap.size tAs #[.slice A1 a.facts.length c1,.slice A2 a.atoms.length c2]:=blks
 have k1:Blk (((w.alloc (.cells #[.slice A1 a.facts.length c1,.slice A2 a.atoms.length c2] tAs)).alloc (.cells #[.int .i64 x.kind,.int .i64 x.a,.int .i64 x.b] tA)).alloc (.cells #[.slice none 0 0,.slice none 0 0] tAs)) (w.heap.size+1) tA #[.int .i64 x.kind,.int .i64 x.a,.int .i64 x.b]:=blks
 have kr:Blk (((w.alloc (.cells #[.slice A1 a.facts.length c1,.slice A2 a.atoms.length c2] tAs)).alloc (.cells #[.int .i64 x.kind,.int .i64 x.a,.int .i64 x.b] tA)).alloc (.cells #[.slice none 0 0,.slice none 0 0] tAs)) (w.heap.size+2) tAs #[.slice none 0 0,.slice none 0 0]:=blks
 have hB:Below w.heap.size w (((w.alloc (.cells #[.slice A1 a.facts.length c1,.slice A2 a.atoms.length c2] tAs)).alloc (.cells #[.int .i64 x.kind,.int .i64 x.a,.int .i64 x.b] tA)).alloc (.cells #[.slice none 0 0,.slice none 0 0] tAs)):=bel
 go_wp2_with fail
 generalize (((w.alloc (.cells #[.slice A1 a.facts.length c1,.slice A2 a.atoms.length c2] tAs)).alloc (.cells #[.int .i64 x.kind,.int .i64 x.a,.int .i64 x.b] tA)).alloc (.cells #[.slice none 0 0,.slice none 0 0] tAs))=W at k0 k1 kr hB ⊢
 refine wp_region_noPanic ?_
 refine wp_region_held_drew (S:=(fun w'=>(∀ i,w'.cell? ⟨w.heap.size,i,none⟩=#[.slice A1 a.facts.length c1,.slice A2 a.atoms.length c2][i]?)∧(∀ i,w'.cell? ⟨w.heap.size+1,i,none⟩=#[.int .i64 x.kind,.int .i64 x.a,.int .i64 x.b][i]?))) (by kernel_rfl) (⟨k0.drew.cell,k1.drew.cell⟩) (fun hHeld=>?_)
 refine tk 1 ?_ rfl (fun w hSw=>?_) hHeld ?_
 rotate_left
 ·((try dsimp only at hSw);go_split_ands;go_simp;(try with_reducible rfl))
 try simp only[Act.put,zA,zB,zC,zD,zE,zF]
 refine tk 2 ?_ rfl (fun w hSw=>?_) hHeld ?_
 rotate_left
 ·((try dsimp only at hSw);go_split_ands;go_simp;(try with_reducible rfl))
 try simp only[Act.put,zA,zB,zC,zD,zE,zF]
 refine tk 4 ?_ rfl (fun w hSw=>?_) hHeld ?_
 rotate_left
 ·((try dsimp only at hSw);go_split_ands;go_simp;(try with_reducible rfl))
 try simp only[Act.put,zA,zB,zC,zD,zE,zF]
 refine wpAnyH_par [0,3,5,6,7] #[true,true,true,true,true,true,true,true,false] 5 (by kernel_rfl) hHeld
  (fun a0 D a1 w'=>Hid (Below w.heap.size w w'∧Blk w' w.heap.size tAs #[.slice A1 a.facts.length c1,.slice A2 a.atoms.length c2]∧Blk w' (w.heap.size+1) tA #[.int .i64 x.kind,.int .i64 x.a,.int .i64 x.b]∧Blk w' (w.heap.size+2) tAs #[.slice none 0 0,.slice none 0 0])∧
   Hid ((dn D 3=true→dn D 0=true)∧(dn D 6=true→dn D 3=true∧dn D 5=true))∧
   ∃ v11 v14 v16 v17 v9,a1=((((a0.put (some 11) v11).put (some 14) v14).put (some 16) v16).put (some 17) v17).put (some 9) v9∧
    Hid (dn D 0=true→dn D 3=false→(∃ g,v11=.slice (some ⟨g,0,none⟩) 0 0)∧FactsO w' w.heap.size v11 [])∧
    Hid (dn D 3=true→(∃ A c,v14=.slice A a.facts.length c)∧FactsO w' w.heap.size v14 a.facts)∧
    Hid (dn D 5=true→(∃ g,v16=.slice (some ⟨g,0,none⟩) 1 1)∧AtomsO w' w.heap.size v16 [x])∧
    Hid (dn D 6=true→v17=.agg #[v14,v16])∧
    Hid (dn D 7=true→∃ g,v9=.pointer (some ⟨g,0,none⟩)∧w.heap.size+2<g∧Blk w' g tAs #[.slice none 0 0,.slice none 0 0])) ?start ?steps ?fin
 case start=>
  refine ⟨⟨hB.drew,k0.drew,k1.drew,kr.drew⟩,⟨fun h=>absurd h (by decide),fun h=>absurd h (by decide)⟩,undef,undef,undef,undef,undef,rfl,fun h=>absurd h (by decide),fun h=>absurd h (by decide),fun h=>absurd h (by decide),fun h=>absurd h (by decide),fun h=>absurd h (by decide)⟩
 case steps=>
  refine ParSteps.cons rfl (fun D a1 w' hu hd hI hS K' hK G hG=>?_) (ParSteps.cons rfl (fun D a1 w' hu hd hI hS K' hK G hG=>?_) (ParSteps.cons rfl (fun D a1 w' hu hd hI hS K' hK G hG=>?_) (ParSteps.cons rfl (fun D a1 w' hu hd hI hS K' hK G hG=>?_) (ParSteps.cons rfl (fun D a1 w' hu hd hI hS K' hK G hG=>?_) ParSteps.nil))))
  ·
   obtain ⟨HW,HC,v11,v14,v16,v17,v9,ha,h0,h3,h5,h6,h7⟩:=hI
   rw[ha] at hG
   clear ha a1
   have u0:=dn_un hu
   have u3:dn D 3=false:=by cases e:dn D 3;rfl;have:=HC.out.1 e;rw[u0] at this;cases this
   have HU:=Lib.hid u3
   have U6:Hid (dn D 6=false):=by show _=_;cases e:dn D 6;rfl;have:=(HC.out.2 e).1;rw[u3] at this;cases this
   clear u0 u3
   refine hG ?_
   clear hG hd
   try simp only[Act.put,List.setIfInBounds_toArray,List.set_cons_zero,List.set_cons_succ]
   go_simp
   have hB2:Below w.heap.size w (w'.alloc (.cells #[] tF)):=HW.out.1.alloc HW.out.1.size _
   have hBw:Below w'.heap.size w' (w'.alloc (.cells #[] tF)):=bbox (Below.refl _ _) _
   refine hK.out _ _ ⟨(HW.out.2.1.alloc _).cell,(HW.out.2.2.1.alloc _).cell⟩ ⟨⟨hB2,HW.out.2.1.alloc _,HW.out.2.2.1.alloc _,HW.out.2.2.2.alloc _⟩,⟨fun h=>?_,fun h=>?_⟩,.slice (some ⟨w'.heap.size,0,none⟩) 0 0,v14,v16,v17,v9,rfl,?_,?_,?_,?_,?_⟩
   ·exact dn_self hu
   ·rw[dn_ne (by decide)] at h;rw[U6.out] at h;cases h
   ·exact fun _ _=>⟨⟨_,rfl⟩,(FactsO.empty w').lower HW.out.1.size⟩
   ·intro h;rw[dn_ne (by decide)] at h;rw[HU.out] at h;cases h
   ·intro h;rw[dn_ne (by decide)] at h;exact ⟨(h5.out h).1,(h5.out h).2.below hBw⟩
   ·intro h;rw[dn_ne (by decide)] at h;rw[U6.out] at h;cases h
   ·intro h;rw[dn_ne (by decide)] at h;obtain ⟨g,e,hg,hk⟩:=h7.out h;exact ⟨g,e,hg,hk.alloc _⟩
  ·
   obtain ⟨HW,HC,v11,v14,v16,v17,v9,ha,h0,h3,h5,h6,h7⟩:=hI
   rw[ha] at hG
   clear ha a1
   have u3:=dn_un hu
   have t0:dn D 0=true:=hd ⟨0,.data⟩ (by simp) (by decide)
   obtain ⟨⟨y,rfl⟩,o⟩:=h0.out t0 u3
   have HO:=Lib.hid o
   have HU:=Lib.hid (And.intro u3 t0)
   have U6:Hid (dn D 6=false):=by show _=_;cases e:dn D 6;rfl;have:=(HC.out.2 e).1;rw[u3] at this;cases this
   clear u3 t0 o h0 hd
   refine hG ?_
   clear hG
   try simp only[Act.put,List.setIfInBounds_toArray,List.set_cons_zero,List.set_cons_succ]
   rw[if_pos (by simp[Region.wanted])]
   refine wp_appFL (base:=w.heap.size) (xs:=[]) (ys:=a.facts) _ _ rfl rfl HO.out rfl (H1.out.below HW.out.1) (by simp;omega) HW.out.1.size ?_
   intro A' c' w2 o2 hg2 hB2
   simp only[List.nil_append] at o2 ⊢
   refine hK.out _ _ ⟨(Blk.grownO (hg:=hg2) HW.out.2.1 HO.out.1 (by decide)).cell,(Blk.grownO (hg:=hg2) HW.out.2.2.1 HO.out.1 (by decide)).cell⟩ ⟨⟨HW.out.1.trans hB2,Blk.grownO (hg:=hg2) HW.out.2.1 HO.out.1 (by decide),Blk.grownO (hg:=hg2) HW.out.2.2.1 HO.out.1 (by decide),Blk.grownO (hg:=hg2) HW.out.2.2.2 HO.out.1 (by decide)⟩,⟨fun h=>?_,fun h=>?_⟩,.slice (some ⟨y,0,none⟩) 0 0,.slice A' a.facts.length c',v16,v17,v9,rfl,?_,?_,?_,?_,?_⟩
   ·rw[dn_ne (by decide)];exact HU.out.2
   ·rw[dn_ne (by decide)] at h;rw[U6.out] at h;cases h
   ·intro _ h;rw[dn_self hu] at h;cases h
   ·exact fun _=>⟨⟨A',c',rfl⟩,o2⟩
   ·intro h;rw[dn_ne (by decide)] at h;exact ⟨(h5.out h).1,AtomsO.grownF (h5.out h).2 HO.out hg2⟩
   ·intro h;rw[dn_ne (by decide)] at h;rw[U6.out] at h;cases h
   ·intro h;rw[dn_ne (by decide)] at h;obtain ⟨g,e,hg,hk⟩:=h7.out h;exact ⟨g,e,hg,Blk.grownO (hg:=hg2) hk HO.out.1 (by decide)⟩
  ·
   obtain ⟨HW,HC,v11,v14,v16,v17,v9,ha,h0,h3,h5,h6,h7⟩:=hI
   rw[ha] at hG
   clear ha a1
   have u5:=dn_un hu
   have U6:Hid (dn D 6=false):=by show _=_;cases e:dn D 6;rfl;have:=(HC.out.2 e).2;rw[u5] at this;cases this
   clear u5
   refine hG ?_
   clear hG hd
   try simp only[Act.put,List.setIfInBounds_toArray,List.set_cons_zero,List.set_cons_succ]
   go_simp
   have hB2:Below w.heap.size w (w'.alloc (.cells #[.int .i64 x.kind,.int .i64 x.a,.int .i64 x.b] tA)):=HW.out.1.alloc HW.out.1.size _
   have hBw:Below w'.heap.size w' (w'.alloc (.cells #[.int .i64 x.kind,.int .i64 x.a,.int .i64 x.b] tA)):=bbox (Below.refl _ _) _
   refine hK.out _ _ ⟨(HW.out.2.1.alloc _).cell,(HW.out.2.2.1.alloc _).cell⟩ ⟨⟨hB2,HW.out.2.1.alloc _,HW.out.2.2.1.alloc _,HW.out.2.2.2.alloc _⟩,⟨fun h=>?_,fun h=>?_⟩,v11,v14,.slice (some ⟨w'.heap.size,0,none⟩) 1 1,v17,v9,rfl,?_,?_,?_,?_,?_⟩
   ·rw[dn_ne (by decide)] at h ⊢;exact HC.out.1 h
   ·rw[dn_ne (by decide)] at h;rw[U6.out] at h;cases h
   ·intro h h';rw[dn_ne (by decide)] at h h';exact ⟨(h0.out h h').1,(h0.out h h').2.below hBw⟩
   ·intro h;rw[dn_ne (by decide)] at h;exact ⟨(h3.out h).1,(h3.out h).2.below hBw⟩
   ·exact fun _=>⟨⟨_,rfl⟩,AtomsO.oneN w' x HW.out.1.size⟩
   ·intro h;rw[dn_ne (by decide)] at h;rw[U6.out] at h;cases h
   ·intro h;rw[dn_ne (by decide)] at h;obtain ⟨g,e,hg,hk⟩:=h7.out h;exact ⟨g,e,hg,hk.alloc _⟩
  ·
   obtain ⟨HW,HC,v11,v14,v16,v17,v9,ha,h0,h3,h5,h6,h7⟩:=hI
   rw[ha] at hG
   clear ha a1
   have t3:dn D 3=true:=hd ⟨3,.data⟩ (by simp) (by decide)
   have t5:dn D 5=true:=hd ⟨5,.data⟩ (by simp) (by decide)
   have HT2:=Lib.hid (And.intro t3 t5)
   obtain ⟨⟨A,c,rfl⟩,o3⟩:=h3.out t3
   obtain ⟨⟨y,rfl⟩,o5⟩:=h5.out t5
   have HO3:=Lib.hid o3
   have HO5:=Lib.hid o5
   clear t3 t5 hd o3 o5 h3 h5
   refine hG ?_
   clear hG
   try simp only[Act.put,List.setIfInBounds_toArray,List.set_cons_zero,List.set_cons_succ]
   go_simp
   refine hK.out _ _ hS ⟨HW.out,⟨fun h=>?_,fun h=>?_⟩,v11,.slice A a.facts.length c,.slice (some ⟨y,0,none⟩) 1 1,.agg #[.slice A a.facts.length c,.slice (some ⟨y,0,none⟩) 1 1],v9,rfl,?_,?_,?_,?_,?_⟩
   ·rw[dn_ne (by decide)] at h ⊢;exact HC.out.1 h
   ·rw[dn_ne (by decide),dn_ne (by decide)];exact HT2.out
   ·intro h h';rw[dn_ne (by decide)] at h h';exact h0.out h h'
   ·exact fun _=>⟨⟨_,_,rfl⟩,HO3.out⟩
   ·exact fun _=>⟨⟨_,rfl⟩,HO5.out⟩
   ·exact fun _=>rfl
   ·intro h;rw[dn_ne (by decide)] at h;exact h7.out h
  ·
   obtain ⟨HW,HC,v11,v14,v16,v17,v9,ha,h0,h3,h5,h6,h7⟩:=hI
   rw[ha] at hG
   clear ha a1
   refine hG ?_
   clear hG hd
   try simp only[Act.put,List.setIfInBounds_toArray,List.set_cons_zero,List.set_cons_succ]
   go_simp
   have hB2:Below w.heap.size w (w'.alloc (.cells #[.slice none 0 0,.slice none 0 0] tAs)):=HW.out.1.alloc HW.out.1.size _
   have hBw:Below w'.heap.size w' (w'.alloc (.cells #[.slice none 0 0,.slice none 0 0] tAs)):=bbox (Below.refl _ _) _
   have hlt:=HW.out.2.2.2.lt
   refine hK.out _ _ ⟨(HW.out.2.1.alloc _).cell,(HW.out.2.2.1.alloc _).cell⟩ ⟨⟨hB2,HW.out.2.1.alloc _,HW.out.2.2.1.alloc _,HW.out.2.2.2.alloc _⟩,⟨fun h=>?_,fun h=>?_⟩,v11,v14,v16,v17,.pointer (some ⟨w'.heap.size,0,none⟩),rfl,?_,?_,?_,?_,?_⟩
   ·rw[dn_ne (by decide)] at h ⊢;exact HC.out.1 h
   ·rw[dn_ne (by decide)] at h;rw[dn_ne (by decide),dn_ne (by decide)];exact HC.out.2 h
   ·intro h h';rw[dn_ne (by decide)] at h h';exact ⟨(h0.out h h').1,(h0.out h h').2.below hBw⟩
   ·intro h;rw[dn_ne (by decide)] at h;exact ⟨(h3.out h).1,(h3.out h).2.below hBw⟩
   ·intro h;rw[dn_ne (by decide)] at h;exact ⟨(h5.out h).1,(h5.out h).2.below hBw⟩
   ·intro h;rw[dn_ne (by decide)] at h;exact h6.out h
   ·exact fun _=>⟨_,rfl,hlt,Blk.new _ _ _⟩
 case fin=>
  rintro a1 w4 hHeld ⟨HW,-,v11,v14,v16,v17,v9,rfl,-,h3,h5,h6,h7⟩
  obtain rfl:=h6.out (by decide)
  obtain ⟨⟨A,c,rfl⟩,o3⟩:=h3.out (by decide)
  obtain ⟨⟨B,rfl⟩,o5⟩:=h5.out (by decide)
  obtain ⟨g,rfl,hg,kg⟩:=h7.out (by decide)
  have HO3:=Lib.hid o3
  have HO5:=Lib.hid o5
  have hBf:=HW.out.1
  have k4:=HW.out.2.1
  have k14:=HW.out.2.2.1
  have kr4:=HW.out.2.2.2
  clear h3 h5 h6 h7 o3 o5 k0 k1 kr hB HW
  try simp only[Act.put,List.setIfInBounds_toArray,List.set_cons_zero,List.set_cons_succ]
  (replace qk4:=k4.cell;replace rk4:=k4.frozen;replace lk4:=k4.lt;replace qkr4:=kr4.cell;replace rkr4:=kr4.frozen;replace lkr4:=kr4.lt;replace qkg:=kg.cell;replace rkg:=kg.frozen;replace lkg:=kg.lt)
  refine rdc 8 rfl fun K hK=>?_
  try simp only[zA,zB,zC]
  go_simp
  refine hK.out _ _ (⟨((k4.far (p:=⟨g,0,none⟩) (by simp only;omega) _).far (p:=⟨g,1,none⟩) (by simp only;omega) _).cell,((k14.far (p:=⟨g,0,none⟩) (by simp only;omega) _).far (p:=⟨g,1,none⟩) (by simp only;omega) _).cell⟩) ?_
  clear hHeld hK K
  intro hHeld
  try simp only[Act.put,zA,zB,zC,zD,zE,zF]
  refine wpAnyH_done (by kernel_rfl) ?_ _
  refine NoPanic.normal ?_
  have kg2:Blk ((w4.setCell ⟨g,0,none⟩ (.slice A a.facts.length c)).setCell ⟨g,1,none⟩ (.slice (some ⟨B,0,none⟩) 1 1)) g tAs #[.slice A a.facts.length c,.slice (some ⟨B,0,none⟩) 1 1]:=by simpa using (kg.set_ 0 (.slice A a.facts.length c)).set_ 1 (.slice (some ⟨B,0,none⟩) 1 1)
  have hB5:Below w.heap.size w ((w4.setCell ⟨g,0,none⟩ (.slice A a.facts.length c)).setCell ⟨g,1,none⟩ (.slice (some ⟨B,0,none⟩) 1 1)):=(hBf.setCell (p:=⟨g,0,none⟩) (by simp only;omega) _).setCell (p:=⟨g,1,none⟩) (by simp only;omega) _
  have k5:=(k4.far (p:=⟨g,0,none⟩) (by simp only;omega) (.slice A a.facts.length c)).far (p:=⟨g,1,none⟩) (by simp only;omega) (.slice (some ⟨B,0,none⟩) 1 1)
  have kr5:=(kr4.far (p:=⟨g,0,none⟩) (by simp only;omega) (.slice A a.facts.length c)).far (p:=⟨g,1,none⟩) (by simp only;omega) (.slice (some ⟨B,0,none⟩) 1 1)
  have HF5:=Lib.hid ((HO3.out.setT kg (by decide) 0 (.slice A a.facts.length c)).setT (kg.set_ 0 _) (by decide) 1 (.slice (some ⟨B,0,none⟩) 1 1))
  have HA5:=Lib.hid ((HO5.out.setT kg (by decide) 0 (.slice A a.facts.length c)).setT (kg.set_ 0 _) (by decide) 1 (.slice (some ⟨B,0,none⟩) 1 1))
  clear HO3 HO5 hBf k4 k14 kr4 kg qk4 rk4 lk4 qkr4 rkr4 lkr4 qkg rkg lkg
  generalize ((w4.setCell ⟨g,0,none⟩ (.slice A a.facts.length c)).setCell ⟨g,1,none⟩ (.slice (some ⟨B,0,none⟩) 1 1))=w5 at kg2 hB5 k5 kr5 HF5 HA5 ⊢
  have HB5:=Lib.hid hB5
  clear hB5
  go_wp2_with fail
  go_loopw [10] (fun n wr=>∃ (j:Nat) (xs:List Atm) (A3:Option Addr) (c3:Nat),j≤a.atoms.length∧n=.int .i64 j∧xs.length≤j+1∧Hid (FactsO wr w.heap.size (.slice A a.facts.length c) a.facts)∧Hid (AtomsO wr w.heap.size (.slice A3 xs.length c3) xs)∧
   Blk wr w.heap.size tAs #[.slice A1 a.facts.length c1,.slice A2 a.atoms.length c2]∧Blk wr (w.heap.size+2) tAs #[.slice none 0 0,.slice none 0 0]∧Blk wr g tAs #[.slice A a.facts.length c,.slice A3 xs.length c3]∧Hid (Below w.heap.size w wr)) (fun n _=>a.atoms.length - (intOf n).toNat)
  case atStart=>exact ⟨0,[x],some ⟨B,0,none⟩,1,Nat.zero_le _,rfl,Nat.le_refl _,HF5.out,HA5.out,k5,kr5,kg2,HB5.out⟩
  case round=>
   clear k5 kr5 kg2 HF5 HA5 HB5
   obtain ⟨j,xs,A3,c3,hj,rfl,hxl,HF,HA,k0,kr,kg,HB⟩:=hrel
   (replace qk0:=k0.cell;replace rk0:=k0.frozen;replace lk0:=k0.lt;replace qkr:=kr.cell;replace rkr:=kr.frozen;replace lkr:=kr.lt;replace qkg:=kg.cell;replace rkg:=kg.frozen;replace lkg:=kg.lt)
   have hsz:=HB.out.size
   by_cases hlt:j<a.atoms.length
   ·have HX:=Lib.hid (H2.out.below HB.out)
    obtain ⟨b,off,rfl,hbl⟩:=HX.out.blt hlt
    have hji:(j:Int)<(a.atoms.length:Int):=by omega
    by_cases e1:(j:Int)=i
    ·have e1':((j:Int) != i)=false:=by simpa using e1
     clear e1
     go_wp2_with fail
     go_round
     case rel=>exact ⟨j+1,xs,A3,c3,by omega,by go_num,by omega,HF,HA,k0,kr,kg,HB⟩
     case measure=>simp[intOf];omega
    ·have e1':((j:Int) != i)=true:=by simpa using e1
     clear e1
     by_cases e2:(j:Int)=k
     ·have e2':((j:Int) != k)=false:=by simpa using e2
      clear e2
      go_wp2_with fail
      go_round
      case rel=>exact ⟨j+1,xs,A3,c3,by omega,by go_num,by omega,HF,HA,k0,kr,kg,HB⟩
      case measure=>simp[intOf];omega
     ·have e2':((j:Int) != k)=true:=by simpa using e2
      clear e2
      go_wp2_with fail
      refine wp_region_noPanic ?_
      refine wp_region_last' (S:=(fun w'=>(∀ i,w'.cell? ⟨g,i,none⟩=#[.slice A a.facts.length c,.slice A3 xs.length c3][i]?)∧(∀ i,w'.cell? ⟨w.heap.size,i,none⟩=#[.slice A1 a.facts.length c1,.slice (some ⟨b,off,none⟩) a.atoms.length c2][i]?)∧w'.cell? ⟨b,off+j * 3,none⟩=some (.int .i64 a.atoms[j].kind)∧w'.cell? ⟨b,off+j * 3+1,none⟩=some (.int .i64 a.atoms[j].a)∧w'.cell? ⟨b,off+j * 3+2,none⟩=some (.int .i64 a.atoms[j].b))) (by simp) (by kernel_rfl) (by kernel_rfl) (⟨Blk.cell blks,Blk.cell blks,(AtomsV.below HX.out bel).cl hlt⟩) (fun hHeld=>?_)
      simp only[List.dropLast,List.getLast,nopOf,List.cons_append,List.nil_append,List.length_cons,List.length_nil,Nat.zero_add,Nat.reduceAdd]
      refine tk 0 ?_ rfl (fun w hSw=>?_) hHeld ?_
      rotate_left
      ·((try dsimp only at hSw);go_split_ands;go_simp;(try with_reducible rfl))
      try simp only[Act.put,zA,zB,zC,zD,zE,zF]
      refine tk 1 ?_ rfl (fun w hSw=>?_) hHeld ?_
      rotate_left
      ·((try dsimp only at hSw);go_split_ands;go_simp;(try with_reducible rfl))
      try simp only[Act.put,zA,zB,zC,zD,zE,zF]
      refine tk 2 ?_ rfl (fun w hSw=>?_) hHeld ?_
      rotate_left
      ·((try dsimp only at hSw);go_split_ands;go_simp;(try with_reducible rfl))
      try simp only[Act.put,zA,zB,zC,zD,zE,zF]
      refine tk 3 ?_ rfl (fun w hSw=>?_) hHeld ?_
      rotate_left
      ·((try dsimp only at hSw);go_split_ands;go_simp;(try with_reducible rfl))
      try simp only[Act.put,zA,zB,zC,zD,zE,zF]
      refine tk 4 ?_ rfl (fun w hSw=>?_) hHeld ?_
      rotate_left
      ·((try dsimp only at hSw);go_split_ands;go_simp;(try with_reducible rfl))
      try simp only[Act.put,zA,zB,zC,zD,zE,zF]
      refine tk 5 ?_ rfl (fun w hSw=>?_) hHeld ?_
      rotate_left
      ·((try dsimp only at hSw);go_split_ands;go_simp;(try with_reducible rfl))
      try simp only[Act.put,zA,zB,zC,zD,zE,zF]
      refine tk 6 ?_ rfl (fun w hSw=>?_) hHeld ?_
      rotate_left
      ·((try dsimp only at hSw);go_split_ands;go_simp;(try with_reducible rfl))
      try simp only[Act.put,zA,zB,zC,zD,zE,zF]
      refine rdc 7 rfl fun K hK=>?_
      try simp only[zA,zB,zC]
      go_simp
      refine hK.out _ _ (⟨Blk.cell blks,Blk.cell blks,(AtomsV.below HX.out bel).cl hlt⟩) ?_
      clear hHeld hK K
      intro hHeld
      try simp only[Act.put,zA,zB,zC,zD,zE,zF]
      have hBX:Below w.heap.size w (wr.alloc (.cells #[.int .i64 a.atoms[j].kind,.int .i64 a.atoms[j].a,.int .i64 a.atoms[j].b] tA)).drew:=(Below.alloc HB.out hsz _).drew
      have HAX:=Lib.hid (HA.out.below (((Below.refl wr.heap.size wr).alloc (Nat.le_refl _) (.cells #[.int .i64 a.atoms[j].kind,.int .i64 a.atoms[j].a,.int .i64 a.atoms[j].b] tA)).drew))
      have HFX:=Lib.hid (HF.out.below (((Below.refl wr.heap.size wr).alloc (Nat.le_refl _) (.cells #[.int .i64 a.atoms[j].kind,.int .i64 a.atoms[j].a,.int .i64 a.atoms[j].b] tA)).drew))
      have kl:=(Blk.new wr tA #[.int .i64 a.atoms[j].kind,.int .i64 a.atoms[j].a,.int .i64 a.atoms[j].b]).drew
      have kgX:=(kg.alloc (.cells #[.int .i64 a.atoms[j].kind,.int .i64 a.atoms[j].a,.int .i64 a.atoms[j].b] tA)).drew
      have k0X:=(k0.alloc (.cells #[.int .i64 a.atoms[j].kind,.int .i64 a.atoms[j].a,.int .i64 a.atoms[j].b] tA)).drew
      have krX:=(kr.alloc (.cells #[.int .i64 a.atoms[j].kind,.int .i64 a.atoms[j].a,.int .i64 a.atoms[j].b] tA)).drew
      clear kg k0 kr HA HF HX qk0 rk0 lk0 qkg rkg lkg qkr rkr lkr
      generalize (wr.alloc (.cells #[.int .i64 a.atoms[j].kind,.int .i64 a.atoms[j].a,.int .i64 a.atoms[j].b] tA)).drew=V at hBX HAX HFX kl kgX k0X krX hHeld ⊢
      have hszV:=hBX.size
      generalize wr.heap.size=L at kl ⊢
      clear hsz hbl HB
      refine rdc 8 rfl fun K hK=>?_
      skip
      (refine stepAL (base:=w.heap.size) (xs:=xs) (ys:=[a.atoms[j]]) rfl _ _ rfl rfl HAX.out rfl (AtomsV.one' kl) (by simp;omega) hszV ?_;intro A' d' w2 of2 hg2 hB3;have z2:=Blk.grownO (hg:=hg2) kgX HAX.out.1 (by decide);have z0:=Blk.grownO (hg:=hg2) k0X HAX.out.1 (by decide);have hBw2:Below w.heap.size w w2:=hBX.trans hB3)
      refine hK.out _ _ (⟨z2.cell,z0.cell,(H2.out.below hBw2).cl hlt⟩) ?_
      clear hHeld hK K
      intro hHeld
      try simp only[Act.put,zA,zB,zC,zD,zE,zF]
      have rz2:=z2.frozen
      have lz2:=z2.lt
      refine tk 9 ?_ rfl (fun w hSw=>?_) hHeld ?_
      rotate_left
      ·((try dsimp only at hSw);go_split_ands;go_simp;(try with_reducible rfl))
      try simp only[Act.put,zA,zB,zC,zD,zE,zF]
      refine rdc 10 rfl fun K hK=>?_
      go_simp
      refine hK.out _ _ (⟨z2.cell,z0.cell,(H2.out.below hBw2).cl hlt⟩) (fun hHeld=>?_)
      clear hK K
      refine wpAnyH_done (by kernel_rfl) ?_ _
      unfold lastQ
      go_simp
      refine NoPanic.normal ?_
      have zr:=Blk.grownO (hg:=hg2) krX HAX.out.1 (by decide)
      go_wp2_with fail
      have of3:=of2.setT z2 (by decide) 1 (.slice A' (xs.length+1) d')
      go_round
      case rel=>exact ⟨j+1,xs++[a.atoms[j]],A',d',by omega,by go_num,by simp;omega,(FactsO.grownA HFX.out HAX.out hg2).setT z2 (by decide) _ _,of3,z0.far (by simp only[];omega) _,zr.far (by simp only[];omega) _,(by have:=z2.set_ 1 (.slice A' (xs.length+1) d');simpa using this),hBw2.setCell (p:=⟨g,1,none⟩) (by simp only;omega) _⟩
      case measure=>simp[intOf];omega
   ·obtain rfl:j=a.atoms.length:=by omega
    have hne:g≠w.heap.size+2:=by omega
    go_wp2_with fail
    refine bodyPost_ret (v:=.agg #[.slice A a.facts.length c,.slice A3 xs.length c3]) (by simp[results,Try.results57,go_sem,qkr]) rfl ⟨_,⟨a.facts,xs⟩,rfl,⟨_,_,rfl,?_,?_⟩,Nat.le_refl _,hxl,?_⟩
    ·exact (HF.out.setT kr (by decide) 0 _).setT (kr.set_ 0 _) (by decide) 1 _
    ·exact (HA.out.setT kr (by decide) 0 _).setT (kr.set_ 0 _) (by decide) 1 _
    ·exact (HB.out.setCell (p:=⟨w.heap.size+2,0,none⟩) (by simp only;omega) _).setCell (p:=⟨w.heap.size+2,1,none⟩) (by simp only;omega) _
end Go.Proofs.Ytjjokmlmknllhaa

/- Contracts: the spec's FoldCells, as far as drawing needs it. -/
namespace Go.Proofs.Ytjjokmlmknllhaa
open Go Go.RowKit Go.Proofs
attribute [local go_sem ↓] Go.wp_at_zero Go.wp_at_succ
set_option maxRecDepth 100000 in
set_option maxHeartbeats 6400000 in
theorem c_FoldCells {lo hi:Nat} (v:Value) (a:Asn) (w:World) (h:AsnV w lo hi v a) :
  Calls Try.prog 37 #[v] w fun e w'=>∃ r b ok,e=.returned (.tuple #[r,.bool ok])∧AsnO w' w.heap.size r b∧b.facts.length≤20∧b.atoms.length≤20∧Below w.heap.size w w':=by
 have hV:=Lib.hid h
 obtain ⟨A1,c1,A2,c2,rfl,h1,h2⟩:=h
 have H2:=Lib.hid h2
 clear h1 h2
 go_enter Try.func37,Try.ntmps37
 obtain ⟨k0,k1⟩:=blk2 w tAs tAs #[.slice A1 a.facts.length c1,.slice A2 a.atoms.length c2] #[.slice none 0 0,.slice none 0 0]
 go_wp2_with fail
 refine (c_spec_AssertionValid _ a _ (hV.out.below bel)).mono ?_
 rintro e w1 ⟨rfl,hB1⟩
 have hB:=bgo (w:=w) bel hB1
 (replace k0:=k0.next hB1;replace qk0:=k0.cell;replace rk0:=k0.frozen;replace lk0:=k0.lt;replace k1:=k1.next hB1;replace qk1:=k1.cell;replace rk1:=k1.frozen;replace lk1:=k1.lt)
 clear hB1
 cases hv:a.valid
 ·clear hv
  go_wp2_with fail
  refine bodyPost_ret (v:=.tuple #[.agg #[.slice none 0 0,.slice none 0 0],.bool false]) (by simp[results,Try.results37,go_sem,qk1]) rfl ⟨_,⟨[],[]⟩,_,rfl,AsnO.zero _ _,by simp,by simp,?_⟩
  exact (hB.setCell (p:=⟨w.heap.size+1,0,none⟩) (by simp only;omega) _).setCell (p:=⟨w.heap.size+1,1,none⟩) (by simp only;omega) _
 have HL:=Lib.hid (valid_len hv)
 clear hv
 have HB:=Lib.hid hB
 clear hB
 go_wp2_with fail
 go_loopw [4] (fun i wr=>∃ n:Nat,n≤a.atoms.length∧i=.int .i64 n∧Blk wr w.heap.size tAs #[.slice A1 a.facts.length c1,.slice A2 a.atoms.length c2]∧Blk wr (w.heap.size+1) tAs #[.slice none 0 0,.slice none 0 0]∧Hid (Below w.heap.size w wr)) (fun i _=>a.atoms.length - (intOf i).toNat)
 case atStart=>exact ⟨0,Nat.zero_le _,rfl,k0,k1,HB⟩
 case round=>
  clear k0 k1 HB qk0 rk0 lk0 qk1 rk1 lk1
  obtain ⟨n,hn,rfl,k0,k1,HB⟩:=hrel
  (replace qk0:=k0.cell;replace rk0:=k0.frozen;replace lk0:=k0.lt;replace qk1:=k1.cell;replace rk1:=k1.frozen;replace lk1:=k1.lt)
  have hal:=HL.out.2
  have hsz:=HB.out.size
  by_cases hln:n<a.atoms.length
  ·have hni:(n:Int)<(a.atoms.length:Int):=by omega
   go_wp2_with fail
   go_loopw [5] (fun k wx=>∃ m:Nat,m≤a.atoms.length∧k=.int .i64 m∧Blk wx w.heap.size tAs #[.slice A1 a.facts.length c1,.slice A2 a.atoms.length c2]∧Blk wx (w.heap.size+1) tAs #[.slice none 0 0,.slice none 0 0]∧Hid (Below w.heap.size w wx)) (fun k _=>a.atoms.length - (intOf k).toNat)
   case atStart=>exact ⟨0,Nat.zero_le _,rfl,k0,k1,HB⟩
   case round=>
    clear k0 k1 HB qk0 rk0 lk0 qk1 rk1 lk1 hsz
    obtain ⟨m,hm,rfl,k0,k1,HB⟩:=hrel
    (replace qk0:=k0.cell;replace rk0:=k0.frozen;replace lk0:=k0.lt;replace qk1:=k1.cell;replace rk1:=k1.frozen;replace lk1:=k1.lt)
    have hsz:=HB.out.size
    by_cases hlm:m<a.atoms.length
    ·have hmi:(m:Int)<(a.atoms.length:Int):=by omega
     have HX:=Lib.hid (H2.out.below HB.out)
     obtain ⟨b,off,rfl,hbl⟩:=HX.out.blt hln
     obtain ⟨g0,g1,g2⟩:=HX.out.cl hln
     obtain ⟨j0,j1,j2⟩:=HX.out.cl hlm
     obtain ⟨z,hz⟩:∃ z,z=a.atoms[n]:=⟨_,rfl⟩
     obtain ⟨y,hy⟩:∃ y,y=a.atoms[m]:=⟨_,rfl⟩
     rw[←hz] at g0 g1 g2
     rw[←hy] at j0 j1 j2
     have HZ:=Lib.hid hz
     have HY:=Lib.hid hy
     clear hz hy HX hbl
     by_cases hnm:n=m
     ·have hnb:((n:Int) == (m:Int))=true:=by simp;omega
      clear hnm
      go_wp2_with fail
      refine wp_region_noPanic ?_
      refine wp_region_held_drew (S:=(fun w'=>∀ i,w'.cell? ⟨w.heap.size,i,none⟩=#[.slice A1 a.facts.length c1,.slice (some ⟨b,off,none⟩) a.atoms.length c2][i]?)) (by kernel_rfl) (Blk.cell blks) (fun hHeld=>?_)
      refine tk 0 ?_ rfl (fun w hSw=>?_) hHeld ?_
      rotate_left
      ·((try dsimp only at hSw);go_split_ands;go_simp;(try with_reducible rfl))
      try simp only[Act.put,zA,zB,zC,zD,zE,zF]
      refine tk 1 ?_ rfl (fun w hSw=>?_) hHeld ?_
      rotate_left
      ·((try dsimp only at hSw);go_split_ands;go_simp;(try with_reducible rfl))
      try simp only[Act.put,zA,zB,zC,zD,zE,zF]
      refine tk 2 ?_ rfl (fun w hSw=>?_) hHeld ?_
      rotate_left
      ·((try dsimp only at hSw);go_split_ands;go_simp;(try with_reducible rfl))
      try simp only[Act.put,zA,zB,zC,zD,zE,zF]
      refine tk 3 ?_ rfl (fun w hSw=>?_) hHeld ?_
      rotate_left
      ·((try dsimp only at hSw);go_split_ands;go_simp;(try with_reducible rfl))
      try simp only[Act.put,zA,zB,zC,zD,zE,zF]
      refine tku 4 rfl hHeld ?_
      try simp only[Act.put,zA,zB,zC,zD,zE,zF]
      refine tku 5 rfl hHeld ?_
      try simp only[Act.put,zA,zB,zC,zD,zE,zF]
      refine tku 6 rfl hHeld ?_
      try simp only[Act.put,zA,zB,zC,zD,zE,zF]
      refine tku 7 rfl hHeld ?_
      try simp only[Act.put,zA,zB,zC,zD,zE,zF]
      refine tku 8 rfl hHeld ?_
      try simp only[Act.put,zA,zB,zC,zD,zE,zF]
      refine tku 9 rfl hHeld ?_
      try simp only[Act.put,zA,zB,zC,zD,zE,zF]
      refine tku 10 rfl hHeld ?_
      try simp only[Act.put,zA,zB,zC,zD,zE,zF]
      refine tku 11 rfl hHeld ?_
      try simp only[Act.put,zA,zB,zC,zD,zE,zF]
      refine tku 12 rfl hHeld ?_
      try simp only[Act.put,zA,zB,zC,zD,zE,zF]
      refine tku 13 rfl hHeld ?_
      try simp only[Act.put,zA,zB,zC,zD,zE,zF]
      refine tku 14 rfl hHeld ?_
      try simp only[Act.put,zA,zB,zC,zD,zE,zF]
      refine tku 15 rfl hHeld ?_
      try simp only[Act.put,zA,zB,zC,zD,zE,zF]
      refine tku 16 rfl hHeld ?_
      try simp only[Act.put,zA,zB,zC,zD,zE,zF]
      refine tk 17 ?_ rfl (fun w hSw=>?_) hHeld ?_
      rotate_left
      ·((try dsimp only at hSw);go_split_ands;go_simp;(try with_reducible rfl))
      try simp only[Act.put,zA,zB,zC,zD,zE,zF]
      refine wpAnyH_done (by kernel_rfl) ?_ _
      refine NoPanic.normal ?_
      have k0':=k0.drew
      have k1':=k1.drew
      have HB':Hid (Below w.heap.size w wr.drew):=HB.out.drew
      go_wp2_with fail
      go_round
      case rel=>exact ⟨m+1,by omega,by go_num,k0',k1',HB'⟩
      case measure=>simp[intOf];omega
     have hnb:((n:Int) == (m:Int))=false:=by simp;omega
     clear hnm
     have hzy:Hid ((z.b != y.a)=false∨(z.b != y.a)=true):=by cases (z.b != y.a);exact Or.inl rfl;exact Or.inr rfl
     go_wp2_with fail
     refine wp_region_noPanic ?_
     refine wp_region_held_drew (S:=(fun w'=>(∀ i,w'.cell? ⟨w.heap.size,i,none⟩=#[.slice A1 a.facts.length c1,.slice (some ⟨b,off,none⟩) a.atoms.length c2][i]?)∧w'.cell? ⟨b,off+n * 3+2,none⟩=some (.int .i64 z.b)∧w'.cell? ⟨b,off+m * 3+1,none⟩=some (.int .i64 y.a))) (by kernel_rfl) (⟨Blk.cell blks,g2,j1⟩) (fun hHeld=>?_)
     refine tk 0 ?_ rfl (fun w hSw=>?_) hHeld ?_
     rotate_left
     ·((try dsimp only at hSw);go_split_ands;go_simp;(try with_reducible rfl))
     try simp only[Act.put,zA,zB,zC,zD,zE,zF]
     refine tk 1 ?_ rfl (fun w hSw=>?_) hHeld ?_
     rotate_left
     ·((try dsimp only at hSw);go_split_ands;go_simp;(try with_reducible rfl))
     try simp only[Act.put,zA,zB,zC,zD,zE,zF]
     refine tk 2 ?_ rfl (fun w hSw=>?_) hHeld ?_
     rotate_left
     ·((try dsimp only at hSw);go_split_ands;go_simp;(try with_reducible rfl))
     try simp only[Act.put,zA,zB,zC,zD,zE,zF]
     refine tk 3 ?_ rfl (fun w hSw=>?_) hHeld ?_
     rotate_left
     ·((try dsimp only at hSw);go_split_ands;go_simp;(try with_reducible rfl))
     try simp only[Act.put,zA,zB,zC,zD,zE,zF]
     refine tk 4 ?_ rfl (fun w hSw=>?_) hHeld ?_
     rotate_left
     ·((try dsimp only at hSw);go_split_ands;go_simp;(try with_reducible rfl))
     try simp only[Act.put,zA,zB,zC,zD,zE,zF]
     refine tk 5 ?_ rfl (fun w hSw=>?_) hHeld ?_
     rotate_left
     ·((try dsimp only at hSw);go_split_ands;go_simp;(try with_reducible rfl))
     try simp only[Act.put,zA,zB,zC,zD,zE,zF]
     refine tk 6 ?_ rfl (fun w hSw=>?_) hHeld ?_
     rotate_left
     ·((try dsimp only at hSw);go_split_ands;go_simp;(try with_reducible rfl))
     try simp only[Act.put,zA,zB,zC,zD,zE,zF]
     refine tk 7 ?_ rfl (fun w hSw=>?_) hHeld ?_
     rotate_left
     ·((try dsimp only at hSw);go_split_ands;go_simp;(try with_reducible rfl))
     try simp only[Act.put,zA,zB,zC,zD,zE,zF]
     refine tk 8 ?_ rfl (fun w hSw=>?_) hHeld ?_
     rotate_left
     ·((try dsimp only at hSw);go_split_ands;go_simp;(try with_reducible rfl))
     try simp only[Act.put,zA,zB,zC,zD,zE,zF]
     refine tk 9 ?_ rfl (fun w hSw=>?_) hHeld ?_
     rotate_left
     ·((try dsimp only at hSw);go_split_ands;go_simp;(try with_reducible rfl))
     try simp only[Act.put,zA,zB,zC,zD,zE,zF]
     refine tk 10 ?_ rfl (fun w hSw=>?_) hHeld ?_
     rotate_left
     ·((try dsimp only at hSw);go_split_ands;go_simp;(try with_reducible rfl))
     try simp only[Act.put,zA,zB,zC,zD,zE,zF]
     refine tk 11 ?_ rfl (fun w hSw=>?_) hHeld ?_
     rotate_left
     ·((try dsimp only at hSw);go_split_ands;go_simp;(try with_reducible rfl))
     try simp only[Act.put,zA,zB,zC,zD,zE,zF]
     refine tk 12 ?_ rfl (fun w hSw=>?_) hHeld ?_
     rotate_left
     ·((try dsimp only at hSw);go_split_ands;go_simp;(try with_reducible rfl))
     try simp only[Act.put,zA,zB,zC,zD,zE,zF]
     refine tk 13 ?_ rfl (fun w hSw=>?_) hHeld ?_
     rotate_left
     ·((try dsimp only at hSw);go_split_ands;go_simp;(try with_reducible rfl))
     try simp only[Act.put,zA,zB,zC,zD,zE,zF]
     refine tk 14 ?_ rfl (fun w hSw=>?_) hHeld ?_
     rotate_left
     ·((try dsimp only at hSw);go_split_ands;go_simp;(try with_reducible rfl))
     try simp only[Act.put,zA,zB,zC,zD,zE,zF]
     refine tk 15 ?_ rfl (fun w hSw=>?_) hHeld ?_
     rotate_left
     ·((try dsimp only at hSw);go_split_ands;go_simp;(try with_reducible rfl))
     try simp only[Act.put,zA,zB,zC,zD,zE,zF]
     refine tk 16 ?_ rfl (fun w hSw=>?_) hHeld ?_
     rotate_left
     ·((try dsimp only at hSw);go_split_ands;go_simp;(try with_reducible rfl))
     try simp only[Act.put,zA,zB,zC,zD,zE,zF]
     refine tk 17 ?_ rfl (fun w hSw=>?_) hHeld ?_
     rotate_left
     ·((try dsimp only at hSw);go_split_ands;go_simp;(try with_reducible rfl))
     try simp only[Act.put,zA,zB,zC,zD,zE,zF]
     refine wpAnyH_done (by kernel_rfl) ?_ _
     refine NoPanic.normal ?_
     have k0':=k0.drew
     have k1':=k1.drew
     have HB':Hid (Below w.heap.size w wr.drew):=HB.out.drew
     rcases hzy.out with hzy|hzy
     case inr=>
      go_wp2_with fail
      go_round
      case rel=>exact ⟨m+1,by omega,by go_num,k0',k1',HB'⟩
      case measure=>simp[intOf];omega
     rw[hzy]
     obtain ⟨W,hW⟩:∃ W,W=wr.drew:=⟨_,rfl⟩
     have g1':W.cell? ⟨b,off+n * 3+1,none⟩=some (.int .i64 z.a):=by rw[hW];exact g1
     have j2':W.cell? ⟨b,off+m * 3+2,none⟩=some (.int .i64 y.b):=by rw[hW];exact j2
     rw[←hW] at k0' k1' HB' ⊢
     clear hzy
     clear hW k0 k1 HB qk0 rk0 lk0 qk1 rk1 lk1 g0 g1 g2 j0 j1 j2 hsz
     have k0:=k0'
     have k1:=k1'
     have HB:=HB'
     clear k0' k1' HB'
     (replace qk0:=k0.cell;replace rk0:=k0.frozen;replace lk0:=k0.lt;replace qk1:=k1.cell;replace rk1:=k1.frozen;replace lk1:=k1.lt)
     have hsz:=HB.out.size
     go_wp2_with fail
     refine wp_region_noPanic ?_
     refine wp_region_held_drew (S:=(fun w'=>(∀ i,w'.cell? ⟨w.heap.size,i,none⟩=#[.slice A1 a.facts.length c1,.slice (some ⟨b,off,none⟩) a.atoms.length c2][i]?)∧w'.cell? ⟨b,off+n * 3+1,none⟩=some (.int .i64 z.a)∧w'.cell? ⟨b,off+m * 3+2,none⟩=some (.int .i64 y.b))) (by kernel_rfl) (⟨Blk.cell blks,g1',j2'⟩) (fun hHeld=>?_)
     refine tk 0 ?_ rfl (fun w hSw=>?_) hHeld ?_
     rotate_left
     ·((try dsimp only at hSw);go_split_ands;go_simp;(try with_reducible rfl))
     try simp only[Act.put,zA,zB,zC,zD,zE,zF]
     refine tk 1 ?_ rfl (fun w hSw=>?_) hHeld ?_
     rotate_left
     ·((try dsimp only at hSw);go_split_ands;go_simp;(try with_reducible rfl))
     try simp only[Act.put,zA,zB,zC,zD,zE,zF]
     refine tk 2 ?_ rfl (fun w hSw=>?_) hHeld ?_
     rotate_left
     ·((try dsimp only at hSw);go_split_ands;go_simp;(try with_reducible rfl))
     try simp only[Act.put,zA,zB,zC,zD,zE,zF]
     refine tk 3 ?_ rfl (fun w hSw=>?_) hHeld ?_
     rotate_left
     ·((try dsimp only at hSw);go_split_ands;go_simp;(try with_reducible rfl))
     try simp only[Act.put,zA,zB,zC,zD,zE,zF]
     refine tk 4 ?_ rfl (fun w hSw=>?_) hHeld ?_
     rotate_left
     ·((try dsimp only at hSw);go_split_ands;go_simp;(try with_reducible rfl))
     try simp only[Act.put,zA,zB,zC,zD,zE,zF]
     refine tk 5 ?_ rfl (fun w hSw=>?_) hHeld ?_
     rotate_left
     ·((try dsimp only at hSw);go_split_ands;go_simp;(try with_reducible rfl))
     try simp only[Act.put,zA,zB,zC,zD,zE,zF]
     refine tk 6 ?_ rfl (fun w hSw=>?_) hHeld ?_
     rotate_left
     ·((try dsimp only at hSw);go_split_ands;go_simp;(try with_reducible rfl))
     try simp only[Act.put,zA,zB,zC,zD,zE,zF]
     refine tk 7 ?_ rfl (fun w hSw=>?_) hHeld ?_
     rotate_left
     ·((try dsimp only at hSw);go_split_ands;go_simp;(try with_reducible rfl))
     try simp only[Act.put,zA,zB,zC,zD,zE,zF]
     refine tk 8 ?_ rfl (fun w hSw=>?_) hHeld ?_
     rotate_left
     ·((try dsimp only at hSw);go_split_ands;go_simp;(try with_reducible rfl))
     try simp only[Act.put,zA,zB,zC,zD,zE,zF]
     refine tk 9 ?_ rfl (fun w hSw=>?_) hHeld ?_
     rotate_left
     ·((try dsimp only at hSw);go_split_ands;go_simp;(try with_reducible rfl))
     try simp only[Act.put,zA,zB,zC,zD,zE,zF]
     refine tk 10 ?_ rfl (fun w hSw=>?_) hHeld ?_
     rotate_left
     ·((try dsimp only at hSw);go_split_ands;go_simp;(try with_reducible rfl))
     try simp only[Act.put,zA,zB,zC,zD,zE,zF]
     refine tk 11 ?_ rfl (fun w hSw=>?_) hHeld ?_
     rotate_left
     ·((try dsimp only at hSw);go_split_ands;go_simp;(try with_reducible rfl))
     try simp only[Act.put,zA,zB,zC,zD,zE,zF]
     refine tk 12 ?_ rfl (fun w hSw=>?_) hHeld ?_
     rotate_left
     ·((try dsimp only at hSw);go_split_ands;go_simp;(try with_reducible rfl))
     try simp only[Act.put,zA,zB,zC,zD,zE,zF]
     refine tk 13 ?_ rfl (fun w hSw=>?_) hHeld ?_
     rotate_left
     ·((try dsimp only at hSw);go_split_ands;go_simp;(try with_reducible rfl))
     try simp only[Act.put,zA,zB,zC,zD,zE,zF]
     refine tk 14 ?_ rfl (fun w hSw=>?_) hHeld ?_
     rotate_left
     ·((try dsimp only at hSw);go_split_ands;go_simp;(try with_reducible rfl))
     try simp only[Act.put,zA,zB,zC,zD,zE,zF]
     refine tk 15 ?_ rfl (fun w hSw=>?_) hHeld ?_
     rotate_left
     ·((try dsimp only at hSw);go_split_ands;go_simp;(try with_reducible rfl))
     try simp only[Act.put,zA,zB,zC,zD,zE,zF]
     refine wpAnyH_par [16,17] #[true,true,true,true,true,true,true,true,true,true,true,true,true,true,true,true,true,true,false] 2 (by kernel_rfl) hHeld
      (fun a0 D a1 w'=>Hid (Below w.heap.size w w'∧Blk w' w.heap.size tAs #[.slice A1 a.facts.length c1,.slice (some ⟨b,off,none⟩) a.atoms.length c2]∧Blk w' (w.heap.size+1) tAs #[.slice none 0 0,.slice none 0 0])∧
       ∃ v59 v6,a1=(a0.put (some 59) v59).put (some 6) v6∧
        Hid (dn D 16=true→∃ (F:Option Addr) (e1:Nat) (G:Option Addr) (e2:Nat) (x:Asn),v59=.agg #[.slice F x.facts.length e1,.slice G x.atoms.length e2]∧FactsO w' w.heap.size (.slice F x.facts.length e1) x.facts∧AtomsO w' w.heap.size (.slice G x.atoms.length e2) x.atoms∧x.facts.length≤20∧x.atoms.length≤20)∧
        Hid (dn D 17=true→∃ g,v6=.pointer (some ⟨g,0,none⟩)∧w.heap.size+1<g∧Blk w' g tAs #[.slice none 0 0,.slice none 0 0])) ?start ?steps ?fin
     case start=>exact ⟨⟨HB.out.drew,k0.drew,k1.drew⟩,u59,u6,rfl,fun h=>absurd h (by decide),fun h=>absurd h (by decide)⟩
     case steps=>
      refine ParSteps.cons rfl (fun D a1 w' hu hd hI hS K' hK G' hG=>?_) (ParSteps.cons rfl (fun D a1 w' hu hd hI hS K' hK G' hG=>?_) ParSteps.nil)
      ·obtain ⟨HW,v59,v6,ha,h16,h17⟩:=hI
       rw[ha] at hG
       clear ha a1
       refine hG ?_
       clear hG hd
       try simp only[Act.put,List.setIfInBounds_toArray,List.set_cons_zero,List.set_cons_succ]
       go_simp
       refine (c_l6Without _ a n m ⟨2,z.a,y.b⟩ _ (hV.out.below HW.out.1) (by have:=HL.out.1;omega) (by have:=HL.out.2;omega)).mono ?_
       rintro e w2 ⟨r,x,rfl,o,hx1,hx2,hB2⟩
       have hsw:=HW.out.1.size
       have o':=o.lower (base':=w.heap.size) hsw
       obtain ⟨fv,av,rfl,of,oa⟩:=o'
       obtain ⟨F,e1,rfl,-⟩:=of.reads
       obtain ⟨G,e2,rfl,-⟩:=oa.reads
       have hBw:=bgo HW.out.1 hB2
       have cz:=(H2.out.below hBw).cl hln
       have cy:=(H2.out.below hBw).cl hlm
       rw[←HZ.out] at cz
       rw[←HY.out] at cy
       refine hK.out _ _ ⟨(HW.out.2.1.next hB2).cell,cz.2.1,cy.2.2⟩ ⟨⟨hBw,HW.out.2.1.next hB2,HW.out.2.2.next hB2⟩,.agg #[.slice F x.facts.length e1,.slice G x.atoms.length e2],v6,rfl,fun _=>⟨F,e1,G,e2,x,rfl,of,oa,by have:=HL.out.1;omega,by have:=HL.out.2;omega⟩,fun h=>?_⟩
       rw[dn_ne (by decide)] at h
       obtain ⟨g,eg,hg,kg⟩:=h17.out h
       exact ⟨g,eg,hg,kg.next hB2⟩
      ·obtain ⟨HW,v59,v6,ha,h16,h17⟩:=hI
       rw[ha] at hG
       clear ha a1
       refine hG ?_
       clear hG hd
       try simp only[Act.put,List.setIfInBounds_toArray,List.set_cons_zero,List.set_cons_succ]
       go_simp
       have hB2:Below w.heap.size w (w'.alloc (.cells #[.slice none 0 0,.slice none 0 0] tAs)):=HW.out.1.alloc HW.out.1.size _
       have hBw:Below w'.heap.size w' (w'.alloc (.cells #[.slice none 0 0,.slice none 0 0] tAs)):=bbox (Below.refl _ _) _
       have cz:=(H2.out.below hB2).cl hln
       have cy:=(H2.out.below hB2).cl hlm
       rw[←HZ.out] at cz
       rw[←HY.out] at cy
       have hlt:=HW.out.2.2.lt
       refine hK.out _ _ ⟨(HW.out.2.1.alloc _).cell,cz.2.1,cy.2.2⟩ ⟨⟨hB2,HW.out.2.1.alloc _,HW.out.2.2.alloc _⟩,v59,.pointer (some ⟨w'.heap.size,0,none⟩),rfl,fun h=>?_,fun _=>⟨_,rfl,hlt,Blk.new _ _ _⟩⟩
       rw[dn_ne (by decide)] at h
       obtain ⟨F,e1,G,e2,x,ev,of,oa,hx1,hx2⟩:=h16.out h
       exact ⟨F,e1,G,e2,x,ev,of.below hBw,oa.below hBw,hx1,hx2⟩
     case fin=>
      rintro a1 w4 hHeld ⟨HW,v59,v6,rfl,h16,h17⟩
      obtain ⟨F,e1,G,e2,x,rfl,of,oa,hx1,hx2⟩:=h16.out (by decide)
      obtain ⟨g,rfl,hg,kg⟩:=h17.out (by decide)
      have O1:=Lib.hid of
      have O2:=Lib.hid oa
      have HBf:=Lib.hid HW.out.1
      have k04:=HW.out.2.1
      have k14:=HW.out.2.2
      clear h16 h17 of oa k0 k1 HB HW qk0 rk0 lk0 qk1 rk1 lk1 hsz
      try simp only[Act.put,List.setIfInBounds_toArray,List.set_cons_zero,List.set_cons_succ]
      (replace qk04:=k04.cell;replace rk04:=k04.frozen;replace lk04:=k04.lt;replace qk14:=k14.cell;replace rk14:=k14.frozen;replace lk14:=k14.lt;replace qkg:=kg.cell;replace rkg:=kg.frozen;replace lkg:=kg.lt)
      have cz:=(H2.out.below HBf.out).cl hln
      have cy:=(H2.out.below HBf.out).cl hlm
      rw[←HZ.out] at cz
      rw[←HY.out] at cy
      obtain ⟨w5,hw5⟩:∃ w5,w5=(w4.setCell ⟨g,0,none⟩ (.slice F x.facts.length e1)).setCell ⟨g,1,none⟩ (.slice G x.atoms.length e2):=⟨_,rfl⟩
      have hlg:=kg.lt
      have hBg:Below g w4 w5:=by rw[hw5];exact (Below.setCell (p:=⟨g,0,none⟩) (Below.refl _ _) (Nat.le_refl _) _).setCell (p:=⟨g,1,none⟩) (Nat.le_refl _) _
      have k05:=k04.below hBg (by omega)
      have k15:=k14.below hBg (by omega)
      have kg5:Blk w5 g tAs #[.slice F x.facts.length e1,.slice G x.atoms.length e2]:=by rw[hw5];simpa using (kg.set_ 0 (.slice F x.facts.length e1)).set_ 1 (.slice G x.atoms.length e2)
      have P1:Hid (FactsO w5 w.heap.size (.slice F x.facts.length e1) x.facts):=by show FactsO _ _ _ _;rw[hw5];exact (O1.out.setT kg (by decide) 0 _).setT (kg.set_ 0 _) (by decide) 1 _
      have P2:Hid (AtomsO w5 w.heap.size (.slice G x.atoms.length e2) x.atoms):=by show AtomsO _ _ _ _;rw[hw5];exact (O2.out.setT kg (by decide) 0 _).setT (kg.set_ 0 _) (by decide) 1 _
      have HB5:Hid (Below w.heap.size w w5):=HBf.out.trans (hBg.mono (by omega))
      have cz5:=(H2.out.below HB5.out).cl hln
      have cy5:=(H2.out.below HB5.out).cl hlm
      rw[←HZ.out] at cz5
      rw[←HY.out] at cy5
      have HK5:Hid ((∀ i,w5.cell? ⟨w.heap.size,i,none⟩=#[.slice A1 a.facts.length c1,.slice (some ⟨b,off,none⟩) a.atoms.length c2][i]?)∧w5.cell? ⟨b,off+n * 3+1,none⟩=some (.int .i64 z.a)∧w5.cell? ⟨b,off+m * 3+2,none⟩=some (.int .i64 y.b)):=⟨k05.cell,cz5.2.1,cy5.2.2⟩
      clear cz5 cy5 cz cy
      refine rdc 18 rfl fun K hK=>?_
      try simp only[zA,zB,zC]
      (go_simp;rw[←hw5])
      refine hK.out _ _ (HK5.out) ?_
      clear hHeld hK K
      intro hHeld
      try simp only[Act.put,zA,zB,zC,zD,zE,zF]
      refine wpAnyH_done (by kernel_rfl) ?_ _
      refine NoPanic.normal ?_
      clear hw5 kg qkg rkg lkg k04 qk04 rk04 lk04 k14 qk14 rk14 lk14 O1 O2 HBf hHeld hBg HK5 hlg
      have HBV:Hid (AsnV w5 0 w5.heap.size (.agg #[.slice F x.facts.length e1,.slice G x.atoms.length e2]) x):=(AsnO.reads ⟨_,_,rfl,P1.out,P2.out⟩).mono (Nat.zero_le _) (Nat.le_refl _)
      (replace qk05:=k05.cell;replace rk05:=k05.frozen;replace lk05:=k05.lt;replace qk15:=k15.cell;replace rk15:=k15.frozen;replace lk15:=k15.lt;replace qkg5:=kg5.cell;replace rkg5:=kg5.frozen;replace lkg5:=kg5.lt)
      go_wp2_with fail
      refine (c_spec_Entails _ _ a x _ (hV.out.below HB5.out) HBV.out).mono ?_
      rintro e w6 ⟨rfl,hB6⟩
      have HB6:=Lib.hid (bgo HB5.out hB6)
      have Q1:=Lib.hid (P1.out.below hB6)
      have Q2:=Lib.hid (P2.out.below hB6)
      have k06:=k05.next hB6
      have k16:=k15.next hB6
      have kg6:=kg5.next hB6
      clear hB6 HB5 P1 P2 k05 k15 kg5 qk05 rk05 lk05 qk15 rk15 lk15 qkg5 rkg5 lkg5 HBV
      (replace qk16:=k16.cell;replace rk16:=k16.frozen;replace lk16:=k16.lt;replace qkg6:=kg6.cell;replace rkg6:=kg6.frozen;replace lkg6:=kg6.lt)
      cases hent:entF a x
      ·clear hent
       go_wp2_with fail
       go_round
       case rel=>exact ⟨m+1,by omega,by go_num,k06,k16,HB6⟩
       case measure=>simp[intOf];omega
      ·clear hent
       have hgn:g≠w.heap.size+1:=by omega
       go_wp2_with fail
       refine bodyPost_ret (v:=.tuple #[.agg #[.slice F x.facts.length e1,.slice G x.atoms.length e2],.bool true]) (by simp[results,Try.results37,go_sem,qk16]) rfl ⟨_,x,_,rfl,⟨_,_,rfl,?_,?_⟩,hx1,hx2,?_⟩
       ·exact (Q1.out.setT k16 (by decide) 0 _).setT (k16.set_ 0 _) (by decide) 1 _
       ·exact (Q2.out.setT k16 (by decide) 0 _).setT (k16.set_ 0 _) (by decide) 1 _
       ·exact (HB6.out.setCell (p:=⟨w.heap.size+1,0,none⟩) (by simp only;omega) _).setCell (p:=⟨w.heap.size+1,1,none⟩) (by simp only;omega) _
    ·obtain rfl:m=a.atoms.length:=by omega
     go_wp2_with fail
     go_round
     case rel=>exact ⟨n+1,by omega,by go_num,k0,k1,HB⟩
     case measure=>simp[intOf];omega
  ·obtain rfl:n=a.atoms.length:=by omega
   have hB:=HB.out
   go_wp2_with fail
   refine bodyPost_ret (v:=.tuple #[.agg #[.slice none 0 0,.slice none 0 0],.bool false]) (by simp[results,Try.results37,go_sem,qk1]) rfl ⟨_,⟨[],[]⟩,_,rfl,AsnO.zero _ _,by simp,by simp,?_⟩
   exact (hB.setCell (p:=⟨w.heap.size+1,0,none⟩) (by simp only;omega) _).setCell (p:=⟨w.heap.size+1,1,none⟩) (by simp only;omega) _
end Go.Proofs.Ytjjokmlmknllhaa
