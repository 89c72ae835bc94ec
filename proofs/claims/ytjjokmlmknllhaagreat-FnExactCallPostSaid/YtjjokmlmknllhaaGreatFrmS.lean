/- Frames: spec. -/
import Derived.Test.YtjjokmlmknllhaaGreatMFrmI
import Derived.Test.YtjjokmlmknllhaaGreatMImpS
import Derived.Test.YtjjokmlmknllhaaGreatMCmdA
import Derived.Test.YtjjokmlmknllhaaGreatMCmd
set_option linter.unusedSimpArgs false
set_option linter.unusedVariables false
namespace Go.Proofs.YtjjokmlmknllhaaGreat
open Go Go.RowKit Go.Proofs
attribute [local go_sem ↓] Go.wp_at_zero Go.wp_at_succ
set_option maxRecDepth 100000 in
set_option maxHeartbeats 3200000 in
theorem c_l7Pick {lo hi:Nat} (v:Value) (a:Asn) (m:Nat) (w:World) (h:AsnV w lo hi v a) (hm:m≤1000000) (hla:a.atoms.length≤60) :
  Calls Tryz.prog 120 #[v,.int .i64 m] w fun e w'=>∃ r,e=.returned r∧AsnO w' w.heap.size r (pickA a m)∧Below w.heap.size w w':=by
 obtain ⟨A1,c1,A2,c2,rfl,-,h2⟩:=h
 have H2:=Lib.hid h2
 have hl:=h2.le
 clear h2
 go_enter Tryz.func120,Tryz.ntmps120
 obtain ⟨k0,kr,kg⟩:=blk3 w tAs tAs tAs #[.slice A1 a.facts.length c1,.slice A2 a.atoms.length c2] #[.slice none 0 0,.slice none 0 0] #[.slice none 0 0,.slice none 0 0]
 have HB:Hid (Below w.heap.size w (((w.alloc (.cells #[.slice A1 a.facts.length c1,.slice A2 a.atoms.length c2] tAs)).alloc (.cells #[.slice none 0 0,.slice none 0 0] tAs)).alloc (.cells #[.slice none 0 0,.slice none 0 0] tAs))):=Lib.hid bel
 go_wp2_with fail
 generalize (((w.alloc (.cells #[.slice A1 a.facts.length c1,.slice A2 a.atoms.length c2] tAs)).alloc (.cells #[.slice none 0 0,.slice none 0 0] tAs)).alloc (.cells #[.slice none 0 0,.slice none 0 0] tAs))=W at k0 kr kg HB ⊢
 go_loopw [6] (fun i wr=>∃ (j:Nat) (xs:List Atm) (A3:Option Addr) (c3:Nat),j≤a.atoms.length∧i=.int .i64 j∧Hid (xs=maskA m 0 (a.atoms.take j))∧xs.length≤j∧Hid (AtomsO wr w.heap.size (.slice A3 xs.length c3) xs)∧Blk wr w.heap.size tAs #[.slice A1 a.facts.length c1,.slice A2 a.atoms.length c2]∧Blk wr (w.heap.size+1) tAs #[.slice none 0 0,.slice none 0 0]∧Blk wr (w.heap.size+1+1) tAs #[.slice none 0 0,.slice A3 xs.length c3]∧Hid (Below w.heap.size w wr)) (fun i _=>a.atoms.length - (intOf i).toNat)
 case atStart=>exact ⟨0,[],none,0,Nat.zero_le _,rfl,by simp[Hid,maskA],Nat.le_refl _,AtomsO.nil _ _,k0,kr,kg,HB⟩
 case round=>
  clear k0 kr kg HB
  obtain ⟨j,xs,A3,c3,hj,rfl,HXS,hxl,HA,k0,kr,kg,HB⟩:=hrel
  (replace qk0:=k0.cell;replace rk0:=k0.frozen;replace lk0:=k0.lt;replace qkr:=kr.cell;replace rkr:=kr.frozen;replace lkr:=kr.lt;replace qkg:=kg.cell;replace rkg:=kg.frozen;replace lkg:=kg.lt)
  have hsz:=HB.out.size
  by_cases hlt:j<a.atoms.length
  ·have HX:=Lib.hid (H2.out.below HB.out)
   obtain ⟨b,off,rfl,hbl⟩:=HX.out.blt hlt
   have hji:(j:Int)<(a.atoms.length:Int):=by omega
   have HS:=Lib.hid (maskA_snoc m a.atoms j hlt)
   have hbit:=bit_at m j (by omega)
   have hk64:min j 64=j:=by omega
   cases hb:m.testBit j
   ·rw[hb] at hbit
    have HXN:Hid (xs=maskA m 0 (a.atoms.take (j+1))):=Lib.hid (by rw[HS.out,hb,←HXS.out];simp)
    clear hb HS
    go_wp2_with fail
    go_round
    case rel=>exact ⟨j+1,xs,A3,c3,by omega,by go_num,HXN,by omega,HA,k0,kr,kg,HB⟩
    case measure=>simp[intOf];omega
   ·rw[hb] at hbit
    have HXN:Hid (xs++[a.atoms[j]]=maskA m 0 (a.atoms.take (j+1))):=Lib.hid (by rw[HS.out,hb,←HXS.out];simp)
    clear hb HS
    go_wp2_with fail
    refine wp_region_noPanic ?_
    refine wp_region_last' (S:=(fun w'=>(∀ i,w'.cell? ⟨w.heap.size+1+1,i,none⟩=#[.slice none 0 0,.slice A3 xs.length c3][i]?)∧(∀ i,w'.cell? ⟨w.heap.size,i,none⟩=#[.slice A1 a.facts.length c1,.slice (some ⟨b,off,none⟩) a.atoms.length c2][i]?)∧w'.cell? ⟨b,off+j * 3,none⟩=some (.int .i64 a.atoms[j].kind)∧w'.cell? ⟨b,off+j * 3+1,none⟩=some (.int .i64 a.atoms[j].a)∧w'.cell? ⟨b,off+j * 3+2,none⟩=some (.int .i64 a.atoms[j].b))) (by simp) (by kernel_rfl) (by kernel_rfl) (⟨Blk.cell blks,Blk.cell blks,(AtomsV.below HX.out bel).cl hlt⟩) (fun hHeld=>?_)
    simp only[List.dropLast,List.getLast,nopOf,List.cons_append,List.nil_append,List.length_cons,List.length_nil,Nat.zero_add,Nat.reduceAdd]
    refine tk 0 ?_ rfl (fun w hSw=>?_) hHeld ?_
    rotate_left
    ·((try dsimp only at hSw);go_split_ands;go_simp;(try with_reducible rfl))
    try simp only[Act.put,zA,zB,zC,zD,zE,zF]
    refine tk 1 ?_ rfl (fun w hSw=>?_) hHeld ?_
    rotate_left
    ·((try dsimp only at hSw);go_split_ands;go_simp;(try with_reducible rfl))
    try simp only[Act.put,zA,zB,zC,zD,zE,zF]
    refine tk 2 ?_ rfl (fun w hSw=>?_) hHeld ?_
    rotate_left
    ·((try dsimp only at hSw);go_split_ands;go_simp;(try with_reducible rfl))
    try simp only[Act.put,zA,zB,zC,zD,zE,zF]
    refine tk 3 ?_ rfl (fun w hSw=>?_) hHeld ?_
    rotate_left
    ·((try dsimp only at hSw);go_split_ands;go_simp;(try with_reducible rfl))
    try simp only[Act.put,zA,zB,zC,zD,zE,zF]
    refine tk 4 ?_ rfl (fun w hSw=>?_) hHeld ?_
    rotate_left
    ·((try dsimp only at hSw);go_split_ands;go_simp;(try with_reducible rfl))
    try simp only[Act.put,zA,zB,zC,zD,zE,zF]
    refine tk 5 ?_ rfl (fun w hSw=>?_) hHeld ?_
    rotate_left
    ·((try dsimp only at hSw);go_split_ands;go_simp;(try with_reducible rfl))
    try simp only[Act.put,zA,zB,zC,zD,zE,zF]
    refine tk 6 ?_ rfl (fun w hSw=>?_) hHeld ?_
    rotate_left
    ·((try dsimp only at hSw);go_split_ands;go_simp;(try with_reducible rfl))
    try simp only[Act.put,zA,zB,zC,zD,zE,zF]
    refine rdc 7 rfl fun K hK=>?_
    try simp only[zA,zB,zC]
    go_simp
    refine hK.out _ _ (⟨Blk.cell blks,Blk.cell blks,(AtomsV.below HX.out bel).cl hlt⟩) ?_
    clear hHeld hK K
    intro hHeld
    try simp only[Act.put,zA,zB,zC,zD,zE,zF]
    have hBX:Below w.heap.size w (wr.alloc (.cells #[.int .i64 a.atoms[j].kind,.int .i64 a.atoms[j].a,.int .i64 a.atoms[j].b] tA)).drew:=(Below.alloc HB.out hsz _).drew
    have HAX:=Lib.hid (HA.out.below (((Below.refl wr.heap.size wr).alloc (Nat.le_refl _) (.cells #[.int .i64 a.atoms[j].kind,.int .i64 a.atoms[j].a,.int .i64 a.atoms[j].b] tA)).drew))
    have kl:=(Blk.new wr tA #[.int .i64 a.atoms[j].kind,.int .i64 a.atoms[j].a,.int .i64 a.atoms[j].b]).drew
    have kgX:=(kg.alloc (.cells #[.int .i64 a.atoms[j].kind,.int .i64 a.atoms[j].a,.int .i64 a.atoms[j].b] tA)).drew
    have k0X:=(k0.alloc (.cells #[.int .i64 a.atoms[j].kind,.int .i64 a.atoms[j].a,.int .i64 a.atoms[j].b] tA)).drew
    have krX:=(kr.alloc (.cells #[.int .i64 a.atoms[j].kind,.int .i64 a.atoms[j].a,.int .i64 a.atoms[j].b] tA)).drew
    clear kg k0 kr HA HX qk0 rk0 lk0 qkg rkg lkg qkr rkr lkr
    generalize (wr.alloc (.cells #[.int .i64 a.atoms[j].kind,.int .i64 a.atoms[j].a,.int .i64 a.atoms[j].b] tA)).drew=V at hBX HAX kl kgX k0X krX hHeld ⊢
    have hszV:=hBX.size
    generalize wr.heap.size=L at kl ⊢
    clear hsz hbl HB
    refine rdc 8 rfl fun K hK=>?_
    skip
    (refine stepAL (base:=w.heap.size) (xs:=xs) (ys:=[a.atoms[j]]) rfl _ _ rfl rfl HAX.out rfl (AtomsV.one' kl) (by simp;omega) hszV ?_;intro A' d' w2 of2 hg2 hB3;have z2:=Blk.grownO (hg:=hg2) kgX HAX.out.1 (by decide);have z0:=Blk.grownO (hg:=hg2) k0X HAX.out.1 (by decide);have hBw2:Below w.heap.size w w2:=hBX.trans hB3)
    refine hK.out _ _ (⟨z2.cell,z0.cell,(H2.out.below hBw2).cl hlt⟩) ?_
    clear hHeld hK K
    intro hHeld
    try simp only[Act.put,zA,zB,zC,zD,zE,zF]
    have rz2:=z2.frozen
    have lz2:=z2.lt
    refine tk 9 ?_ rfl (fun w hSw=>?_) hHeld ?_
    rotate_left
    ·((try dsimp only at hSw);go_split_ands;go_simp;(try with_reducible rfl))
    try simp only[Act.put,zA,zB,zC,zD,zE,zF]
    refine rdc 10 rfl fun K hK=>?_
    go_simp
    refine hK.out _ _ (⟨z2.cell,z0.cell,(H2.out.below hBw2).cl hlt⟩) (fun hHeld=>?_)
    clear hK K
    refine wpAnyH_done (by kernel_rfl) ?_ _
    unfold lastQ
    go_simp
    refine NoPanic.normal ?_
    have zr:=Blk.grownO (hg:=hg2) krX HAX.out.1 (by decide)
    go_wp2_with fail
    have of3:=of2.setT z2 (by decide) 1 (.slice A' (xs.length+1) d')
    go_round
    case rel=>exact ⟨j+1,xs++[a.atoms[j]],A',d',by omega,by go_num,HXN,by simp;omega,(by simpa using of3:AtomsO _ _ _ _),z0.far (by simp only[];omega) _,zr.far (by simp only[];omega) _,(by have:=z2.set_ 1 (.slice A' (xs.length+1) d');simpa using this),hBw2.setCell (p:=⟨w.heap.size+1+1,1,none⟩) (by simp only;omega) _⟩
    case measure=>simp[intOf];omega
  ·obtain rfl:j=a.atoms.length:=by omega
   have hacc:xs=maskA m 0 a.atoms:=by have:=HXS.out;rwa [List.take_length] at this
   subst hacc
   go_wp2_with fail
   refine bodyPost_ret (v:=.agg #[.slice none 0 0,.slice A3 (maskA m 0 a.atoms).length c3]) (by simp[results,Tryz.results120,go_sem,qkr]) rfl ⟨_,rfl,⟨_,_,rfl,FactsO.nil _ _,?_⟩,?_⟩
   ·exact (HA.out.setT kr (by decide) 0 _).setT (kr.set_ 0 _) (by decide) 1 _
   ·exact (HB.out.setCell (p:=⟨w.heap.size+1,0,none⟩) (by simp only;omega) _).setCell (p:=⟨w.heap.size+1,1,none⟩) (by simp only;omega) _
set_option maxRecDepth 100000 in
set_option maxHeartbeats 3200000 in
theorem c_l7Frame {lo hi lo' hi':Nat} (v v':Value) (a b:Asn) (w:World) (h:AsnV w lo hi v a) (h':AsnV w lo' hi' v' b) (hv:a.valid=true) (hv':b.valid=true) :
  Calls Tryz.prog 54 #[v,v'] w fun e w'=>∃ r,e=.returned (.tuple #[r,.bool (frameF a b).isSome])∧AsnO w' w.heap.size r ((frameF a b).getD ⟨[],[]⟩)∧Below w.heap.size w w':=by
 have HA:=Lib.hid h
 have HB:=Lib.hid h'
 have hla:=(valid_len hv)
 have hlb:=(valid_len hv')
 have HF:=Lib.hid (frame_map hv hv')
 obtain ⟨A1,c1,A2,c2,rfl,-,-⟩:=h
 obtain ⟨A3,c3,A4,c4,rfl,-,-⟩:=h'
 obtain ⟨n,hn⟩:∃ n,n=a.atoms.length:=⟨_,rfl⟩
 obtain ⟨N,hN⟩:∃ N:Nat,N=2 ^ n:=⟨_,rfl⟩
 have hN64:N≤64:=by rw[hN];exact Nat.pow_le_pow_right (n:=2) (by decide) (show n≤6 by omega)
 have HM:Hid (frM a b=seekM (frB a b) (N - 0) 0):=Lib.hid (by rw[hN,hn];rfl)
 have hp:(2:Int) ^ n=(N:Int):=by rw[hN];simp
 have hn64:min n 64=n:=by omega
 rw[←hn] at hla ⊢
 have hPL:∀ m,(pickA a m).facts.length≤12∧(pickA a m).atoms.length≤n:=fun m=>⟨Nat.zero_le _,by rw[hn];exact maskA_len m _ 0⟩
 have HPL:=Lib.hid hPL
 replace hN:=Lib.hid hN
 clear hv hv' hPL
 go_enter Tryz.func54,Tryz.ntmps54
 obtain ⟨k2,k3,k4⟩:=blk3 w tAs tAs tAs #[.slice A1 a.facts.length c1,.slice A2 n c2] #[.slice A3 b.facts.length c3,.slice A4 b.atoms.length c4] #[.slice none 0 0,.slice none 0 0]
 have hB:Hid (Below w.heap.size w (((w.alloc (.cells #[.slice A1 a.facts.length c1,.slice A2 n c2] tAs)).alloc (.cells #[.slice A3 b.facts.length c3,.slice A4 b.atoms.length c4] tAs)).alloc (.cells #[.slice none 0 0,.slice none 0 0] tAs))):=Lib.hid bel
 rw[←hn] at HA
 replace hn:=Lib.hid hn
 go_wp2_with fail
 generalize (((w.alloc (.cells #[.slice A1 a.facts.length c1,.slice A2 n c2] tAs)).alloc (.cells #[.slice A3 b.facts.length c3,.slice A4 b.atoms.length c4] tAs)).alloc (.cells #[.slice none 0 0,.slice none 0 0] tAs))=W at k2 k3 k4 hB ⊢
 go_loopw [6] (fun i wr=>∃ k:Nat,k≤N∧i=.int .i64 k∧Hid (frM a b=seekM (frB a b) (N - k) k)∧Blk wr w.heap.size tAs #[.slice A1 a.facts.length c1,.slice A2 n c2]∧Blk wr (w.heap.size+1) tAs #[.slice A3 b.facts.length c3,.slice A4 b.atoms.length c4]∧Blk wr (w.heap.size+1+1) tAs #[.slice none 0 0,.slice none 0 0]∧Hid (Below w.heap.size w wr)) (fun i _=>N - (intOf i).toNat)
 case atStart=>exact ⟨0,Nat.zero_le _,rfl,HM,k2,k3,k4,hB⟩
 case round=>
  clear HM k2 k3 k4 hB
  obtain ⟨k,hk,rfl,HM,k2,k3,k4,hB⟩:=hrel
  (replace qk2:=k2.cell;replace rk2:=k2.frozen;replace lk2:=k2.lt;replace qk3:=k3.cell;replace rk3:=k3.frozen;replace lk3:=k3.lt;replace qk4:=k4.cell;replace rk4:=k4.frozen;replace lk4:=k4.lt)
  by_cases hlt:k<N
  ·have hki:(k:Int)<(N:Int):=by omega
   have HS:Hid (frM a b=if frB a b k then some k else seekM (frB a b) (N - (k+1)) (k+1)):=Lib.hid (by rw[HM.out,seekM_step hlt])
   have HFS:=Lib.hid (frB_spec (a:=a) (b:=b) k)
   clear HM
   go_wp2_with fail
   refine (c_l7Pick _ a k _ (HA.out.below hB.out) (by omega) (by have:=hn.out;omega)).mono ?_
   rintro e w1 ⟨r1,rfl,o1,hB1⟩
   obtain ⟨hp1,hp2⟩:=HPL.out k
   obtain ⟨P,hP⟩:∃ P,P=pickA a k:=⟨_,rfl⟩
   rw[←hP] at o1 HFS hp1 hp2
   replace hP:=Lib.hid hP
   obtain ⟨F1,f1,G1,g1,rfl⟩:=o1.I.form
   have O1:=Lib.hid o1
   have hzr:=hB.out.size
   (replace k2:=k2.next hB1;replace qk2:=k2.cell;replace rk2:=k2.frozen;replace lk2:=k2.lt;replace k3:=k3.next hB1;replace qk3:=k3.cell;replace rk3:=k3.frozen;replace lk3:=k3.lt;replace k4:=k4.next hB1;replace qk4:=k4.cell;replace rk4:=k4.frozen;replace lk4:=k4.lt)
   have HB1:=Lib.hid (bgo hB.out hB1)
   clear hB1 o1 hB
   have k7:=Blk.new w1 tAs #[.slice F1 P.facts.length f1,.slice G1 P.atoms.length g1]
   have hbx:=bbox HB1.out (.cells #[.slice F1 P.facts.length f1,.slice G1 P.atoms.length g1] tAs)
   have k2x:=k2.alloc (.cells #[.slice F1 P.facts.length f1,.slice G1 P.atoms.length g1] tAs)
   have k3x:=k3.alloc (.cells #[.slice F1 P.facts.length f1,.slice G1 P.atoms.length g1] tAs)
   have k4x:=k4.alloc (.cells #[.slice F1 P.facts.length f1,.slice G1 P.atoms.length g1] tAs)
   have O1x:=Lib.hid ((O1.out.below (bbox (Below.refl _ _) (.cells #[.slice F1 P.facts.length f1,.slice G1 P.atoms.length g1] tAs))).lower (base':=w.heap.size) hzr)
   clear O1
   go_upto_region 5 with fail
   generalize (w1.alloc (.cells #[.slice F1 P.facts.length f1,.slice G1 P.atoms.length g1] tAs))=V1 at k7 hbx k2x k3x k4x O1x ⊢
   clear k2 k3 k4 qk2 rk2 lk2 qk3 rk3 lk3 qk4 rk4 lk4
   (replace qk7:=k7.cell;replace rk7:=k7.frozen;replace lk7:=k7.lt;replace qk2x:=k2x.cell;replace rk2x:=k2x.frozen;replace lk2x:=k2x.lt;replace qk3x:=k3x.cell;replace rk3x:=k3x.frozen;replace lk3x:=k3x.lt;replace qk4x:=k4x.cell;replace rk4x:=k4x.frozen;replace lk4x:=k4x.lt)
   have hzV:=hbx.size
   go_wp2_with fail
   refine (c_spec_l3Star _ _ b P _ (HB.out.below hbx) O1x.out.reads (by omega) (by omega)).mono ?_
   rintro e w2 ⟨r2,rfl,o2,hB2⟩
   obtain ⟨C,hC⟩:∃ C,C=starA b P:=⟨_,rfl⟩
   rw[←hC] at o2
   rw[hP.out,←hP.out,←hC] at HFS
   replace hC:=Lib.hid hC
   obtain ⟨F2,f2,G2,g2,rfl⟩:=o2.I.form
   have hC2:=Lib.hid o2.reads
   have O2x:=Lib.hid (O1x.out.below hB2)
   (replace k7:=k7.next hB2;replace k2x:=k2x.next hB2;replace k3x:=k3x.next hB2;replace k4x:=k4x.next hB2)
   have HB2:=Lib.hid (bgo hbx hB2)
   clear hB2 o2 hbx O1x
   have k8:=Blk.new w2 tAs #[.slice F2 C.facts.length f2,.slice G2 C.atoms.length g2]
   have hbx:=bbox HB2.out (.cells #[.slice F2 C.facts.length f2,.slice G2 C.atoms.length g2] tAs)
   replace k7:=k7.alloc (.cells #[.slice F2 C.facts.length f2,.slice G2 C.atoms.length g2] tAs)
   replace k2x:=k2x.alloc (.cells #[.slice F2 C.facts.length f2,.slice G2 C.atoms.length g2] tAs)
   replace k3x:=k3x.alloc (.cells #[.slice F2 C.facts.length f2,.slice G2 C.atoms.length g2] tAs)
   replace k4x:=k4x.alloc (.cells #[.slice F2 C.facts.length f2,.slice G2 C.atoms.length g2] tAs)
   have HC:=Lib.hid ((hC2.out.below (bbox (Below.refl _ _) (.cells #[.slice F2 C.facts.length f2,.slice G2 C.atoms.length g2] tAs))))
   have O1x:=Lib.hid (O2x.out.below (bbox (Below.refl _ _) (.cells #[.slice F2 C.facts.length f2,.slice G2 C.atoms.length g2] tAs)))
   have hzc:w2.heap.size≤(w2.alloc (.cells #[.slice F2 C.facts.length f2,.slice G2 C.atoms.length g2] tAs)).heap.size:=by simp
   obtain ⟨pf,hpf⟩:∃ x,x=V1.heap.size:=⟨_,rfl⟩
   clear hC2 O2x qk7 rk7 lk7 qk2x rk2x lk2x qk3x rk3x lk3x qk4x rk4x lk4x
   go_upto_region 6 with fail
   generalize (w2.alloc (.cells #[.slice F2 C.facts.length f2,.slice G2 C.atoms.length g2] tAs))=V2 at k7 hbx k2x k3x k4x O1x k8 HC hzc ⊢
   (replace qk7:=k7.cell;replace rk7:=k7.frozen;replace lk7:=k7.lt;replace qk2x:=k2x.cell;replace rk2x:=k2x.frozen;replace lk2x:=k2x.lt;replace qk3x:=k3x.cell;replace rk3x:=k3x.frozen;replace lk3x:=k3x.lt;replace qk4x:=k4x.cell;replace rk4x:=k4x.frozen;replace lk4x:=k4x.lt;replace qk8:=k8.cell;replace rk8:=k8.frozen;replace lk8:=k8.lt)
   go_wp2_with fail
   refine (c_spec_AssertionValid _ C _ HC.out).mono ?_
   rintro e w3 ⟨rfl,hB3⟩
   (replace k7:=k7.next hB3;replace qk7:=k7.cell;replace rk7:=k7.frozen;replace lk7:=k7.lt;replace k8:=k8.next hB3;replace qk8:=k8.cell;replace rk8:=k8.frozen;replace lk8:=k8.lt;replace k2x:=k2x.next hB3;replace qk2x:=k2x.cell;replace rk2x:=k2x.frozen;replace lk2x:=k2x.lt;replace k3x:=k3x.next hB3;replace qk3x:=k3x.cell;replace rk3x:=k3x.frozen;replace lk3x:=k3x.lt;replace k4x:=k4x.next hB3;replace qk4x:=k4x.cell;replace rk4x:=k4x.frozen;replace lk4x:=k4x.lt)
   have HB3:=Lib.hid (bgo hbx hB3)
   have HC3:=Lib.hid (HC.out.below hB3)
   have O3:=Lib.hid (O1x.out.below hB3)
   have hz3:=hB3.size
   clear hB3 hbx HC O1x
   cases hcv:C.valid
   ·have HM2:Hid (frM a b=seekM (frB a b) (N - (k+1)) (k+1)):=Lib.hid (by rw[HS.out,HFS.out,hcv];rfl)
    clear hcv HS HFS
    go_wp2_with fail
    go_round
    case rel=>exact ⟨k+1,by omega,by go_num,HM2,k2x,k3x,k4x,HB3⟩
    case measure=>simp[intOf];omega
   ·rw[hcv,Bool.true_and] at HFS
    clear hcv
    go_wp2_with fail
    refine (c_spec_Entails _ _ a C _ (HA.out.below HB3.out) HC3.out).mono ?_
    rintro e w4 ⟨rfl,hB4⟩
    rw[←HFS.out]
    (replace k7:=k7.next hB4;replace qk7:=k7.cell;replace rk7:=k7.frozen;replace lk7:=k7.lt;replace k2x:=k2x.next hB4;replace qk2x:=k2x.cell;replace rk2x:=k2x.frozen;replace lk2x:=k2x.lt;replace k3x:=k3x.next hB4;replace qk3x:=k3x.cell;replace rk3x:=k3x.frozen;replace lk3x:=k3x.lt;replace k4x:=k4x.next hB4;replace qk4x:=k4x.cell;replace rk4x:=k4x.frozen;replace lk4x:=k4x.lt)
    have HB4:=Lib.hid (bgo HB3.out hB4)
    have O4:=Lib.hid (O3.out.below hB4)
    clear hB4 HB3 HC3 O3 k8 qk8 rk8 lk8
    cases hp:frB a b k
    ·have HM2:Hid (frM a b=seekM (frB a b) (N - (k+1)) (k+1)):=Lib.hid (by rw[HS.out,hp];rfl)
     clear hp HS HFS
     go_wp2_with fail
     go_round
     case rel=>exact ⟨k+1,by omega,by go_num,HM2,k2x,k3x,k4x,HB4⟩
     case measure=>simp[intOf];omega
    ·have E:Hid (frameF a b=some P):=Lib.hid (by rw[HF.out,HS.out,hp,if_pos rfl,Option.map_some,←hP.out])
     clear hp HS HFS
     go_wp2_with fail
     refine bodyPost_ret (v:=.tuple #[.agg #[.slice F1 P.facts.length f1,.slice G1 P.atoms.length g1],.bool true]) (by simp[results,Tryz.results54,go_sem,qk4x,lk4x]) rfl ⟨_,by rw[E.out];rfl,?_,?_⟩
     ·rw[E.out]
      exact AsnO.setW O4.out k4x _ _
     ·exact (HB4.out.setCell (p:=⟨w.heap.size+1+1,0,none⟩) (by simp only;omega) _).setCell (p:=⟨w.heap.size+1+1,1,none⟩) (by simp only;omega) _
  ·obtain rfl:k=N:=by omega
   have E:Hid (frameF a b=none):=Lib.hid (by rw[HF.out,HM.out,Nat.sub_self];rfl)
   have hBw:=hB.out
   go_wp2_with fail
   refine bodyPost_ret (v:=.tuple #[.agg #[.slice none 0 0,.slice none 0 0],.bool false]) (by simp[results,Tryz.results54,go_sem,qk4,lk4]) rfl ⟨_,by rw[E.out];rfl,by rw[E.out];exact AsnO.zero _ _,bel⟩
end Go.Proofs.YtjjokmlmknllhaaGreat
