/- Exposing cells: spec.l10Open, spec.ExposeCell. Printed by genOpnO.py. -/
import Derived.Test.YtjjokmlmknllhaaGreatMExpL
import Derived.Test.YtjjokmlmknllhaaGreatMFirstG
import Derived.Test.YtjjokmlmknllhaaGreatMExpA
set_option linter.unusedSimpArgs false
set_option linter.unusedVariables false
namespace Go.Proofs.YtjjokmlmknllhaaGreat
open Go Go.RowKit Go.Proofs
attribute [local go_sem ↓] Go.wp_at_zero Go.wp_at_succ
set_option maxRecDepth 100000 in
set_option maxHeartbeats 1600000 in
theorem c_l10Open_zero (a:Asn) (t:Int) (Ks:Nat):OpC 0 a t Ks:=by
 intro lo hi lo' hi' v B cB w h hB0 hl1 hl2
 have hV:=Lib.hid h
 obtain ⟨A1,c1,A2,c2,rfl,-⟩:=h
 have E:Hid (exposeF 0 a t Ks=none):=rfl
 clear hB0
 go_enter Tryz.func84,Tryz.ntmps84
 go_wp2_with fail
 refine (c_spec_AssertionValid _ a _ (hV.out.V.below bel)).mono ?_
 rintro e w1 ⟨rfl,hB1⟩
 have HB:=Lib.hid (bgo (w:=w) bel hB1)
 have hz1:w.heap.size≤w1.heap.size:=HB.out.size
 clear hB1
 cases hv:a.valid
 all_goals
  clear hv
  go_wp2_with fail
  go_ret2
  exact ⟨_,[],[],by rw[E.out];rfl,(A2O.empty w1 rfl).lower hz1,Nat.zero_le _,.inl E.out,bbox HB.out _⟩
set_option maxRecDepth 100000 in
set_option maxHeartbeats 12800000 in
theorem c_l10Open_step (n:Nat) (a:Asn) (t:Int) (Ks:Nat) (hn:n≤6) (HL:∀ i x,a.valid=true→findK a 1 t=none→findK a 2 t=some i→a.atoms[i]? = some x→x.kind=2→impB a ⟨true,x.a,t⟩=true→UnC n a x i t Ks):OpC (n+1) a t Ks:=by
 intro lo hi lo' hi' v B cB w h hB0 hl1 hl2
 rw[show ((n+1:Nat):Int)=(n:Int)+1 from by omega]
 have hV:=Lib.hid h
 have HFL:=Lib.hid hB0
 obtain ⟨A1,c1,A2,c2,rfl,-,h2,-⟩:=h
 have H2:=Lib.hid h2
 have HLL:=Lib.hid HL
 have hge:¬((n:Int)+1<1):=by omega
 clear h2 hB0 HL
 go_enter Tryz.func84,Tryz.ntmps84
 have k0:Blk (w.alloc (.cells #[.slice A1 a.facts.length c1,.slice A2 a.atoms.length c2] tAs)) w.heap.size tAs #[.slice A1 a.facts.length c1,.slice A2 a.atoms.length c2]:=blks
 go_wp2_with fail
 refine (c_spec_AssertionValid _ a _ (hV.out.V.below bel)).mono ?_
 rintro e w1 ⟨rfl,hB1⟩
 have HB:=Lib.hid (bgo (w:=w) bel hB1)
 replace k0:=k0.next hB1
 have hz1:w.heap.size≤w1.heap.size:=HB.out.size
 clear hB1
 cases hv:a.valid
 ·have E:=Lib.hid (expose_bad (n:=n+1) (t:=t) (K:=Ks) hv)
  clear hv
  go_wp2_with fail
  go_ret2
  exact ⟨_,[],[],by rw[E.out];rfl,(A2O.empty w1 rfl).lower hz1,Nat.zero_le _,.inl E.out,bbox HB.out _⟩
 have HV:=Lib.hid hv
 have hvl:=valid_len hv
 clear hv
 (replace qk0:=k0.cell;replace rk0:=k0.frozen;replace lk0:=k0.lt)
 go_wp2_with fail
 refine (c_spec_Consistent _ a _ (hV.out.V.below HB.out)).mono ?_
 rintro e w2 ⟨rfl,hB2⟩
 rw[show (a.valid && !(cases a (caseS a 0)).isEmpty)=consB a from rfl]
 have HB2:=Lib.hid (bgo HB.out hB2)
 replace k0:=k0.next hB2
 have hz2:=HB2.out.size
 clear hB2 HB qk0 rk0 lk0
 cases hc:consB a
 ·have E:=Lib.hid (expose_no (n:=n) (t:=t) (K:=Ks) HV.out hc)
  clear hc
  go_wp2_with fail
  go_ret2
  exact ⟨_,[],[],by rw[E.out];rfl,(A2O.empty w2 rfl).lower hz2,Nat.zero_le _,.inr E.out,bbox HB2.out _⟩
 have HC:=Lib.hid hc
 clear hc hz1 hge
 go_wp2_with fail
 go_loopw [10] (fun i wr=>∃ k:Nat,k≤a.atoms.length∧i=.int .i64 k∧Hid (∀ j,j<k→findP a 1 t j=false)∧Blk wr w.heap.size tAs #[.slice A1 a.facts.length c1,.slice A2 a.atoms.length c2]∧Hid (Below w.heap.size w wr)) (fun i _=>a.atoms.length - (intOf i).toNat)
 case atStart=>exact ⟨0,Nat.zero_le _,rfl,Lib.hid fun j h=>by omega,k0,HB2.out⟩
 case round=>
  clear k0 HB2 hz2
  obtain ⟨k,hk,rfl,HA,k0,HB⟩:=hrel
  have hzr:=HB.out.size
  by_cases hlt:k<a.atoms.length
  ·obtain ⟨b,off,rfl,g0,g1,g2⟩:=(H2.out.below HB.out).at hlt
   have hki:(k:Int)<(a.atoms.length:Int):=by omega
   have HP:Hid (findP a 1 t k=(decide (a.atoms[k].kind=1)&&impB a ⟨true,a.atoms[k].a,t⟩)):=Lib.hid (by unfold findP;rw[List.getElem?_eq_getElem hlt])
   have HXK:Hid (a.atoms[k]? = some a.atoms[k]):=Lib.hid (List.getElem?_eq_getElem hlt)
   obtain ⟨x,hx⟩:∃ x,x=a.atoms[k]:=⟨_,rfl⟩
   rw[←hx] at g0 g1 g2 HP HXK
   have hbx:Below wr.heap.size wr (wr.alloc (.cells #[.int .i64 x.kind,.int .i64 x.a,.int .i64 x.b] tA)):=bbox (Below.refl _ _) _
   have kx:Blk (wr.alloc (.cells #[.int .i64 x.kind,.int .i64 x.a,.int .i64 x.b] tA)) wr.heap.size tA #[.int .i64 x.kind,.int .i64 x.a,.int .i64 x.b]:=Blk.new _ _ _
   have k1:=k0.next hbx
   have HB1:=Lib.hid (bgo HB.out hbx)
   have hzx:(wr.alloc (.cells #[.int .i64 x.kind,.int .i64 x.a,.int .i64 x.b] tA)).heap.size=wr.heap.size+1:=by simp
   clear hx hbx
   (replace qk0:=k0.cell;replace rk0:=k0.frozen;replace lk0:=k0.lt)
   go_upto_region 9 with fail
   clear qk0 rk0 lk0 g0 g1 g2 k0 HB
   generalize (wr.alloc (.cells #[.int .i64 x.kind,.int .i64 x.a,.int .i64 x.b] tA))=W at k1 HB1 kx hzx ⊢
   obtain ⟨yx,hyx⟩:∃ y,y=wr.heap.size:=⟨_,rfl⟩
   rw[←hyx] at kx hzx hzr ⊢
   have hzy:yx<W.heap.size:=by omega
   clear hyx hzx
   (replace qk1:=k1.cell;replace rk1:=k1.frozen;replace lk1:=k1.lt;replace qkx:=kx.cell;replace rkx:=kx.frozen;replace lkx:=kx.lt)
   by_cases hkd:x.kind=1
   case neg=>
    have hkb:(x.kind == 1)=false:=by simpa using hkd
    have HA2:Hid (∀ j,j<k+1→findP a 1 t j=false):=Lib.hid fun j hj=>by
     by_cases e:j=k
     ·rw[e,HP.out];simp[hkd]
     ·exact HA.out j (by omega)
    clear HA HP hkd
    go_wp2_with fail
    go_round
    case rel=>exact ⟨k+1,by omega,by go_num,HA2,k1,HB1.out⟩
    case measure=>simp[intOf];omega
   have hkb:(x.kind == 1)=true:=by simpa using hkd
   have HKD:=Lib.hid hkd
   clear hkd
   go_wp2_with fail
   refine (c_l10Equal _ a x.a t _ (hV.out.V.below HB1.out)).mono ?_
   rintro e w3 ⟨rfl,hB3⟩
   replace k1:=k1.next hB3
   replace kx:=kx.next hB3
   have HB3:=Lib.hid (bgo HB1.out hB3)
   have hz3:=hB3.size
   clear hB3 qk1 rk1 lk1 qkx rkx lkx HB1 hkb
   cases him:impB a ⟨true,x.a,t⟩
   ·have HA2:Hid (∀ j,j<k+1→findP a 1 t j=false):=Lib.hid fun j hj=>by
     by_cases e:j=k
     ·rw[e,HP.out,him];simp
     ·exact HA.out j (by omega)
    clear HA HP him
    go_wp2_with fail
    go_round
    case rel=>exact ⟨k+1,by omega,by go_num,HA2,k1,HB3.out⟩
    case measure=>simp[intOf];omega
   have HFK:=Lib.hid (findK_yes hlt HA.out (by rw[HP.out,him,HKD.out];rfl))
   have E:=Lib.hid (expose_cell (n:=n) (K:=Ks) HV.out HC.out HFK.out HXK.out)
   clear HA HP him HFK HXK
   have hwl:=withoutL_len hlt
   have HLT:=Lib.hid hlt
   (replace qk1:=k1.cell;replace rk1:=k1.frozen;replace lk1:=k1.lt;replace qkx:=kx.cell;replace rkx:=kx.frozen;replace lkx:=kx.lt)
   go_wp2_with fail
   refine (c_l10Front _ a ⟨1,t,x.b⟩ k _ (hV.out.V.below HB3.out) HV.out HLT.out).mono ?_
   rintro e w4 ⟨F,d,G,g,rfl,oF,hB4⟩
   have OF:=Lib.hid oF
   replace kx:=kx.next hB4
   have HB4:=Lib.hid (bgo HB3.out hB4)
   have hz4:=hB4.size
   clear oF hB4 qk1 rk1 lk1 qkx rkx lkx HB3 k1
   (replace qkx:=kx.cell;replace rkx:=kx.frozen;replace lkx:=kx.lt)
   go_upto_region 11 with fail
   have hbq:=bbox (Below.refl w4.heap.size w4) (.cells #[.slice F a.facts.length d,.slice G a.atoms.length g] tAs)
   have ko:Blk (w4.alloc (.cells #[.slice F a.facts.length d,.slice G a.atoms.length g] tAs)) w4.heap.size tAs #[.slice F a.facts.length d,.slice G a.atoms.length g]:=Blk.new _ _ _
   replace kx:=kx.next hbq
   replace OF:=Lib.hid (OF.out.below hbq)
   replace HB4:=Lib.hid (bgo HB4.out hbq)
   have hzo:w4.heap.size<(w4.alloc (.cells #[.slice F a.facts.length d,.slice G a.atoms.length g] tAs)).heap.size:=by simp
   clear hbq qkx rkx lkx
   generalize (w4.alloc (.cells #[.slice F a.facts.length d,.slice G a.atoms.length g] tAs))=W4 at ko kx OF HB4 hzo ⊢
   obtain ⟨yo,hyo⟩:∃ y,y=w4.heap.size:=⟨_,rfl⟩
   rw[←hyo] at ko hzo hz4 ⊢
   clear hyo
   (replace qko:=ko.cell;replace rko:=ko.frozen;replace lko:=ko.lt;replace qkx:=kx.cell;replace rkx:=kx.frozen;replace lkx:=kx.lt)
   by_cases hxt:x.a=t
   ·have hb:(x.a != t)=false:=by simpa using hxt
    have HXE:Hid (cellX a x k t=⟨a.facts,[⟨1,t,x.b⟩]++withoutL a.atoms k⟩):=Lib.hid (by unfold cellX;rw[if_pos hxt,List.append_nil];rfl)
    have OX:Hid (AsnO W4 w.heap.size (.agg #[.slice F a.facts.length d,.slice G a.atoms.length g]) (cellX a x k t)):=Lib.hid (by rw[HXE.out];exact OF.out.lower (by omega))
    have hlf:a.facts.length≤1000:=by omega
    clear hxt HXE OF kx
    generalize a.facts.length=lf at ko OX hlf ⊢
    go_upto_region 13 with fail
    refine wp_region_noPanic ?_
    refine wp_region_held_drew (S:=(fun w'=>∀ i,w'.cell? ⟨yo,i,none⟩=#[.slice F lf d,.slice G a.atoms.length g][i]?)) (by kernel_rfl) (ko.drew.cell) (fun hHeld=>?_)
    have HBQ:Hid (Below W4.heap.size W4 W4.drew):=Lib.hid (Below.refl _ _).drew
    have hzq:W4.heap.size≤W4.drew.heap.size:=Nat.le_refl _
    clear qko rko lko
    generalize W4.drew=wq at HBQ hzq hHeld ⊢
    refine tk 0 ?_ rfl (fun w hSw=>?_) hHeld ?_
    rotate_left
    ·((try dsimp only at hSw);go_split_ands;go_simp;(try with_reducible rfl))
    try simp only[Act.put,zA,zB,zC,zD,zE,zF]
    refine tk 2 ?_ rfl (fun w hSw=>?_) hHeld ?_
    rotate_left
    ·((try dsimp only at hSw);go_split_ands;go_simp;(try with_reducible rfl))
    try simp only[Act.put,zA,zB,zC,zD,zE,zF]
    refine wpAnyH_ready (rs:=[1,3]) (by kernel_rfl) (by simp) ?_
    refine AllReadyH.cons rfl (fun K hK=>?_) (AllReadyH.cons rfl (fun K hK=>?_) AllReadyH.nil)
    ·skip
     try simp only[List.getElem_toArray,List.getElem_cons_zero,List.getElem_cons_succ]
     go_simp
     refine hK.out _ _ ((ko.next HBQ.out).alloc _).cell (fun hHeldN=>?_)
     clear hHeld hK K
     have hHeld:=hHeldN
     clear hHeldN
     try simp only[Act.put,List.getElem_toArray,List.getElem_cons_zero,List.getElem_cons_succ,List.setIfInBounds_toArray,List.set_cons_zero,List.set_cons_succ]
     have hBq:Below wq.heap.size wq (wq.alloc (.cells #[.slice F lf d,.slice G a.atoms.length g] tAs)):=bbox (Below.refl _ _) _
     obtain ⟨yA,hyA⟩:∃ y,y=wq.heap.size:=⟨_,rfl⟩
     have hyAb:W4.heap.size≤yA:=by omega
     replace HBQ:=Lib.hid (HBQ.out.trans (hBq.mono hzq))
     replace hzq:=Nat.le_trans hzq hBq.size
     try replace kA:=kA.next hBq
     have kA:Blk (wq.alloc (.cells #[.slice F lf d,.slice G a.atoms.length g] tAs)) yA tAs #[.slice F lf d,.slice G a.atoms.length g]:=Blk.newE hyA
     rw[←hyA]
     clear hBq hyA
     generalize wq.alloc (.cells #[.slice F lf d,.slice G a.atoms.length g] tAs)=wq at *
     refine wpAnyH_ready (rs:=[3]) (by kernel_rfl) (by simp) ?_
     refine AllReadyH.cons rfl (fun K hK=>?_) AllReadyH.nil
     try simp only[List.getElem_toArray,List.getElem_cons_zero,List.getElem_cons_succ]
     go_simp
     refine (c_spec_AssertionValid _ (cellX a x k t) _ (OX.out.reads.below HBQ.out)).mono ?_
     rintro e wq ⟨rfl,hBq⟩
     replace HBQ:=Lib.hid (HBQ.out.trans (hBq.mono hzq))
     replace hzq:=Nat.le_trans hzq hBq.size
     try replace kA:=kA.next hBq
     clear hBq
     refine hK.out _ _ (ko.next HBQ.out).cell (fun hHeldN=>?_)
     clear hHeld hK K
     have hHeld:=hHeldN
     clear hHeldN
     try simp only[Act.put,List.getElem_toArray,List.getElem_cons_zero,List.getElem_cons_succ,List.setIfInBounds_toArray,List.set_cons_zero,List.set_cons_succ]
     refine tk 4 ?_ rfl (fun w hSw=>?_) hHeld ?_
     rotate_left
     ·((try dsimp only at hSw);go_split_ands;go_simp;(try with_reducible rfl))
     try simp only[Act.put,zA,zB,zC,zD,zE,zF]
     refine tk 5 ?_ rfl (fun w hSw=>?_) hHeld ?_
     rotate_left
     ·((try dsimp only at hSw);go_split_ands;go_simp;(try with_reducible rfl))
     try simp only[Act.put,zA,zB,zC,zD,zE,zF]
     refine wpAnyH_done (by kernel_rfl) ?_ _
     refine NoPanic.normal ?_
     have hzw4:=HB4.out.size
     go_wp2_with fail
     go_ret2
     have hA:A2O wq w.heap.size (.slice (some ⟨yA,0,none⟩) 1 1) [.slice F lf d,.slice G a.atoms.length g] [cellX a x k t]:=A2O.one kA (by omega) (OX.out.below HBQ.out)
     have hBf:Below w.heap.size w wq:=bgo HB4.out HBQ.out
     have h2n:1≤2 ^ (n+1):=Nat.one_le_two_pow
     cases hcv:(cellX a x k t).valid
     ·have E2:exposeF (n+1) a t Ks=none:=by rw[E.out,hcv];rfl
      exact ⟨_,_,_,by rw[E2];rfl,hA,h2n,.inl E2,hBf⟩
     ·have E2:exposeF (n+1) a t Ks=some [cellX a x k t]:=by rw[E.out,hcv];rfl
      exact ⟨_,_,_,by rw[E2];rfl,hA,h2n,.inr E2,hBf⟩
    ·skip
     try simp only[List.getElem_toArray,List.getElem_cons_zero,List.getElem_cons_succ]
     go_simp
     refine (c_spec_AssertionValid _ (cellX a x k t) _ (OX.out.reads.below HBQ.out)).mono ?_
     rintro e wq ⟨rfl,hBq⟩
     replace HBQ:=Lib.hid (HBQ.out.trans (hBq.mono hzq))
     replace hzq:=Nat.le_trans hzq hBq.size
     try replace kA:=kA.next hBq
     clear hBq
     refine hK.out _ _ (ko.next HBQ.out).cell (fun hHeldN=>?_)
     clear hHeld hK K
     have hHeld:=hHeldN
     clear hHeldN
     try simp only[Act.put,List.getElem_toArray,List.getElem_cons_zero,List.getElem_cons_succ,List.setIfInBounds_toArray,List.set_cons_zero,List.set_cons_succ]
     refine wpAnyH_ready (rs:=[1]) (by kernel_rfl) (by simp) ?_
     refine AllReadyH.cons rfl (fun K hK=>?_) AllReadyH.nil
     try simp only[List.getElem_toArray,List.getElem_cons_zero,List.getElem_cons_succ]
     go_simp
     refine hK.out _ _ ((ko.next HBQ.out).alloc _).cell (fun hHeldN=>?_)
     clear hHeld hK K
     have hHeld:=hHeldN
     clear hHeldN
     try simp only[Act.put,List.getElem_toArray,List.getElem_cons_zero,List.getElem_cons_succ,List.setIfInBounds_toArray,List.set_cons_zero,List.set_cons_succ]
     have hBq:Below wq.heap.size wq (wq.alloc (.cells #[.slice F lf d,.slice G a.atoms.length g] tAs)):=bbox (Below.refl _ _) _
     obtain ⟨yA,hyA⟩:∃ y,y=wq.heap.size:=⟨_,rfl⟩
     have hyAb:W4.heap.size≤yA:=by omega
     replace HBQ:=Lib.hid (HBQ.out.trans (hBq.mono hzq))
     replace hzq:=Nat.le_trans hzq hBq.size
     try replace kA:=kA.next hBq
     have kA:Blk (wq.alloc (.cells #[.slice F lf d,.slice G a.atoms.length g] tAs)) yA tAs #[.slice F lf d,.slice G a.atoms.length g]:=Blk.newE hyA
     rw[←hyA]
     clear hBq hyA
     generalize wq.alloc (.cells #[.slice F lf d,.slice G a.atoms.length g] tAs)=wq at *
     refine tk 4 ?_ rfl (fun w hSw=>?_) hHeld ?_
     rotate_left
     ·((try dsimp only at hSw);go_split_ands;go_simp;(try with_reducible rfl))
     try simp only[Act.put,zA,zB,zC,zD,zE,zF]
     refine tk 5 ?_ rfl (fun w hSw=>?_) hHeld ?_
     rotate_left
     ·((try dsimp only at hSw);go_split_ands;go_simp;(try with_reducible rfl))
     try simp only[Act.put,zA,zB,zC,zD,zE,zF]
     refine wpAnyH_done (by kernel_rfl) ?_ _
     refine NoPanic.normal ?_
     have hzw4:=HB4.out.size
     go_wp2_with fail
     go_ret2
     have hA:A2O wq w.heap.size (.slice (some ⟨yA,0,none⟩) 1 1) [.slice F lf d,.slice G a.atoms.length g] [cellX a x k t]:=A2O.one kA (by omega) (OX.out.below HBQ.out)
     have hBf:Below w.heap.size w wq:=bgo HB4.out HBQ.out
     have h2n:1≤2 ^ (n+1):=Nat.one_le_two_pow
     cases hcv:(cellX a x k t).valid
     ·have E2:exposeF (n+1) a t Ks=none:=by rw[E.out,hcv];rfl
      exact ⟨_,_,_,by rw[E2];rfl,hA,h2n,.inl E2,hBf⟩
     ·have E2:exposeF (n+1) a t Ks=some [cellX a x k t]:=by rw[E.out,hcv];rfl
      exact ⟨_,_,_,by rw[E2];rfl,hA,h2n,.inr E2,hBf⟩
   ·have hb:(x.a != t)=true:=by simpa using hxt
    have HXE:Hid (cellX a x k t=⟨a.facts++[⟨true,x.a,t⟩],[⟨1,t,x.b⟩]++withoutL a.atoms k⟩):=Lib.hid (by unfold cellX;rw[if_neg hxt];rfl)
    clear hxt
    go_wp2_with fail
    have hlg:(⟨a.facts,[⟨1,t,x.b⟩]++withoutL a.atoms k⟩:Asn).atoms.length=a.atoms.length:=by simp;omega
    have HKN:=Lib.hid (fun (Z:World) (hz:Below W4.heap.size W4 Z)=>c_l10Know _ ⟨a.facts,[⟨1,t,x.b⟩]++withoutL a.atoms k⟩ x.a t Z (OF.out.reads.below hz) (by simp only;omega))
    rw[hlg] at HKN
    refine (HKN.out _ (Below.refl _ _)).mono ?_
    rintro e w5 ⟨F5,d5,G5,g5,rfl,o5,hB5⟩
    have OX5:Hid (AsnO w5 w.heap.size (.agg #[.slice F5 (a.facts.length+1) d5,.slice G5 a.atoms.length g5]) (cellX a x k t)):=Lib.hid (by rw[HXE.out];exact o5.lower (by omega))
    have HB5:=Lib.hid (bgo HB4.out hB5)
    replace ko:=ko.next hB5
    have hz5:=hB5.size
    clear HKN hlg OF o5 hB5 HXE HB4 kx qko rko lko qkx rkx lkx
    (replace qko:=ko.cell;replace rko:=ko.frozen;replace lko:=ko.lt)
    go_upto_region 13 with fail
    have ko2:Blk ((w5.setCell ⟨yo,0,none⟩ (.slice F5 (a.facts.length+1) d5)).setCell ⟨yo,1,none⟩ (.slice G5 a.atoms.length g5)) yo tAs #[.slice F5 (a.facts.length+1) d5,.slice G5 a.atoms.length g5]:=by
     have:=(ko.set_ 0 (.slice F5 (a.facts.length+1) d5)).set_ 1 (.slice G5 a.atoms.length g5)
     simpa using this
    have OX2:Hid (AsnO ((w5.setCell ⟨yo,0,none⟩ (.slice F5 (a.facts.length+1) d5)).setCell ⟨yo,1,none⟩ (.slice G5 a.atoms.length g5)) w.heap.size (.agg #[.slice F5 (a.facts.length+1) d5,.slice G5 a.atoms.length g5]) (cellX a x k t)):=Lib.hid ⟨_,_,rfl,(OX5.out.parts.1.setT ko (by decide) 0 _).setT (ko.set_ 0 _) (by decide) 1 _,(OX5.out.parts.2.setT ko (by decide) 0 _).setT (ko.set_ 0 _) (by decide) 1 _⟩
    have HB6:Hid (Below w.heap.size w ((w5.setCell ⟨yo,0,none⟩ (.slice F5 (a.facts.length+1) d5)).setCell ⟨yo,1,none⟩ (.slice G5 a.atoms.length g5))):=Lib.hid ((HB5.out.setCell (p:=⟨yo,0,none⟩) (by simp only;omega) _).setCell (p:=⟨yo,1,none⟩) (by simp only;omega) _)
    have hzo2:yo<((w5.setCell ⟨yo,0,none⟩ (.slice F5 (a.facts.length+1) d5)).setCell ⟨yo,1,none⟩ (.slice G5 a.atoms.length g5)).heap.size:=ko2.lt
    clear ko OX5 HB5 hz5 hzo qko rko lko
    generalize ((w5.setCell ⟨yo,0,none⟩ (.slice F5 (a.facts.length+1) d5)).setCell ⟨yo,1,none⟩ (.slice G5 a.atoms.length g5))=W5 at ko2 OX2 HB6 hzo2 ⊢
    have ko:=ko2
    have OX:=OX2
    have HB4:=HB6
    have hzo:=hzo2
    have hlf:a.facts.length+1≤1000:=by omega
    clear ko2 OX2 HB6 hzo2
    generalize W5=W4 at ko OX HB4 hzo ⊢
    generalize F5=F at ko OX ⊢
    generalize d5=d at ko OX ⊢
    generalize G5=G at ko OX ⊢
    generalize g5=g at ko OX ⊢
    generalize a.facts.length+1=lf at ko OX hlf ⊢
    (replace qko:=ko.cell;replace rko:=ko.frozen;replace lko:=ko.lt)
    refine wp_region_noPanic ?_
    refine wp_region_held_drew (S:=(fun w'=>∀ i,w'.cell? ⟨yo,i,none⟩=#[.slice F lf d,.slice G a.atoms.length g][i]?)) (by kernel_rfl) (ko.drew.cell) (fun hHeld=>?_)
    have HBQ:Hid (Below W4.heap.size W4 W4.drew):=Lib.hid (Below.refl _ _).drew
    have hzq:W4.heap.size≤W4.drew.heap.size:=Nat.le_refl _
    clear qko rko lko
    generalize W4.drew=wq at HBQ hzq hHeld ⊢
    refine tk 0 ?_ rfl (fun w hSw=>?_) hHeld ?_
    rotate_left
    ·((try dsimp only at hSw);go_split_ands;go_simp;(try with_reducible rfl))
    try simp only[Act.put,zA,zB,zC,zD,zE,zF]
    refine tk 2 ?_ rfl (fun w hSw=>?_) hHeld ?_
    rotate_left
    ·((try dsimp only at hSw);go_split_ands;go_simp;(try with_reducible rfl))
    try simp only[Act.put,zA,zB,zC,zD,zE,zF]
    refine wpAnyH_ready (rs:=[1,3]) (by kernel_rfl) (by simp) ?_
    refine AllReadyH.cons rfl (fun K hK=>?_) (AllReadyH.cons rfl (fun K hK=>?_) AllReadyH.nil)
    ·skip
     try simp only[List.getElem_toArray,List.getElem_cons_zero,List.getElem_cons_succ]
     go_simp
     refine hK.out _ _ ((ko.next HBQ.out).alloc _).cell (fun hHeldN=>?_)
     clear hHeld hK K
     have hHeld:=hHeldN
     clear hHeldN
     try simp only[Act.put,List.getElem_toArray,List.getElem_cons_zero,List.getElem_cons_succ,List.setIfInBounds_toArray,List.set_cons_zero,List.set_cons_succ]
     have hBq:Below wq.heap.size wq (wq.alloc (.cells #[.slice F lf d,.slice G a.atoms.length g] tAs)):=bbox (Below.refl _ _) _
     obtain ⟨yA,hyA⟩:∃ y,y=wq.heap.size:=⟨_,rfl⟩
     have hyAb:W4.heap.size≤yA:=by omega
     replace HBQ:=Lib.hid (HBQ.out.trans (hBq.mono hzq))
     replace hzq:=Nat.le_trans hzq hBq.size
     try replace kA:=kA.next hBq
     have kA:Blk (wq.alloc (.cells #[.slice F lf d,.slice G a.atoms.length g] tAs)) yA tAs #[.slice F lf d,.slice G a.atoms.length g]:=Blk.newE hyA
     rw[←hyA]
     clear hBq hyA
     generalize wq.alloc (.cells #[.slice F lf d,.slice G a.atoms.length g] tAs)=wq at *
     refine wpAnyH_ready (rs:=[3]) (by kernel_rfl) (by simp) ?_
     refine AllReadyH.cons rfl (fun K hK=>?_) AllReadyH.nil
     try simp only[List.getElem_toArray,List.getElem_cons_zero,List.getElem_cons_succ]
     go_simp
     refine (c_spec_AssertionValid _ (cellX a x k t) _ (OX.out.reads.below HBQ.out)).mono ?_
     rintro e wq ⟨rfl,hBq⟩
     replace HBQ:=Lib.hid (HBQ.out.trans (hBq.mono hzq))
     replace hzq:=Nat.le_trans hzq hBq.size
     try replace kA:=kA.next hBq
     clear hBq
     refine hK.out _ _ (ko.next HBQ.out).cell (fun hHeldN=>?_)
     clear hHeld hK K
     have hHeld:=hHeldN
     clear hHeldN
     try simp only[Act.put,List.getElem_toArray,List.getElem_cons_zero,List.getElem_cons_succ,List.setIfInBounds_toArray,List.set_cons_zero,List.set_cons_succ]
     refine tk 4 ?_ rfl (fun w hSw=>?_) hHeld ?_
     rotate_left
     ·((try dsimp only at hSw);go_split_ands;go_simp;(try with_reducible rfl))
     try simp only[Act.put,zA,zB,zC,zD,zE,zF]
     refine tk 5 ?_ rfl (fun w hSw=>?_) hHeld ?_
     rotate_left
     ·((try dsimp only at hSw);go_split_ands;go_simp;(try with_reducible rfl))
     try simp only[Act.put,zA,zB,zC,zD,zE,zF]
     refine wpAnyH_done (by kernel_rfl) ?_ _
     refine NoPanic.normal ?_
     have hzw4:=HB4.out.size
     go_wp2_with fail
     go_ret2
     have hA:A2O wq w.heap.size (.slice (some ⟨yA,0,none⟩) 1 1) [.slice F lf d,.slice G a.atoms.length g] [cellX a x k t]:=A2O.one kA (by omega) (OX.out.below HBQ.out)
     have hBf:Below w.heap.size w wq:=bgo HB4.out HBQ.out
     have h2n:1≤2 ^ (n+1):=Nat.one_le_two_pow
     cases hcv:(cellX a x k t).valid
     ·have E2:exposeF (n+1) a t Ks=none:=by rw[E.out,hcv];rfl
      exact ⟨_,_,_,by rw[E2];rfl,hA,h2n,.inl E2,hBf⟩
     ·have E2:exposeF (n+1) a t Ks=some [cellX a x k t]:=by rw[E.out,hcv];rfl
      exact ⟨_,_,_,by rw[E2];rfl,hA,h2n,.inr E2,hBf⟩
    ·skip
     try simp only[List.getElem_toArray,List.getElem_cons_zero,List.getElem_cons_succ]
     go_simp
     refine (c_spec_AssertionValid _ (cellX a x k t) _ (OX.out.reads.below HBQ.out)).mono ?_
     rintro e wq ⟨rfl,hBq⟩
     replace HBQ:=Lib.hid (HBQ.out.trans (hBq.mono hzq))
     replace hzq:=Nat.le_trans hzq hBq.size
     try replace kA:=kA.next hBq
     clear hBq
     refine hK.out _ _ (ko.next HBQ.out).cell (fun hHeldN=>?_)
     clear hHeld hK K
     have hHeld:=hHeldN
     clear hHeldN
     try simp only[Act.put,List.getElem_toArray,List.getElem_cons_zero,List.getElem_cons_succ,List.setIfInBounds_toArray,List.set_cons_zero,List.set_cons_succ]
     refine wpAnyH_ready (rs:=[1]) (by kernel_rfl) (by simp) ?_
     refine AllReadyH.cons rfl (fun K hK=>?_) AllReadyH.nil
     try simp only[List.getElem_toArray,List.getElem_cons_zero,List.getElem_cons_succ]
     go_simp
     refine hK.out _ _ ((ko.next HBQ.out).alloc _).cell (fun hHeldN=>?_)
     clear hHeld hK K
     have hHeld:=hHeldN
     clear hHeldN
     try simp only[Act.put,List.getElem_toArray,List.getElem_cons_zero,List.getElem_cons_succ,List.setIfInBounds_toArray,List.set_cons_zero,List.set_cons_succ]
     have hBq:Below wq.heap.size wq (wq.alloc (.cells #[.slice F lf d,.slice G a.atoms.length g] tAs)):=bbox (Below.refl _ _) _
     obtain ⟨yA,hyA⟩:∃ y,y=wq.heap.size:=⟨_,rfl⟩
     have hyAb:W4.heap.size≤yA:=by omega
     replace HBQ:=Lib.hid (HBQ.out.trans (hBq.mono hzq))
     replace hzq:=Nat.le_trans hzq hBq.size
     try replace kA:=kA.next hBq
     have kA:Blk (wq.alloc (.cells #[.slice F lf d,.slice G a.atoms.length g] tAs)) yA tAs #[.slice F lf d,.slice G a.atoms.length g]:=Blk.newE hyA
     rw[←hyA]
     clear hBq hyA
     generalize wq.alloc (.cells #[.slice F lf d,.slice G a.atoms.length g] tAs)=wq at *
     refine tk 4 ?_ rfl (fun w hSw=>?_) hHeld ?_
     rotate_left
     ·((try dsimp only at hSw);go_split_ands;go_simp;(try with_reducible rfl))
     try simp only[Act.put,zA,zB,zC,zD,zE,zF]
     refine tk 5 ?_ rfl (fun w hSw=>?_) hHeld ?_
     rotate_left
     ·((try dsimp only at hSw);go_split_ands;go_simp;(try with_reducible rfl))
     try simp only[Act.put,zA,zB,zC,zD,zE,zF]
     refine wpAnyH_done (by kernel_rfl) ?_ _
     refine NoPanic.normal ?_
     have hzw4:=HB4.out.size
     go_wp2_with fail
     go_ret2
     have hA:A2O wq w.heap.size (.slice (some ⟨yA,0,none⟩) 1 1) [.slice F lf d,.slice G a.atoms.length g] [cellX a x k t]:=A2O.one kA (by omega) (OX.out.below HBQ.out)
     have hBf:Below w.heap.size w wq:=bgo HB4.out HBQ.out
     have h2n:1≤2 ^ (n+1):=Nat.one_le_two_pow
     cases hcv:(cellX a x k t).valid
     ·have E2:exposeF (n+1) a t Ks=none:=by rw[E.out,hcv];rfl
      exact ⟨_,_,_,by rw[E2];rfl,hA,h2n,.inl E2,hBf⟩
     ·have E2:exposeF (n+1) a t Ks=some [cellX a x k t]:=by rw[E.out,hcv];rfl
      exact ⟨_,_,_,by rw[E2];rfl,hA,h2n,.inr E2,hBf⟩
  ·obtain rfl:k=a.atoms.length:=by omega
   have HF1:=Lib.hid (findK_no (fun j hj=>HA.out j hj))
   clear HA
   (replace qk0:=k0.cell;replace rk0:=k0.frozen;replace lk0:=k0.lt)
   go_wp2_with fail
   clear qk0 rk0 lk0
   go_loopw [13] (fun i wr=>∃ k:Nat,k≤a.atoms.length∧i=.int .i64 k∧Hid (∀ j,j<k→findP a 2 t j=false)∧Blk wr w.heap.size tAs #[.slice A1 a.facts.length c1,.slice A2 a.atoms.length c2]∧Hid (Below w.heap.size w wr)) (fun i _=>a.atoms.length - (intOf i).toNat)
   case atStart=>exact ⟨0,Nat.zero_le _,rfl,Lib.hid fun j h=>by omega,k0,HB.out⟩
   case round=>
    clear k0 HB hzr
    obtain ⟨k,hk,rfl,HA,k0,HB⟩:=hrel
    have hzr:=HB.out.size
    by_cases hlt:k<a.atoms.length
    ·obtain ⟨b,off,rfl,g0,g1,g2⟩:=(H2.out.below HB.out).at hlt
     have hki:(k:Int)<(a.atoms.length:Int):=by omega
     have HP:Hid (findP a 2 t k=(decide (a.atoms[k].kind=2)&&impB a ⟨true,a.atoms[k].a,t⟩)):=Lib.hid (by unfold findP;rw[List.getElem?_eq_getElem hlt])
     have HXK:Hid (a.atoms[k]? = some a.atoms[k]):=Lib.hid (List.getElem?_eq_getElem hlt)
     obtain ⟨x,hx⟩:∃ x,x=a.atoms[k]:=⟨_,rfl⟩
     rw[←hx] at g0 g1 g2 HP HXK
     have hbl:=block_lt_of_cell g0
     simp only at hbl
     clear hx g2
     (replace qk0:=k0.cell;replace rk0:=k0.frozen;replace lk0:=k0.lt)
     by_cases hkd:x.kind=2
     case neg=>
      have hkb:(x.kind == 2)=false:=by simpa using hkd
      have HA2:Hid (∀ j,j<k+1→findP a 2 t j=false):=Lib.hid fun j hj=>by
       by_cases e:j=k
       ·rw[e,HP.out];simp[hkd]
       ·exact HA.out j (by omega)
      clear HA HP hkd HXK
      go_wp2_with fail
      clear qk0 rk0 lk0
      refine wp_region_noPanic ?_
      refine wp_region_held_drew (S:=(fun w'=>(∀ i,w'.cell? ⟨w.heap.size,i,none⟩=#[.slice A1 a.facts.length c1,.slice (some ⟨b,off,none⟩) a.atoms.length c2][i]?)∧w'.cell? ⟨b,off+k * 3,none⟩=some (.int .i64 x.kind)∧w'.cell? ⟨b,off+k * 3+1,none⟩=some (.int .i64 x.a))) (by kernel_rfl) (⟨k0.drew.cell,g0,g1⟩) (fun hHeld=>?_)
      refine tk 0 ?_ rfl (fun w hSw=>?_) hHeld ?_
      rotate_left
      ·((try dsimp only at hSw);go_split_ands;go_simp;(try with_reducible rfl))
      try simp only[Act.put,zA,zB,zC,zD,zE,zF]
      refine tk 1 ?_ rfl (fun w hSw=>?_) hHeld ?_
      rotate_left
      ·((try dsimp only at hSw);go_split_ands;go_simp;(try with_reducible rfl))
      try simp only[Act.put,zA,zB,zC,zD,zE,zF]
      refine tk 2 ?_ rfl (fun w hSw=>?_) hHeld ?_
      rotate_left
      ·((try dsimp only at hSw);go_split_ands;go_simp;(try with_reducible rfl))
      try simp only[Act.put,zA,zB,zC,zD,zE,zF]
      refine tk 3 ?_ rfl (fun w hSw=>?_) hHeld ?_
      rotate_left
      ·((try dsimp only at hSw);go_split_ands;go_simp;(try with_reducible rfl))
      try simp only[Act.put,zA,zB,zC,zD,zE,zF]
      refine tk 4 ?_ rfl (fun w hSw=>?_) hHeld ?_
      rotate_left
      ·((try dsimp only at hSw);go_split_ands;go_simp;(try with_reducible rfl))
      try simp only[Act.put,zA,zB,zC,zD,zE,zF]
      refine tk 5 ?_ rfl (fun w hSw=>?_) hHeld ?_
      rotate_left
      ·((try dsimp only at hSw);go_split_ands;go_simp;(try with_reducible rfl))
      try simp only[Act.put,zA,zB,zC,zD,zE,zF]
      refine tk 6 ?_ rfl (fun w hSw=>?_) hHeld ?_
      rotate_left
      ·((try dsimp only at hSw);go_split_ands;go_simp;(try with_reducible rfl))
      try simp only[Act.put,zA,zB,zC,zD,zE,zF]
      refine tk 7 ?_ rfl (fun w hSw=>?_) hHeld ?_
      rotate_left
      ·((try dsimp only at hSw);go_split_ands;go_simp;(try with_reducible rfl))
      try simp only[Act.put,zA,zB,zC,zD,zE,zF]
      refine tku 8 rfl hHeld ?_
      try simp only[Act.put,zA,zB,zC,zD,zE,zF]
      refine tku 9 rfl hHeld ?_
      try simp only[Act.put,zA,zB,zC,zD,zE,zF]
      refine tku 10 rfl hHeld ?_
      try simp only[Act.put,zA,zB,zC,zD,zE,zF]
      refine tku 11 rfl hHeld ?_
      try simp only[Act.put,zA,zB,zC,zD,zE,zF]
      refine tku 12 rfl hHeld ?_
      try simp only[Act.put,zA,zB,zC,zD,zE,zF]
      refine tku 13 rfl hHeld ?_
      try simp only[Act.put,zA,zB,zC,zD,zE,zF]
      refine tku 14 rfl hHeld ?_
      try simp only[Act.put,zA,zB,zC,zD,zE,zF]
      refine tku 15 rfl hHeld ?_
      try simp only[Act.put,zA,zB,zC,zD,zE,zF]
      refine tku 16 rfl hHeld ?_
      try simp only[Act.put,zA,zB,zC,zD,zE,zF]
      refine tk 17 ?_ rfl (fun w hSw=>?_) hHeld ?_
      rotate_left
      ·((try dsimp only at hSw);go_split_ands;go_simp;(try with_reducible rfl))
      try simp only[Act.put,zA,zB,zC,zD,zE,zF]
      refine wpAnyH_done (by kernel_rfl) ?_ _
      refine NoPanic.normal ?_
      have k0d:=k0.drew
      have HBd:=Lib.hid HB.out.drew
      clear g0 g1 hHeld
      go_wp2_with fail
      go_round
      case rel=>exact ⟨k+1,by omega,by go_num,HA2,k0d,HBd.out⟩
      case measure=>simp[intOf];omega
     have hkb:(x.kind == 2)=true:=by simpa using hkd
     have HKD:=Lib.hid hkd
     clear hkd
     go_wp2_with fail
     clear qk0 rk0 lk0
     refine wp_region_noPanic ?_
     refine wp_region_held_drew (S:=(fun w'=>(∀ i,w'.cell? ⟨w.heap.size,i,none⟩=#[.slice A1 a.facts.length c1,.slice (some ⟨b,off,none⟩) a.atoms.length c2][i]?)∧w'.cell? ⟨b,off+k * 3,none⟩=some (.int .i64 x.kind)∧w'.cell? ⟨b,off+k * 3+1,none⟩=some (.int .i64 x.a))) (by kernel_rfl) (⟨k0.drew.cell,g0,g1⟩) (fun hHeld=>?_)
     refine tk 0 ?_ rfl (fun w hSw=>?_) hHeld ?_
     rotate_left
     ·((try dsimp only at hSw);go_split_ands;go_simp;(try with_reducible rfl))
     try simp only[Act.put,zA,zB,zC,zD,zE,zF]
     refine tk 1 ?_ rfl (fun w hSw=>?_) hHeld ?_
     rotate_left
     ·((try dsimp only at hSw);go_split_ands;go_simp;(try with_reducible rfl))
     try simp only[Act.put,zA,zB,zC,zD,zE,zF]
     refine tk 2 ?_ rfl (fun w hSw=>?_) hHeld ?_
     rotate_left
     ·((try dsimp only at hSw);go_split_ands;go_simp;(try with_reducible rfl))
     try simp only[Act.put,zA,zB,zC,zD,zE,zF]
     refine tk 3 ?_ rfl (fun w hSw=>?_) hHeld ?_
     rotate_left
     ·((try dsimp only at hSw);go_split_ands;go_simp;(try with_reducible rfl))
     try simp only[Act.put,zA,zB,zC,zD,zE,zF]
     refine tk 4 ?_ rfl (fun w hSw=>?_) hHeld ?_
     rotate_left
     ·((try dsimp only at hSw);go_split_ands;go_simp;(try with_reducible rfl))
     try simp only[Act.put,zA,zB,zC,zD,zE,zF]
     refine tk 5 ?_ rfl (fun w hSw=>?_) hHeld ?_
     rotate_left
     ·((try dsimp only at hSw);go_split_ands;go_simp;(try with_reducible rfl))
     try simp only[Act.put,zA,zB,zC,zD,zE,zF]
     refine tk 6 ?_ rfl (fun w hSw=>?_) hHeld ?_
     rotate_left
     ·((try dsimp only at hSw);go_split_ands;go_simp;(try with_reducible rfl))
     try simp only[Act.put,zA,zB,zC,zD,zE,zF]
     refine tk 7 ?_ rfl (fun w hSw=>?_) hHeld ?_
     rotate_left
     ·((try dsimp only at hSw);go_split_ands;go_simp;(try with_reducible rfl))
     try simp only[Act.put,zA,zB,zC,zD,zE,zF]
     refine tk 8 ?_ rfl (fun w hSw=>?_) hHeld ?_
     rotate_left
     ·((try dsimp only at hSw);go_split_ands;go_simp;(try with_reducible rfl))
     try simp only[Act.put,zA,zB,zC,zD,zE,zF]
     refine tk 9 ?_ rfl (fun w hSw=>?_) hHeld ?_
     rotate_left
     ·((try dsimp only at hSw);go_split_ands;go_simp;(try with_reducible rfl))
     try simp only[Act.put,zA,zB,zC,zD,zE,zF]
     refine tk 10 ?_ rfl (fun w hSw=>?_) hHeld ?_
     rotate_left
     ·((try dsimp only at hSw);go_split_ands;go_simp;(try with_reducible rfl))
     try simp only[Act.put,zA,zB,zC,zD,zE,zF]
     refine tk 11 ?_ rfl (fun w hSw=>?_) hHeld ?_
     rotate_left
     ·((try dsimp only at hSw);go_split_ands;go_simp;(try with_reducible rfl))
     try simp only[Act.put,zA,zB,zC,zD,zE,zF]
     refine tk 12 ?_ rfl (fun w hSw=>?_) hHeld ?_
     rotate_left
     ·((try dsimp only at hSw);go_split_ands;go_simp;(try with_reducible rfl))
     try simp only[Act.put,zA,zB,zC,zD,zE,zF]
     refine tk 13 ?_ rfl (fun w hSw=>?_) hHeld ?_
     rotate_left
     ·((try dsimp only at hSw);go_split_ands;go_simp;(try with_reducible rfl))
     try simp only[Act.put,zA,zB,zC,zD,zE,zF]
     refine tk 14 ?_ rfl (fun w hSw=>?_) hHeld ?_
     rotate_left
     ·((try dsimp only at hSw);go_split_ands;go_simp;(try with_reducible rfl))
     try simp only[Act.put,zA,zB,zC,zD,zE,zF]
     refine tk 15 ?_ rfl (fun w hSw=>?_) hHeld ?_
     rotate_left
     ·((try dsimp only at hSw);go_split_ands;go_simp;(try with_reducible rfl))
     try simp only[Act.put,zA,zB,zC,zD,zE,zF]
     refine rdc 16 rfl fun K hK=>?_
     try simp only[zA,zB,zC]
     (go_simp;refine (c_l10Equal _ a x.a t _ (hV.out.V.below HB.out.drew)).mono ?_;rintro e w3 ⟨rfl,hB3⟩;replace hB3:Below wr.heap.size wr w3:=(Below.refl _ _).drew.trans hB3;have k3:=k0.next hB3;have HB3:=Lib.hid (bgo HB.out hB3);have q0:=(hB3.cell (p:=⟨b,off+k * 3,none⟩) hbl).trans g0;have q1:=(hB3.cell (p:=⟨b,off+k * 3+1,none⟩) hbl).trans g1)
     refine hK.out _ _ (⟨k3.cell,q0,q1⟩) ?_
     clear hHeld hK K
     intro hHeld
     try simp only[Act.put,zA,zB,zC,zD,zE,zF]
     refine tk 17 ?_ rfl (fun w hSw=>?_) hHeld ?_
     rotate_left
     ·((try dsimp only at hSw);go_split_ands;go_simp;(try with_reducible rfl))
     try simp only[Act.put,zA,zB,zC,zD,zE,zF]
     refine wpAnyH_done (by kernel_rfl) ?_ _
     refine NoPanic.normal ?_
     have hz3:=hB3.size
     clear hB3 k0 HB hkb hHeld g0 g1 q0 q1
     cases him:impB a ⟨true,x.a,t⟩
     ·have HA2:Hid (∀ j,j<k+1→findP a 2 t j=false):=Lib.hid fun j hj=>by
       by_cases e:j=k
       ·rw[e,HP.out,him];simp
       ·exact HA.out j (by omega)
      clear HA HP him
      go_wp2_with fail
      go_round
      case rel=>exact ⟨k+1,by omega,by go_num,HA2,k3,HB3.out⟩
      case measure=>simp[intOf];omega
     have HFK:=Lib.hid (findK_yes hlt HA.out (by rw[HP.out,him,HKD.out];rfl))
     have E:=Lib.hid (expose_list (n:=n) (K:=Ks) HV.out HC.out HF1.out HFK.out HXK.out)
     have HUN:=Lib.hid (HLL.out k x HV.out HF1.out HFK.out HXK.out HKD.out him)
     clear HA HP him HFK HXK
     (replace qk3:=k3.cell;replace rk3:=k3.frozen;replace lk3:=k3.lt)
     go_wp2_with fail
     refine (HUN.out lo hi lo' hi' _ B cB _ (hV.out.below HB3.out) (HFL.out.below HB3.out)).mono ?_
     rintro e w4 ⟨r,vs,l,rfl,oR,hll,hRR,hB4⟩
     have OR:=Lib.hid oR
     obtain ⟨R1,r1,rfl⟩:=oR.form
     have HLL4:=Lib.hid hll
     have HRR:=Lib.hid hRR
     have HB4:=Lib.hid (bgo HB3.out hB4)
     have hz4:=hB4.size
     clear oR hll hRR hB4
     go_wp2_with fail
     go_ret2
     exact ⟨_,vs,l,by rw[E.out];rfl,OR.out.lower (by omega),HLL4.out,by rw[E.out];exact HRR.out,HB4.out⟩
    ·obtain rfl:k=a.atoms.length:=by omega
     have E:=Lib.hid (expose_none (n:=n) (K:=Ks) HV.out HC.out HF1.out (findK_no (fun j hj=>HA.out j hj)))
     clear HA
     (replace qk0:=k0.cell;replace rk0:=k0.frozen;replace lk0:=k0.lt)
     go_wp2_with fail
     go_ret2
     exact ⟨_,[],[],by rw[E.out];rfl,(A2O.empty wr rfl).lower hzr,Nat.zero_le _,.inl E.out,bbox HB.out _⟩
theorem c_l10Open:∀ (n:Nat),n≤7→∀ (a:Asn) (t:Int) (K:Nat),OpC n a t K
 | 0,_,a,t,K=>c_l10Open_zero a t K
 | n+1,hn,a,t,K=>c_l10Open_step n a t K (by omega) fun i x hv _ _ hx _ _=>c_l10Unfold n a x i t K hv hx (by omega) (c_l10Open n (by omega) _ t K) fun m=>c_l10Open n (by omega) _ t K
end Go.Proofs.YtjjokmlmknllhaaGreat

/- Exposing cells: spec.ExposeCell. -/
namespace Go.Proofs.YtjjokmlmknllhaaGreat
open Go Go.RowKit Go.Proofs
attribute [local go_sem ↓] Go.wp_at_zero Go.wp_at_succ
theorem BoolsO.readsI9 {w:World} {base:Nat} {A:Option Addr} {n c:Nat} {fs:List Bool} (h:BoolsO w base (.slice A n c) fs):BoolsV w base w.heap.size A fs:=by
 obtain ⟨A',c',e,h1⟩:=h.reads
 injection e with e1 e2 e3
 subst e1
 exact h1
end Go.Proofs.YtjjokmlmknllhaaGreat

/- Symbolic execution of a basic command: assignments are equalities, cells are tracked. Plain; no program. -/
namespace Go.Proofs.YtjjokmlmknllhaaGreat
open Go Go.RowKit
theorem symR_some {a:Asn} {ok:Bool} {k A B:Int} {ks:List Int} {l:List Asn} (h:symR a ok k A B ks=some l):a.valid=true∧ok=true∧symB a k A B (keepK (tset ks) A B)=some l:=by
 unfold symR at h
 split at h
 ·rename_i hc
  rw[Bool.and_eq_true] at hc
  exact ⟨hc.1,hc.2,h⟩
 ·cases h
def frontB (A:Int) (b:Asn):Prop:=b.valid=true∧∃ y rest,b.atoms=⟨1,A,y⟩ :: rest
theorem store_law {a:Asn} {ok:Bool} {k A B:Int} {ks:List Int} {l:List Asn} (h:symR a ok k A B ks=some l) (hk:k=3∨k=4) (hB:k=3→isTermB B=true):∀ b∈l,frontB A b:=by
 obtain ⟨hv,-,h⟩:=symR_some h
 intro b hb
 refine ⟨(symB_ok hv hB h).2 b hb,?_⟩
 unfold symB at h
 rw[if_neg (by omega)] at h
 rcases hk with rfl|rfl
 ·rw[if_neg (by decide)] at h
  obtain ⟨l0,h0,h⟩:=Option.bind_eq_some_iff.1 h
  obtain ⟨g1,g2⟩:=mapF_spec h
  obtain ⟨j,hj,rfl⟩:=List.mem_iff_getElem.1 hb
  have e:=g2 j (by omega) hj
  obtain ⟨-,-,y,rest,ey⟩:=expose_ent _ _ _ _ _ h0 _ (List.getElem_mem (show j<l0.length by omega))
  unfold accF at e
  rw[if_neg (by decide),if_pos rfl] at e
  have e:=Option.some.inj e
  refine ⟨B,rest,?_⟩
  rw[←e]
  unfold storeX head0
  rw[ey]
  rfl
 ·rw[if_pos rfl] at h
  obtain ⟨x,hx,rfl⟩:=Option.map_eq_some_iff.1 h
  obtain rfl:=List.mem_singleton.1 hb
  unfold cellNF at hx
  obtain ⟨p,-,h2⟩:=Option.bind_eq_some_iff.1 hx
  rw[(okX_ok h2).2]
  exact ⟨0,_,rfl⟩
theorem keepK_eq (ks:List Int) (A B:Int):keepK (tset ks) A B=tset (ks++[A,B]):=by
 unfold keepK tset
 rw[List.foldl_append]
 rfl
theorem free_law {a:Asn} {ok:Bool} {A B:Int} {ks:List Int} {l:List Asn} (h:symR a ok 5 A B ks=some l) (hA:isTermB A=true):∃ l0,exposeR a A (ks++[A,B])=some l0∧l0.length=l.length∧∀ (k:Nat) (h:k<l0.length) (h':k<l.length),l0[k].atoms.length=l[k].atoms.length+1:=by
 obtain ⟨hv,-,h⟩:=symR_some h
 unfold symB at h
 rw[if_neg (by decide),if_neg (by decide)] at h
 obtain ⟨l0,h0,h⟩:=Option.bind_eq_some_iff.1 h
 obtain ⟨g1,g2⟩:=mapF_spec h
 refine ⟨l0,?_,g1.symm,fun k k1 k2=>?_⟩
 ·unfold exposeR
  rw[hv,hA,←keepK_eq]
  exact h0
 ·have e:=g2 k k1 k2
  obtain ⟨-,-,y,rest,ey⟩:=expose_ent _ _ _ _ _ h0 _ (List.getElem_mem k1)
  unfold accF at e
  rw[if_neg (by decide),if_neg (by decide)] at e
  rw[←Option.some.inj e]
  unfold freeX withoutL
  rw[ey]
  simp
end Go.Proofs.YtjjokmlmknllhaaGreat

/- Contracts: impl's Allocated. -/
namespace Go.Proofs.YtjjokmlmknllhaaGreat
open Go Go.RowKit Go.Proofs
attribute [local go_sem ↓] Go.wp_at_zero Go.wp_at_succ
attribute [local go_sem] Oper.semAt_some
def begB (xs:List Atm) (k:Int):Bool:=xs.any fun x=>decide (x.a=k)
def allocF (a:Asn) (t:Int):Bool:=a.valid&&isTermB t&&(cases a (caseS a (tins 0 t))).all fun c=>begB (filledL a.atoms c) (cl c t)
set_option maxRecDepth 100000 in
set_option maxHeartbeats 1600000 in
theorem c_impl_beginsAt {lo hi:Nat} (A:Option Addr) (d:Nat) (xs:List Atm) (k:Int) (w:World) (h:AtomsV w lo hi A xs) :
  Calls Tryz.prog 92 #[.slice A xs.length d,.int .i64 k] w fun e w'=>e=.returned (.bool (begB xs k))∧Below w.heap.size w w':=by
 have H:=Lib.hid h
 have hl:=h.le
 have HE:Hid (begB xs k=(xs.drop 0).any fun x=>decide (x.a=k)):=Lib.hid rfl
 clear h
 go_enter Tryz.func92,Tryz.ntmps92
 go_wp2_with fail
 go_loopw [9] (fun i wr=>∃ j:Nat,j≤xs.length∧i=.int .i64 j∧Hid (begB xs k=(xs.drop j).any fun x=>decide (x.a=k))∧Hid (Below w.heap.size w wr)) (fun i _=>xs.length - (intOf i).toNat)
 case atStart=>exact ⟨0,Nat.zero_le _,rfl,HE,Lib.hid (Below.refl _ _)⟩
 case round=>
  obtain ⟨j,hj,rfl,HA,HB⟩:=hrel
  by_cases hlt:j<xs.length
  ·obtain ⟨b,off,rfl,g0,g1,g2⟩:=(H.out.below HB.out).at hlt
   have hki:(j:Int)<(xs.length:Int):=by omega
   have HN:Hid (begB xs k=(decide (xs[j].a=k) || (xs.drop (j+1)).any fun x=>decide (x.a=k))):=Lib.hid (by rw[HA.out,List.drop_eq_getElem_cons hlt,List.any_cons])
   obtain ⟨x,hx⟩:∃ x,x=xs[j]:=⟨_,rfl⟩
   rw[←hx] at g0 g1 g2 HN
   have HB1:=Lib.hid (bbox HB.out (.cells #[.int .i64 x.kind,.int .i64 x.a,.int .i64 x.b] tA))
   clear hx HA
   by_cases hk:x.a=k
   ·have E:Hid (begB xs k=true):=Lib.hid (by rw[HN.out,decide_eq_true hk];rfl)
    have hkb:(x.a == k)=true:=by simpa using hk
    clear hk
    go_wp2_with fail
    go_ret
    exact ⟨ret_bool E.out.symm,HB1.out⟩
   ·have HA2:Hid (begB xs k=(xs.drop (j+1)).any fun x=>decide (x.a=k)):=Lib.hid (by rw[HN.out,decide_eq_false hk];rfl)
    have hkb:(x.a == k)=false:=by simpa using hk
    go_wp2_with fail
    go_round
    case rel=>exact ⟨j+1,by omega,by go_num,HA2,HB1⟩
    case measure=>simp[intOf];omega
  ·obtain rfl:j=xs.length:=by omega
   have E:Hid (begB xs k=false):=Lib.hid (by rw[HA.out,List.drop_length];rfl)
   go_wp2_with fail
   go_ret
   exact ⟨ret_bool E.out.symm,HB.out⟩
set_option maxRecDepth 100000 in
set_option maxHeartbeats 6400000 in
theorem c_impl_Allocated {lo hi:Nat} (v:Value) (a:Asn) (t:Nat) (w:World) (h:AsnV w lo hi v a) (hhi:hi≤w.heap.size) (ht:t<9) :
  Calls Tryz.prog 30 #[v,.int .i64 t] w fun e w'=>e=.returned (.bool (allocF a t))∧Below w.heap.size w w':=by
 have hV:=Lib.hid h
 obtain ⟨A1,c1,A2,c2,rfl,-,h2⟩:=h
 have H2:=Lib.hid h2
 have htT:Hid (isTermB (t:Int)=true):=Lib.hid (isTermB_iff.2 (by omega))
 have HE:Hid (allocF a t=(a.valid&&isTermB (t:Int)&&(cases a (caseS a (tins 0 t))).all fun c=>begB (filledL a.atoms c) (cl c t))):=Lib.hid rfl
 have HFS:Hid (tins 0 (t:Int)<512):=Lib.hid (tins_lt (by decide) _)
 have ht9:(t:Int)<9:=by omega
 clear h2
 refine (callsIn_wide (n:=3)).1 ?_
 (refine callsIn_of_wp_marks Tryz.func30 rfl trivial ?_ rfl;simp only[Tryz.ntmps30,List.size_toArray,List.length_cons,List.length_nil,Nat.reduceAdd,Nat.reduceSub,Array.replicate_succ,Array.replicate_zero,List.push_toArray,List.append_toArray,List.nil_append,List.cons_append])
 gi_wp2_with fail
 refine ⟨trivial,(callsIn_wide.2 (c_impl_AssertionValid _ a _ (hV.out.below bel))).mono ?_⟩
 rintro e w1 ⟨rfl,hB1⟩
 have k0:Blk w1 w.heap.size tAs #[.slice A1 a.facts.length c1,.slice A2 a.atoms.length c2]:=Blk.next blks hB1
 have k1:Blk w1 (w.heap.size+1) tI #[.int .i64 t]:=Blk.next blks hB1
 have k2:Blk w1 (w.heap.size+1+1) 4 #[.bool false]:=Blk.next blks hB1
 have hB:Below w.heap.size w w1:=bgo (w:=w) bel hB1
 have hz1:=hB1.size
 simp only[World.size_alloc] at hz1
 clear hB1
 have q0:=k0.cell
 have q1:=k1.cell
 have q2:=k2.cell
 have r2:=k2.frozen
 have l2:=k2.lt
 have l1:=k1.lt
 have l0:=k0.lt
 cases hv:a.valid
 ·gi_wp2_with fail
  refine ⟨trivial,?_⟩
  gi_wp2_with fail
  have z2:=(k2.set_ 0 (.bool false)).cell 0
  refine ⟨.bool false,by simp[results,Tryz.f30,go_sem,z2,q2,l2],by rw[HE.out,hv];rfl,hB.setCell (p:=⟨w.heap.size+1+1,0,none⟩) (by simp only;omega) _⟩
 have HV:=Lib.hid hv
 clear hv
 gi_wp2_with fail
 refine ⟨trivial,(callsIn_wide.2 (c_impl_isTerm (t:Int) _)).mono ?_⟩
 rintro e w2 ⟨rfl,rfl⟩
 rw[htT.out]
 have HE2:Hid (allocF a t=(cases a (caseS a (tins 0 t))).all fun c=>begB (filledL a.atoms c) (cl c t)):=Lib.hid (by rw[HE.out,HV.out,htT.out];rfl)
 clear HE
 gi_wp2_with fail
 refine wpIn_wide.2 ?_
 refine wp_region_noPanic ?_
 refine wp_region_held_drew (S:=(fun w'=>(∀ i,w'.cell? ⟨w.heap.size,i,none⟩=#[.slice A1 a.facts.length c1,.slice A2 a.atoms.length c2][i]?)∧(∀ i,w'.cell? ⟨w.heap.size+1,i,none⟩=#[Value.int .i64 t][i]?))) (by kernel_rfl) (⟨k0.drew.cell,k1.drew.cell⟩) (fun hHeld=>?_)
 refine tk 0 ?_ rfl (fun w hSw=>?_) hHeld ?_
 rotate_left
 ·((try dsimp only at hSw);go_split_ands;go_simp;(try with_reducible rfl))
 try simp only[Act.put,zA,zB,zC,zD,zE,zF]
 refine tk 1 ?_ rfl (fun w hSw=>?_) hHeld ?_
 rotate_left
 ·((try dsimp only at hSw);go_split_ands;go_simp;(try with_reducible rfl))
 try simp only[Act.put,zA,zB,zC,zD,zE,zF]
 refine tk 2 ?_ rfl (fun w hSw=>?_) hHeld ?_
 rotate_left
 ·((try dsimp only at hSw);go_split_ands;go_simp;(try with_reducible rfl))
 try simp only[Act.put,zA,zB,zC,zD,zE,zF]
 refine rdc 3 rfl fun K hK=>?_
 try simp only[zA,zB,zC]
 (go_simp;refine (c_impl_with 0 (t:Int) _ (by decide)).mono ?_;rintro e w3 ⟨rfl,rfl⟩)
 refine hK.out _ _ (⟨k0.drew.cell,k1.drew.cell⟩) ?_
 clear hHeld hK K
 intro hHeld
 try simp only[Act.put,zA,zB,zC,zD,zE,zF]
 refine rdc 4 rfl fun K hK=>?_
 try simp only[zA,zB,zC]
 (go_simp;refine (c_impl_possibleCases A1 A2 c1 c2 a (tins 0 (t:Int)) _ (hV.out.below hB.drew) HFS.out).mono ?_;rintro e w3 ⟨gA,gT,rfl,hA,hT,kA,kT,hB3⟩;replace hB3:Below w1.heap.size w1 w3:=(Below.refl _ _).drew.trans hB3;replace k0:=k0.next hB3;replace k1:=k1.next hB3;replace k2:=k2.next hB3;replace hB:=bgo hB hB3)
 refine hK.out _ _ (⟨k0.cell,k1.cell⟩) ?_
 clear hHeld hK K
 intro hHeld
 try simp only[Act.put,zA,zB,zC,zD,zE,zF]
 refine wpAnyH_done (by kernel_rfl) ?_ _
 refine NoPanic.normal ?_
 have hzA:w1.heap.size≤gA:=hA
 have hzT:w1.heap.size≤gT:=hT
 have hzO:=k2.lt
 have hz:=hB.size
 have hz3:=hB3.size
 have hAw:=hV.out.below hB
 clear hB3 q0 q1 q2 r2 l0 l1 l2 hA hT
 gi_wp2_with fail
 refine wp_rangeT (gf:=152) (lb:=#[.pointer (some ⟨gA,0,none⟩),.pointer (some ⟨gT,0,none⟩)]) rfl (enters_of Tryz.func152 (by kernel_rfl) rfl)
  (c_seq (n₀:=w.heap.size) w3 HV.out HFS.out hAw hhi (by omega) kA kT) (fun h k=>h.trans k) (Kept.putl (by omega)) (Below.refl _ _) (fun _=>rfl)
  (fun pre W=>Hid (∀ y∈pre,begB (filledL a.atoms y.1) (cl y.1 t)=true)∧Blk W w.heap.size tAs #[.slice A1 a.facts.length c1,.slice A2 a.atoms.length c2]∧Blk W (w.heap.size+1) tI #[.int .i64 t]∧Blk W (w.heap.size+1+1) 4 #[.bool false]∧Below w.heap.size w W)
  (fun c pre W=>∃ x∈pre,c=.ret∧Hid (begB (filledL a.atoms x.1) (cl x.1 t)=false)∧Blk W (w.heap.size+1+1) 4 #[.bool false]∧Below w.heap.size w W)
  (fun s X Y row hs hg hr=>by
   obtain ⟨e1,k0,k1,k2,k3⟩:=hs
   exact ⟨e1,k0.turn hg hr (Or.inr (by omega)),k1.turn hg hr (Or.inr (by omega)),k2.turn hg hr (Or.inr (by omega)),Below.turn k3 hg hr (by omega) k3.size⟩)
  (fun c s X Y row hs hg hr=>by
   obtain ⟨x,e1,e2,e3,k1,k2⟩:=hs
   exact ⟨x,e1,e2,e3,k1.turn hg hr (Or.inr (by omega)),Below.turn k2 hg hr (by omega) k2.size⟩)
  ⟨fun y hy=>absurd hy (by simp),k0,k1,k2,hB⟩ ?round ?done ?stop
 case round=>
  rintro l pre x W hl ⟨HP,k0,k1,k2,hB⟩ -
  have hwz:=hB.size
  gi_wp2
  refine ⟨(KeepsOthers.alloc _ _).from _,Kept.alloc (by omega) _,fun o o' ho hc=>?_⟩
  have kX:=(Blk.new W tTc (case9 x.1)).putl o' ho hc
  replace k0:=(k0.alloc (.cells (case9 x.1) tTc)).putl o' ho hc
  replace k1:=(k1.alloc (.cells (case9 x.1) tTc)).putl o' ho hc
  replace k2:=(k2.alloc (.cells (case9 x.1) tTc)).putl o' ho hc
  have hB':=(bbox hB (.cells (case9 x.1) tTc)).trans (Kept.put (T1:=tTc) (T2:=tAs) (n₀:=w.heap.size) o' (by omega) ho hc).below
  clear ho
  obtain ⟨V,hVe⟩:∃ V,V=(W.alloc (.cells (case9 x.1) tTc)).putObj l o':=⟨_,rfl⟩
  rw[←hVe] at kX k0 k1 k2 hB' ⊢
  clear hVe hB
  have q0:=k0.cell
  have q1:=k1.cell
  have hxl:=Lib.hid x.len
  have hzV:=hB'.size
  have lX:=kX.lt
  have HOK:=Lib.hid (Asn.valid_ok HV.out).2
  have kC:=kX.case hxl.out
  have qC:V.cell? ⟨W.heap.size,t,none⟩=some (.int .i64 (cl x.1 t)):=case_cell kC (by rw[hxl.out];omega)
  gi_wp2_with fail
  refine wpIn_noPanic ?_
  refine wpIn_region_held (S:=(fun w'=>(∀ i,w'.cell? ⟨w.heap.size,i,none⟩=#[.slice A1 a.facts.length c1,.slice A2 a.atoms.length c2][i]?)∧(∀ i,w'.cell? ⟨w.heap.size+1,i,none⟩=#[Value.int .i64 t][i]?)∧w'.cell? ⟨W.heap.size,t,none⟩=some (.int .i64 (cl x.1 t)))) (by kernel_rfl) (fun h=>by obtain ⟨_,_,h⟩:=h;exact h) (by kernel_rfl) (⟨k0.drew.cell,k1.drew.cell,qC⟩) (fun hHeld=>?_)
  have hdr:Below V.heap.size V V.drew:=(Below.refl _ _).drew
  refine tk 0 ?_ rfl (fun w hSw=>?_) hHeld ?_
  rotate_left
  ·((try dsimp only at hSw);go_split_ands;go_simp;(try with_reducible rfl))
  try simp only[Act.put,zA,zB,zC,zD,zE,zF]
  refine tk 1 ?_ rfl (fun w hSw=>?_) hHeld ?_
  rotate_left
  ·((try dsimp only at hSw);go_split_ands;go_simp;(try with_reducible rfl))
  try simp only[Act.put,zA,zB,zC,zD,zE,zF]
  refine tk 3 ?_ rfl (fun w hSw=>?_) hHeld ?_
  rotate_left
  ·((try dsimp only at hSw);go_split_ands;go_simp;(try with_reducible rfl))
  try simp only[Act.put,zA,zB,zC,zD,zE,zF]
  refine tk 4 ?_ rfl (fun w hSw=>?_) hHeld ?_
  rotate_left
  ·((try dsimp only at hSw);go_split_ands;go_simp;(try with_reducible rfl))
  try simp only[Act.put,zA,zB,zC,zD,zE,zF]
  refine tk 5 ?_ rfl (fun w hSw=>?_) hHeld ?_
  rotate_left
  ·((try dsimp only at hSw);go_split_ands;go_simp;(try with_reducible rfl))
  try simp only[Act.put,zA,zB,zC,zD,zE,zF]
  refine rdc 2 rfl fun K hK=>?_
  try simp only[zA,zB,zC]
  (go_simp;refine (c_impl_filled A2 c2 a.atoms x.1 W.heap.size _ (H2.out.below (bgo hB' hdr)) (kC.next hdr) hxl.out HOK.out).mono ?_;rintro e w4 ⟨r4,rfl,o4,hB4⟩;replace hB4:Below V.heap.size V w4:=bgo hdr hB4;obtain ⟨FA,fc,rfl,hfa⟩:=o4.reads;replace k0:=k0.next hB4;replace k1:=k1.next hB4;replace k2:=k2.next hB4;have qC4:=(hB4.cell (p:=⟨W.heap.size,t,none⟩) lX).trans qC)
  refine hK.out _ _ (⟨k0.cell,k1.cell,qC4⟩) ?_
  clear hHeld hK K
  intro hHeld
  try simp only[Act.put,zA,zB,zC,zD,zE,zF]
  refine rdc 6 rfl fun K hK=>?_
  try simp only[zA,zB,zC]
  (go_simp;refine (c_impl_beginsAt FA fc (filledL a.atoms x.1) (cl x.1 t) _ hfa).mono ?_;rintro e w5 ⟨rfl,hB5⟩;replace k0:=k0.next hB5;replace k1:=k1.next hB5;replace k2:=k2.next hB5;have qC5:=(hB5.cell (p:=⟨W.heap.size,t,none⟩) (Nat.lt_of_lt_of_le lX hB4.size)).trans qC4;have hBq:Below V.heap.size V w5:=bgo hB4 hB5)
  refine hK.out _ _ (⟨k0.cell,k1.cell,qC5⟩) ?_
  clear hHeld hK K
  intro hHeld
  try simp only[Act.put,zA,zB,zC,zD,zE,zF]
  refine tk 7 ?_ rfl (fun w hSw=>?_) hHeld ?_
  rotate_left
  ·((try dsimp only at hSw);go_split_ands;go_simp;(try with_reducible rfl))
  try simp only[Act.put,zA,zB,zC,zD,zE,zF]
  refine wpAnyH_done (by kernel_rfl) ?_ _
  refine NoPanic.normal ?_
  have hBV:=bgo hB' hBq
  have hKV:Kept tTc tAs w.heap.size V w5:=Kept.next hBq hzV
  have hKF:KeepsOthers V w5:=(KX.of hBq).keeps
  clear q0 q1 hB4 hB5 hBq qC4 qC5 qC
  have q2:=k2.cell 0
  have r2:=k2.frozen
  have l2:=k2.lt
  cases he:begB (filledL a.atoms x.1) (cl x.1 t)
  ·have HE:=Lib.hid he
   clear he
   gi_wp2
   exact ⟨(hKF.trans (KeepsOthers.setCell _ _ _)).from _,x,by simp,rfl,HE,k2.set_ 0 (.bool false),hBV.setCell (p:=⟨w.heap.size+1+1,0,none⟩) (by simp only;omega) _⟩
  ·have HP2:Hid (∀ y∈pre++[x],begB (filledL a.atoms y.1) (cl y.1 t)=true):=fun y hy=>by
    rcases List.mem_append.1 hy with hy|hy
    ·exact HP.out y hy
    ·rw[List.mem_singleton.1 hy];exact he
   clear he
   gi_wp2
   exact ⟨hKF.from _,hKV,HP2,k0,k1,k2,hBV⟩
 case done=>
  rintro D ys W hD hS ⟨HP,k0,k1,k2,hB⟩ hK
  have E:Hid (allocF a t=true):=by
   show _=_
   rw[HE2.out,←hS,List.all_eq_true]
   intro y hy
   obtain ⟨z,hz,rfl⟩:=List.mem_map.1 hy
   exact HP.out z hz
  clear hS k1
  have q2:=k2.cell 0
  have r2:=k2.frozen
  have l2:=k2.lt
  gi_wp2
  have z2:=k2.set_ 0 (.bool true)
  have zB:=hB.setCell (p:=⟨w.heap.size+1+1,0,none⟩) (by simp only;omega) (.bool true)
  have zK:=(KeepsOthers.setCell W ⟨w.heap.size+1+1,0,none⟩ (.bool true)).same D _ hK rfl
  obtain ⟨V,hVe⟩:∃ V,V=W.setCell ⟨w.heap.size+1+1,0,none⟩ (.bool true):=⟨_,rfl⟩
  rw[←hVe] at z2 zB zK ⊢
  refine ⟨by simp,.inl ⟨_,_,rfl,run_takeDeferred zK,?_⟩⟩
  have y2:=(z2.putl (.deferred none) zK rfl).cell 0
  refine ⟨.bool true,?_,by rw[E.out],zB.trans (belowK_b (w:=w) (Nat.le_refl _) V D _ _ (by omega) zK rfl rfl)⟩
  simp at y2
  simp[results,Tryz.f30,go_sem,y2]
 case stop=>
  rintro D c pre W hD hPre ⟨x,hx,rfl,HX,k2,hB⟩ hK
  have E:Hid (allocF a t=false):=by
   show _=_
   rw[HE2.out,List.all_eq_false]
   exact ⟨x.1,x.2,by rw[HX.out];decide⟩
  have q2:=k2.cell 0
  have l2:=k2.lt
  gi_wp2
  refine ⟨by simp,.inl ⟨_,_,rfl,run_takeDeferred hK,?_⟩⟩
  have y2:=(k2.putl (.deferred none) hK rfl).cell 0
  refine ⟨.bool false,?_,by rw[E.out],hB.trans (belowK_b (w:=w) (Nat.le_refl _) W D _ _ (by omega) hK rfl rfl)⟩
  simp at y2
  simp[results,Tryz.f30,go_sem,y2]
end Go.Proofs.YtjjokmlmknllhaaGreat
