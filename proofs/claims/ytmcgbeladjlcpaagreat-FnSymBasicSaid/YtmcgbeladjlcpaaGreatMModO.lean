/- Exposing cells: spec.l10Open, spec.ExposeCell. Printed by genOpnO.py. -/
import Derived.Test.YtmcgbeladjlcpaaGreatMExpL
import Derived.Deep.LoopGhost
set_option linter.unusedSimpArgs false
set_option linter.unusedVariables false
set_option maxRecDepth 100000
set_option maxHeartbeats 25600000
namespace Go.Proofs.YtmcgbeladjlcpaaGreat
section
open Go Go.RowKit Go.Proofs
attribute [local go_sem ↓] Go.wp_at_zero Go.wp_at_succ
theorem c_l10Open_zero (a:Asn) (t:Int) (Ks:Nat):OpC 0 a t Ks:=by
 intro lo hi lo' hi' v B cB w h hB0 hl1 hl2
 have hV:=Lib.hid h
 obtain ⟨A1,c1,A2,c2,rfl,-⟩:=h
 have E:Hid (exposeF 0 a t Ks=none):=rfl
 clear hB0
 go_enter Tryz.func71,Tryz.ntmps71
 go_wp2_with fail
 refine (c_spec_AssertionValid _ a _ (hV.out.V.below bel)).mono ?_
 rintro e w1 ⟨rfl,hB1⟩
 have HB:=Lib.hid (bgo (w:=w) bel hB1)
 have hz1:w.heap.size≤w1.heap.size:=HB.out.size
 clear hB1
 cases hv:a.valid
 all_goals
  clear hv
  go_wp2_with fail
  go_ret2
  exact ⟨_,[],[],by rw[E.out];rfl,(A2O.empty w1 rfl).lower hz1,Nat.zero_le _,.inl E.out,bbox HB.out _⟩
theorem c_l10Open_step (n:Nat) (a:Asn) (t:Int) (Ks:Nat) (hn:n≤6) (HL:∀ i x,a.valid=true→findK a 1 t=none→findK a 2 t=some i→a.atoms[i]? = some x→x.kind=2→impB a ⟨true,x.a,t⟩=true→UnC n a x i t Ks):OpC (n+1) a t Ks:=by
 intro lo hi lo' hi' v B cB w h hB0 hl1 hl2
 rw[show ((n+1:Nat):Int)=(n:Int)+1 from by omega]
 have hV:=Lib.hid h
 have HFL:=Lib.hid hB0
 obtain ⟨A1,c1,A2,c2,rfl,-,h2,-⟩:=h
 have H2:=Lib.hid h2
 have HLL:=Lib.hid HL
 have hge:¬((n:Int)+1<1):=by omega
 clear h2 hB0 HL
 go_enter Tryz.func71,Tryz.ntmps71
 have k0:Blk (w.alloc (.cells #[.slice A1 a.facts.length c1,.slice A2 a.atoms.length c2] tAs)) w.heap.size tAs #[.slice A1 a.facts.length c1,.slice A2 a.atoms.length c2]:=blks
 go_wp2_with fail
 refine (c_spec_AssertionValid _ a _ (hV.out.V.below bel)).mono ?_
 rintro e w1 ⟨rfl,hB1⟩
 have HB:=Lib.hid (bgo (w:=w) bel hB1)
 replace k0:=k0.next hB1
 have hz1:w.heap.size≤w1.heap.size:=HB.out.size
 clear hB1
 cases hv:a.valid
 ·have E:=Lib.hid (expose_bad (n:=n+1) (t:=t) (K:=Ks) hv)
  clear hv
  go_wp2_with fail
  go_ret2
  exact ⟨_,[],[],by rw[E.out];rfl,(A2O.empty w1 rfl).lower hz1,Nat.zero_le _,.inl E.out,bbox HB.out _⟩
 have HV:=Lib.hid hv
 have hvl:=valid_len hv
 clear hv
 (replace qk0:=k0.cell;replace rk0:=k0.frozen;replace lk0:=k0.lt)
 go_wp2_with fail
 refine (c_spec_Consistent _ a _ (hV.out.V.below HB.out)).mono ?_
 rintro e w2 ⟨rfl,hB2⟩
 rw[show (a.valid && !(cases a (caseS a 0)).isEmpty)=consB a from rfl]
 have HB2:=Lib.hid (bgo HB.out hB2)
 replace k0:=k0.next hB2
 have hz2:=HB2.out.size
 clear hB2 HB qk0 rk0 lk0
 cases hc:consB a
 ·have E:=Lib.hid (expose_no (n:=n) (t:=t) (K:=Ks) HV.out hc)
  clear hc
  go_wp2_with fail
  go_ret2
  exact ⟨_,[],[],by rw[E.out];rfl,(A2O.empty w2 rfl).lower hz2,Nat.zero_le _,.inr E.out,bbox HB2.out _⟩
 have HC:=Lib.hid hc
 clear hc hz1 hge
 go_wp2_with fail
 go_loopw [10] (fun i wr=>∃ k:Nat,k≤a.atoms.length∧i=.int .i64 k∧Hid (∀ j,j<k→findP a 1 t j=false)∧Blk wr w.heap.size tAs #[.slice A1 a.facts.length c1,.slice A2 a.atoms.length c2]∧Hid (Below w.heap.size w wr)) (fun i _=>a.atoms.length - (intOf i).toNat)
 case atStart=>exact ⟨0,Nat.zero_le _,rfl,Lib.hid fun j h=>by omega,k0,HB2.out⟩
 case round=>
  clear k0 HB2 hz2
  obtain ⟨k,hk,rfl,HA,k0,HB⟩:=hrel
  have hzr:=HB.out.size
  by_cases hlt:k<a.atoms.length
  ·obtain ⟨b,off,rfl,g0,g1,g2⟩:=(H2.out.below HB.out).at hlt
   have hki:(k:Int)<(a.atoms.length:Int):=by omega
   have HP:Hid (findP a 1 t k=(decide (a.atoms[k].kind=1)&&impB a ⟨true,a.atoms[k].a,t⟩)):=Lib.hid (by unfold findP;rw[List.getElem?_eq_getElem hlt])
   have HXK:Hid (a.atoms[k]? = some a.atoms[k]):=Lib.hid (List.getElem?_eq_getElem hlt)
   obtain ⟨x,hx⟩:∃ x,x=a.atoms[k]:=⟨_,rfl⟩
   rw[←hx] at g0 g1 g2 HP HXK
   have hbx:Below wr.heap.size wr (wr.alloc (.cells #[.int .i64 x.kind,.int .i64 x.a,.int .i64 x.b] tA)):=bbox (Below.refl _ _) _
   have kx:Blk (wr.alloc (.cells #[.int .i64 x.kind,.int .i64 x.a,.int .i64 x.b] tA)) wr.heap.size tA #[.int .i64 x.kind,.int .i64 x.a,.int .i64 x.b]:=Blk.new _ _ _
   have k1:=k0.next hbx
   have HB1:=Lib.hid (bgo HB.out hbx)
   have hzx:(wr.alloc (.cells #[.int .i64 x.kind,.int .i64 x.a,.int .i64 x.b] tA)).heap.size=wr.heap.size+1:=by simp
   clear hx hbx
   (replace qk0:=k0.cell;replace rk0:=k0.frozen;replace lk0:=k0.lt)
   go_upto_region 9 with fail
   clear qk0 rk0 lk0 g0 g1 g2 k0 HB
   generalize (wr.alloc (.cells #[.int .i64 x.kind,.int .i64 x.a,.int .i64 x.b] tA))=W at k1 HB1 kx hzx ⊢
   obtain ⟨yx,hyx⟩:∃ y,y=wr.heap.size:=⟨_,rfl⟩
   rw[←hyx] at kx hzx hzr ⊢
   have hzy:yx<W.heap.size:=by omega
   clear hyx hzx
   (replace qk1:=k1.cell;replace rk1:=k1.frozen;replace lk1:=k1.lt;replace qkx:=kx.cell;replace rkx:=kx.frozen;replace lkx:=kx.lt)
   by_cases hkd:x.kind=1
   case neg=>
    have hkb:(x.kind == 1)=false:=by simpa using hkd
    have HA2:Hid (∀ j,j<k+1→findP a 1 t j=false):=Lib.hid fun j hj=>by
     by_cases e:j=k
     ·rw[e,HP.out];simp[hkd]
     ·exact HA.out j (by omega)
    clear HA HP hkd
    go_wp2_with fail
    go_round
    case rel=>exact ⟨k+1,by omega,by go_num,HA2,k1,HB1.out⟩
    case measure=>simp[intOf];omega
   have hkb:(x.kind == 1)=true:=by simpa using hkd
   have HKD:=Lib.hid hkd
   clear hkd
   go_wp2_with fail
   refine (c_l10Equal _ a x.a t _ (hV.out.V.below HB1.out)).mono ?_
   rintro e w3 ⟨rfl,hB3⟩
   replace k1:=k1.next hB3
   replace kx:=kx.next hB3
   have HB3:=Lib.hid (bgo HB1.out hB3)
   have hz3:=hB3.size
   clear hB3 qk1 rk1 lk1 qkx rkx lkx HB1 hkb
   cases him:impB a ⟨true,x.a,t⟩
   ·have HA2:Hid (∀ j,j<k+1→findP a 1 t j=false):=Lib.hid fun j hj=>by
     by_cases e:j=k
     ·rw[e,HP.out,him];simp
     ·exact HA.out j (by omega)
    clear HA HP him
    go_wp2_with fail
    go_round
    case rel=>exact ⟨k+1,by omega,by go_num,HA2,k1,HB3.out⟩
    case measure=>simp[intOf];omega
   have HFK:=Lib.hid (findK_yes hlt HA.out (by rw[HP.out,him,HKD.out];rfl))
   have E:=Lib.hid (expose_cell (n:=n) (K:=Ks) HV.out HC.out HFK.out HXK.out)
   clear HA HP him HFK HXK
   have hwl:=withoutL_len hlt
   have HLT:=Lib.hid hlt
   (replace qk1:=k1.cell;replace rk1:=k1.frozen;replace lk1:=k1.lt;replace qkx:=kx.cell;replace rkx:=kx.frozen;replace lkx:=kx.lt)
   go_wp2_with fail
   refine (c_l10Front _ a ⟨1,t,x.b⟩ k _ (hV.out.V.below HB3.out) HV.out HLT.out).mono ?_
   rintro e w4 ⟨F,d,G,g,rfl,oF,hB4⟩
   have OF:=Lib.hid oF
   replace kx:=kx.next hB4
   have HB4:=Lib.hid (bgo HB3.out hB4)
   have hz4:=hB4.size
   clear oF hB4 qk1 rk1 lk1 qkx rkx lkx HB3 k1
   (replace qkx:=kx.cell;replace rkx:=kx.frozen;replace lkx:=kx.lt)
   go_upto_region 11 with fail
   have hbq:=bbox (Below.refl w4.heap.size w4) (.cells #[.slice F a.facts.length d,.slice G a.atoms.length g] tAs)
   have ko:Blk (w4.alloc (.cells #[.slice F a.facts.length d,.slice G a.atoms.length g] tAs)) w4.heap.size tAs #[.slice F a.facts.length d,.slice G a.atoms.length g]:=Blk.new _ _ _
   replace kx:=kx.next hbq
   replace OF:=Lib.hid (OF.out.below hbq)
   replace HB4:=Lib.hid (bgo HB4.out hbq)
   have hzo:w4.heap.size<(w4.alloc (.cells #[.slice F a.facts.length d,.slice G a.atoms.length g] tAs)).heap.size:=by simp
   clear hbq qkx rkx lkx
   generalize (w4.alloc (.cells #[.slice F a.facts.length d,.slice G a.atoms.length g] tAs))=W4 at ko kx OF HB4 hzo ⊢
   obtain ⟨yo,hyo⟩:∃ y,y=w4.heap.size:=⟨_,rfl⟩
   rw[←hyo] at ko hzo hz4 ⊢
   clear hyo
   (replace qko:=ko.cell;replace rko:=ko.frozen;replace lko:=ko.lt;replace qkx:=kx.cell;replace rkx:=kx.frozen;replace lkx:=kx.lt)
   by_cases hxt:x.a=t
   ·have hb:(x.a != t)=false:=by simpa using hxt
    have HXE:Hid (cellX a x k t=⟨a.facts,[⟨1,t,x.b⟩]++withoutL a.atoms k⟩):=Lib.hid (by unfold cellX;rw[if_pos hxt,List.append_nil];rfl)
    have OX:Hid (AsnO W4 w.heap.size (.agg #[.slice F a.facts.length d,.slice G a.atoms.length g]) (cellX a x k t)):=Lib.hid (by rw[HXE.out];exact OF.out.lower (by omega))
    have hlf:a.facts.length≤1000:=by omega
    clear hxt HXE OF kx
    generalize a.facts.length=lf at ko OX hlf ⊢
    go_upto_region 13 with fail
    refine wp_region_noPanic ?_
    refine wp_region_held_drew (S:=(fun w'=>∀ i,w'.cell? ⟨yo,i,none⟩=#[.slice F lf d,.slice G a.atoms.length g][i]?)) (by kernel_rfl) (ko.drew.cell) (fun hHeld=>?_)
    have HBQ:Hid (Below W4.heap.size W4 W4.drew):=Lib.hid (Below.refl _ _).drew
    have hzq:W4.heap.size≤W4.drew.heap.size:=Nat.le_refl _
    clear qko rko lko
    generalize W4.drew=wq at HBQ hzq hHeld ⊢
    refine tk2 0 rfl hHeld ?_
    try simp only[zz]
    refine tk2 2 rfl hHeld ?_
    try simp only[zz]
    refine wpAnyH_ready (rs:=[1,3]) (by kernel_rfl) (by simp) ?_
    refine AllReadyH.cons rfl (fun K hK=>?_) (AllReadyH.cons rfl (fun K hK=>?_) AllReadyH.nil)
    ·skip
     try simp only[zz]
     go_simp
     refine hK.out _ _ ((ko.next HBQ.out).alloc _).cell (fun hHeldN=>?_)
     clear hHeld hK K
     have hHeld:=hHeldN
     clear hHeldN
     try simp only[zz]
     have hBq:Below wq.heap.size wq (wq.alloc (.cells #[.slice F lf d,.slice G a.atoms.length g] tAs)):=bbox (Below.refl _ _) _
     obtain ⟨yA,hyA⟩:∃ y,y=wq.heap.size:=⟨_,rfl⟩
     have hyAb:W4.heap.size≤yA:=by omega
     replace HBQ:=Lib.hid (HBQ.out.trans (hBq.mono hzq))
     replace hzq:=Nat.le_trans hzq hBq.size
     try replace kA:=kA.next hBq
     have kA:Blk (wq.alloc (.cells #[.slice F lf d,.slice G a.atoms.length g] tAs)) yA tAs #[.slice F lf d,.slice G a.atoms.length g]:=Blk.newE hyA
     rw[←hyA]
     clear hBq hyA
     generalize wq.alloc (.cells #[.slice F lf d,.slice G a.atoms.length g] tAs)=wq at *
     refine wpAnyH_ready (rs:=[3]) (by kernel_rfl) (by simp) ?_
     refine AllReadyH.cons rfl (fun K hK=>?_) AllReadyH.nil
     try simp only[zz]
     go_simp
     refine (c_spec_AssertionValid _ (cellX a x k t) _ (OX.out.reads.below HBQ.out)).mono ?_
     rintro e wq ⟨rfl,hBq⟩
     replace HBQ:=Lib.hid (HBQ.out.trans (hBq.mono hzq))
     replace hzq:=Nat.le_trans hzq hBq.size
     try replace kA:=kA.next hBq
     clear hBq
     refine hK.out _ _ (ko.next HBQ.out).cell (fun hHeldN=>?_)
     clear hHeld hK K
     have hHeld:=hHeldN
     clear hHeldN
     try simp only[zz]
     refine tk2 4 rfl hHeld ?_
     try simp only[zz]
     refine tk2 5 rfl hHeld ?_
     try simp only[zz]
     refine wpAnyH_done (by kernel_rfl) ?_ _
     refine NoPanic.normal ?_
     have hzw4:=HB4.out.size
     go_wp2_with fail
     go_ret2
     have hA:A2O wq w.heap.size (.slice (some ⟨yA,0,none⟩) 1 1) [.slice F lf d,.slice G a.atoms.length g] [cellX a x k t]:=A2O.one kA (by omega) (OX.out.below HBQ.out)
     have hBf:Below w.heap.size w wq:=bgo HB4.out HBQ.out
     have h2n:1≤2 ^ (n+1):=Nat.one_le_two_pow
     cases hcv:(cellX a x k t).valid
     ·have E2:exposeF (n+1) a t Ks=none:=by rw[E.out,hcv];rfl
      exact ⟨_,_,_,by rw[E2];rfl,hA,h2n,.inl E2,hBf⟩
     ·have E2:exposeF (n+1) a t Ks=some [cellX a x k t]:=by rw[E.out,hcv];rfl
      exact ⟨_,_,_,by rw[E2];rfl,hA,h2n,.inr E2,hBf⟩
    ·skip
     try simp only[zz]
     go_simp
     refine (c_spec_AssertionValid _ (cellX a x k t) _ (OX.out.reads.below HBQ.out)).mono ?_
     rintro e wq ⟨rfl,hBq⟩
     replace HBQ:=Lib.hid (HBQ.out.trans (hBq.mono hzq))
     replace hzq:=Nat.le_trans hzq hBq.size
     try replace kA:=kA.next hBq
     clear hBq
     refine hK.out _ _ (ko.next HBQ.out).cell (fun hHeldN=>?_)
     clear hHeld hK K
     have hHeld:=hHeldN
     clear hHeldN
     try simp only[zz]
     refine wpAnyH_ready (rs:=[1]) (by kernel_rfl) (by simp) ?_
     refine AllReadyH.cons rfl (fun K hK=>?_) AllReadyH.nil
     try simp only[zz]
     go_simp
     refine hK.out _ _ ((ko.next HBQ.out).alloc _).cell (fun hHeldN=>?_)
     clear hHeld hK K
     have hHeld:=hHeldN
     clear hHeldN
     try simp only[zz]
     have hBq:Below wq.heap.size wq (wq.alloc (.cells #[.slice F lf d,.slice G a.atoms.length g] tAs)):=bbox (Below.refl _ _) _
     obtain ⟨yA,hyA⟩:∃ y,y=wq.heap.size:=⟨_,rfl⟩
     have hyAb:W4.heap.size≤yA:=by omega
     replace HBQ:=Lib.hid (HBQ.out.trans (hBq.mono hzq))
     replace hzq:=Nat.le_trans hzq hBq.size
     try replace kA:=kA.next hBq
     have kA:Blk (wq.alloc (.cells #[.slice F lf d,.slice G a.atoms.length g] tAs)) yA tAs #[.slice F lf d,.slice G a.atoms.length g]:=Blk.newE hyA
     rw[←hyA]
     clear hBq hyA
     generalize wq.alloc (.cells #[.slice F lf d,.slice G a.atoms.length g] tAs)=wq at *
     refine tk2 4 rfl hHeld ?_
     try simp only[zz]
     refine tk2 5 rfl hHeld ?_
     try simp only[zz]
     refine wpAnyH_done (by kernel_rfl) ?_ _
     refine NoPanic.normal ?_
     have hzw4:=HB4.out.size
     go_wp2_with fail
     go_ret2
     have hA:A2O wq w.heap.size (.slice (some ⟨yA,0,none⟩) 1 1) [.slice F lf d,.slice G a.atoms.length g] [cellX a x k t]:=A2O.one kA (by omega) (OX.out.below HBQ.out)
     have hBf:Below w.heap.size w wq:=bgo HB4.out HBQ.out
     have h2n:1≤2 ^ (n+1):=Nat.one_le_two_pow
     cases hcv:(cellX a x k t).valid
     ·have E2:exposeF (n+1) a t Ks=none:=by rw[E.out,hcv];rfl
      exact ⟨_,_,_,by rw[E2];rfl,hA,h2n,.inl E2,hBf⟩
     ·have E2:exposeF (n+1) a t Ks=some [cellX a x k t]:=by rw[E.out,hcv];rfl
      exact ⟨_,_,_,by rw[E2];rfl,hA,h2n,.inr E2,hBf⟩
   ·have hb:(x.a != t)=true:=by simpa using hxt
    have HXE:Hid (cellX a x k t=⟨a.facts++[⟨true,x.a,t⟩],[⟨1,t,x.b⟩]++withoutL a.atoms k⟩):=Lib.hid (by unfold cellX;rw[if_neg hxt];rfl)
    clear hxt
    go_wp2_with fail
    have hlg:(⟨a.facts,[⟨1,t,x.b⟩]++withoutL a.atoms k⟩:Asn).atoms.length=a.atoms.length:=by simp;omega
    have HKN:=Lib.hid (fun (Z:World) (hz:Below W4.heap.size W4 Z)=>c_l10Know _ ⟨a.facts,[⟨1,t,x.b⟩]++withoutL a.atoms k⟩ x.a t Z (OF.out.reads.below hz) (by simp only;omega))
    rw[hlg] at HKN
    refine (HKN.out _ (Below.refl _ _)).mono ?_
    rintro e w5 ⟨F5,d5,G5,g5,rfl,o5,hB5⟩
    have OX5:Hid (AsnO w5 w.heap.size (.agg #[.slice F5 (a.facts.length+1) d5,.slice G5 a.atoms.length g5]) (cellX a x k t)):=Lib.hid (by rw[HXE.out];exact o5.lower (by omega))
    have HB5:=Lib.hid (bgo HB4.out hB5)
    replace ko:=ko.next hB5
    have hz5:=hB5.size
    clear HKN hlg OF o5 hB5 HXE HB4 kx qko rko lko qkx rkx lkx
    (replace qko:=ko.cell;replace rko:=ko.frozen;replace lko:=ko.lt)
    go_upto_region 13 with fail
    have ko2:Blk ((w5.setCell ⟨yo,0,none⟩ (.slice F5 (a.facts.length+1) d5)).setCell ⟨yo,1,none⟩ (.slice G5 a.atoms.length g5)) yo tAs #[.slice F5 (a.facts.length+1) d5,.slice G5 a.atoms.length g5]:=by
     have:=(ko.set_ 0 (.slice F5 (a.facts.length+1) d5)).set_ 1 (.slice G5 a.atoms.length g5)
     simpa using this
    have OX2:Hid (AsnO ((w5.setCell ⟨yo,0,none⟩ (.slice F5 (a.facts.length+1) d5)).setCell ⟨yo,1,none⟩ (.slice G5 a.atoms.length g5)) w.heap.size (.agg #[.slice F5 (a.facts.length+1) d5,.slice G5 a.atoms.length g5]) (cellX a x k t)):=Lib.hid ⟨_,_,rfl,(OX5.out.parts.1.setT ko (by decide) 0 _).setT (ko.set_ 0 _) (by decide) 1 _,(OX5.out.parts.2.setT ko (by decide) 0 _).setT (ko.set_ 0 _) (by decide) 1 _⟩
    have HB6:Hid (Below w.heap.size w ((w5.setCell ⟨yo,0,none⟩ (.slice F5 (a.facts.length+1) d5)).setCell ⟨yo,1,none⟩ (.slice G5 a.atoms.length g5))):=Lib.hid ((HB5.out.setCell (p:=⟨yo,0,none⟩) (by simp only;omega) _).setCell (p:=⟨yo,1,none⟩) (by simp only;omega) _)
    have hzo2:yo<((w5.setCell ⟨yo,0,none⟩ (.slice F5 (a.facts.length+1) d5)).setCell ⟨yo,1,none⟩ (.slice G5 a.atoms.length g5)).heap.size:=ko2.lt
    clear ko OX5 HB5 hz5 hzo qko rko lko
    generalize ((w5.setCell ⟨yo,0,none⟩ (.slice F5 (a.facts.length+1) d5)).setCell ⟨yo,1,none⟩ (.slice G5 a.atoms.length g5))=W5 at ko2 OX2 HB6 hzo2 ⊢
    have ko:=ko2
    have OX:=OX2
    have HB4:=HB6
    have hzo:=hzo2
    have hlf:a.facts.length+1≤1000:=by omega
    clear ko2 OX2 HB6 hzo2
    generalize W5=W4 at ko OX HB4 hzo ⊢
    generalize F5=F at ko OX ⊢
    generalize d5=d at ko OX ⊢
    generalize G5=G at ko OX ⊢
    generalize g5=g at ko OX ⊢
    generalize a.facts.length+1=lf at ko OX hlf ⊢
    (replace qko:=ko.cell;replace rko:=ko.frozen;replace lko:=ko.lt)
    refine wp_region_noPanic ?_
    refine wp_region_held_drew (S:=(fun w'=>∀ i,w'.cell? ⟨yo,i,none⟩=#[.slice F lf d,.slice G a.atoms.length g][i]?)) (by kernel_rfl) (ko.drew.cell) (fun hHeld=>?_)
    have HBQ:Hid (Below W4.heap.size W4 W4.drew):=Lib.hid (Below.refl _ _).drew
    have hzq:W4.heap.size≤W4.drew.heap.size:=Nat.le_refl _
    clear qko rko lko
    generalize W4.drew=wq at HBQ hzq hHeld ⊢
    refine tk2 0 rfl hHeld ?_
    try simp only[zz]
    refine tk2 2 rfl hHeld ?_
    try simp only[zz]
    refine wpAnyH_ready (rs:=[1,3]) (by kernel_rfl) (by simp) ?_
    refine AllReadyH.cons rfl (fun K hK=>?_) (AllReadyH.cons rfl (fun K hK=>?_) AllReadyH.nil)
    ·skip
     try simp only[zz]
     go_simp
     refine hK.out _ _ ((ko.next HBQ.out).alloc _).cell (fun hHeldN=>?_)
     clear hHeld hK K
     have hHeld:=hHeldN
     clear hHeldN
     try simp only[zz]
     have hBq:Below wq.heap.size wq (wq.alloc (.cells #[.slice F lf d,.slice G a.atoms.length g] tAs)):=bbox (Below.refl _ _) _
     obtain ⟨yA,hyA⟩:∃ y,y=wq.heap.size:=⟨_,rfl⟩
     have hyAb:W4.heap.size≤yA:=by omega
     replace HBQ:=Lib.hid (HBQ.out.trans (hBq.mono hzq))
     replace hzq:=Nat.le_trans hzq hBq.size
     try replace kA:=kA.next hBq
     have kA:Blk (wq.alloc (.cells #[.slice F lf d,.slice G a.atoms.length g] tAs)) yA tAs #[.slice F lf d,.slice G a.atoms.length g]:=Blk.newE hyA
     rw[←hyA]
     clear hBq hyA
     generalize wq.alloc (.cells #[.slice F lf d,.slice G a.atoms.length g] tAs)=wq at *
     refine wpAnyH_ready (rs:=[3]) (by kernel_rfl) (by simp) ?_
     refine AllReadyH.cons rfl (fun K hK=>?_) AllReadyH.nil
     try simp only[zz]
     go_simp
     refine (c_spec_AssertionValid _ (cellX a x k t) _ (OX.out.reads.below HBQ.out)).mono ?_
     rintro e wq ⟨rfl,hBq⟩
     replace HBQ:=Lib.hid (HBQ.out.trans (hBq.mono hzq))
     replace hzq:=Nat.le_trans hzq hBq.size
     try replace kA:=kA.next hBq
     clear hBq
     refine hK.out _ _ (ko.next HBQ.out).cell (fun hHeldN=>?_)
     clear hHeld hK K
     have hHeld:=hHeldN
     clear hHeldN
     try simp only[zz]
     refine tk2 4 rfl hHeld ?_
     try simp only[zz]
     refine tk2 5 rfl hHeld ?_
     try simp only[zz]
     refine wpAnyH_done (by kernel_rfl) ?_ _
     refine NoPanic.normal ?_
     have hzw4:=HB4.out.size
     go_wp2_with fail
     go_ret2
     have hA:A2O wq w.heap.size (.slice (some ⟨yA,0,none⟩) 1 1) [.slice F lf d,.slice G a.atoms.length g] [cellX a x k t]:=A2O.one kA (by omega) (OX.out.below HBQ.out)
     have hBf:Below w.heap.size w wq:=bgo HB4.out HBQ.out
     have h2n:1≤2 ^ (n+1):=Nat.one_le_two_pow
     cases hcv:(cellX a x k t).valid
     ·have E2:exposeF (n+1) a t Ks=none:=by rw[E.out,hcv];rfl
      exact ⟨_,_,_,by rw[E2];rfl,hA,h2n,.inl E2,hBf⟩
     ·have E2:exposeF (n+1) a t Ks=some [cellX a x k t]:=by rw[E.out,hcv];rfl
      exact ⟨_,_,_,by rw[E2];rfl,hA,h2n,.inr E2,hBf⟩
    ·skip
     try simp only[zz]
     go_simp
     refine (c_spec_AssertionValid _ (cellX a x k t) _ (OX.out.reads.below HBQ.out)).mono ?_
     rintro e wq ⟨rfl,hBq⟩
     replace HBQ:=Lib.hid (HBQ.out.trans (hBq.mono hzq))
     replace hzq:=Nat.le_trans hzq hBq.size
     try replace kA:=kA.next hBq
     clear hBq
     refine hK.out _ _ (ko.next HBQ.out).cell (fun hHeldN=>?_)
     clear hHeld hK K
     have hHeld:=hHeldN
     clear hHeldN
     try simp only[zz]
     refine wpAnyH_ready (rs:=[1]) (by kernel_rfl) (by simp) ?_
     refine AllReadyH.cons rfl (fun K hK=>?_) AllReadyH.nil
     try simp only[zz]
     go_simp
     refine hK.out _ _ ((ko.next HBQ.out).alloc _).cell (fun hHeldN=>?_)
     clear hHeld hK K
     have hHeld:=hHeldN
     clear hHeldN
     try simp only[zz]
     have hBq:Below wq.heap.size wq (wq.alloc (.cells #[.slice F lf d,.slice G a.atoms.length g] tAs)):=bbox (Below.refl _ _) _
     obtain ⟨yA,hyA⟩:∃ y,y=wq.heap.size:=⟨_,rfl⟩
     have hyAb:W4.heap.size≤yA:=by omega
     replace HBQ:=Lib.hid (HBQ.out.trans (hBq.mono hzq))
     replace hzq:=Nat.le_trans hzq hBq.size
     try replace kA:=kA.next hBq
     have kA:Blk (wq.alloc (.cells #[.slice F lf d,.slice G a.atoms.length g] tAs)) yA tAs #[.slice F lf d,.slice G a.atoms.length g]:=Blk.newE hyA
     rw[←hyA]
     clear hBq hyA
     generalize wq.alloc (.cells #[.slice F lf d,.slice G a.atoms.length g] tAs)=wq at *
     refine tk2 4 rfl hHeld ?_
     try simp only[zz]
     refine tk2 5 rfl hHeld ?_
     try simp only[zz]
     refine wpAnyH_done (by kernel_rfl) ?_ _
     refine NoPanic.normal ?_
     have hzw4:=HB4.out.size
     go_wp2_with fail
     go_ret2
     have hA:A2O wq w.heap.size (.slice (some ⟨yA,0,none⟩) 1 1) [.slice F lf d,.slice G a.atoms.length g] [cellX a x k t]:=A2O.one kA (by omega) (OX.out.below HBQ.out)
     have hBf:Below w.heap.size w wq:=bgo HB4.out HBQ.out
     have h2n:1≤2 ^ (n+1):=Nat.one_le_two_pow
     cases hcv:(cellX a x k t).valid
     ·have E2:exposeF (n+1) a t Ks=none:=by rw[E.out,hcv];rfl
      exact ⟨_,_,_,by rw[E2];rfl,hA,h2n,.inl E2,hBf⟩
     ·have E2:exposeF (n+1) a t Ks=some [cellX a x k t]:=by rw[E.out,hcv];rfl
      exact ⟨_,_,_,by rw[E2];rfl,hA,h2n,.inr E2,hBf⟩
  ·obtain rfl:k=a.atoms.length:=by omega
   have HF1:=Lib.hid (findK_no (fun j hj=>HA.out j hj))
   clear HA
   (replace qk0:=k0.cell;replace rk0:=k0.frozen;replace lk0:=k0.lt)
   go_wp2_with fail
   clear qk0 rk0 lk0
   go_loopw [13] (fun i wr=>∃ k:Nat,k≤a.atoms.length∧i=.int .i64 k∧Hid (∀ j,j<k→findP a 2 t j=false)∧Blk wr w.heap.size tAs #[.slice A1 a.facts.length c1,.slice A2 a.atoms.length c2]∧Hid (Below w.heap.size w wr)) (fun i _=>a.atoms.length - (intOf i).toNat)
   case atStart=>exact ⟨0,Nat.zero_le _,rfl,Lib.hid fun j h=>by omega,k0,HB.out⟩
   case round=>
    clear k0 HB hzr
    obtain ⟨k,hk,rfl,HA,k0,HB⟩:=hrel
    have hzr:=HB.out.size
    by_cases hlt:k<a.atoms.length
    ·obtain ⟨b,off,rfl,g0,g1,g2⟩:=(H2.out.below HB.out).at hlt
     have hki:(k:Int)<(a.atoms.length:Int):=by omega
     have HP:Hid (findP a 2 t k=(decide (a.atoms[k].kind=2)&&impB a ⟨true,a.atoms[k].a,t⟩)):=Lib.hid (by unfold findP;rw[List.getElem?_eq_getElem hlt])
     have HXK:Hid (a.atoms[k]? = some a.atoms[k]):=Lib.hid (List.getElem?_eq_getElem hlt)
     obtain ⟨x,hx⟩:∃ x,x=a.atoms[k]:=⟨_,rfl⟩
     rw[←hx] at g0 g1 g2 HP HXK
     have hbl:=block_lt_of_cell g0
     simp only at hbl
     clear hx g2
     (replace qk0:=k0.cell;replace rk0:=k0.frozen;replace lk0:=k0.lt)
     by_cases hkd:x.kind=2
     case neg=>
      have hkb:(x.kind == 2)=false:=by simpa using hkd
      have HA2:Hid (∀ j,j<k+1→findP a 2 t j=false):=Lib.hid fun j hj=>by
       by_cases e:j=k
       ·rw[e,HP.out];simp[hkd]
       ·exact HA.out j (by omega)
      clear HA HP hkd HXK
      go_wp2_with fail
      clear qk0 rk0 lk0
      refine wp_region_noPanic ?_
      refine wp_region_held_drew (S:=(fun w'=>(∀ i,w'.cell? ⟨w.heap.size,i,none⟩=#[.slice A1 a.facts.length c1,.slice (some ⟨b,off,none⟩) a.atoms.length c2][i]?)∧w'.cell? ⟨b,off+k * 3,none⟩=some (.int .i64 x.kind)∧w'.cell? ⟨b,off+k * 3+1,none⟩=some (.int .i64 x.a))) (by kernel_rfl) (⟨k0.drew.cell,g0,g1⟩) (fun hHeld=>?_)
      refine tk2 0 rfl hHeld ?_
      try simp only[zz]
      refine tk2 1 rfl hHeld ?_
      try simp only[zz]
      refine tk2 2 rfl hHeld ?_
      try simp only[zz]
      refine tk2 3 rfl hHeld ?_
      try simp only[zz]
      refine tk2 4 rfl hHeld ?_
      try simp only[zz]
      refine tk2 5 rfl hHeld ?_
      try simp only[zz]
      refine tk2 6 rfl hHeld ?_
      try simp only[zz]
      refine tk2 7 rfl hHeld ?_
      try simp only[zz]
      refine tku 8 rfl hHeld ?_
      try simp only[zz]
      refine tku 9 rfl hHeld ?_
      try simp only[zz]
      refine tku 10 rfl hHeld ?_
      try simp only[zz]
      refine tku 11 rfl hHeld ?_
      try simp only[zz]
      refine tku 12 rfl hHeld ?_
      try simp only[zz]
      refine tku 13 rfl hHeld ?_
      try simp only[zz]
      refine tku 14 rfl hHeld ?_
      try simp only[zz]
      refine tku 15 rfl hHeld ?_
      try simp only[zz]
      refine tku 16 rfl hHeld ?_
      try simp only[zz]
      refine tk2 17 rfl hHeld ?_
      try simp only[zz]
      refine wpAnyH_done (by kernel_rfl) ?_ _
      refine NoPanic.normal ?_
      have k0d:=k0.drew
      have HBd:=Lib.hid HB.out.drew
      clear g0 g1 hHeld
      go_wp2_with fail
      go_round
      case rel=>exact ⟨k+1,by omega,by go_num,HA2,k0d,HBd.out⟩
      case measure=>simp[intOf];omega
     have hkb:(x.kind == 2)=true:=by simpa using hkd
     have HKD:=Lib.hid hkd
     clear hkd
     go_wp2_with fail
     clear qk0 rk0 lk0
     refine wp_region_noPanic ?_
     refine wp_region_held_drew (S:=(fun w'=>(∀ i,w'.cell? ⟨w.heap.size,i,none⟩=#[.slice A1 a.facts.length c1,.slice (some ⟨b,off,none⟩) a.atoms.length c2][i]?)∧w'.cell? ⟨b,off+k * 3,none⟩=some (.int .i64 x.kind)∧w'.cell? ⟨b,off+k * 3+1,none⟩=some (.int .i64 x.a))) (by kernel_rfl) (⟨k0.drew.cell,g0,g1⟩) (fun hHeld=>?_)
     refine tk2 0 rfl hHeld ?_
     try simp only[zz]
     refine tk2 1 rfl hHeld ?_
     try simp only[zz]
     refine tk2 2 rfl hHeld ?_
     try simp only[zz]
     refine tk2 3 rfl hHeld ?_
     try simp only[zz]
     refine tk2 4 rfl hHeld ?_
     try simp only[zz]
     refine tk2 5 rfl hHeld ?_
     try simp only[zz]
     refine tk2 6 rfl hHeld ?_
     try simp only[zz]
     refine tk2 7 rfl hHeld ?_
     try simp only[zz]
     refine tk2 8 rfl hHeld ?_
     try simp only[zz]
     refine tk2 9 rfl hHeld ?_
     try simp only[zz]
     refine tk2 10 rfl hHeld ?_
     try simp only[zz]
     refine tk2 11 rfl hHeld ?_
     try simp only[zz]
     refine tk2 12 rfl hHeld ?_
     try simp only[zz]
     refine tk2 13 rfl hHeld ?_
     try simp only[zz]
     refine tk2 14 rfl hHeld ?_
     try simp only[zz]
     refine tk2 15 rfl hHeld ?_
     try simp only[zz]
     refine rdc 16 rfl fun K hK=>?_
     try simp only[zz]
     (go_simp;refine (c_l10Equal _ a x.a t _ (hV.out.V.below HB.out.drew)).mono ?_;rintro e w3 ⟨rfl,hB3⟩;replace hB3:Below wr.heap.size wr w3:=(Below.refl _ _).drew.trans hB3;have k3:=k0.next hB3;have HB3:=Lib.hid (bgo HB.out hB3);have q0:=(hB3.cell (p:=⟨b,off+k * 3,none⟩) hbl).trans g0;have q1:=(hB3.cell (p:=⟨b,off+k * 3+1,none⟩) hbl).trans g1)
     refine hK.out _ _ (⟨k3.cell,q0,q1⟩) ?_
     clear hHeld hK K
     intro hHeld
     try simp only[zz]
     refine tk2 17 rfl hHeld ?_
     try simp only[zz]
     refine wpAnyH_done (by kernel_rfl) ?_ _
     refine NoPanic.normal ?_
     have hz3:=hB3.size
     clear hB3 k0 HB hkb hHeld g0 g1 q0 q1
     cases him:impB a ⟨true,x.a,t⟩
     ·have HA2:Hid (∀ j,j<k+1→findP a 2 t j=false):=Lib.hid fun j hj=>by
       by_cases e:j=k
       ·rw[e,HP.out,him];simp
       ·exact HA.out j (by omega)
      clear HA HP him
      go_wp2_with fail
      go_round
      case rel=>exact ⟨k+1,by omega,by go_num,HA2,k3,HB3.out⟩
      case measure=>simp[intOf];omega
     have HFK:=Lib.hid (findK_yes hlt HA.out (by rw[HP.out,him,HKD.out];rfl))
     have E:=Lib.hid (expose_list (n:=n) (K:=Ks) HV.out HC.out HF1.out HFK.out HXK.out)
     have HUN:=Lib.hid (HLL.out k x HV.out HF1.out HFK.out HXK.out HKD.out him)
     clear HA HP him HFK HXK
     (replace qk3:=k3.cell;replace rk3:=k3.frozen;replace lk3:=k3.lt)
     go_wp2_with fail
     refine (HUN.out lo hi lo' hi' _ B cB _ (hV.out.below HB3.out) (HFL.out.below HB3.out)).mono ?_
     rintro e w4 ⟨r,vs,l,rfl,oR,hll,hRR,hB4⟩
     have OR:=Lib.hid oR
     obtain ⟨R1,r1,rfl⟩:=oR.form
     have HLL4:=Lib.hid hll
     have HRR:=Lib.hid hRR
     have HB4:=Lib.hid (bgo HB3.out hB4)
     have hz4:=hB4.size
     clear oR hll hRR hB4
     go_wp2_with fail
     go_ret2
     exact ⟨_,vs,l,by rw[E.out];rfl,OR.out.lower (by omega),HLL4.out,by rw[E.out];exact HRR.out,HB4.out⟩
    ·obtain rfl:k=a.atoms.length:=by omega
     have E:=Lib.hid (expose_none (n:=n) (K:=Ks) HV.out HC.out HF1.out (findK_no (fun j hj=>HA.out j hj)))
     clear HA
     (replace qk0:=k0.cell;replace rk0:=k0.frozen;replace lk0:=k0.lt)
     go_wp2_with fail
     go_ret2
     exact ⟨_,[],[],by rw[E.out];rfl,(A2O.empty wr rfl).lower hzr,Nat.zero_le _,.inl E.out,bbox HB.out _⟩
theorem c_l10Open:∀ (n:Nat),n≤7→∀ (a:Asn) (t:Int) (K:Nat),OpC n a t K
 | 0,_,a,t,K=>c_l10Open_zero a t K
 | n+1,hn,a,t,K=>c_l10Open_step n a t K (by omega) fun i x hv _ _ hx _ _=>c_l10Unfold n a x i t K hv hx (by omega) (c_l10Open n (by omega) _ t K) fun m=>c_l10Open n (by omega) _ t K
end

/- Exposing cells: spec.ExposeCell. -/
section
open Go Go.RowKit Go.Proofs
attribute [local go_sem ↓] Go.wp_at_zero Go.wp_at_succ
theorem BoolsO.readsI9 {w:World} {base:Nat} {A:Option Addr} {n c:Nat} {fs:List Bool} (h:BoolsO w base (.slice A n c) fs):BoolsV w base w.heap.size A fs:=by
 obtain ⟨A',c',e,h1⟩:=h.reads
 injection e with e1 e2 e3
 subst e1
 exact h1
end

/- Symbolic execution of a basic command: assignments are equalities, cells are tracked. Plain; no program. -/
section
open Go Go.RowKit
theorem symR_some {a:Asn} {ok:Bool} {k A B:Int} {ks:List Int} {l:List Asn} (h:symR a ok k A B ks=some l):a.valid=true∧ok=true∧symB a k A B (keepK (tset ks) A B)=some l:=by
 unfold symR at h
 split at h
 ·rename_i hc
  rw[Bool.and_eq_true] at hc
  exact ⟨hc.1,hc.2,h⟩
 ·cases h
def frontB (A:Int) (b:Asn):Prop:=b.valid=true∧∃ y rest,b.atoms=⟨1,A,y⟩ :: rest
theorem keepK_eq (ks:List Int) (A B:Int):keepK (tset ks) A B=tset (ks++[A,B]):=by
 unfold keepK tset
 rw[List.foldl_append]
 rfl
end

/- Contracts: impl's matching of filled atoms. -/
section
open Go Go.RowKit Go.Proofs
attribute [local go_sem ↓] Go.wp_at_zero Go.wp_at_succ
def begB (xs:List Atm) (b:Int):Bool:=xs.any fun x=>decide (x.a=b)
abbrev tMt:Nat:=271
def ub (used:List Bool) (k:Nat):Bool:=(used[k]?).getD false
abbrev cmC (V:Value) (used:List Bool) (cnt:Nat):Array Value:=#[V,.bool (ub used 0),.bool (ub used 1),.bool (ub used 2),.bool (ub used 3),.bool (ub used 4),.bool (ub used 5),.int .i64 (cnt:Int)]
abbrev cmU (V:Value) (used:List Bool):Array Value:=cmC V used (used.count true)
def cellF (xs:List Atm) (used:List Bool) (x:Atm):Option (List Bool):=(findU xs used x.a).bind fun k=>if (xs[k]?).getD default=x then some (used.set k true) else none
end

/- Contracts: the spec's matching of filled atoms. -/
section
open Go Go.RowKit Go.Proofs
attribute [local go_sem ↓] Go.wp_at_zero Go.wp_at_succ
def fndI (o:Option Nat):Int:=match o with|some k=>k|none=>-1
theorem BoolsO.open_ {w:World} {base:Nat} {A:Option Addr} {n c k:Nat} {fs:List Bool} (h:BoolsO w base (.slice A n c) fs) (hk:k<fs.length):∃ g cur,n=fs.length∧A=some ⟨g,0,none⟩∧base≤g∧Blk w g tB cur∧cur[k]? = some (.bool fs[k])∧
  (∀ v:Bool,BoolsO (w.setCell ⟨g,k,none⟩ (.bool v)) base (.slice A n c) (fs.set k v)):=by
 obtain ⟨⟨hl,h2⟩,hL⟩:=h
 rcases h2 with ⟨e,hn⟩|⟨g,cap,cur,e,hb,hh,hn,hm,hs,ht⟩
 ·omega
 ·injection e with e1 e2 e3
  subst e1 e2 e3
  have hK:Blk w g tB cur:=hh
  have hP:Pre cur (encB fs) (fs.length * 1):=by
   intro j hj
   rw[←ht,List.getElem?_take,if_pos hj];simp
  refine ⟨g,cur,rfl,rfl,hb,hK,(hP _ (by omega)).trans (by simp[List.getElem?_eq_getElem hk]),?_⟩
  intro v
  refine ⟨?_,by rw[List.length_set];exact hL⟩
  rw[show encB (fs.set k v)=(encB fs).set k (.bool v) from by simp[encB,List.map_set],List.length_set]
  exact own_of_blk (hK.set_ k (.bool v)) hb (by rw[List.length_set,hl]) (hP.setL k (.bool v) (by rw[hs];exact Nat.mul_le_mul hn (Nat.le_refl _)) (by rw[hl];exact Nat.le_refl _)) hn hm (by simpa using hs)
def chainG (xs:List Atm) (b:Int) (n:Nat) (used:List Bool) (c:Int):Option (List Bool):=if c=b then some used else chainF xs b n used c
def cutB (xs:List Atm) (y:Atm) (b:Int):Bool:=decide (y.kind=2) && !decide (y.b=b) && !decide (b=0) && !begB xs b
theorem AtomsV.hi_ {w:World} {lo hi b o k:Nat} {xs:List Atm} (h:AtomsV w lo hi (some ⟨b,o,none⟩) xs) (hk:k<xs.length):b<hi:=by
 obtain ⟨g,o',e,h1,h2,-⟩:=h.raw.2 (by omega)
 injection e with e
 injection e with e1
 omega
end

/- Contracts: the spec's model of a case. -/
section
open Go Go.RowKit Go.Proofs
attribute [local go_sem ↓] Go.wp_at_zero Go.wp_at_succ
end

/- Contracts: the model of an assertion (both); equal states. -/
section
open Go Go.RowKit Go.Proofs
attribute [local go_sem ↓] Go.wp_at_zero Go.wp_at_succ
def modelR (a:Asn):Ste:=if consB a then modelL a else ⟨[],[]⟩
theorem modelR_no {a:Asn} (h:consB a=false):modelR a=⟨[],[]⟩:=by unfold modelR;rw[h];rfl
theorem modelR_yes {a:Asn} (h:consB a=true):modelR a=modS a ((cases a (caseS a 0)).head?.getD zeros):=by unfold modelR;rw[h,if_pos rfl];rfl
theorem stateO_none (w:World) (b:Nat):StateO w b (.agg #[.slice none 0 0,.slice none 0 0]) ⟨[],[]⟩:=⟨_,_,rfl,IntsO.nil _ _,IntsO.nil _ _,fun g h=>by simp[Value.ownBlock] at h⟩
theorem head_mem {a:Asn} {S:Nat} (h:(cases a S).isEmpty=false):(cases a S).head?.getD zeros∈cases a S:=by
 cases hc:cases a S with
 | nil=>rw[hc] at h;cases h
 | cons c cs=>exact List.mem_cons_self
theorem StateO.setR {w:World} {b:Nat} {v:Value} {s:Ste} {t:TypeId} (h:StateO w b v s) {g:Nat} {cs:Array Value} (k:Blk w g t cs) (ht:t≠tI) (v0 v1:Value):StateO ((w.setCell ⟨g,0,none⟩ v0).setCell ⟨g,1,none⟩ v1) b v s:=by
 obtain ⟨fv,av,e,h1,h2,h3⟩:=h
 exact ⟨fv,av,e,(h1.setT k ht 0 _).setT (k.set_ 0 _) ht 1 _,(h2.setT k ht 0 _).setT (k.set_ 0 _) ht 1 _,h3⟩
theorem c_impl_ModelOf {lo hi:Nat} (v:Value) (a:Asn) (w:World) (h:AsnV w lo hi v a) (hhi:hi≤w.heap.size) :
  Calls Tryz.prog 15 #[v] w fun e w'=>∃ r,e=.returned (.tuple #[r,.bool (consB a)])∧StateO w' w.heap.size r (modelR a)∧Below w.heap.size w w':=by
 have hV:=Lib.hid h
 obtain ⟨A1,c1,A2,c2,rfl,-,-⟩:=h
 go_enter Tryz.func15,Tryz.ntmps15
 have k0:Blk ((w.alloc (.cells #[.slice A1 a.facts.length c1,.slice A2 a.atoms.length c2] tAs)).alloc (.cells #[.slice none 0 0,.slice none 0 0] tSt)) w.heap.size tAs #[.slice A1 a.facts.length c1,.slice A2 a.atoms.length c2]:=blks
 have k2:Blk ((w.alloc (.cells #[.slice A1 a.facts.length c1,.slice A2 a.atoms.length c2] tAs)).alloc (.cells #[.slice none 0 0,.slice none 0 0] tSt)) (w.heap.size+1) tSt #[.slice none 0 0,.slice none 0 0]:=blks
 go_wp2_with fail
 refine (c_impl_AssertionValid _ a _ (hV.out.below bel)).mono ?_
 rintro e w1 ⟨rfl,hB1⟩
 have hB:Below w.heap.size w w1:=bgo (w:=w) bel hB1
 replace k0:=k0.next hB1
 replace k2:=k2.next hB1
 have hz:=hB1.size
 simp only[World.size_alloc] at hz
 clear hB1
 (replace qk0:=k0.cell;replace rk0:=k0.frozen;replace lk0:=k0.lt;replace qk2:=k2.cell;replace rk2:=k2.frozen;replace lk2:=k2.lt)
 cases hv:a.valid
 ·have HC:Hid (consB a=false):=by show _=_;unfold consB;rw[hv];rfl
  clear hv
  go_wp2_with fail
  refine bodyPost_ret (v:=.tuple #[.agg #[.slice none 0 0,.slice none 0 0],.bool false]) (by simp[results,Tryz.results15,go_sem,qk2,lk2]) rfl ⟨_,by rw[HC.out],by rw[modelR_no HC.out];exact stateO_none _ _,?_⟩
  exact (hB.setCell (p:=⟨w.heap.size+1,0,none⟩) (by simp only;omega) _).setCell (p:=⟨w.heap.size+1,1,none⟩) (by simp only;omega) _
 have HV:=Lib.hid hv
 have HCE:Hid (consB a = !(cases a (caseS a 0)).isEmpty):=by show _=_;unfold consB;rw[hv];rfl
 clear hv
 go_wp2_with fail
 refine (c_impl_firstCase _ a _ (hV.out.below hB) (by omega) HV.out).mono ?_
 rintro e w2 ⟨rfl,hB2⟩
 obtain ⟨c,hc⟩:∃ c,c=(cases a (caseS a 0)).head?.getD zeros:=⟨_,rfl⟩
 have HCC:=Lib.hid hc
 rw[←hc]
 replace hB:=bgo hB hB2
 replace k0:=k0.next hB2
 replace k2:=k2.next hB2
 have HB2:=Lib.hid (bbox hB (.cells (case9 c) tTc))
 have hz2:=hB2.size
 have hne2:w.heap.size≠w2.heap.size:=by omega
 have hne3:w.heap.size+1≠w2.heap.size:=by omega
 have hB0:=hB
 clear hc hB2 hB
 (replace qk0:=k0.cell;replace rk0:=k0.frozen;replace lk0:=k0.lt;replace qk2:=k2.cell;replace rk2:=k2.frozen;replace lk2:=k2.lt)
 cases he:(cases a (caseS a 0)).isEmpty
 ·have HC:Hid (consB a=true):=by show _=_;rw[HCE.out,he];rfl
  have HMEM:Hid (c∈cases a (caseS a 0)):=by show _∈_;rw[HCC.out];exact head_mem he
  have HR:Hid (modelR a=modS a c):=by show _=_;rw[modelR_yes HC.out,HCC.out]
  clear he HCE HCC
  go_wp2_with fail
  refine (c_impl_caseState _ a (caseS a 0) c (w2.alloc (.cells (case9 c) tTc)) (hV.out.below HB2.out) HV.out (caseS_zero a 0) (caseS_terms HV.out 0) HMEM.out).mono ?_
  rintro e w6 ⟨r6,rfl,o6,hB6⟩
  rw[World.size_alloc] at o6
  obtain ⟨fv,av,rfl,oV,oH,dj⟩:=id o6
  obtain ⟨X1,d1,rfl,-⟩:=oV.reads
  obtain ⟨X2,d2,rfl,-⟩:=oH.reads
  have O6:=Lib.hid o6
  have HB6:=Lib.hid (bgo HB2.out hB6)
  replace k2:=(k2.alloc (.cells (case9 c) tTc)).next hB6
  clear o6 oV oH dj hB6 k0 qk0 rk0 lk0
  (replace qk2:=k2.cell;replace rk2:=k2.frozen;replace lk2:=k2.lt)
  go_wp2_with fail
  refine bodyPost_ret (v:=.tuple #[.agg #[.slice X1 (modS a c).values.length d1,.slice X2 (modS a c).heap.length d2],.bool true]) (by simp[results,Tryz.results15,go_sem,qk2,lk2]) rfl ⟨_,by rw[HC.out],by rw[HR.out];exact (O6.out.setR k2 (by decide) _ _).lower (by omega),?_⟩
  exact (HB6.out.setCell (p:=⟨w.heap.size+1,0,none⟩) (by simp only;omega) _).setCell (p:=⟨w.heap.size+1,1,none⟩) (by simp only;omega) _
 ·have HC:Hid (consB a=false):=by show _=_;rw[HCE.out,he];rfl
  clear he HCE HCC
  go_wp2_with fail
  refine bodyPost_ret (v:=.tuple #[.agg #[.slice none 0 0,.slice none 0 0],.bool false]) (by simp[results,Tryz.results15,go_sem,qk2,lk2]) rfl ⟨_,by rw[HC.out],by rw[modelR_no HC.out];exact stateO_none _ _,?_⟩
  exact (((hB0.setCell (p:=⟨w.heap.size+1,0,none⟩) (by simp only;omega) _).setCell (p:=⟨w.heap.size+1,1,none⟩) (by simp only;omega) _)).alloc (by simp;omega) _
end

end Go.Proofs.YtmcgbeladjlcpaaGreat
