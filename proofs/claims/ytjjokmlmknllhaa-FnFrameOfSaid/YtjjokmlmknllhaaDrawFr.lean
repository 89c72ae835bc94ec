/- What the reader draws: the arguments of FrameOf. -/
import Derived.Test.YtjjokmlmknllhaaMDrawG
import Derived.Test.YtjjokmlmknllhaaDrawD
import Derived.Test.YtjjokmlmknllhaaDrawE
import Derived.Deep.DeepCutAuto
set_option linter.unusedSimpArgs false
set_option linter.unusedVariables false
namespace Go.Proofs.Ytjjokmlmknllhaa
open Go Go.RowKit Go.Proofs
attribute [local go_sem ↓] Go.wp_at_zero Go.wp_at_succ
theorem own_take {w:World} {base:Nat} {e:TypeId} {size n c k:Nat} {A:Option Addr} {xs:List Value} (h:w.ownsRow base e size (.slice A n c) n xs) (hk:k≤n) (h0:0<k):w.ownsRow base e size (.slice A k c) k (xs.take (k * size)):=by
 have hks:k * size≤n * size:=Nat.mul_le_mul_right _ hk
 refine ⟨by rw[List.length_take,h.1];omega,?_⟩
 rcases h.2 with ⟨-,e2⟩|⟨g,cap,cur,e1,h1,h2,h3,h4,h5,h6⟩
 ·omega
 ·injection e1 with e1 e2 e3
  subst e1 e3
  exact Or.inr ⟨g,c,cur,rfl,h1,h2,by omega,h4,h5,by rw[←h6,List.take_take,Nat.min_eq_left hks]⟩
theorem AtomsO.takeO {w:World} {base c:Nat} {A:Option Addr} {xs:List Atm} (h:AtomsO w base (.slice A xs.length c) xs) {k:Nat} (hk:k≤xs.length) (h0:0<k):AtomsO w base (.slice A k c) (xs.take k):=by
 have hl:(xs.take k).length=k:=by rw[List.length_take];omega
 have e:encA xs=encA (xs.take k)++encA (xs.drop k):=by rw[←List.flatMap_append,List.take_append_drop]
 have ht:(encA (xs.take k)).length=k * 3:=by rw[len3,hl]
 refine ⟨?_,by rw[hl];exact Nat.le_trans hk h.2⟩
 rw[hl]
 have:=own_take h.1 hk h0
 rwa [e,List.take_append_of_le_length (by omega),List.take_of_length_le (by omega)] at this
theorem sliceR (b o M d m:Nat) (hm:m≤d) (w:World):(Instr.slice 24 (.slice (some ⟨b,o,none⟩) M d) none (some (.int .i64 (m:Int))) none).run Try.prog w=.ok (.slice (some ⟨b,o,none⟩) m d) w:=by
 have h1:(0:Int)≤(m:Int):=by omega
 have h2:(m:Int)≤(d:Int):=by omega
 go_simp
theorem own_capR {w:World} {base:Nat} {e:TypeId} {size n c:Nat} {A:Option Addr} {xs:List Value} (h:w.ownsRow base e size (.slice A n c) n xs):n≤c:=by
 rcases h.2 with ⟨e1,e2⟩|⟨g,cap,cur,e1,-,-,hn,-⟩
 ·omega
 ·injection e1 with e1 e2 e3;omega
def SmR (w:World) (g p x y:Nat) (F1:Option Addr) (f1:Nat) (G1:Option Addr) (g1:Nat) (a:Asn) (N:Nat) (wc:World):Prop:=
 ∃ (F2:Option Addr) (f2:Nat) (G2:Option Addr) (g2:Nat) (P:Asn) (q2:Nat),Blk wc x tAs #[.slice F2 P.facts.length f2,.slice G2 P.atoms.length g2]∧AsnO wc (g+1) (.agg #[.slice F2 P.facts.length f2,.slice G2 P.atoms.length g2]) P∧P.facts.length≤40∧P.atoms.length≤40∧AsnO wc (g+1) (.agg #[.slice F1 a.facts.length f1,.slice G1 a.atoms.length g1]) a∧Blk wc w.heap.size tAs #[.slice none 0 0,.slice none 0 0]∧Blk wc (w.heap.size+1) tAs #[.slice none 0 0,.slice none 0 0]∧Blk wc y tAs #[.slice F1 a.facts.length f1,.slice G1 a.atoms.length g1]∧Rdr wc g q2∧q2≤p+N∧Fr g w wc
set_option maxRecDepth 100000 in
set_option maxHeartbeats 3200000 in
theorem c_l7Small (g p:Nat) (w:World) (h:Rdr w g p) (hp:p≤999900) :
  Calls Try.prog 34 #[.pointer (some ⟨g,0,none⟩)] w fun e w'=>∃ F f G h a q,e=.returned (.agg #[.slice F a.facts.length f,.slice G a.atoms.length h])∧AsnO w' w.heap.size (.agg #[.slice F a.facts.length f,.slice G a.atoms.length h]) a∧a.facts.length≤1∧a.atoms.length≤4∧Rdr w' g q∧q≤p+30∧Fr g w w':=by
 have hlt:=h.lt
 have H0:=Lib.hid (h.below (w':=w.alloc (.cells #[.slice none 0 0,.slice none 0 0] tAs)) bel)
 have F0:Hid (Fr g w (w.alloc (.cells #[.slice none 0 0,.slice none 0 0] tAs))):=Lib.hid ((Fr.refl g w).alloc _)
 have k2:Blk (w.alloc (.cells #[.slice none 0 0,.slice none 0 0] tAs)) w.heap.size tAs #[.slice none 0 0,.slice none 0 0]:=blks
 clear h
 go_enter Try.func34,Try.ntmps34
 go_upto_region 1 with fail
 have hs0:(w.alloc (.cells #[.slice none 0 0,.slice none 0 0] tAs)).heap.size=w.heap.size+1:=by simp
 generalize (w.alloc (.cells #[.slice none 0 0,.slice none 0 0] tAs))=W at H0 F0 k2 hs0 ⊢
 go_wp2_with fail
 refine (c_l6Chains g p _ H0.out (by omega)).mono ?_
 rintro e w1 ⟨r,a,q,rfl,o,-,hf,hx,hR,hq,hF⟩
 replace k2:=k2.fr hF (by omega)
 have hz1:=hF.size
 obtain ⟨fv,av,rfl,o1,o2⟩:=o
 obtain ⟨F,f,rfl,-⟩:=o1.reads
 obtain ⟨G,c,rfl,-⟩:=o2.reads
 have hcap:=own_capR o2.1
 have hbx:=bbox (Below.refl _ w1) (.cells #[.slice F a.facts.length f,.slice G a.atoms.length c] tAs)
 have HO1:=Lib.hid ((o1.below hbx).lower (base':=w.heap.size) (by omega))
 have HO2:=Lib.hid ((o2.below hbx).lower (base':=w.heap.size) (by omega))
 have HF:=Lib.hid ((F0.out.trans hF).go hbx)
 have HR:=Lib.hid (hR.below hbx)
 have k3:=Blk.new w1 tAs #[.slice F a.facts.length f,.slice G a.atoms.length c]
 replace k2:=k2.next hbx
 have hs1:(w1.alloc (.cells #[.slice F a.facts.length f,.slice G a.atoms.length c] tAs)).heap.size=w1.heap.size+1:=by simp
 have hg1:g<w1.heap.size:=hR.lt
 obtain ⟨y,hy⟩:∃ y,y=w1.heap.size:=⟨_,rfl⟩
 rw[←hy] at k3 hs1 hg1 hz1
 clear hR hF o1 o2 H0 F0 hbx
 go_upto_region 2 with fail
 rw[←hy]
 generalize (w1.alloc (.cells #[.slice F a.facts.length f,.slice G a.atoms.length c] tAs))=V at k2 k3 HO1 HO2 HF HR hs1 ⊢
 clear hy
 (replace qk2:=k2.cell;replace rk2:=k2.frozen;replace lk2:=k2.lt;replace qk3:=k3.cell;replace rk3:=k3.frozen;replace lk3:=k3.lt)
 by_cases h3:3<a.atoms.length
 ·have h3i:(3:Int)<(a.atoms.length:Int):=by omega
  obtain ⟨b,o,rfl,-⟩:=(AtomsO.readsI HO2.out).2.at (k:=0) (by omega)
  have hsl:∀ w:World,(Instr.slice 24 (.slice (some ⟨b,o,none⟩) a.atoms.length c) none (some (.int .i64 3)) none).run Try.prog w=.ok (.slice (some ⟨b,o,none⟩) 3 c) w:=fun w=>sliceR b o a.atoms.length c 3 (by omega) w
  have ht:(a.atoms.take 3).length=3:=by rw[List.length_take];omega
  have HT3:=Lib.hid ht
  clear ht
  go_wp2_with fail
  have k31:=k3.set_ 1 (.slice (some ⟨b,o,none⟩) 3 c)
  have HF2:Fr g w (V.setCell ⟨y,1,none⟩ (.slice (some ⟨b,o,none⟩) 3 c)):=HF.out.set_ (p:=⟨y,1,none⟩) (Or.inr (by simp only;omega)) _
  have HR2:=HR.out.set_ (q:=⟨y,1,none⟩) (by simp only;omega) (.slice (some ⟨b,o,none⟩) 3 c)
  have k21:=k2.far (p:=⟨y,1,none⟩) (by simp only;omega) (.slice (some ⟨b,o,none⟩) 3 c)
  refine bodyPost_ret (v:=.agg #[.slice F a.facts.length f,.slice (some ⟨b,o,none⟩) (a.atoms.take 3).length c]) (by simp[results,Try.results34,go_sem,qk2,lk2,HT3.out]) rfl ⟨F,f,_,_,⟨a.facts,a.atoms.take 3⟩,q,rfl,?_,hf,?_,?_,by omega,?_⟩
  ·refine ⟨_,_,rfl,((HO1.out.setT k3 (by decide) 1 _).setT k21 (by decide) 0 _).setT (k21.set_ 0 _) (by decide) 1 _,?_⟩
   have h9:=AtomsO.takeO (((HO2.out.setT k3 (by decide) 1 (.slice (some ⟨b,o,none⟩) 3 c)).setT k21 (by decide) 0 (.slice F a.facts.length f)).setT (k21.set_ 0 (.slice F a.facts.length f)) (by decide) 1 (.slice (some ⟨b,o,none⟩) (a.atoms.take 3).length c)) (k:=3) (by omega) (by omega)
   rw[HT3.out] at h9 ⊢
   exact h9
  ·rw[HT3.out];decide
  ·exact (HR2.set_ (q:=⟨w.heap.size,0,none⟩) (by simp only;omega) _).set_ (q:=⟨w.heap.size,1,none⟩) (by simp only;omega) _
  ·exact (HF2.set_ (p:=⟨w.heap.size,0,none⟩) (Or.inr (Nat.le_refl _)) _).set_ (p:=⟨w.heap.size,1,none⟩) (Or.inr (Nat.le_refl _)) _
 ·have h3i:¬(3:Int)<(a.atoms.length:Int):=by omega
  go_wp2_with fail
  refine bodyPost_ret (v:=.agg #[.slice F a.facts.length f,.slice G a.atoms.length c]) (by simp[results,Try.results34,go_sem,qk2,lk2]) rfl ⟨F,f,G,c,a,rfl,?_,hf,hx,q,?_,by omega,?_⟩
  ·exact ⟨_,_,rfl,(HO1.out.setT k2 (by decide) 0 _).setT (k2.set_ 0 _) (by decide) 1 _,(HO2.out.setT k2 (by decide) 0 _).setT (k2.set_ 0 _) (by decide) 1 _⟩
  ·exact (HR.out.set_ (q:=⟨w.heap.size,0,none⟩) (by simp only;omega) _).set_ (q:=⟨w.heap.size,1,none⟩) (by simp only;omega) _
  ·exact (HF.out.set_ (p:=⟨w.heap.size,0,none⟩) (Or.inr (Nat.le_refl _)) _).set_ (p:=⟨w.heap.size,1,none⟩) (Or.inr (Nat.le_refl _)) _
set_option maxRecDepth 100000 in
set_option maxHeartbeats 6400000 in
theorem c_l7Some (g p:Nat) (w:World) (h:Rdr w g p) (hp:p≤999000) :
  Calls Try.prog 14 #[.pointer (some ⟨g,0,none⟩)] w fun e w'=>∃ r1 r2 a b q,e=.returned (.tuple #[r1,r2])∧AsnO w' w.heap.size r1 a∧AsnO w' w.heap.size r2 b∧(a.facts.length≤100∧a.atoms.length≤100)∧(b.facts.length≤100∧b.atoms.length≤100)∧Rdr w' g q∧q≤p+100∧Fr g w w':=by
 have hlt:=h.lt
 have W0':((w.alloc (.cells #[.slice none 0 0,.slice none 0 0] tAs)).alloc (.cells #[.slice none 0 0,.slice none 0 0] tAs)).heap.size=w.heap.size+2:=by simp
 have H0:=Lib.hid (h.below (w':=(w.alloc (.cells #[.slice none 0 0,.slice none 0 0] tAs)).alloc (.cells #[.slice none 0 0,.slice none 0 0] tAs)) bel)
 have F0:Hid (Fr g w ((w.alloc (.cells #[.slice none 0 0,.slice none 0 0] tAs)).alloc (.cells #[.slice none 0 0,.slice none 0 0] tAs))):=Lib.hid (((Fr.refl g w).alloc _).alloc _)
 obtain ⟨k2,k3⟩:=blk2 w tAs tAs #[.slice none 0 0,.slice none 0 0] #[.slice none 0 0,.slice none 0 0]
 clear h
 go_enter Try.func14,Try.ntmps14
 go_upto_region 1 with fail
 generalize (w.alloc (.cells #[.slice none 0 0,.slice none 0 0] tAs)).alloc (.cells #[.slice none 0 0,.slice none 0 0] tAs)=W at H0 F0 k2 k3 W0' ⊢
 go_wp2_with fail
 refine (c_l7Small g p _ H0.out (by omega)).mono ?_
 rintro e w1 ⟨F1,f1,G1,g1,a,q1,rfl,o1,hf1,hx1,hR,hq1,hF⟩
 replace k2:=k2.fr hF (by omega)
 replace k3:=k3.fr hF (by omega)
 have hz1:=hF.size
 have hbx:=bbox (Below.refl _ w1) (.cells #[.slice F1 a.facts.length f1,.slice G1 a.atoms.length g1] tAs)
 have HA1:=Lib.hid (o1.below hbx)
 have HF:=Lib.hid ((F0.out.trans hF).go hbx)
 have HR:=Lib.hid (hR.below hbx)
 have k4:=Blk.new w1 tAs #[.slice F1 a.facts.length f1,.slice G1 a.atoms.length g1]
 replace k2:=k2.next hbx
 replace k3:=k3.next hbx
 have hg1:g<w1.heap.size:=hR.lt
 have hW:w.heap.size+2≤w1.heap.size:=by omega
 obtain ⟨y,hy⟩:∃ y,y=w1.heap.size:=⟨_,rfl⟩
 rw[←hy] at k4 hg1 hz1 hW
 have hs1:y+1≤(w1.alloc (.cells #[.slice F1 a.facts.length f1,.slice G1 a.atoms.length g1] tAs)).heap.size:=by simp[hy]
 clear hR hF o1 H0 F0 hbx
 go_upto_region 2 with fail
 rw[←hy]
 generalize (w1.alloc (.cells #[.slice F1 a.facts.length f1,.slice G1 a.atoms.length g1] tAs))=V at k2 k3 k4 HA1 HF HR hs1 ⊢
 clear hy
 have HA0:=Lib.hid (HA1.out.lower (base':=g+1) (by omega))
 clear HA1
 have HA1:=HA0
 clear HA0
 go_cut [5] (fun s5 wc=>∃ x:Nat,s5=.pointer (some ⟨x,0,none⟩)∧y<x∧Hid (SmR w g p x y F1 f1 G1 g1 a 31 wc))
 case first=>
  go_wp2_with fail
  refine wp_region_noPanic ?_
  refine wp_region_held_drew (S:=(fun w'=>(∀ i,w'.cell? ⟨w.heap.size,i,none⟩=#[.slice none 0 0,.slice none 0 0][i]?)∧(∀ i,w'.cell? ⟨w.heap.size+1,i,none⟩=#[.slice none 0 0,.slice none 0 0][i]?)∧(∀ i,w'.cell? ⟨y,i,none⟩=#[.slice F1 a.facts.length f1,.slice G1 a.atoms.length g1][i]?))) (by kernel_rfl) (⟨k2.drew.cell,k3.drew.cell,k4.drew.cell⟩) (fun hHeld=>?_)
  have hdr:Below V.heap.size V V.drew:=(Below.refl _ _).drew
  have hdf:Fr g V V.drew:=Fr.ofBelow hdr
  replace HR:=Lib.hid (HR.out.below hdr)
  replace k2:=k2.next hdr
  replace k3:=k3.next hdr
  replace k4:=k4.next hdr
  replace HA1:=Lib.hid (HA1.out.below hdr)
  replace HF:=Lib.hid (HF.out.trans hdf)
  have hs8:V.heap.size≤V.drew.heap.size:=Nat.le_refl _
  clear hdr hdf
  generalize V.drew=V8 at *
  refine tk 0 ?_ rfl (fun w hSw=>?_) hHeld ?_
  rotate_left
  ·((try dsimp only at hSw);go_split_ands;go_simp;(try with_reducible rfl))
  try simp only[Act.put,zA,zB,zC,zD,zE,zF]
  refine tk 1 ?_ rfl (fun w hSw=>?_) hHeld ?_
  rotate_left
  ·((try dsimp only at hSw);go_split_ands;go_simp;(try with_reducible rfl))
  try simp only[Act.put,zA,zB,zC,zD,zE,zF]
  refine wpAnyH_ready (rs:=[2,4]) (by kernel_rfl) (by simp) (AllReadyH.cons rfl (fun K hK=>?_) (AllReadyH.cons rfl (fun K hK=>?_) AllReadyH.nil))
  ·try simp only[zA,zB,zC]
   (go_simp;refine (c_pick g q1 8 _ HR.out (by omega)).mono ?_;rintro e w2 ⟨m,rfl,hm,hR2,hF2⟩;have hs2:=hF2.size;(try simp only[World.size_alloc] at hs2);replace k2:=k2.fr hF2 (by omega);replace k3:=k3.fr hF2 (by omega);replace k4:=k4.fr hF2 (by omega);replace HA1:=Lib.hid (HA1.out.fr hF2 (by omega));replace HF:=Lib.hid (HF.out.trans hF2);replace HR:=Lib.hid hR2;clear hR2 hF2)
   refine hK.out _ _ (⟨k2.cell,k3.cell,k4.cell⟩) ?_
   clear hHeld hK K
   intro hHeld
   try simp only[Act.put,zA,zB,zC,zD,zE,zF]
   refine wpAnyH_ready (rs:=[3,4]) (by kernel_rfl) (by simp) (AllReadyH.cons rfl (fun K hK=>?_) (AllReadyH.cons rfl (fun K hK=>?_) AllReadyH.nil))
   ·try simp only[zA,zB,zC]
    (go_simp;refine (c_l7Pick _ a m _ HA1.out.reads (by omega) (by omega)).mono ?_;rintro e w3 ⟨r3,rfl,o3,hB3⟩;obtain ⟨P,hP⟩:∃ P,P=pickA a m:=⟨_,rfl⟩;rw[←hP] at o3;have hPl:P.facts.length≤0∧P.atoms.length≤4:=(by rw[hP];exact ⟨Nat.le_refl _,Nat.le_trans (maskA_len m _ 0) hx1⟩);obtain ⟨hPf,hPx⟩:=hPl;replace hPf:P.facts.length≤40:=(by omega);replace hP:=Lib.hid hP;obtain ⟨F2,f2,G2,g2,rfl⟩:=o3.I.form;have hs3:=hB3.size;(try simp only[World.size_alloc] at hs3);have hq:Fr g _ w3:=Fr.ofBelow hB3;replace k2:=k2.fr hq (by omega);replace k3:=k3.fr hq (by omega);replace k4:=k4.fr hq (by omega);replace HA1:=Lib.hid (HA1.out.fr hq (by omega));replace HF:=Lib.hid (HF.out.trans hq);replace HR:=Lib.hid (HR.out.below hB3);have HP:Hid (AsnO w3 (g+1) _ P):=Lib.hid (o3.lower (by first|omega|(simp;omega)));clear o3 hB3 hq)
    refine hK.out _ _ (⟨k2.cell,k3.cell,k4.cell⟩) ?_
    clear hHeld hK K
    intro hHeld
    try simp only[Act.put,zA,zB,zC,zD,zE,zF]
    refine rdc 4 rfl fun K hK=>?_
    try simp only[zA,zB,zC]
    go_simp
    refine hK.out _ _ (⟨(k2.alloc (.cells #[.slice none 0 0,.slice none 0 0] tAs)).cell,(k3.alloc (.cells #[.slice none 0 0,.slice none 0 0] tAs)).cell,(k4.alloc (.cells #[.slice none 0 0,.slice none 0 0] tAs)).cell⟩) ?_
    clear hHeld hK K
    intro hHeld
    try simp only[Act.put,zA,zB,zC,zD,zE,zF]
    refine rdc 5 rfl fun K hK=>?_
    try simp only[zA,zB,zC]
    (go_simp;have hq:Fr g w3 (w3.alloc (.cells #[.slice F2 P.facts.length f2,.slice G2 P.atoms.length g2] tAs)):=(Fr.refl g w3).alloc (.cells #[.slice F2 P.facts.length f2,.slice G2 P.atoms.length g2] tAs);replace HR:=Lib.hid (HR.out.below (bbox (Below.refl _ w3) (.cells #[.slice F2 P.facts.length f2,.slice G2 P.atoms.length g2] tAs)));replace k2:=k2.fr hq (by omega);replace k3:=k3.fr hq (by omega);replace k4:=k4.fr hq (by omega);replace HA1:=Lib.hid (HA1.out.fr hq (by omega));replace HF:=Lib.hid (HF.out.trans hq);clear hq;have kb:=Blk.new w3 tAs #[.slice F2 P.facts.length f2,.slice G2 P.atoms.length g2];replace HP:=Lib.hid (HP.out.below (bbox (Below.refl _ w3) (.cells #[.slice F2 P.facts.length f2,.slice G2 P.atoms.length g2] tAs))))
    refine hK.out _ _ (⟨k2.cell,k3.cell,k4.cell⟩) ?_
    clear hHeld hK K
    intro hHeld
    try simp only[Act.put,zA,zB,zC,zD,zE,zF]
    refine wpAnyH_done (by kernel_rfl) ?_ _
    refine NoPanic.normal ?_
    go_wp2_with fail
    go_meet
    case rel=>exact ⟨w3.heap.size,rfl,by omega,Lib.hid ⟨F2,f2,G2,g2,P,q1+1,kb,HP.out,by omega,by omega,HA1.out,k2,k3,k4,HR.out,by omega,HF.out⟩⟩
   ·try simp only[zA,zB,zC]
    (go_simp;have hq:Fr g w2 (w2.alloc (.cells #[.slice none 0 0,.slice none 0 0] tAs)):=(Fr.refl g w2).alloc (.cells #[.slice none 0 0,.slice none 0 0] tAs);replace HR:=Lib.hid (HR.out.below (bbox (Below.refl _ w2) (.cells #[.slice none 0 0,.slice none 0 0] tAs)));replace k2:=k2.fr hq (by omega);replace k3:=k3.fr hq (by omega);replace k4:=k4.fr hq (by omega);replace HA1:=Lib.hid (HA1.out.fr hq (by omega));replace HF:=Lib.hid (HF.out.trans hq);clear hq)
    refine hK.out _ _ (⟨k2.cell,k3.cell,k4.cell⟩) ?_
    clear hHeld hK K
    intro hHeld
    try simp only[Act.put,zA,zB,zC,zD,zE,zF]
    have kb:=Blk.new w2 tAs #[.slice none 0 0,.slice none 0 0]
    refine rdc 3 rfl fun K hK=>?_
    try simp only[zA,zB,zC]
    (go_simp;refine (c_l7Pick _ a m _ HA1.out.reads (by omega) (by omega)).mono ?_;rintro e w3 ⟨r3,rfl,o3,hB3⟩;obtain ⟨P,hP⟩:∃ P,P=pickA a m:=⟨_,rfl⟩;rw[←hP] at o3;have hPl:P.facts.length≤0∧P.atoms.length≤4:=(by rw[hP];exact ⟨Nat.le_refl _,Nat.le_trans (maskA_len m _ 0) hx1⟩);obtain ⟨hPf,hPx⟩:=hPl;replace hPf:P.facts.length≤40:=(by omega);replace hP:=Lib.hid hP;obtain ⟨F2,f2,G2,g2,rfl⟩:=o3.I.form;have hs3:=hB3.size;(try simp only[World.size_alloc] at hs3);have hq:Fr g _ w3:=Fr.ofBelow hB3;replace k2:=k2.fr hq (by omega);replace k3:=k3.fr hq (by omega);replace k4:=k4.fr hq (by omega);replace kb:=kb.fr hq (by omega);replace HA1:=Lib.hid (HA1.out.fr hq (by omega));replace HF:=Lib.hid (HF.out.trans hq);replace HR:=Lib.hid (HR.out.below hB3);have HP:Hid (AsnO w3 (g+1) _ P):=Lib.hid (o3.lower (by first|omega|(simp;omega)));clear o3 hB3 hq)
    refine hK.out _ _ (⟨k2.cell,k3.cell,k4.cell⟩) ?_
    clear hHeld hK K
    intro hHeld
    try simp only[Act.put,zA,zB,zC,zD,zE,zF]
    have hlb:=kb.lt
    have ql:=kb.cell
    have rl:=kb.frozen
    have hn2:w.heap.size≠w2.heap.size:=by omega
    have hn3:w.heap.size+1≠w2.heap.size:=by omega
    have hn4:y≠w2.heap.size:=by omega
    refine rdc 5 rfl fun K hK=>?_
    try simp only[zA,zB,zC]
    (go_simp;replace k2:=(k2.far (p:=⟨w2.heap.size,0,none⟩) (fun e=>hn2 e) (.slice F2 P.facts.length f2)).far (p:=⟨w2.heap.size,1,none⟩) (fun e=>hn2 e) (.slice G2 P.atoms.length g2);replace k3:=(k3.far (p:=⟨w2.heap.size,0,none⟩) (fun e=>hn3 e) (.slice F2 P.facts.length f2)).far (p:=⟨w2.heap.size,1,none⟩) (fun e=>hn3 e) (.slice G2 P.atoms.length g2);replace k4:=(k4.far (p:=⟨w2.heap.size,0,none⟩) (fun e=>hn4 e) (.slice F2 P.facts.length f2)).far (p:=⟨w2.heap.size,1,none⟩) (fun e=>hn4 e) (.slice G2 P.atoms.length g2);replace HA1:=Lib.hid (AsnO.setW HA1.out kb (.slice F2 P.facts.length f2) (.slice G2 P.atoms.length g2));replace HP:=Lib.hid (AsnO.setW HP.out kb (.slice F2 P.facts.length f2) (.slice G2 P.atoms.length g2));replace HR:=Lib.hid ((HR.out.set_ (q:=⟨w2.heap.size,0,none⟩) (by simp only;omega) (.slice F2 P.facts.length f2)).set_ (q:=⟨w2.heap.size,1,none⟩) (by simp only;omega) (.slice G2 P.atoms.length g2));replace HF:=Lib.hid ((HF.out.set_ (p:=⟨w2.heap.size,0,none⟩) (Or.inr (by simp only;omega)) (.slice F2 P.facts.length f2)).set_ (p:=⟨w2.heap.size,1,none⟩) (Or.inr (by simp only;omega)) (.slice G2 P.atoms.length g2));replace kb:=(kb.set_ 0 (.slice F2 P.facts.length f2)).set_ 1 (.slice G2 P.atoms.length g2))
    refine hK.out _ _ (⟨k2.cell,k3.cell,k4.cell⟩) ?_
    clear hHeld hK K
    intro hHeld
    try simp only[Act.put,zA,zB,zC,zD,zE,zF]
    refine wpAnyH_done (by kernel_rfl) ?_ _
    refine NoPanic.normal ?_
    go_wp2_with fail
    go_meet
    case rel=>exact ⟨w2.heap.size,rfl,by omega,Lib.hid ⟨F2,f2,G2,g2,P,q1+1,kb,HP.out,by omega,by omega,HA1.out,k2,k3,k4,HR.out,by omega,HF.out⟩⟩
  ·try simp only[zA,zB,zC]
   (go_simp;have hq:Fr g V8 (V8.alloc (.cells #[.slice none 0 0,.slice none 0 0] tAs)):=(Fr.refl g V8).alloc (.cells #[.slice none 0 0,.slice none 0 0] tAs);replace HR:=Lib.hid (HR.out.below (bbox (Below.refl _ V8) (.cells #[.slice none 0 0,.slice none 0 0] tAs)));replace k2:=k2.fr hq (by omega);replace k3:=k3.fr hq (by omega);replace k4:=k4.fr hq (by omega);replace HA1:=Lib.hid (HA1.out.fr hq (by omega));replace HF:=Lib.hid (HF.out.trans hq);clear hq)
   refine hK.out _ _ (⟨k2.cell,k3.cell,k4.cell⟩) ?_
   clear hHeld hK K
   intro hHeld
   try simp only[Act.put,zA,zB,zC,zD,zE,zF]
   have kb:=Blk.new V8 tAs #[.slice none 0 0,.slice none 0 0]
   refine rdc 2 rfl fun K hK=>?_
   try simp only[zA,zB,zC]
   (go_simp;refine (c_pick g q1 8 _ HR.out (by omega)).mono ?_;rintro e w2 ⟨m,rfl,hm,hR2,hF2⟩;have hs2:=hF2.size;(try simp only[World.size_alloc] at hs2);replace k2:=k2.fr hF2 (by omega);replace k3:=k3.fr hF2 (by omega);replace k4:=k4.fr hF2 (by omega);replace kb:=kb.fr hF2 (by omega);replace HA1:=Lib.hid (HA1.out.fr hF2 (by omega));replace HF:=Lib.hid (HF.out.trans hF2);replace HR:=Lib.hid hR2;clear hR2 hF2)
   refine hK.out _ _ (⟨k2.cell,k3.cell,k4.cell⟩) ?_
   clear hHeld hK K
   intro hHeld
   try simp only[Act.put,zA,zB,zC,zD,zE,zF]
   refine rdc 3 rfl fun K hK=>?_
   try simp only[zA,zB,zC]
   (go_simp;refine (c_l7Pick _ a m _ HA1.out.reads (by omega) (by omega)).mono ?_;rintro e w3 ⟨r3,rfl,o3,hB3⟩;obtain ⟨P,hP⟩:∃ P,P=pickA a m:=⟨_,rfl⟩;rw[←hP] at o3;have hPl:P.facts.length≤0∧P.atoms.length≤4:=(by rw[hP];exact ⟨Nat.le_refl _,Nat.le_trans (maskA_len m _ 0) hx1⟩);obtain ⟨hPf,hPx⟩:=hPl;replace hPf:P.facts.length≤40:=(by omega);replace hP:=Lib.hid hP;obtain ⟨F2,f2,G2,g2,rfl⟩:=o3.I.form;have hs3:=hB3.size;(try simp only[World.size_alloc] at hs3);have hq:Fr g _ w3:=Fr.ofBelow hB3;replace k2:=k2.fr hq (by omega);replace k3:=k3.fr hq (by omega);replace k4:=k4.fr hq (by omega);replace kb:=kb.fr hq (by omega);replace HA1:=Lib.hid (HA1.out.fr hq (by omega));replace HF:=Lib.hid (HF.out.trans hq);replace HR:=Lib.hid (HR.out.below hB3);have HP:Hid (AsnO w3 (g+1) _ P):=Lib.hid (o3.lower (by first|omega|(simp;omega)));clear o3 hB3 hq)
   refine hK.out _ _ (⟨k2.cell,k3.cell,k4.cell⟩) ?_
   clear hHeld hK K
   intro hHeld
   try simp only[Act.put,zA,zB,zC,zD,zE,zF]
   have hlb:=kb.lt
   have ql:=kb.cell
   have rl:=kb.frozen
   have hn2:w.heap.size≠V8.heap.size:=by omega
   have hn3:w.heap.size+1≠V8.heap.size:=by omega
   have hn4:y≠V8.heap.size:=by omega
   refine rdc 5 rfl fun K hK=>?_
   try simp only[zA,zB,zC]
   (go_simp;replace k2:=(k2.far (p:=⟨V8.heap.size,0,none⟩) (fun e=>hn2 e) (.slice F2 P.facts.length f2)).far (p:=⟨V8.heap.size,1,none⟩) (fun e=>hn2 e) (.slice G2 P.atoms.length g2);replace k3:=(k3.far (p:=⟨V8.heap.size,0,none⟩) (fun e=>hn3 e) (.slice F2 P.facts.length f2)).far (p:=⟨V8.heap.size,1,none⟩) (fun e=>hn3 e) (.slice G2 P.atoms.length g2);replace k4:=(k4.far (p:=⟨V8.heap.size,0,none⟩) (fun e=>hn4 e) (.slice F2 P.facts.length f2)).far (p:=⟨V8.heap.size,1,none⟩) (fun e=>hn4 e) (.slice G2 P.atoms.length g2);replace HA1:=Lib.hid (AsnO.setW HA1.out kb (.slice F2 P.facts.length f2) (.slice G2 P.atoms.length g2));replace HP:=Lib.hid (AsnO.setW HP.out kb (.slice F2 P.facts.length f2) (.slice G2 P.atoms.length g2));replace HR:=Lib.hid ((HR.out.set_ (q:=⟨V8.heap.size,0,none⟩) (by simp only;omega) (.slice F2 P.facts.length f2)).set_ (q:=⟨V8.heap.size,1,none⟩) (by simp only;omega) (.slice G2 P.atoms.length g2));replace HF:=Lib.hid ((HF.out.set_ (p:=⟨V8.heap.size,0,none⟩) (Or.inr (by simp only;omega)) (.slice F2 P.facts.length f2)).set_ (p:=⟨V8.heap.size,1,none⟩) (Or.inr (by simp only;omega)) (.slice G2 P.atoms.length g2));replace kb:=(kb.set_ 0 (.slice F2 P.facts.length f2)).set_ 1 (.slice G2 P.atoms.length g2))
   refine hK.out _ _ (⟨k2.cell,k3.cell,k4.cell⟩) ?_
   clear hHeld hK K
   intro hHeld
   try simp only[Act.put,zA,zB,zC,zD,zE,zF]
   refine wpAnyH_done (by kernel_rfl) ?_ _
   refine NoPanic.normal ?_
   go_wp2_with fail
   go_meet
   case rel=>exact ⟨V8.heap.size,rfl,by omega,Lib.hid ⟨F2,f2,G2,g2,P,q1+1,kb,HP.out,by omega,by omega,HA1.out,k2,k3,k4,HR.out,by omega,HF.out⟩⟩
 case rest=>
  clear k2 k3 k4 HA1 HR HF
  obtain ⟨x,rfl,hyx,SM⟩:=hcut
  obtain ⟨F2,f2,G2,g2,P,q2,kb,hP,hPf,hPx,hA,k2,k3,k4,hR,hq2,hF⟩:=SM.out
  have HP:=Lib.hid hP
  have HA1:=Lib.hid hA
  have HR:=Lib.hid hR
  have HF:=Lib.hid hF
  have hgl:=hR.lt
  clear hP hA hR hF SM
  (replace qk2:=k2.cell;replace rk2:=k2.frozen;replace lk2:=k2.lt;replace qk3:=k3.cell;replace rk3:=k3.frozen;replace lk3:=k3.lt;replace qk4:=k4.cell;replace rk4:=k4.frozen;replace lk4:=k4.lt;replace qkb:=kb.cell;replace rkb:=kb.frozen;replace lkb:=kb.lt)
  go_upto_if 16 with fail
  refine (c_pick g q2 3 _ HR.out (by omega)).mono ?_
  rintro e w2 ⟨m,rfl,hm,hR2,hF2⟩
  have hs2:=hF2.size
  replace k2:=k2.fr hF2 (by omega)
  replace k3:=k3.fr hF2 (by omega)
  replace k4:=k4.fr hF2 (by omega)
  replace kb:=kb.fr hF2 (by omega)
  replace HA1:=Lib.hid (HA1.out.fr hF2 (by omega))
  replace HP:=Lib.hid (HP.out.fr hF2 (by omega))
  replace HF:=Lib.hid (HF.out.trans hF2)
  clear HR
  have HR:=Lib.hid hR2
  clear hR2 hF2 qk2 rk2 lk2 qk3 rk3 lk3 qk4 rk4 lk4 qkb rkb lkb
  (replace qk2:=k2.cell;replace rk2:=k2.frozen;replace lk2:=k2.lt;replace qk3:=k3.cell;replace rk3:=k3.frozen;replace lk3:=k3.lt;replace qk4:=k4.cell;replace rk4:=k4.frozen;replace lk4:=k4.lt;replace qkb:=kb.cell;replace rkb:=kb.frozen;replace lkb:=kb.lt)
  have hm0:(m:Int)=0∨¬((m:Int)=0):=Classical.em _
  go_upto_if 16 with fail
  go_cut [] (fun w3=>Hid (SmR w g p x y F1 f1 G1 g1 a 32 w3))
  case first=>
   have SM0:Hid (SmR w g p x y F1 f1 G1 g1 a 32 w2):=Lib.hid ⟨F2,f2,G2,g2,P,q2+1,kb,HP.out,hPf,hPx,HA1.out,k2,k3,k4,HR.out,by omega,HF.out⟩
   by_cases h0:m=0
   ·subst h0
    go_wp2_with fail
    refine (c_FoldCells _ P _ HP.out.reads).mono ?_
    rintro e w3 ⟨r,b,ok,rfl,o,hbf,hbx,hB3⟩
    obtain ⟨F3,f3,G3,g3,rfl⟩:=o.I.form
    have hs3:=hB3.size
    replace k2:=k2.next hB3
    replace k3:=k3.next hB3
    replace k4:=k4.next hB3
    replace kb:=kb.next hB3
    replace HA1:=Lib.hid (HA1.out.below hB3)
    replace HP:=Lib.hid (HP.out.below hB3)
    replace HR:=Lib.hid (HR.out.below hB3)
    replace HF:=Lib.hid (HF.out.trans (Fr.ofBelow hB3))
    have hbx:=bbox (Below.refl _ w3) (.cells #[.slice F3 b.facts.length f3,.slice G3 b.atoms.length g3] tAs)
    have kc:=Blk.new w3 tAs #[.slice F3 b.facts.length f3,.slice G3 b.atoms.length g3]
    have HN:=Lib.hid ((o.below hbx).lower (base':=g+1) (by omega))
    replace k2:=k2.next hbx
    replace k3:=k3.next hbx
    replace k4:=k4.next hbx
    replace kb:=kb.next hbx
    replace HA1:=Lib.hid (HA1.out.below hbx)
    replace HP:=Lib.hid (HP.out.below hbx)
    replace HR:=Lib.hid (HR.out.below hbx)
    replace HF:=Lib.hid (HF.out.trans (Fr.ofBelow hbx))
    have hs4:w3.heap.size+1≤(w3.alloc (.cells #[.slice F3 b.facts.length f3,.slice G3 b.atoms.length g3] tAs)).heap.size:=by simp
    have hb1:b.facts.length≤40:=by omega
    have hb2:b.atoms.length≤40:=by omega
    obtain ⟨cb,hcb⟩:∃ z,z=w3.heap.size:=⟨_,rfl⟩
    clear hbf hbx hB3 o qk2 rk2 lk2 qk3 rk3 lk3 qk4 rk4 lk4 qkb rkb lkb SM0
    go_upto_if 22 with fail
    rw[←hcb] at kc hs4 ⊢
    generalize (w3.alloc (.cells #[.slice F3 b.facts.length f3,.slice G3 b.atoms.length g3] tAs))=V3 at *
    clear hcb
    (replace qkb:=kb.cell;replace rkb:=kb.frozen;replace lkb:=kb.lt;replace qkc:=kc.cell;replace rkc:=kc.frozen;replace lkc:=kc.lt)
    have hlx:=kb.lt
    cases ok
    ·go_wp2_with fail
     go_meet
     case rel=>exact Lib.hid ⟨F2,f2,G2,g2,P,q2+1,kb,HP.out,hPf,hPx,HA1.out,k2,k3,k4,HR.out,by omega,HF.out⟩
    ·go_wp2_with fail
     go_meet
     case rel=>exact Lib.hid ⟨F3,f3,G3,g3,b,q2+1,by simpa using (kb.set_ 0 (.slice F3 b.facts.length f3)).set_ 1 (.slice G3 b.atoms.length g3),AsnO.setW HN.out kb _ _,hb1,hb2,AsnO.setW HA1.out kb _ _,(k2.far (by simp only;omega) _).far (by simp only;omega) _,(k3.far (by simp only;omega) _).far (by simp only;omega) _,(k4.far (by simp only;omega) _).far (by simp only;omega) _,(HR.out.set_ (q:=⟨x,0,none⟩) (by simp only;omega) _).set_ (q:=⟨x,1,none⟩) (by simp only;omega) _,by omega,(HF.out.set_ (p:=⟨x,0,none⟩) (Or.inr (by simp only;omega)) _).set_ (p:=⟨x,1,none⟩) (Or.inr (by simp only;omega)) _⟩
   ·have h0b:((m:Int) == 0)=false:=beq_false_of_ne (by omega)
    clear HP HA1 HR HF
    go_wp2_with fail
    go_meet
    case rel=>exact SM0
  case rest=>
   clear k2 k3 k4 kb HP HA1 HR HF qk2 rk2 lk2 qk3 rk3 lk3 qk4 rk4 lk4 qkb rkb lkb
   have SM:=hcut
   clear hcut hPf hPx hq2 hs2 hm hm0 hgl
   generalize wc=V4 at *
   obtain ⟨F2,f2,G2,g2,P,q2,kb,hP,hPf,hPx,hA,k2,k3,k4,hR,hq2,hF⟩:=SM.out
   have HP:=Lib.hid hP
   have HA1:=Lib.hid hA
   have HR:=Lib.hid hR
   have HF:=Lib.hid hF
   have hgl:=hR.lt
   clear hP hA hR hF SM
   (replace qk2:=k2.cell;replace rk2:=k2.frozen;replace lk2:=k2.lt;replace qk3:=k3.cell;replace rk3:=k3.frozen;replace lk3:=k3.lt;replace qk4:=k4.cell;replace rk4:=k4.frozen;replace lk4:=k4.lt;replace qkb:=kb.cell;replace rkb:=kb.frozen;replace lkb:=kb.lt)
   go_upto_if 26 with fail
   refine (c_pick g q2 8 _ HR.out (by omega)).mono ?_
   rintro e w5 ⟨m,rfl,hm,hR2,hF2⟩
   have hs5:=hF2.size
   replace k2:=k2.fr hF2 (by omega)
   replace k3:=k3.fr hF2 (by omega)
   replace k4:=k4.fr hF2 (by omega)
   replace kb:=kb.fr hF2 (by omega)
   replace HA1:=Lib.hid (HA1.out.fr hF2 (by omega))
   replace HP:=Lib.hid (HP.out.fr hF2 (by omega))
   replace HF:=Lib.hid (HF.out.trans hF2)
   clear HR
   have HR:=Lib.hid hR2
   clear hR2 hF2 qk2 rk2 lk2 qk3 rk3 lk3 qk4 rk4 lk4 qkb rkb lkb
   (replace qk2:=k2.cell;replace rk2:=k2.frozen;replace lk2:=k2.lt;replace qk3:=k3.cell;replace rk3:=k3.frozen;replace lk3:=k3.lt;replace qk4:=k4.cell;replace rk4:=k4.frozen;replace lk4:=k4.lt;replace qkb:=kb.cell;replace rkb:=kb.frozen;replace lkb:=kb.lt)
   go_upto_if 26 with fail
   go_cut [] (fun w6=>Hid (SmR w g p x y F1 f1 G1 g1 a 63 w6))
   case first=>
    have SM0:Hid (SmR w g p x y F1 f1 G1 g1 a 63 w5):=Lib.hid ⟨F2,f2,G2,g2,P,q2+1,kb,HP.out,hPf,hPx,HA1.out,k2,k3,k4,HR.out,by omega,HF.out⟩
    by_cases h0:m=0
    ·subst h0
     go_wp2_with fail
     refine (c_l7Small g (q2+1) _ HR.out (by omega)).mono ?_
     rintro e w6 ⟨F3,f3,G3,g3,b,q4,rfl,o,hbf,hbx,hR2,hq4,hF2⟩
     have hs6:=hF2.size
     replace k2:=k2.fr hF2 (by omega)
     replace k3:=k3.fr hF2 (by omega)
     replace k4:=k4.fr hF2 (by omega)
     replace kb:=kb.fr hF2 (by omega)
     replace HA1:=Lib.hid (HA1.out.fr hF2 (by omega))
     replace HP:=Lib.hid (HP.out.fr hF2 (by omega))
     replace HF:=Lib.hid (HF.out.trans hF2)
     have HN:=Lib.hid (o.lower (base':=g+1) (by omega))
     have hb1:b.facts.length≤40:=by omega
     have hb2:b.atoms.length≤40:=by omega
     clear HR
     have HR:=Lib.hid hR2
     clear hR2 hF2 o hbf hbx qk2 rk2 lk2 qk3 rk3 lk3 qk4 rk4 lk4 qkb rkb lkb SM0
     (replace qkb:=kb.cell;replace rkb:=kb.frozen;replace lkb:=kb.lt)
     go_wp2_with fail
     go_meet
     case rel=>exact Lib.hid ⟨F3,f3,G3,g3,b,q4,by simpa using (kb.set_ 0 (.slice F3 b.facts.length f3)).set_ 1 (.slice G3 b.atoms.length g3),AsnO.setW HN.out kb _ _,hb1,hb2,AsnO.setW HA1.out kb _ _,(k2.far (by simp only;omega) _).far (by simp only;omega) _,(k3.far (by simp only;omega) _).far (by simp only;omega) _,(k4.far (by simp only;omega) _).far (by simp only;omega) _,(HR.out.set_ (q:=⟨x,0,none⟩) (by simp only;omega) _).set_ (q:=⟨x,1,none⟩) (by simp only;omega) _,by omega,(HF.out.set_ (p:=⟨x,0,none⟩) (Or.inr (by simp only;omega)) _).set_ (p:=⟨x,1,none⟩) (Or.inr (by simp only;omega)) _⟩
    ·have h0b:((m:Int) == 0)=false:=beq_false_of_ne (by omega)
     clear HP HA1 HR HF
     go_wp2_with fail
     go_meet
     case rel=>exact SM0
   case rest=>
    clear k2 k3 k4 kb HP HA1 HR HF qk2 rk2 lk2 qk3 rk3 lk3 qk4 rk4 lk4 qkb rkb lkb
    have SM:=hcut
    clear hcut hPf hPx hq2 hs5 hm hgl
    generalize wc=V5 at *
    obtain ⟨F2,f2,G2,g2,P,q2,kb,hP,hPf,hPx,hA,k2,k3,k4,hR,hq2,hF⟩:=SM.out
    have HP:=Lib.hid hP
    have HA1:=Lib.hid hA
    have HR:=Lib.hid hR
    have HF:=Lib.hid hF
    have hgl:=hR.lt
    clear hP hA hR hF SM
    go_wp2_with fail
    refine wp_region_noPanic ?_
    refine wp_region_held_drew (S:=(fun w'=>(∀ i,w'.cell? ⟨y,i,none⟩=#[.slice F1 a.facts.length f1,.slice G1 a.atoms.length g1][i]?)∧(∀ i,w'.cell? ⟨x,i,none⟩=#[.slice F2 P.facts.length f2,.slice G2 P.atoms.length g2][i]?))) (by kernel_rfl) (⟨k4.drew.cell,kb.drew.cell⟩) (fun hHeld=>?_)
    have hdr:Below V5.heap.size V5 V5.drew:=(Below.refl _ _).drew
    have hdf:Fr g V5 V5.drew:=Fr.ofBelow hdr
    replace HR:=Lib.hid (HR.out.below hdr)
    replace k2:=k2.fr hdf (by omega)
    replace k3:=k3.fr hdf (by omega)
    replace k4:=k4.fr hdf (by omega)
    replace kb:=kb.fr hdf (by omega)
    replace HA1:=Lib.hid (HA1.out.fr hdf (by omega))
    replace HP:=Lib.hid (HP.out.fr hdf (by omega))
    replace HF:=Lib.hid (HF.out.trans hdf)
    have hs8:V5.heap.size≤V5.drew.heap.size:=Nat.le_refl _
    clear hdr hdf
    generalize V5.drew=V8 at *
    have hw8:=HF.out.size
    refine tk 0 ?_ rfl (fun w hSw=>?_) hHeld ?_
    rotate_left
    ·((try dsimp only at hSw);go_split_ands;go_simp;(try with_reducible rfl))
    try simp only[Act.put,zA,zB,zC,zD,zE,zF]
    refine tk 1 ?_ rfl (fun w hSw=>?_) hHeld ?_
    rotate_left
    ·((try dsimp only at hSw);go_split_ands;go_simp;(try with_reducible rfl))
    try simp only[Act.put,zA,zB,zC,zD,zE,zF]
    refine tk 3 ?_ rfl (fun w hSw=>?_) hHeld ?_
    rotate_left
    ·((try dsimp only at hSw);go_split_ands;go_simp;(try with_reducible rfl))
    try simp only[Act.put,zA,zB,zC,zD,zE,zF]
    refine tk 4 ?_ rfl (fun w hSw=>?_) hHeld ?_
    rotate_left
    ·((try dsimp only at hSw);go_split_ands;go_simp;(try with_reducible rfl))
    try simp only[Act.put,zA,zB,zC,zD,zE,zF]
    refine rdc 2 rfl fun K hK=>?_
    try simp only[zA,zB,zC]
    (go_simp;refine (c_l3Mutate g q2 _ a _ HR.out (by omega) HA1.out.reads (by omega) (by omega)).mono ?_;rintro e w7 ⟨r7,a7,q7,rfl,o7,hl7,hx7,hR7,hq7,hF7⟩;have hs7:=hF7.size;replace k2:=k2.fr hF7 (by omega);replace k3:=k3.fr hF7 (by omega);replace k4:=k4.fr hF7 (by omega);replace kb:=kb.fr hF7 (by omega);replace HA1:=Lib.hid (HA1.out.fr hF7 (by omega));replace HP:=Lib.hid (HP.out.fr hF7 (by omega));replace HF:=Lib.hid (HF.out.trans hF7);replace HR:=Lib.hid hR7;obtain ⟨F7,f7,G7,g7,rfl⟩:=o7.I.form;have H7:=Lib.hid (o7.lower (base':=w.heap.size) (by omega));clear hR7 hF7 o7)
    refine hK.out _ _ (⟨k4.cell,kb.cell⟩) ?_
    clear hHeld hK K
    intro hHeld
    try simp only[Act.put,zA,zB,zC,zD,zE,zF]
    refine rdc 5 rfl fun K hK=>?_
    try simp only[zA,zB,zC]
    (go_simp;refine (c_l3Mutate g q7 _ P _ HR.out (by omega) HP.out.reads (by omega) (by omega)).mono ?_;rintro e w8 ⟨r8,a8,q8,rfl,o8,hl8,hx8,hR8,hq8,hF8⟩;have hs9:=hF8.size;replace k2:=k2.fr hF8 (by omega);replace k3:=k3.fr hF8 (by omega);replace k4:=k4.fr hF8 (by omega);replace kb:=kb.fr hF8 (by omega);replace HA1:=Lib.hid (HA1.out.fr hF8 (by omega));replace HP:=Lib.hid (HP.out.fr hF8 (by omega));replace HF:=Lib.hid (HF.out.trans hF8);replace HR:=Lib.hid hR8;obtain ⟨F8,f8,G8,g8,rfl⟩:=o8.I.form;replace H7:=Lib.hid (AsnO.fr H7.out hF8 (by omega));have H8:=Lib.hid (o8.lower (base':=w.heap.size) (by omega));clear hR8 hF8 o8)
    refine hK.out _ _ (⟨k4.cell,kb.cell⟩) ?_
    clear hHeld hK K
    intro hHeld
    try simp only[Act.put,zA,zB,zC,zD,zE,zF]
    have q2c:=k2.cell
    have q3c:=k3.cell
    have r2c:=k2.frozen
    have r3c:=k3.frozen
    have l2c:=k2.lt
    have l3c:=k3.lt
    have hq9:q8≤p+100:=by omega
    refine rdc 6 rfl fun K hK=>?_
    try simp only[zA,zB,zC]
    go_simp
    refine hK.out _ _ (⟨((k4.far (p:=⟨w.heap.size,0,none⟩) (by simp only;omega) _).far (p:=⟨w.heap.size,1,none⟩) (by simp only;omega) _).cell,((kb.far (p:=⟨w.heap.size,0,none⟩) (by simp only;omega) _).far (p:=⟨w.heap.size,1,none⟩) (by simp only;omega) _).cell⟩) ?_
    clear hHeld hK K
    intro hHeld
    try simp only[Act.put,zA,zB,zC,zD,zE,zF]
    have k31:=(k3.far (p:=⟨w.heap.size,0,none⟩) (by simp only;omega) (.slice F7 a7.facts.length f7)).far (p:=⟨w.heap.size,1,none⟩) (by simp only;omega) (.slice G7 a7.atoms.length g7)
    have q31:=k31.cell
    have r31:=k31.frozen
    refine rdc 7 rfl fun K hK=>?_
    try simp only[zA,zB,zC]
    go_simp
    refine hK.out _ _ (⟨((((k4.far (p:=⟨w.heap.size,0,none⟩) (by simp only;omega) _).far (p:=⟨w.heap.size,1,none⟩) (by simp only;omega) _).far (p:=⟨w.heap.size+1,0,none⟩) (by simp only;omega) _).far (p:=⟨w.heap.size+1,1,none⟩) (by simp only;omega) _).cell,((((kb.far (p:=⟨w.heap.size,0,none⟩) (by simp only;omega) _).far (p:=⟨w.heap.size,1,none⟩) (by simp only;omega) _).far (p:=⟨w.heap.size+1,0,none⟩) (by simp only;omega) _).far (p:=⟨w.heap.size+1,1,none⟩) (by simp only;omega) _).cell⟩) ?_
    clear hHeld hK K
    intro hHeld
    try simp only[Act.put,zA,zB,zC,zD,zE,zF]
    refine wpAnyH_done (by kernel_rfl) ?_ _
    refine NoPanic.normal ?_
    have z2:Blk ((((w8.setCell ⟨w.heap.size,0,none⟩ (.slice F7 a7.facts.length f7)).setCell ⟨w.heap.size,1,none⟩ (.slice G7 a7.atoms.length g7)).setCell ⟨w.heap.size+1,0,none⟩ (.slice F8 a8.facts.length f8)).setCell ⟨w.heap.size+1,1,none⟩ (.slice G8 a8.atoms.length g8)) w.heap.size tAs #[.slice F7 a7.facts.length f7,.slice G7 a7.atoms.length g7]:=by
     have:=(((k2.set_ 0 (.slice F7 a7.facts.length f7)).set_ 1 (.slice G7 a7.atoms.length g7)).far (p:=⟨w.heap.size+1,0,none⟩) (by simp only;omega) (.slice F8 a8.facts.length f8)).far (p:=⟨w.heap.size+1,1,none⟩) (by simp only;omega) (.slice G8 a8.atoms.length g8)
     simpa using this
    have z3:Blk ((((w8.setCell ⟨w.heap.size,0,none⟩ (.slice F7 a7.facts.length f7)).setCell ⟨w.heap.size,1,none⟩ (.slice G7 a7.atoms.length g7)).setCell ⟨w.heap.size+1,0,none⟩ (.slice F8 a8.facts.length f8)).setCell ⟨w.heap.size+1,1,none⟩ (.slice G8 a8.atoms.length g8)) (w.heap.size+1) tAs #[.slice F8 a8.facts.length f8,.slice G8 a8.atoms.length g8]:=by
     have:=(k31.set_ 0 (.slice F8 a8.facts.length f8)).set_ 1 (.slice G8 a8.atoms.length g8)
     simpa using this
    have E7:=Lib.hid (AsnO.setW (AsnO.setW H7.out k2 (.slice F7 a7.facts.length f7) (.slice G7 a7.atoms.length g7)) k31 (.slice F8 a8.facts.length f8) (.slice G8 a8.atoms.length g8))
    have E8:=Lib.hid (AsnO.setW (AsnO.setW H8.out k2 (.slice F7 a7.facts.length f7) (.slice G7 a7.atoms.length g7)) k31 (.slice F8 a8.facts.length f8) (.slice G8 a8.atoms.length g8))
    have R8:=Lib.hid ((((HR.out.set_ (q:=⟨w.heap.size,0,none⟩) (by simp only;omega) (.slice F7 a7.facts.length f7)).set_ (q:=⟨w.heap.size,1,none⟩) (by simp only;omega) (.slice G7 a7.atoms.length g7)).set_ (q:=⟨w.heap.size+1,0,none⟩) (by simp only;omega) (.slice F8 a8.facts.length f8)).set_ (q:=⟨w.heap.size+1,1,none⟩) (by simp only;omega) (.slice G8 a8.atoms.length g8))
    have X8:=Lib.hid ((((HF.out.set_ (p:=⟨w.heap.size,0,none⟩) (Or.inr (by simp only;omega)) (.slice F7 a7.facts.length f7)).set_ (p:=⟨w.heap.size,1,none⟩) (Or.inr (by simp only;omega)) (.slice G7 a7.atoms.length g7)).set_ (p:=⟨w.heap.size+1,0,none⟩) (Or.inr (by simp only;omega)) (.slice F8 a8.facts.length f8)).set_ (p:=⟨w.heap.size+1,1,none⟩) (Or.inr (by simp only;omega)) (.slice G8 a8.atoms.length g8))
    clear HF HR H7 H8 k2 k3 k4 kb k31 q31 r31 q2c q3c r2c r3c l2c l3c hHeld HA1 HP
    generalize ((((w8.setCell ⟨w.heap.size,0,none⟩ (.slice F7 a7.facts.length f7)).setCell ⟨w.heap.size,1,none⟩ (.slice G7 a7.atoms.length g7)).setCell ⟨w.heap.size+1,0,none⟩ (.slice F8 a8.facts.length f8)).setCell ⟨w.heap.size+1,1,none⟩ (.slice G8 a8.atoms.length g8))=V9 at *
    (replace qz2:=z2.cell;replace rz2:=z2.frozen;replace lz2:=z2.lt;replace qz3:=z3.cell;replace rz3:=z3.frozen;replace lz3:=z3.lt)
    go_wp2_with fail
    refine bodyPost_ret (v:=.tuple #[.agg #[.slice F7 a7.facts.length f7,.slice G7 a7.atoms.length g7],.agg #[.slice F8 a8.facts.length f8,.slice G8 a8.atoms.length g8]]) (by simp[results,Try.results14,go_sem,qz2,lz2,qz3,lz3]) rfl ?_
    exact ⟨_,_,a7,a8,q8,rfl,E7.out,E8.out,⟨by omega,by omega⟩,⟨by omega,by omega⟩,R8.out,hq9,X8.out⟩
set_option maxRecDepth 100000 in
set_option maxHeartbeats 3200000 in
theorem c_DrawFrameOf (A:Option Addr) (n c:Nat) (w:World) (h:BytesR w A n c) :
  Calls Try.prog 4 #[.slice A n c] w fun e w'=>∃ r1 r2 a b,e=.returned (.tuple #[r1,r2])∧AsnO w' w.heap.size r1 a∧AsnO w' w.heap.size r2 b∧Below w.heap.size w w':=by
 have HR0:Hid (BytesR ((w.alloc (.cells #[.slice none 0 0,.slice none 0 0] tAs)).alloc (.cells #[.slice none 0 0,.slice none 0 0] tAs)) A n c):=by
  obtain ⟨bs,h1,h2,h3⟩:=h
  exact ⟨bs,h1,(h2.below (bbox (bbox (Below.refl _ _) _) _)).mono (Nat.le_refl _) (by simp;omega),h3⟩
 clear h
 go_enter Try.func4,Try.ntmps4
 obtain ⟨k2,k3⟩:=blk2 w tAs tAs #[.slice none 0 0,.slice none 0 0] #[.slice none 0 0,.slice none 0 0]
 have hB0:Below w.heap.size w ((w.alloc (.cells #[.slice none 0 0,.slice none 0 0] tAs)).alloc (.cells #[.slice none 0 0,.slice none 0 0] tAs)):=bel
 have hs0:w.heap.size+2≤((w.alloc (.cells #[.slice none 0 0,.slice none 0 0] tAs)).alloc (.cells #[.slice none 0 0,.slice none 0 0] tAs)).heap.size:=by simp
 go_wp2_with fail
 generalize ((w.alloc (.cells #[.slice none 0 0,.slice none 0 0] tAs)).alloc (.cells #[.slice none 0 0,.slice none 0 0] tAs))=W at k2 k3 hB0 hs0 HR0 ⊢
 refine (c_l18Open A n c _ HR0.out).mono ?_
 rintro e w1 ⟨g,rfl,hg,hR,hB1⟩
 (replace hB0:=bgo hB0 hB1;replace k2:=k2.next hB1;replace k3:=k3.next hB1)
 have hs1:=hB1.size
 have lg:=hR.lt
 have HR:=Lib.hid hR
 clear hR hB1 HR0
 go_wp2_with fail
 refine (c_l7Some g 0 _ HR.out (by omega)).mono ?_
 rintro e w2 ⟨r1,r2,a,b,q,rfl,oa,ob,-,-,-,-,hF⟩
 replace k2:=k2.fr hF (by omega)
 replace k3:=k3.fr hF (by omega)
 have hB:Below w.heap.size w w2:=hB0.trans (hF.below (by omega) (by omega))
 obtain ⟨F7,f7,G7,g7,rfl⟩:=oa.I.form
 obtain ⟨F8,f8,G8,g8,rfl⟩:=ob.I.form
 have OA:=Lib.hid (oa.lower (base':=w.heap.size) (by omega))
 have OB:=Lib.hid (ob.lower (base':=w.heap.size) (by omega))
 clear oa ob hF HR
 (replace qk2:=k2.cell;replace rk2:=k2.frozen;replace lk2:=k2.lt;replace qk3:=k3.cell;replace rk3:=k3.frozen;replace lk3:=k3.lt)
 go_wp2_with fail
 have k31:=(k3.far (p:=⟨w.heap.size,0,none⟩) (by simp only;omega) (.slice F7 a.facts.length f7)).far (p:=⟨w.heap.size,1,none⟩) (by simp only;omega) (.slice G7 a.atoms.length g7)
 refine bodyPost_ret (v:=.tuple #[.agg #[.slice F7 a.facts.length f7,.slice G7 a.atoms.length g7],.agg #[.slice F8 b.facts.length f8,.slice G8 b.atoms.length g8]]) (by simp[results,Try.results4,go_sem,qk2,lk2,qk3,lk3]) rfl ⟨_,_,a,b,rfl,?_,?_,?_⟩
 ·exact AsnO.setW (AsnO.setW OA.out k2 _ _) k31 _ _
 ·exact AsnO.setW (AsnO.setW OB.out k2 _ _) k31 _ _
 ·exact (((hB.setCell (p:=⟨w.heap.size,0,none⟩) (Nat.le_refl _) _).setCell (p:=⟨w.heap.size,1,none⟩) (Nat.le_refl _) _).setCell (p:=⟨w.heap.size+1,0,none⟩) (Nat.le_succ _) _).setCell (p:=⟨w.heap.size+1,1,none⟩) (Nat.le_succ _) _
end Go.Proofs.Ytjjokmlmknllhaa
