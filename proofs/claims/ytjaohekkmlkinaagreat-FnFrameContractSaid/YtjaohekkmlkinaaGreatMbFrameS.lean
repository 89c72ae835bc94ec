/- Contracts: the spec's framed contracts. -/
import Derived.Test.YtjaohekkmlkinaaGreatMbFrameI
set_option linter.unusedSimpArgs false
set_option linter.unusedVariables false
set_option maxRecDepth 100000
set_option maxHeartbeats 25600000
namespace Go.Proofs.YtjaohekkmlkinaaGreat
section
open Go Go.RowKit Go.Proofs
attribute [local go_sem ↓] Go.wp_at_zero Go.wp_at_succ
theorem AsnI.grownI {w w':World} {lo hi b:Nat} {v v':Value} {x:Asn} {ys:List Int} (h:AsnI w lo hi v x) (ho:IntsO w b v' ys) (hg:w.grownBy w' v'.ownBlock):AsnI w' lo hi v x:=by
 obtain ⟨fv,av,e,p1,p2⟩:=h;exact ⟨fv,av,e,⟨⟨own_grownO p1.1.1 ho.1 hg (by decide),p1.1.2⟩,p1.2⟩,⟨⟨own_grownO p2.1.1 ho.1 hg (by decide),p2.1.2⟩,p2.2⟩⟩
theorem stepIL {ops:Array Oper} {o:Oper} {a:Act} {K:Act→World→Prop} {Q:Exit→Act→World→Prop} {E:Prop} {w:World} {base lo hi c:Nat} {v:Value} {A:Option Addr} (hgd:o.guard=none) (s x:Operand) (ho:o.op=.call { callee:=.builtin .append,args:=#[s,x],argTypes:=#[31,31] })
  {xs ys:List Int} (hs:a.eval s=v) (hown:IntsO w base v xs) (hx:a.eval x=.slice A ys.length c) (hR:IntsV w lo hi A ys) (hn:xs.length+ys.length≤1049600) (hb:base≤w.heap.size)
  (h:∀ A' c' w',IntsO w' base (.slice A' (xs++ys).length c') (xs++ys)→w.grownBy w' v.ownBlock→Below base w w'→K (a.put o.dst (.slice A' (xs++ys).length c')) w'):if Region.wanted o (yielded ops a.tmps)=true then Oper.wp Tryz.prog o a w K Q else E:=by
 have hw:Region.wanted o (yielded ops a.tmps)=true:=by simp[Region.wanted,hgd]
 rw[if_pos hw];refine wp_appL s x 31 ho Tryz.underlying31 infoI rfl (by decide) (by decide) hs hown.1 hx hR.raw (encI_one _) hn hb ?_;intro v' w' h1 h2 h3;have hO:IntsO w' base v' (xs++ys):=⟨by rw[List.length_append,show encI (xs++ys)=encI xs++encI ys from List.map_append];exact h1,by simp[Lim];omega⟩;obtain ⟨A',c',rfl,-⟩:=hO.rj;exact h A' c' w' hO h2 h3
theorem frameC_spec {k:Ctr} {f:Asn} (hk:k.valid=true) (hf:f.valid=true) (hd:disjB (tset (mz f)) (tset k.changes)=true) :
  frameC k f=if (⟨starA k.pre f,starA k.post f,k.changes⟩:Ctr).valid then some ⟨starA k.pre f,starA k.post f,k.changes⟩ else none:=by
 have hk':=hk;simp only[Ctr.valid,Bool.and_eq_true] at hk';unfold frameC starF;rw[hk,hf,hd,hk'.1.1,hk'.1.2];simp only[Ctr.valid,hk'.2];cases (starA k.pre f).valid<;>cases (starA k.post f).valid<;>simp
theorem c_spec_FrameContract {lo hi lo' hi':Nat} (v v':Value) (k:Ctr) (f:Asn) (w:World) (h:CtrV w lo hi v k) (h':AsnV w lo' hi' v' f) :
  Calls Tryz.prog 39 #[v,v'] w fun e w'=>∃ r,e=.returned (.tuple #[r,.bool (frameC k f).isSome])∧CtrI w' w.heap.size w'.heap.size r ((frameC k f).getD ctr0)∧Below w.heap.size w w':=by
 have hV:=ax h;have hV':=ax h';obtain ⟨a1,a2,a3,a4,A5,c5,rfl,g1,g2,g3⟩:=h;obtain ⟨B1,d1,B2,d2,rfl,m1,m2⟩:=h';have G1:=ax g1;have G2:=ax g2;have G3:=ax g3;have hlc:=g3.le;clear g1 g2 g3 m1 m2;have HF:aJ (frameC k f=if k.valid&&f.valid&&disjB (tset (mz f)) (tset k.changes) then (starF k.pre f).bind fun p=>(starF k.post f).map fun q=>⟨p,q,k.changes⟩ else none):=rfl;(go_enter Tryz.func39,Tryz.ntmps39);obtain ⟨k0,k1,k2⟩:=blk3 w 69 37 69 #[a1,a2,a3,a4,.slice A5 k.changes.length c5] #[.slice B1 f.facts.length d1,.slice B2 f.atoms.length d2] #[.slice none 0 0,.slice none 0 0,.slice none 0 0,.slice none 0 0,.slice none 0 0];(go_wp2_with fail);refine wp_region_noPanic ?_;refine wp_region_held_drew (S:=(fun w'=>(∀ i,w'.cell? ⟨w.heap.size,i,none⟩=#[a1,a2,a3,a4,.slice A5 k.changes.length c5][i]?)∧(∀ i,w'.cell? ⟨w.heap.size+1,i,none⟩=#[.slice B1 f.facts.length d1,.slice B2 f.atoms.length d2][i]?))) (by kernel_rfl) (⟨Blk.cell blks,Blk.cell blks⟩) (fun aH=>?_);refine tk2 0 rfl aH (h:=?_);refine rdc 1 rfl fun K hK=>?_;(try simp only[zz]);(go_simp;refine (c_spec_ContractValid _ k _ (hV.o.bz bel)).mono ?_;rintro e w1 ⟨rfl,hB1⟩;have hB:=bgo (w:=w) bel hB1;replace k0:=Blk.nz (g:=w.heap.size) blks hB1;replace k1:=Blk.nz (g:=w.heap.size+1) blks hB1;replace k2:=Blk.nz (g:=w.heap.size+1+1) blks hB1);refine hK.out _ _ (⟨Blk.cell blks,Blk.cell blks⟩) ?_;clear aH hK K;intro aH;(try simp only[zz]);clear hB1;cases hk:k.valid
 ·have E:=ax (show frameC k f=none by rw[HF.o,hk];rfl);clear hk;refine tk2 2 rfl aH (h:=tk2 3 rfl aH (h:=?_));(try simp only[zz]);refine tku 4 rfl aH ?_;(try simp only[zz]);refine tku 5 rfl aH ?_;(try simp only[zz]);refine tku 6 rfl aH ?_;(try simp only[zz]);refine tk2 7 rfl aH (h:=tk2 8 rfl aH (h:=?_));(try simp only[zz]);refine tku 9 rfl aH ?_;(try simp only[zz]);refine tku 10 rfl aH ?_;(try simp only[zz]);refine tku 11 rfl aH ?_;(try simp only[zz]);refine tku 12 rfl aH ?_;(try simp only[zz]);refine tku 13 rfl aH ?_;(try simp only[zz]);refine tku 14 rfl aH ?_;(try simp only[zz]);refine tk2 15 rfl aH (h:=?_);(try simp only[zz]);refine wpAnyH_done (by kernel_rfl) ?_ _;(replace qk2:=k2.cell;replace rk2:=k2.frozen;replace lk2:=k2.lt);refine NoPanic.normal ?_;(go_wp2_with fail);refine bodyPost_ret (v:=.tuple #[.agg #[.slice none 0 0,.slice none 0 0,.slice none 0 0,.slice none 0 0,.slice none 0 0],.bool false]) (by simp[results,Tryz.results39,go_sem,qk2]) rfl ⟨_,by rw[E.o];rfl,by rw[E.o];exact CtrI.zero (by first|exact hB.size|(simp;exact hB.size)) (Nat.le_refl _),bel⟩
 have HK:=ax hk;clear hk;refine tk2 2 rfl aH (h:=tk2 3 rfl aH (h:=tk2 4 rfl aH (h:=?_)));refine rdc 5 rfl fun K hK=>?_;(try simp only[zz]);(go_simp;refine (vz _ f _ (hV'.o.bz bel)).mono ?_;rintro e w2 ⟨rfl,hB2⟩;(replace hB:=bgo hB hB2;replace k0:=k0.nz hB2;replace k1:=k1.nz hB2;replace k2:=k2.nz hB2));refine hK.out _ _ (⟨Blk.cell blks,Blk.cell blks⟩) ?_;clear aH hK K;intro aH;(try simp only[zz]);clear hB2;cases hf:f.valid
 ·have E:=ax (show frameC k f=none by rw[HF.o,HK.o,hf];rfl);clear hf;refine tk2 6 rfl aH (h:=tk2 7 rfl aH (h:=tk2 8 rfl aH (h:=?_)));(try simp only[zz]);refine tku 9 rfl aH ?_;(try simp only[zz]);refine tku 10 rfl aH ?_;(try simp only[zz]);refine tku 11 rfl aH ?_;(try simp only[zz]);refine tku 12 rfl aH ?_;(try simp only[zz]);refine tku 13 rfl aH ?_;(try simp only[zz]);refine tku 14 rfl aH ?_;(try simp only[zz]);refine tk2 15 rfl aH (h:=?_);(try simp only[zz]);refine wpAnyH_done (by kernel_rfl) ?_ _;(replace qk2:=k2.cell;replace rk2:=k2.frozen;replace lk2:=k2.lt);refine NoPanic.normal ?_;(go_wp2_with fail);refine bodyPost_ret (v:=.tuple #[.agg #[.slice none 0 0,.slice none 0 0,.slice none 0 0,.slice none 0 0,.slice none 0 0],.bool false]) (by simp[results,Tryz.results39,go_sem,qk2]) rfl ⟨_,by rw[E.o];rfl,by rw[E.o];exact CtrI.zero (by first|exact hB.size|(simp;exact hB.size)) (Nat.le_refl _),bel⟩
 have HFv:=ax hf;clear hf;refine tk2 6 rfl aH (h:=tk2 7 rfl aH (h:=tk2 8 rfl aH (h:=?_)));(try simp only[zz]);refine tk2 9 rfl aH (h:=tk2 10 rfl aH (h:=tk2 11 rfl aH (h:=?_)));refine rdc 12 rfl fun K hK=>?_;(try simp only[zz]);(go_simp;refine (c_spec_l10Busy _ _ k.changes _ (G3.o.bz bel)).mono ?_;rintro e w3 ⟨r,rfl,oT,hB3⟩;(replace hB:=bgo hB hB3;replace k0:=k0.nz hB3;replace k1:=k1.nz hB3;replace k2:=k2.nz hB3);obtain ⟨Tb,ct,rfl,fT⟩:=oT.rj;rw[zjB];clear oT hB3);refine hK.out _ _ (⟨Blk.cell blks,Blk.cell blks⟩) ?_;clear aH hK K;intro aH;refine rdc 13 rfl fun K hK=>?_;(try simp only[zz]);(go_simp;refine (c_spec_l11Free _ f Tb ct (tset k.changes) _ (hV'.o.bz bel) (fT.bz bel) HFv.o).mono ?_;rintro e w4 ⟨rfl,hB4⟩;(replace hB:=bgo hB hB4;replace k0:=k0.nz hB4;replace k1:=k1.nz hB4;replace k2:=k2.nz hB4));refine hK.out _ _ (⟨Blk.cell blks,Blk.cell blks⟩) ?_;clear aH hK K;intro aH;(try simp only[zz]);clear hB4 fT;refine tk2 14 rfl aH (h:=tk2 15 rfl aH (h:=?_));(try simp only[zz]);refine wpAnyH_done (by kernel_rfl) ?_ _;(replace qk0:=k0.z;replace qk1:=k1.z;replace qk2:=k2.cell;replace rk2:=k2.frozen;replace lk2:=k2.lt);refine NoPanic.normal ?_;clear aH;cases hd:disjB (tset (mz f)) (tset k.changes)
 ·have E:=ax (show frameC k f=none by rw[HF.o,HK.o,HFv.o,hd];rfl);clear hd;(go_wp2_with fail);refine bodyPost_ret (v:=.tuple #[.agg #[.slice none 0 0,.slice none 0 0,.slice none 0 0,.slice none 0 0,.slice none 0 0],.bool false]) (by simp[results,Tryz.results39,go_sem,qk2]) rfl ⟨_,by rw[E.o];rfl,by rw[E.o];exact CtrI.zero (by first|exact hB.size|(simp;exact hB.size)) (Nat.le_refl _),bel⟩
 have HQ:=ax (frameC_spec HK.o HFv.o hd);have l1:=zjC HFv.o
 have l2:k.pre.facts.length≤12∧k.pre.atoms.length≤6∧k.post.facts.length≤12∧k.post.atoms.length≤6:=by
  have:=HK.o;simp only[Ctr.valid,Bool.and_eq_true] at this;have e1:=zjC this.1.1;have e2:=zjC this.1.2;omega
 clear hd HF;clear qk0 qk1 qk2 rk2 lk2;(replace qk0:=k0.z;replace qk1:=k1.z);(go_wp2_with fail);clear qk0 qk1;refine wp_region_noPanic ?_;refine wp_region_held_drew (S:=(fun w'=>(∀ i,w'.cell? ⟨w.heap.size,i,none⟩=#[a1,a2,a3,a4,.slice A5 k.changes.length c5][i]?)∧(∀ i,w'.cell? ⟨w.heap.size+1,i,none⟩=#[.slice B1 f.facts.length d1,.slice B2 f.atoms.length d2][i]?))) (by kernel_rfl) (⟨k0.drew.cell,k1.drew.cell⟩) (fun aH=>?_);refine tk2 0 rfl aH (h:=tk2 1 rfl aH (h:=tk2 2 rfl aH (h:=?_)));(try simp only[zz]);refine tk2 4 rfl aH (h:=tk2 5 rfl aH (h:=tk2 6 rfl aH (h:=?_)));(try simp only[zz]);refine tk2 9 rfl aH (h:=tk2 10 rfl aH (h:=?_));(try simp only[zz])
 refine wpAnyH_par [3,7,8,11,12,13,14] #[true,true,true,true,true,true,true,true,true,true,true,true,true,true,true] 7 (by kernel_rfl) aH
  (fun a0 D a1 w'=>aJ (Below w4.heap.size w4 w')∧∃ v27 v31 v32 v35 v36 v6 l1 h1 l2 h2,a1=(((((a0.put (some 27) v27).put (some 31) v31).put (some 32) v32).put (some 35) v35).put (some 36) v36).put (some 6) v6∧
   aJ (dn D 3=true→(∃ R1 e1 R2 e2,v27=.agg #[.slice R1 (starA k.pre f).facts.length e1,.slice R2 (starA k.pre f).atoms.length e2])∧AsnI w' l1 h1 v27 (starA k.pre f)∧w4.heap.size≤l1∧h1≤w'.heap.size)∧
   aJ (dn D 7=true→(∃ R1 e1 R2 e2,v31=.agg #[.slice R1 (starA k.post f).facts.length e1,.slice R2 (starA k.post f).atoms.length e2])∧AsnI w' l2 h2 v31 (starA k.post f)∧w4.heap.size≤l2∧h2≤w'.heap.size)∧
   aJ (dn D 3=true→dn D 7=true→h1≤l2∨h2≤l1)∧
   aJ (dn D 8=true→dn D 11=false→(∃ x,v32=.slice (some ⟨x,0,none⟩) 0 0)∧IntsO w' w4.heap.size v32 [])∧
   aJ (dn D 11=true→(∃ F d,v35=.slice F k.changes.length d)∧IntsO w' w4.heap.size v35 k.changes)∧
   aJ ((dn D 11=true→dn D 8=true)∧(dn D 12=true→(dn D 3=true∧dn D 7=true∧dn D 11=true)∧∃ p1 p2 q1 q2,v27=.agg #[p1,p2]∧v31=.agg #[q1,q2]∧v36=.agg #[p1,p2,q1,q2,v35])∧(dn D 14=true→dn D 12=true∧dn D 13=true))∧
   aJ (dn D 13=true→∃ x cs,v6=.pointer (some ⟨x,0,none⟩)∧w4.heap.size≤x∧Blk w' x 69 cs∧(dn D 14=false→cs=#[.slice none 0 0,.slice none 0 0,.slice none 0 0,.slice none 0 0,.slice none 0 0])∧(dn D 14=true→v36=.agg cs))) ?start ?steps ?fin
 case start=>exact ⟨(Below.refl _ _).drew,undef,undef,undef,undef,undef,undef,0,0,0,0,rfl,(fun h=>absurd h (by decide)),(fun h=>absurd h (by decide)),(fun h=>absurd h (by decide)),(fun h=>absurd h (by decide)),(fun h=>absurd h (by decide)),⟨(fun h=>absurd h (by decide)),(fun h=>absurd h (by decide)),(fun h=>absurd h (by decide))⟩,(fun h=>absurd h (by decide))⟩
 case steps=>
  refine ParSteps.cons rfl (fun D a1 w' hu hd hI hS K' hK G hG=>?_) (ParSteps.cons rfl (fun D a1 w' hu hd hI hS K' hK G hG=>?_) (ParSteps.cons rfl (fun D a1 w' hu hd hI hS K' hK G hG=>?_) (ParSteps.cons rfl (fun D a1 w' hu hd hI hS K' hK G hG=>?_) (ParSteps.cons rfl (fun D a1 w' hu hd hI hS K' hK G hG=>?_) (ParSteps.cons rfl (fun D a1 w' hu hd hI hS K' hK G hG=>?_) (ParSteps.cons rfl (fun D a1 w' hu hd hI hS K' hK G hG=>?_) ParSteps.nil))))))
  ·obtain ⟨HW,v27,v31,v32,v35,v36,v6,l1,h1,l2,h2,ha,h3,h7,hd2,h8,h11,hc,h13⟩:=hI;rw[ha] at hG;clear ha a1;have u3:=dn_un hu;have u12:dn D 12=false:=by cases e:dn D 12;rfl;have:=((hc.o.2.1 e).1).1;rw[u3] at this;cases this
   have u14:dn D 14=false:=by cases e:dn D 14;rfl;have:=(hc.o.2.2 e).1;rw[u12] at this;cases this
   have HU:=ax (And.intro u12 u14);clear u3 u12 u14 hd;refine hG ?_;clear hG;(try simp only[zz]);go_simp;refine (c_spec_l3Star _ _ k.pre f _ (G1.o.bz (hB.trans (HW.o.mono hB.size))) (hV'.o.bz (hB.trans (HW.o.mono hB.size))) (by omega) (by omega)).mono ?_;rintro e w2 ⟨r2,rfl,o2,hB2⟩;have o2I:=o2.I;obtain ⟨R1,e1,R2,e2,rfl⟩:=o2I.form;have hB42:Below w4.heap.size w4 w2:=HW.o.trans (hB2.mono HW.o.size);refine hK.out _ _ ⟨(k0.nz (hB42)).cell,(k1.nz (hB42)).cell⟩ ⟨hB42,.agg #[.slice R1 (starA k.pre f).facts.length e1,.slice R2 (starA k.pre f).atoms.length e2],v31,v32,v35,v36,v6,w'.heap.size,w2.heap.size,l2,h2,rfl,?_,?_,?_,?_,?_,?_,?_⟩
   ·exact fun _=>⟨⟨R1,e1,R2,e2,rfl⟩,o2I,HW.o.size,Nat.le_refl _⟩
   ·intro h;rw[dn_ne (by decide)] at h;obtain ⟨q1,q2,q3,q4⟩:=h7.o h;exact ⟨q1,q2.bz hB2,q3,Nat.le_trans q4 hB2.size⟩
   ·intro _ h;rw[dn_ne (by decide)] at h;exact Or.inr (h7.o h).2.2.2
   ·intro h h';rw[dn_ne (by decide)] at h h';obtain ⟨q1,q2⟩:=h8.o h h';exact ⟨q1,q2.bz hB2⟩
   ·intro h;rw[dn_ne (by decide)] at h;obtain ⟨q1,q2⟩:=h11.o h;exact ⟨q1,q2.bz hB2⟩
   ·refine ⟨fun h=>?_,fun h=>?_,fun h=>?_⟩
    ·rw[dn_ne (by decide)] at h ⊢;exact hc.o.1 h
    ·rw[dn_ne (by decide),HU.o.1] at h;cases h
    ·rw[dn_ne (by decide),HU.o.2] at h;cases h
   ·intro h;rw[dn_ne (by decide)] at h;obtain ⟨x,cs,q1,q2,q3,q4,q5⟩:=h13.o h;exact ⟨x,cs,q1,q2,q3.nz hB2,fun h=>(by rw[dn_ne (by decide)] at h;exact q4 h),fun h=>(by rw[dn_ne (by decide)] at h;exact q5 h)⟩
  ·obtain ⟨HW,v27,v31,v32,v35,v36,v6,l1,h1,l2,h2,ha,h3,h7,hd2,h8,h11,hc,h13⟩:=hI;rw[ha] at hG;clear ha a1;have u7:=dn_un hu;have u12:dn D 12=false:=by cases e:dn D 12;rfl;have:=((hc.o.2.1 e).1).2.1;rw[u7] at this;cases this
   have u14:dn D 14=false:=by cases e:dn D 14;rfl;have:=(hc.o.2.2 e).1;rw[u12] at this;cases this
   have HU:=ax (And.intro u12 u14);clear u7 u12 u14 hd;refine hG ?_;clear hG;(try simp only[zz]);go_simp;refine (c_spec_l3Star _ _ k.post f _ (G2.o.bz (hB.trans (HW.o.mono hB.size))) (hV'.o.bz (hB.trans (HW.o.mono hB.size))) (by omega) (by omega)).mono ?_;rintro e w2 ⟨r2,rfl,o2,hB2⟩;have o2I:=o2.I;obtain ⟨R1,e1,R2,e2,rfl⟩:=o2I.form;have hB42:Below w4.heap.size w4 w2:=HW.o.trans (hB2.mono HW.o.size);refine hK.out _ _ ⟨(k0.nz (hB42)).cell,(k1.nz (hB42)).cell⟩ ⟨hB42,v27,.agg #[.slice R1 (starA k.post f).facts.length e1,.slice R2 (starA k.post f).atoms.length e2],v32,v35,v36,v6,l1,h1,w'.heap.size,w2.heap.size,rfl,?_,?_,?_,?_,?_,?_,?_⟩
   ·intro h;rw[dn_ne (by decide)] at h;obtain ⟨q1,q2,q3,q4⟩:=h3.o h;exact ⟨q1,q2.bz hB2,q3,Nat.le_trans q4 hB2.size⟩
   ·exact fun _=>⟨⟨R1,e1,R2,e2,rfl⟩,o2I,HW.o.size,Nat.le_refl _⟩
   ·intro h _;rw[dn_ne (by decide)] at h;exact Or.inl (h3.o h).2.2.2
   ·intro h h';rw[dn_ne (by decide)] at h h';obtain ⟨q1,q2⟩:=h8.o h h';exact ⟨q1,q2.bz hB2⟩
   ·intro h;rw[dn_ne (by decide)] at h;obtain ⟨q1,q2⟩:=h11.o h;exact ⟨q1,q2.bz hB2⟩
   ·refine ⟨fun h=>?_,fun h=>?_,fun h=>?_⟩
    ·rw[dn_ne (by decide)] at h ⊢;exact hc.o.1 h
    ·rw[dn_ne (by decide),HU.o.1] at h;cases h
    ·rw[dn_ne (by decide),HU.o.2] at h;cases h
   ·intro h;rw[dn_ne (by decide)] at h;obtain ⟨x,cs,q1,q2,q3,q4,q5⟩:=h13.o h;exact ⟨x,cs,q1,q2,q3.nz hB2,fun h=>(by rw[dn_ne (by decide)] at h;exact q4 h),fun h=>(by rw[dn_ne (by decide)] at h;exact q5 h)⟩
  ·obtain ⟨HW,v27,v31,v32,v35,v36,v6,l1,h1,l2,h2,ha,h3,h7,hd2,h8,h11,hc,h13⟩:=hI;rw[ha] at hG;clear ha a1;have u8:=dn_un hu;have u11:dn D 11=false:=by cases e:dn D 11;rfl;have:=hc.o.1 e;rw[u8] at this;cases this
   have u12:dn D 12=false:=by cases e:dn D 12;rfl;have:=((hc.o.2.1 e).1).2.2;rw[u11] at this;cases this
   have u14:dn D 14=false:=by cases e:dn D 14;rfl;have:=(hc.o.2.2 e).1;rw[u12] at this;cases this
   have HU:=ax (And.intro u11 (And.intro u12 u14));clear u8 u11 u12 u14 hd;refine hG ?_;clear hG;(try simp only[zz]);go_simp;have hB2:Below w'.heap.size w' (w'.alloc (.cells #[] tI)):=bbox (Below.refl _ _) _;have hB42:Below w4.heap.size w4 (w'.alloc (.cells #[] tI)):=HW.o.trans (hB2.mono HW.o.size);refine hK.out _ _ ⟨(k0.nz (hB42)).cell,(k1.nz (hB42)).cell⟩ ⟨hB42,v27,v31,.slice (some ⟨w'.heap.size,0,none⟩) 0 0,v35,v36,v6,l1,h1,l2,h2,rfl,?_,?_,?_,?_,?_,?_,?_⟩
   ·intro h;rw[dn_ne (by decide)] at h;obtain ⟨q1,q2,q3,q4⟩:=h3.o h;exact ⟨q1,q2.bz hB2,q3,Nat.le_trans q4 hB2.size⟩
   ·intro h;rw[dn_ne (by decide)] at h;obtain ⟨q1,q2,q3,q4⟩:=h7.o h;exact ⟨q1,q2.bz hB2,q3,Nat.le_trans q4 hB2.size⟩
   ·intro h h';rw[dn_ne (by decide)] at h h';exact hd2.o h h'
   ·exact fun _ _=>⟨⟨_,rfl⟩,(IntsO.empty w' rfl).bq HW.o.size⟩
   ·intro h;rw[dn_ne (by decide),HU.o.1] at h;cases h
   ·refine ⟨fun h=>?_,fun h=>?_,fun h=>?_⟩
    ·rw[dn_ne (by decide),HU.o.1] at h;cases h
    ·rw[dn_ne (by decide),HU.o.2.1] at h;cases h
    ·rw[dn_ne (by decide),HU.o.2.2] at h;cases h
   ·intro h;rw[dn_ne (by decide)] at h;obtain ⟨x,cs,q1,q2,q3,q4,q5⟩:=h13.o h;exact ⟨x,cs,q1,q2,q3.nz hB2,fun h=>(by rw[dn_ne (by decide)] at h;exact q4 h),fun h=>(by rw[dn_ne (by decide)] at h;exact q5 h)⟩
  ·obtain ⟨HW,v27,v31,v32,v35,v36,v6,l1,h1,l2,h2,ha,h3,h7,hd2,h8,h11,hc,h13⟩:=hI;rw[ha] at hG;clear ha a1;have u11:=dn_un hu;have u12:dn D 12=false:=by cases e:dn D 12;rfl;have:=((hc.o.2.1 e).1).2.2;rw[u11] at this;cases this
   have u14:dn D 14=false:=by cases e:dn D 14;rfl;have:=(hc.o.2.2 e).1;rw[u12] at this;cases this
   have t8:dn D 8=true:=hd ⟨8,.data⟩ (by simp) (by decide);obtain ⟨⟨x,rfl⟩,o⟩:=h8.o t8 u11;have HO:=ax o;have HU:=ax (And.intro t8 (And.intro u12 u14));clear u11 u12 u14 t8 o h8 hd;refine hG ?_;clear hG;(try simp only[zz]);rw[if_pos (by simp[Region.wanted])];refine wp_appIY (base:=w4.heap.size) (xs:=[]) (ys:=k.changes) _ _ rfl rfl HO.o rfl (G3.o.bz (hB.trans (HW.o.mono hB.size))) (by simp;omega) HW.o.size ?_;intro A' c' w2 o2 hg2 hB2 hx2;simp only[List.nil_append] at o2 hx2 ⊢;have hB42:Below w4.heap.size w4 w2:=HW.o.trans hB2;have hsz2:=hg2.size;refine hK.out _ _ ⟨(k0.nz (hB42)).cell,(k1.nz (hB42)).cell⟩ ⟨hB42,v27,v31,.slice (some ⟨x,0,none⟩) 0 0,.slice A' k.changes.length c',v36,v6,l1,h1,l2,h2,rfl,?_,?_,?_,?_,?_,?_,?_⟩
   ·intro h;rw[dn_ne (by decide)] at h;obtain ⟨q1,q2,q3,q4⟩:=h3.o h;exact ⟨q1,q2.grownI HO.o hg2,q3,Nat.le_trans q4 hsz2⟩
   ·intro h;rw[dn_ne (by decide)] at h;obtain ⟨q1,q2,q3,q4⟩:=h7.o h;exact ⟨q1,q2.grownI HO.o hg2,q3,Nat.le_trans q4 hsz2⟩
   ·intro h h';rw[dn_ne (by decide)] at h h';exact hd2.o h h'
   ·intro _ h;rw[dn_self hu] at h;cases h
   ·exact fun _=>⟨⟨A',c',rfl⟩,o2⟩
   ·refine ⟨fun h=>?_,fun h=>?_,fun h=>?_⟩
    ·rw[dn_ne (by decide)];exact HU.o.1
    ·rw[dn_ne (by decide),HU.o.2.1] at h;cases h
    ·rw[dn_ne (by decide),HU.o.2.2] at h;cases h
   ·intro h;rw[dn_ne (by decide)] at h;obtain ⟨y,cs,q1,q2,q3,q4,q5⟩:=h13.o h;exact ⟨y,cs,q1,q2,Blk.zm (hg:=hg2) q3 HO.o.1 (by decide),fun h=>(by rw[dn_ne (by decide)] at h;exact q4 h),fun h=>(by rw[dn_ne (by decide)] at h;exact q5 h)⟩
  ·obtain ⟨HW,v27,v31,v32,v35,v36,v6,l1,h1,l2,h2,ha,h3,h7,hd2,h8,h11,hc,h13⟩:=hI;rw[ha] at hG;clear ha a1;have u12:=dn_un hu;have u14:dn D 14=false:=by cases e:dn D 14;rfl;have:=(hc.o.2.2 e).1;rw[u12] at this;cases this
   have t3:dn D 3=true:=hd ⟨3,.data⟩ (by simp) (by decide);have t7:dn D 7=true:=hd ⟨7,.data⟩ (by simp) (by decide);have t11:dn D 11=true:=hd ⟨11,.data⟩ (by simp) (by decide);obtain ⟨⟨R1,e1,R2,e2,rfl⟩,i1⟩:=h3.o t3;obtain ⟨⟨R3,e3,R4,e4,rfl⟩,i2⟩:=h7.o t7;obtain ⟨⟨F,d,rfl⟩,i3⟩:=h11.o t11;have HI1:=ax i1;have HI2:=ax i2;have HI3:=ax i3;have HDJ:=ax (hd2.o t3 t7);have HU:=ax (And.intro u14 (And.intro t3 (And.intro t7 (And.intro t11 (hc.o.1 t11)))));clear u12 u14 t3 t7 t11 i1 i2 i3 h3 h7 hd2 h8 h11 hd;refine hG ?_;clear hG;(try simp only[zz]);go_simp;refine hK.out _ _ hS ⟨HW.o,.agg #[.slice R1 (starA k.pre f).facts.length e1,.slice R2 (starA k.pre f).atoms.length e2],.agg #[.slice R3 (starA k.post f).facts.length e3,.slice R4 (starA k.post f).atoms.length e4],v32,.slice F k.changes.length d,.agg #[.slice R1 (starA k.pre f).facts.length e1,.slice R2 (starA k.pre f).atoms.length e2,.slice R3 (starA k.post f).facts.length e3,.slice R4 (starA k.post f).atoms.length e4,.slice F k.changes.length d],v6,l1,h1,l2,h2,rfl,?_,?_,?_,?_,?_,?_,?_⟩
   ·exact fun _=>⟨⟨R1,e1,R2,e2,rfl⟩,HI1.o⟩
   ·exact fun _=>⟨⟨R3,e3,R4,e4,rfl⟩,HI2.o⟩
   ·exact fun _ _=>HDJ.o
   ·intro _ h;rw[dn_ne (by decide),HU.o.2.2.2.1] at h;cases h
   ·exact fun _=>⟨⟨F,d,rfl⟩,HI3.o⟩
   ·refine ⟨fun h=>?_,fun h=>⟨⟨?_,?_,?_⟩,_,_,_,_,rfl,rfl,rfl⟩,fun h=>?_⟩
    ·rw[dn_ne (by decide)];exact HU.o.2.2.2.2
    ·rw[dn_ne (by decide)];exact HU.o.2.1
    ·rw[dn_ne (by decide)];exact HU.o.2.2.1
    ·rw[dn_ne (by decide)];exact HU.o.2.2.2.1
    ·rw[dn_ne (by decide),HU.o.1] at h;cases h
   ·intro h;rw[dn_ne (by decide)] at h;obtain ⟨y,cs,q1,q2,q3,q4,q5⟩:=h13.o h;exact ⟨y,cs,q1,q2,q3,fun h=>(by rw[dn_ne (by decide)] at h;exact q4 h),fun h=>(by rw[dn_ne (by decide),HU.o.1] at h;cases h)⟩
  ·obtain ⟨HW,v27,v31,v32,v35,v36,v6,l1,h1,l2,h2,ha,h3,h7,hd2,h8,h11,hc,h13⟩:=hI;rw[ha] at hG;clear ha a1;have u13:=dn_un hu;have u14:dn D 14=false:=by cases e:dn D 14;rfl;have:=(hc.o.2.2 e).2;rw[u13] at this;cases this
   have HU:=ax u14;clear u13 u14 hd;refine hG ?_;clear hG;(try simp only[zz]);go_simp;have hB2:Below w'.heap.size w' (w'.alloc (.cells #[.slice none 0 0,.slice none 0 0,.slice none 0 0,.slice none 0 0,.slice none 0 0] 69)):=bbox (Below.refl _ _) _;have hB42:Below w4.heap.size w4 (w'.alloc (.cells #[.slice none 0 0,.slice none 0 0,.slice none 0 0,.slice none 0 0,.slice none 0 0] 69)):=HW.o.trans (hB2.mono HW.o.size);refine hK.out _ _ ⟨(k0.nz (hB42)).cell,(k1.nz (hB42)).cell⟩ ⟨hB42,v27,v31,v32,v35,v36,.pointer (some ⟨w'.heap.size,0,none⟩),l1,h1,l2,h2,rfl,?_,?_,?_,?_,?_,?_,?_⟩
   ·intro h;rw[dn_ne (by decide)] at h;obtain ⟨q1,q2,q3,q4⟩:=h3.o h;exact ⟨q1,q2.bz hB2,q3,Nat.le_trans q4 hB2.size⟩
   ·intro h;rw[dn_ne (by decide)] at h;obtain ⟨q1,q2,q3,q4⟩:=h7.o h;exact ⟨q1,q2.bz hB2,q3,Nat.le_trans q4 hB2.size⟩
   ·intro h h';rw[dn_ne (by decide)] at h h';exact hd2.o h h'
   ·intro h h';rw[dn_ne (by decide)] at h h';obtain ⟨q1,q2⟩:=h8.o h h';exact ⟨q1,q2.bz hB2⟩
   ·intro h;rw[dn_ne (by decide)] at h;obtain ⟨q1,q2⟩:=h11.o h;exact ⟨q1,q2.bz hB2⟩
   ·refine ⟨fun h=>?_,fun h=>?_,fun h=>?_⟩
    ·rw[dn_ne (by decide)] at h ⊢;exact hc.o.1 h
    ·rw[dn_ne (by decide)] at h;obtain ⟨⟨t3,t7,t11⟩,q⟩:=hc.o.2.1 h;exact ⟨⟨by rw[dn_ne (by decide)];exact t3,by rw[dn_ne (by decide)];exact t7,by rw[dn_ne (by decide)];exact t11⟩,q⟩
    ·rw[dn_ne (by decide),HU.o] at h;cases h
   ·exact fun _=>⟨_,_,rfl,HW.o.size,Blk.new _ _ _,fun _=>rfl,fun h=>(by rw[dn_ne (by decide),HU.o] at h;cases h)⟩
  ·obtain ⟨HW,v27,v31,v32,v35,v36,v6,l1,h1,l2,h2,ha,h3,h7,hd2,h8,h11,hc,h13⟩:=hI;rw[ha] at hG;clear ha a1;have u14:=dn_un hu;have t12:dn D 12=true:=hd ⟨12,.data⟩ (by simp) (by decide);have t13:dn D 13=true:=hd ⟨13,.data⟩ (by simp) (by decide);obtain ⟨⟨t3,t7,t11⟩,p1,p2,q1,q2,e27,e31,e36⟩:=hc.o.2.1 t12;obtain ⟨⟨R1,e1,R2,e2,g27⟩,i1⟩:=h3.o t3;obtain ⟨⟨R3,e3,R4,e4,g31⟩,i2⟩:=h7.o t7;obtain ⟨⟨F,d,g35⟩,i3⟩:=h11.o t11;obtain ⟨y,cs,e6,hy,ky,z4,-⟩:=h13.o t13;obtain rfl:=z4 u14;subst e6 g35;rw[g27] at e27;rw[g31] at e31;injection e27 with e27;injection e27 with e27;injection e27 with e27 e27b;injection e27b with e27b;injection e31 with e31;injection e31 with e31;injection e31 with e31 e31b;injection e31b with e31b;subst e27 e27b e31 e31b e36 g27 g31;have HI1:=ax i1;have HI2:=ax i2;have HI3:=ax i3;have HDJ:=ax (hd2.o t3 t7);have HU:=ax (And.intro t3 (And.intro t7 (And.intro t11 (And.intro (hc.o.1 t11) (And.intro t12 t13)))));clear u14 t12 t13 t3 t7 t11 i1 i2 i3 h3 h7 hd2 h8 h11 h13 z4 hd;have qy:=ky.cell;have ry:=ky.frozen;have ly:=ky.lt;refine hG ?_;clear hG;(try simp only[zz]);go_simp;have hB42:Below w4.heap.size w4 (((((w'.setCell ⟨y,0,none⟩ (.slice R1 (starA k.pre f).facts.length e1)).setCell ⟨y,1,none⟩ (.slice R2 (starA k.pre f).atoms.length e2)).setCell ⟨y,2,none⟩ (.slice R3 (starA k.post f).facts.length e3)).setCell ⟨y,3,none⟩ (.slice R4 (starA k.post f).atoms.length e4)).setCell ⟨y,4,none⟩ (.slice F k.changes.length d)):=below_set5 HW.o hy _ _ _ _ _;have ky5:Blk (((((w'.setCell ⟨y,0,none⟩ (.slice R1 (starA k.pre f).facts.length e1)).setCell ⟨y,1,none⟩ (.slice R2 (starA k.pre f).atoms.length e2)).setCell ⟨y,2,none⟩ (.slice R3 (starA k.post f).facts.length e3)).setCell ⟨y,3,none⟩ (.slice R4 (starA k.post f).atoms.length e4)).setCell ⟨y,4,none⟩ (.slice F k.changes.length d)) y 69 #[.slice R1 (starA k.pre f).facts.length e1,.slice R2 (starA k.pre f).atoms.length e2,.slice R3 (starA k.post f).facts.length e3,.slice R4 (starA k.post f).atoms.length e4,.slice F k.changes.length d]:=(((((ky.set_ 0 (.slice R1 (starA k.pre f).facts.length e1)).set_ 1 (.slice R2 (starA k.pre f).atoms.length e2)).set_ 2 (.slice R3 (starA k.post f).facts.length e3)).set_ 3 (.slice R4 (starA k.post f).atoms.length e4)).set_ 4 (.slice F k.changes.length d));have hsz5:(((((w'.setCell ⟨y,0,none⟩ (.slice R1 (starA k.pre f).facts.length e1)).setCell ⟨y,1,none⟩ (.slice R2 (starA k.pre f).atoms.length e2)).setCell ⟨y,2,none⟩ (.slice R3 (starA k.post f).facts.length e3)).setCell ⟨y,3,none⟩ (.slice R4 (starA k.post f).atoms.length e4)).setCell ⟨y,4,none⟩ (.slice F k.changes.length d)).heap.size=w'.heap.size:=by simp
   refine hK.out _ _ ⟨(k0.nz (hB42)).cell,(k1.nz (hB42)).cell⟩ ⟨hB42,.agg #[.slice R1 (starA k.pre f).facts.length e1,.slice R2 (starA k.pre f).atoms.length e2],.agg #[.slice R3 (starA k.post f).facts.length e3,.slice R4 (starA k.post f).atoms.length e4],v32,.slice F k.changes.length d,.agg #[.slice R1 (starA k.pre f).facts.length e1,.slice R2 (starA k.pre f).atoms.length e2,.slice R3 (starA k.post f).facts.length e3,.slice R4 (starA k.post f).atoms.length e4,.slice F k.changes.length d],.pointer (some ⟨y,0,none⟩),l1,h1,l2,h2,rfl,?_,?_,?_,?_,?_,?_,?_⟩
   ·exact fun _=>⟨⟨R1,e1,R2,e2,rfl⟩,HI1.o.1.set5 ky (by decide) (by decide) _ _ _ _ _,HI1.o.2.1,by rw[hsz5];exact HI1.o.2.2⟩
   ·exact fun _=>⟨⟨R3,e3,R4,e4,rfl⟩,HI2.o.1.set5 ky (by decide) (by decide) _ _ _ _ _,HI2.o.2.1,by rw[hsz5];exact HI2.o.2.2⟩
   ·exact fun _ _=>HDJ.o
   ·intro _ h;rw[dn_ne (by decide),HU.o.2.2.1] at h;cases h
   ·exact fun _=>⟨⟨F,d,rfl⟩,(IntsI.set5 (hi:=w'.heap.size) ⟨HI3.o,HI3.o.und⟩ ky (by decide) _ _ _ _ _).1⟩
   ·refine ⟨fun h=>?_,fun h=>⟨⟨?_,?_,?_⟩,_,_,_,_,rfl,rfl,rfl⟩,fun h=>⟨?_,?_⟩⟩
    ·rw[dn_ne (by decide)];exact HU.o.2.2.2.1
    ·rw[dn_ne (by decide)];exact HU.o.1
    ·rw[dn_ne (by decide)];exact HU.o.2.1
    ·rw[dn_ne (by decide)];exact HU.o.2.2.1
    ·rw[dn_ne (by decide)];exact HU.o.2.2.2.2.1
    ·rw[dn_ne (by decide)];exact HU.o.2.2.2.2.2
   ·exact fun _=>⟨y,_,rfl,hy,ky5,fun h=>(by rw[dn_self hu] at h;cases h),fun _=>rfl⟩
 case fin=>
  rintro a1 V aH ⟨HW,v27,v31,v32,v35,v36,v6,l1,h1,l2,h2,rfl,h3,h7,hd2,-,h11,hc,h13⟩;obtain ⟨⟨R1,e1,R2,e2,rfl⟩,i1⟩:=h3.o (by decide);obtain ⟨⟨R3,e3,R4,e4,rfl⟩,i2⟩:=h7.o (by decide);obtain ⟨⟨F,d,rfl⟩,i3⟩:=h11.o (by decide);have hdj:=hd2.o (by decide) (by decide);obtain ⟨-,p1,p2,q1,q2,g27,g31,rfl⟩:=hc.o.2.1 (by decide);obtain ⟨y,cs,rfl,hy,ky,-,z5⟩:=h13.o (by decide);have g36:=z5 (by decide);injection g27 with g27;injection g27 with g27;injection g27 with g27 g27b;injection g27b with g27b;injection g31 with g31;injection g31 with g31;injection g31 with g31 g31b;injection g31b with g31b;subst g27 g27b g31 g31b;injection g36 with g36;subst g36;have HI1:=ax i1;have HI2:=ax i2;have HI3:=ax i3;have HDJ:=ax hdj;have HBV:=ax (hB.trans (HW.o.mono hB.size));have lk24:=k2.lt;replace k2:=k2.nz HW.o;have hzV:=HW.o.size;have hz4:=hB.size;have HKY:=ax ky;have qy:=ky.cell;have l2c:=k2.lt;clear h3 h7 hd2 h11 hc h13 HW i1 i2 i3 hdj z5 hB k0 k1;(try simp only[zz]);refine dn1 ?_;clear aH;have hlt2:=k2.lt;(go_wp2_with fail);refine (c_spec_ContractValid (lo:=0) _ ⟨starA k.pre f,starA k.post f,k.changes⟩ V ⟨_,_,_,_,_,_,rfl,HI1.o.1.rj.mono (Nat.zero_le _) (Nat.le_refl _),HI2.o.1.rj.mono (Nat.zero_le _) (Nat.le_refl _),(IntsO.readsI HI3.o).2.mono (Nat.zero_le _) (Nat.le_refl _)⟩).mono ?_;rintro e w8 ⟨rfl,hB8⟩;have z8:=ky.nz hB8;replace k2:=k2.nz hB8;have HB8:=ax (bgo HBV.o hB8);have hz8:=hB8.size;have Y1:=ax (HI1.o.1.bz hB8);have Y2:=ax (HI2.o.1.bz hB8);have Yi:=ax (IntsI.bz (hi:=V.heap.size) ⟨HI3.o,HI3.o.und⟩ hB8);clear hB8 qy ky l2c hlt2;have q8:=z8.cell;have q2:=k2.cell;have r2:=k2.frozen;have l2k:=k2.lt;have hne:w.heap.size+1+1≠y:=by omega
  cases hv:(⟨starA k.pre f,starA k.post f,k.changes⟩:Ctr).valid
  ·have E:=ax (show frameC k f=none by rw[HQ.o,hv];rfl);clear hv;(go_wp2_with fail);refine bodyPost_ret (v:=.tuple #[.agg #[.slice none 0 0,.slice none 0 0,.slice none 0 0,.slice none 0 0,.slice none 0 0],.bool false]) (by simp[results,Tryz.results39,go_sem,q2,l2k]) rfl ⟨_,by rw[E.o];rfl,by rw[E.o];exact CtrI.zero (by simp only[World.size_setCell];omega) (Nat.le_refl _),below_set5 HB8.o (by omega) _ _ _ _ _⟩
  ·have E:=ax (show frameC k f=some ⟨starA k.pre f,starA k.post f,k.changes⟩ by rw[HQ.o,hv];rfl);clear hv;(go_wp2_with fail);refine bodyPost_ret (v:=.tuple #[.agg #[.slice R1 (starA k.pre f).facts.length e1,.slice R2 (starA k.pre f).atoms.length e2,.slice R3 (starA k.post f).facts.length e3,.slice R4 (starA k.post f).atoms.length e4,.slice F k.changes.length d],.bool true]) (by simp[results,Tryz.results39,go_sem,q2,l2k]) rfl ⟨_,by rw[E.o];rfl,?_,below_set5 HB8.o (by omega) _ _ _ _ _⟩;rw[E.o];have h1a:=HI1.o.2;have h2a:=HI2.o.2;have hdj:=HDJ.o;refine ⟨_,_,_,_,_,l1,h1,l2,h2,rfl,?_,?_,⟨?_,?_⟩,?_⟩
   ·exact Y1.o.set5 k2 (by decide) (by decide) _ _ _ _ _
   ·exact Y2.o.set5 k2 (by decide) (by decide) _ _ _ _ _
   ·exact ((Yi.o.set5 k2 (by decide) _ _ _ _ _).1).bq (by omega)
   ·intro g hg;have:=Yi.o.2 g hg;simp only[World.size_setCell];omega
   ·simp only[World.size_setCell];omega
end
end Go.Proofs.YtjaohekkmlkinaaGreat
