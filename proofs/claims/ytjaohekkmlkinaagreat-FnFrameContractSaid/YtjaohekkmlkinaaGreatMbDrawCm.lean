/- What the reader draws: a contract, sometimes made invalid (spec.l12Mutate). -/
import Derived.Test.YtjaohekkmlkinaaGreatMbDrawCt
import Derived.Test.YtjaohekkmlkinaaGreatMbFrameS
set_option linter.unusedSimpArgs false
set_option linter.unusedVariables false
set_option maxRecDepth 100000
set_option maxHeartbeats 25600000
namespace Go.Proofs.YtjaohekkmlkinaaGreat
section
open Go Go.RowKit Go.Proofs
attribute [local go_sem ↓] Go.wp_at_zero Go.wp_at_succ
section
variable {w w':World} {b lo hi l1 h1 l2 h2 x:Nat} {f1 x1 f2 x2 iv:Value} {k:Ctr}
theorem own_grownN {size n:Nat} {e:TypeId} {v v':Value} {xs:List Value} (h:w.ownsRow b e size v' n xs) (hg:w.grownBy w' v.ownBlock) (hne:∀ g,v'.ownBlock=some g→v.ownBlock≠some g):w'.ownsRow b e size v' n xs:=by
 obtain ⟨h1,h2⟩:=h;refine ⟨h1,?_⟩;rcases h2 with h2|⟨k,cap,cur,hv,hk,hh,r⟩
 ·exact Or.inl h2
 ·exact Or.inr ⟨k,cap,cur,hv,hk,Blk.grown hh hg (fun e=>hne k (by rw[hv];rfl) e.symm),r⟩
theorem AsnI.two {p q:Value} {a:Asn} (h:AsnI w lo hi (.agg #[p,q]) a):FactsI w lo hi p a.facts∧AtomsI w lo hi q a.atoms:=by
 obtain ⟨fv,av,e,h1,h2⟩:=h;injection e with e;injection e with e;injection e with e1 e2;injection e2 with e2;subst e1;subst e2;exact ⟨h1,h2⟩
def CtN (w:World) (b:Nat) (f1 x1 f2 x2 iv:Value) (k:Ctr):Prop:=FactsO w b f1 k.pre.facts∧AtomsO w b x1 k.pre.atoms∧FactsO w b f2 k.post.facts∧AtomsO w b x2 k.post.atoms∧IntsO w b iv k.changes
theorem CtN.bz (h:CtN w b f1 x1 f2 x2 iv k) (hb:Below w.heap.size w w'):CtN w' b f1 x1 f2 x2 iv k:=⟨h.1.bz hb,h.2.1.bz hb,h.2.2.1.bz hb,h.2.2.2.1.bz hb,h.2.2.2.2.bz hb⟩
theorem CtN.fr {g:Nat} (h:CtN w b f1 x1 f2 x2 iv k) (hf:Fr g w w') (hg:g<b):CtN w' b f1 x1 f2 x2 iv k:=⟨h.1.fr hf hg,h.2.1.fr hf hg,h.2.2.1.fr hf hg,h.2.2.2.1.fr hf hg,h.2.2.2.2.fr hf hg⟩
theorem CtN.setT (h:CtN w b f1 x1 f2 x2 iv k) {t:TypeId} {cs:Array Value} (hk:Blk w x t cs) (t1:t≠tF) (t2:t≠tA) (t3:t≠tI) (i:Nat) (v:Value):CtN (w.setCell ⟨x,i,none⟩ v) b f1 x1 f2 x2 iv k:=⟨h.1.setT hk t1 i v,h.2.1.setT hk t2 i v,h.2.2.1.setT hk t1 i v,h.2.2.2.1.setT hk t2 i v,h.2.2.2.2.setT hk t3 i v⟩
theorem CtN.V (h:CtN w b f1 x1 f2 x2 iv k):CtrV w b w.heap.size (.agg #[f1,x1,f2,x2,iv]) k:=by
 have p1:AsnO w b (.agg #[f1,x1]) k.pre:=⟨_,_,rfl,h.1,h.2.1⟩;have p2:AsnO w b (.agg #[f2,x2]) k.post:=⟨_,_,rfl,h.2.2.1,h.2.2.2.1⟩;obtain ⟨A,c,rfl,p3⟩:=h.2.2.2.2.rj;exact ⟨_,_,_,_,_,_,rfl,p1.rj,p2.rj,(IntsO.readsI h.2.2.2.2).2⟩
theorem CtN.make (i1:AsnI w l1 h1 (.agg #[f1,x1]) k.pre) (i2:AsnI w l2 h2 (.agg #[f2,x2]) k.post) (i3:IntsO w b iv k.changes) (hd:h1≤l2∨h2≤l1) (e1:b≤l1) (e2:b≤l2):CtN w b f1 x1 f2 x2 iv k∧(∀ g,x2.ownBlock=some g→x1.ownBlock≠some g)∧∀ g,f1.ownBlock=some g→f2.ownBlock≠some g:=by
 obtain ⟨p1,p2⟩:=i1.two;obtain ⟨q1,q2⟩:=i2.two;refine ⟨⟨⟨own_lower p1.1.1 e1,p1.1.2⟩,⟨own_lower p2.1.1 e1,p2.1.2⟩,⟨own_lower q1.1.1 e2,q1.1.2⟩,⟨own_lower q2.1.1 e2,q2.1.2⟩,i3⟩,fun g a c=>?_,fun g a c=>?_⟩
 ·have:=und_range p2.1.1 p2.2 g c;have:=und_range q2.1.1 q2.2 g a;omega
 ·have:=und_range p1.1.1 p1.2 g a;have:=und_range q1.1.1 q1.2 g c;omega
theorem CtN.appX1 {v:Value} {ys:List Atm} (h:CtN w b f1 x1 f2 x2 iv k) (hg:w.grownBy w' x1.ownBlock) (o:AtomsO w' b v ys) (ne:∀ g,x2.ownBlock=some g→x1.ownBlock≠some g):CtN w' b f1 v f2 x2 iv ⟨⟨k.pre.facts,ys⟩,k.post,k.changes⟩:=by
 obtain ⟨N1,N2,N3,N4,N5⟩:=h;exact ⟨⟨own_grownO N1.1 N2.1 hg (by decide),N1.2⟩,o,⟨own_grownO N3.1 N2.1 hg (by decide),N3.2⟩,⟨own_grownN N4.1 hg ne,N4.2⟩,⟨own_grownO N5.1 N2.1 hg (by decide),N5.2⟩⟩
theorem CtN.appF2 {v:Value} {ys:List Fct} (h:CtN w b f1 x1 f2 x2 iv k) (hg:w.grownBy w' f2.ownBlock) (o:FactsO w' b v ys) (ne:∀ g,f1.ownBlock=some g→f2.ownBlock≠some g):CtN w' b f1 x1 v x2 iv ⟨k.pre,⟨ys,k.post.atoms⟩,k.changes⟩:=by
 obtain ⟨N1,N2,N3,N4,N5⟩:=h;exact ⟨⟨own_grownN N1.1 hg ne,N1.2⟩,⟨own_grownO N2.1 N3.1 hg (by decide),N2.2⟩,o,⟨own_grownO N4.1 N3.1 hg (by decide),N4.2⟩,⟨own_grownO N5.1 N3.1 hg (by decide),N5.2⟩⟩
theorem CtN.appI {v:Value} {ys:List Int} (h:CtN w b f1 x1 f2 x2 iv k) (hg:w.grownBy w' iv.ownBlock) (o:IntsO w' b v ys):CtN w' b f1 x1 f2 x2 v ⟨k.pre,k.post,ys⟩:=by
 obtain ⟨N1,N2,N3,N4,N5⟩:=h;exact ⟨⟨own_grownO N1.1 N5.1 hg (by decide),N1.2⟩,⟨own_grownO N2.1 N5.1 hg (by decide),N2.2⟩,⟨own_grownO N3.1 N5.1 hg (by decide),N3.2⟩,⟨own_grownO N4.1 N5.1 hg (by decide),N4.2⟩,o⟩
theorem CtrV.s5 {v:Value} (h:CtrV w lo hi v k) (hp:x<lo∨hi≤x) (v0 v1 v2 v3 v4:Value):CtrV (((((w.setCell ⟨x,0,none⟩ (v0)).setCell ⟨x,1,none⟩ (v1)).setCell ⟨x,2,none⟩ (v2)).setCell ⟨x,3,none⟩ (v3)).setCell ⟨x,4,none⟩ (v4)) lo hi v k:=by
 obtain ⟨a1,a2,a3,a4,A5,c5,e,g1,g2,g3⟩:=h;exact ⟨a1,a2,a3,a4,A5,c5,e,g1.s5 hp _ _ _ _ _,g2.s5 hp _ _ _ _ _,g3.s5 hp _ _ _ _ _⟩
theorem CtrV.mono {lo' hi':Nat} {v:Value} (h:CtrV w lo hi v k) (e1:lo'≤lo) (e2:hi≤hi'):CtrV w lo' hi' v k:=by
 obtain ⟨a1,a2,a3,a4,A5,c5,e,g1,g2,g3⟩:=h;exact ⟨a1,a2,a3,a4,A5,c5,e,g1.mono e1 e2,g2.mono e1 e2,g3.mono e1 e2⟩
end
def CtQ (g p:Nat) (w u:World) (x:Nat):Prop:=∃ (k:Ctr) (q:Nat) (a1 a2 a3 a4 iv:Value),Blk u x 69 #[a1,a2,a3,a4,iv]∧CtrV u (w.heap.size+2) u.heap.size (.agg #[a1,a2,a3,a4,iv]) k∧Blk u (w.heap.size+1) 69 #[.slice none 0 0,.slice none 0 0,.slice none 0 0,.slice none 0 0,.slice none 0 0]∧Rdr u g q∧Fr g w u∧w.heap.size+1<x∧g<w.heap.size∧q≤p+2
theorem c_l12Mutate {lo hi:Nat} (g p:Nat) (v:Value) (k:Ctr) (w:World) (h:Rdr w g p) (hp:p≤900000) (hk:CtrV w lo hi v k) (hl1:k.pre.facts.length≤100∧k.pre.atoms.length≤100) (hl2:k.post.facts.length≤100∧k.post.atoms.length≤100) (hl3:k.changes.length≤100) :
  Calls Tryz.prog 102 #[.pointer (some ⟨g,0,none⟩),v] w fun e w'=>∃ r x q,e=.returned r∧CtrV w' w.heap.size w'.heap.size r x∧Rdr w' g q∧q≤p+2∧Fr g w w':=by
 have H:=ax h;have hlt:=h.lt;obtain ⟨a1,a2,a3,a4,A5,c5,rfl,g1,g2,g3⟩:=hk;have G1:=ax g1;have G2:=ax g2;have G3:=ax g3;clear h g1 g2 g3;(go_enter Tryz.func102,Tryz.ntmps102);(go_upto_region 1 with fail);refine bx2 (w:=w) (F:=Code.wp _ _ _ _) ?_;rintro w4 k0 k1 hB hz;(replace qk0:=k0.z;replace qk1:=k1.cell;replace rk1:=k1.frozen;replace lk1:=k1.lt);(go_wp2_with fail);clear qk0 qk1 rk1 lk1;refine wp_region_noPanic ?_;refine wp_region_held_drew (S:=(fun w'=>(∀ i,w'.cell? ⟨w.heap.size,i,none⟩=#[a1,a2,a3,a4,.slice A5 k.changes.length c5][i]?)∧(∀ i,w'.cell? ⟨w.heap.size+1,i,none⟩=#[.slice none 0 0,.slice none 0 0,.slice none 0 0,.slice none 0 0,.slice none 0 0][i]?))) (by kernel_rfl) (⟨k0.drew.cell,k1.drew.cell⟩) (fun aH=>?_);refine tk2 0 rfl aH (h:=tk2 1 rfl aH (h:=tk2 3 rfl aH (h:=?_)));(try simp only[zz]);refine tk2 4 rfl aH (h:=tk2 7 rfl aH (h:=tk2 8 rfl aH (h:=?_)));(try simp only[zz])
 refine wpAnyH_par [2,5,6,9,10,11,12] #[true,true,true,true,true,true,true,true,true,true,true,true,true] 7 (by kernel_rfl) aH
  (fun a0 D a1 w'=>aJ (Below w4.heap.size w4 w')∧∃ v27 v31 v32 v35 v36 v6 l1 h1 l2 h2,a1=(((((a0.put (some 8) v27).put (some 11) v31).put (some 12) v32).put (some 15) v35).put (some 16) v36).put (some 5) v6∧
   aJ (dn D 2=true→(∃ R1 e1 R2 e2,v27=.agg #[.slice R1 k.pre.facts.length e1,.slice R2 k.pre.atoms.length e2])∧AsnI w' l1 h1 v27 k.pre∧w4.heap.size≤l1∧h1≤w'.heap.size)∧
   aJ (dn D 5=true→(∃ R1 e1 R2 e2,v31=.agg #[.slice R1 k.post.facts.length e1,.slice R2 k.post.atoms.length e2])∧AsnI w' l2 h2 v31 k.post∧w4.heap.size≤l2∧h2≤w'.heap.size)∧
   aJ (dn D 2=true→dn D 5=true→h1≤l2∨h2≤l1)∧
   aJ (dn D 6=true→dn D 9=false→(∃ x,v32=.slice (some ⟨x,0,none⟩) 0 0)∧IntsO w' w4.heap.size v32 [])∧
   aJ (dn D 9=true→(∃ F d,v35=.slice F k.changes.length d)∧IntsO w' w4.heap.size v35 k.changes)∧
   aJ ((dn D 9=true→dn D 6=true)∧(dn D 10=true→(dn D 2=true∧dn D 5=true∧dn D 9=true)∧∃ p1 p2 q1 q2,v27=.agg #[p1,p2]∧v31=.agg #[q1,q2]∧v36=.agg #[p1,p2,q1,q2,v35])∧(dn D 12=true→dn D 10=true∧dn D 11=true))∧
   aJ (dn D 11=true→∃ x cs,v6=.pointer (some ⟨x,0,none⟩)∧w4.heap.size≤x∧Blk w' x 69 cs∧(dn D 12=false→cs=#[.slice none 0 0,.slice none 0 0,.slice none 0 0,.slice none 0 0,.slice none 0 0])∧(dn D 12=true→v36=.agg cs))) ?start ?steps ?fin
 case start=>exact ⟨(Below.refl _ _).drew,undef,undef,undef,undef,undef,undef,0,0,0,0,rfl,(fun h=>absurd h (by decide)),(fun h=>absurd h (by decide)),(fun h=>absurd h (by decide)),(fun h=>absurd h (by decide)),(fun h=>absurd h (by decide)),⟨(fun h=>absurd h (by decide)),(fun h=>absurd h (by decide)),(fun h=>absurd h (by decide))⟩,(fun h=>absurd h (by decide))⟩
 case steps=>
  refine ParSteps.cons rfl (fun D a1 w' hu hd hI hS K' hK G hG=>?_) (ParSteps.cons rfl (fun D a1 w' hu hd hI hS K' hK G hG=>?_) (ParSteps.cons rfl (fun D a1 w' hu hd hI hS K' hK G hG=>?_) (ParSteps.cons rfl (fun D a1 w' hu hd hI hS K' hK G hG=>?_) (ParSteps.cons rfl (fun D a1 w' hu hd hI hS K' hK G hG=>?_) (ParSteps.cons rfl (fun D a1 w' hu hd hI hS K' hK G hG=>?_) (ParSteps.cons rfl (fun D a1 w' hu hd hI hS K' hK G hG=>?_) ParSteps.nil))))))
  ·obtain ⟨HW,v27,v31,v32,v35,v36,v6,l1,h1,l2,h2,ha,h3,h7,hd2,h8,h11,hc,h13⟩:=hI;rw[ha] at hG;clear ha a1;have u3:=dn_un hu;have u12:dn D 10=false:=by cases e:dn D 10;rfl;have:=((hc.o.2.1 e).1).1;rw[u3] at this;cases this
   have u14:dn D 12=false:=by cases e:dn D 12;rfl;have:=(hc.o.2.2 e).1;rw[u12] at this;cases this
   have HU:=ax (And.intro u12 u14);clear u3 u12 u14 hd;refine hG ?_;clear hG;(try simp only[zz]);go_simp;refine (c_l3Copy _ k.pre _ (G1.o.bz (hB.trans (HW.o.mono hB.size)))).mono ?_;rintro e w2 ⟨r2,rfl,o2,hB2⟩;have o2I:=o2.I;obtain ⟨R1,e1,R2,e2,rfl⟩:=o2I.form;have hB42:Below w4.heap.size w4 w2:=HW.o.trans (hB2.mono HW.o.size);refine hK.out _ _ ⟨(k0.nz (hB42)).cell,(k1.nz (hB42)).cell⟩ ⟨hB42,.agg #[.slice R1 k.pre.facts.length e1,.slice R2 k.pre.atoms.length e2],v31,v32,v35,v36,v6,w'.heap.size,w2.heap.size,l2,h2,rfl,?_,?_,?_,?_,?_,?_,?_⟩
   ·exact fun _=>⟨⟨R1,e1,R2,e2,rfl⟩,o2I,HW.o.size,Nat.le_refl _⟩
   ·intro h;rw[dn_ne (by decide)] at h;obtain ⟨q1,q2,q3,q4⟩:=h7.o h;exact ⟨q1,q2.bz hB2,q3,Nat.le_trans q4 hB2.size⟩
   ·intro _ h;rw[dn_ne (by decide)] at h;exact Or.inr (h7.o h).2.2.2
   ·intro h h';rw[dn_ne (by decide)] at h h';obtain ⟨q1,q2⟩:=h8.o h h';exact ⟨q1,q2.bz hB2⟩
   ·intro h;rw[dn_ne (by decide)] at h;obtain ⟨q1,q2⟩:=h11.o h;exact ⟨q1,q2.bz hB2⟩
   ·refine ⟨fun h=>?_,fun h=>?_,fun h=>?_⟩
    ·rw[dn_ne (by decide)] at h ⊢;exact hc.o.1 h
    ·rw[dn_ne (by decide),HU.o.1] at h;cases h
    ·rw[dn_ne (by decide),HU.o.2] at h;cases h
   ·intro h;rw[dn_ne (by decide)] at h;obtain ⟨x,cs,q1,q2,q3,q4,q5⟩:=h13.o h;exact ⟨x,cs,q1,q2,q3.nz hB2,fun h=>(by rw[dn_ne (by decide)] at h;exact q4 h),fun h=>(by rw[dn_ne (by decide)] at h;exact q5 h)⟩
  ·obtain ⟨HW,v27,v31,v32,v35,v36,v6,l1,h1,l2,h2,ha,h3,h7,hd2,h8,h11,hc,h13⟩:=hI;rw[ha] at hG;clear ha a1;have u7:=dn_un hu;have u12:dn D 10=false:=by cases e:dn D 10;rfl;have:=((hc.o.2.1 e).1).2.1;rw[u7] at this;cases this
   have u14:dn D 12=false:=by cases e:dn D 12;rfl;have:=(hc.o.2.2 e).1;rw[u12] at this;cases this
   have HU:=ax (And.intro u12 u14);clear u7 u12 u14 hd;refine hG ?_;clear hG;(try simp only[zz]);go_simp;refine (c_l3Copy _ k.post _ (G2.o.bz (hB.trans (HW.o.mono hB.size)))).mono ?_;rintro e w2 ⟨r2,rfl,o2,hB2⟩;have o2I:=o2.I;obtain ⟨R1,e1,R2,e2,rfl⟩:=o2I.form;have hB42:Below w4.heap.size w4 w2:=HW.o.trans (hB2.mono HW.o.size);refine hK.out _ _ ⟨(k0.nz (hB42)).cell,(k1.nz (hB42)).cell⟩ ⟨hB42,v27,.agg #[.slice R1 k.post.facts.length e1,.slice R2 k.post.atoms.length e2],v32,v35,v36,v6,l1,h1,w'.heap.size,w2.heap.size,rfl,?_,?_,?_,?_,?_,?_,?_⟩
   ·intro h;rw[dn_ne (by decide)] at h;obtain ⟨q1,q2,q3,q4⟩:=h3.o h;exact ⟨q1,q2.bz hB2,q3,Nat.le_trans q4 hB2.size⟩
   ·exact fun _=>⟨⟨R1,e1,R2,e2,rfl⟩,o2I,HW.o.size,Nat.le_refl _⟩
   ·intro h _;rw[dn_ne (by decide)] at h;exact Or.inl (h3.o h).2.2.2
   ·intro h h';rw[dn_ne (by decide)] at h h';obtain ⟨q1,q2⟩:=h8.o h h';exact ⟨q1,q2.bz hB2⟩
   ·intro h;rw[dn_ne (by decide)] at h;obtain ⟨q1,q2⟩:=h11.o h;exact ⟨q1,q2.bz hB2⟩
   ·refine ⟨fun h=>?_,fun h=>?_,fun h=>?_⟩
    ·rw[dn_ne (by decide)] at h ⊢;exact hc.o.1 h
    ·rw[dn_ne (by decide),HU.o.1] at h;cases h
    ·rw[dn_ne (by decide),HU.o.2] at h;cases h
   ·intro h;rw[dn_ne (by decide)] at h;obtain ⟨x,cs,q1,q2,q3,q4,q5⟩:=h13.o h;exact ⟨x,cs,q1,q2,q3.nz hB2,fun h=>(by rw[dn_ne (by decide)] at h;exact q4 h),fun h=>(by rw[dn_ne (by decide)] at h;exact q5 h)⟩
  ·obtain ⟨HW,v27,v31,v32,v35,v36,v6,l1,h1,l2,h2,ha,h3,h7,hd2,h8,h11,hc,h13⟩:=hI;rw[ha] at hG;clear ha a1;have u8:=dn_un hu;have u11:dn D 9=false:=by cases e:dn D 9;rfl;have:=hc.o.1 e;rw[u8] at this;cases this
   have u12:dn D 10=false:=by cases e:dn D 10;rfl;have:=((hc.o.2.1 e).1).2.2;rw[u11] at this;cases this
   have u14:dn D 12=false:=by cases e:dn D 12;rfl;have:=(hc.o.2.2 e).1;rw[u12] at this;cases this
   have HU:=ax (And.intro u11 (And.intro u12 u14));clear u8 u11 u12 u14 hd;refine hG ?_;clear hG;(try simp only[zz]);go_simp;have hB2:Below w'.heap.size w' (w'.alloc (.cells #[] tI)):=bbox (Below.refl _ _) _;have hB42:Below w4.heap.size w4 (w'.alloc (.cells #[] tI)):=HW.o.trans (hB2.mono HW.o.size);refine hK.out _ _ ⟨(k0.nz (hB42)).cell,(k1.nz (hB42)).cell⟩ ⟨hB42,v27,v31,.slice (some ⟨w'.heap.size,0,none⟩) 0 0,v35,v36,v6,l1,h1,l2,h2,rfl,?_,?_,?_,?_,?_,?_,?_⟩
   ·intro h;rw[dn_ne (by decide)] at h;obtain ⟨q1,q2,q3,q4⟩:=h3.o h;exact ⟨q1,q2.bz hB2,q3,Nat.le_trans q4 hB2.size⟩
   ·intro h;rw[dn_ne (by decide)] at h;obtain ⟨q1,q2,q3,q4⟩:=h7.o h;exact ⟨q1,q2.bz hB2,q3,Nat.le_trans q4 hB2.size⟩
   ·intro h h';rw[dn_ne (by decide)] at h h';exact hd2.o h h'
   ·exact fun _ _=>⟨⟨_,rfl⟩,(IntsO.empty w' rfl).bq HW.o.size⟩
   ·intro h;rw[dn_ne (by decide),HU.o.1] at h;cases h
   ·refine ⟨fun h=>?_,fun h=>?_,fun h=>?_⟩
    ·rw[dn_ne (by decide),HU.o.1] at h;cases h
    ·rw[dn_ne (by decide),HU.o.2.1] at h;cases h
    ·rw[dn_ne (by decide),HU.o.2.2] at h;cases h
   ·intro h;rw[dn_ne (by decide)] at h;obtain ⟨x,cs,q1,q2,q3,q4,q5⟩:=h13.o h;exact ⟨x,cs,q1,q2,q3.nz hB2,fun h=>(by rw[dn_ne (by decide)] at h;exact q4 h),fun h=>(by rw[dn_ne (by decide)] at h;exact q5 h)⟩
  ·obtain ⟨HW,v27,v31,v32,v35,v36,v6,l1,h1,l2,h2,ha,h3,h7,hd2,h8,h11,hc,h13⟩:=hI;rw[ha] at hG;clear ha a1;have u11:=dn_un hu;have u12:dn D 10=false:=by cases e:dn D 10;rfl;have:=((hc.o.2.1 e).1).2.2;rw[u11] at this;cases this
   have u14:dn D 12=false:=by cases e:dn D 12;rfl;have:=(hc.o.2.2 e).1;rw[u12] at this;cases this
   have t8:dn D 6=true:=hd ⟨6,.data⟩ (by simp) (by decide);obtain ⟨⟨x,rfl⟩,o⟩:=h8.o t8 u11;have HO:=ax o;have HU:=ax (And.intro t8 (And.intro u12 u14));clear u11 u12 u14 t8 o h8 hd;refine hG ?_;clear hG;(try simp only[zz]);rw[if_pos (by simp[Region.wanted])];refine wp_appIY (base:=w4.heap.size) (xs:=[]) (ys:=k.changes) _ _ rfl rfl HO.o rfl (G3.o.bz (hB.trans (HW.o.mono hB.size))) (by simp;omega) HW.o.size ?_;intro A' c' w2 o2 hg2 hB2 hx2;simp only[List.nil_append] at o2 hx2 ⊢;have hB42:Below w4.heap.size w4 w2:=HW.o.trans hB2;have hsz2:=hg2.size;refine hK.out _ _ ⟨(k0.nz (hB42)).cell,(k1.nz (hB42)).cell⟩ ⟨hB42,v27,v31,.slice (some ⟨x,0,none⟩) 0 0,.slice A' k.changes.length c',v36,v6,l1,h1,l2,h2,rfl,?_,?_,?_,?_,?_,?_,?_⟩
   ·intro h;rw[dn_ne (by decide)] at h;obtain ⟨q1,q2,q3,q4⟩:=h3.o h;exact ⟨q1,q2.grownI HO.o hg2,q3,Nat.le_trans q4 hsz2⟩
   ·intro h;rw[dn_ne (by decide)] at h;obtain ⟨q1,q2,q3,q4⟩:=h7.o h;exact ⟨q1,q2.grownI HO.o hg2,q3,Nat.le_trans q4 hsz2⟩
   ·intro h h';rw[dn_ne (by decide)] at h h';exact hd2.o h h'
   ·intro _ h;rw[dn_self hu] at h;cases h
   ·exact fun _=>⟨⟨A',c',rfl⟩,o2⟩
   ·refine ⟨fun h=>?_,fun h=>?_,fun h=>?_⟩
    ·rw[dn_ne (by decide)];exact HU.o.1
    ·rw[dn_ne (by decide),HU.o.2.1] at h;cases h
    ·rw[dn_ne (by decide),HU.o.2.2] at h;cases h
   ·intro h;rw[dn_ne (by decide)] at h;obtain ⟨y,cs,q1,q2,q3,q4,q5⟩:=h13.o h;exact ⟨y,cs,q1,q2,Blk.zm (hg:=hg2) q3 HO.o.1 (by decide),fun h=>(by rw[dn_ne (by decide)] at h;exact q4 h),fun h=>(by rw[dn_ne (by decide)] at h;exact q5 h)⟩
  ·obtain ⟨HW,v27,v31,v32,v35,v36,v6,l1,h1,l2,h2,ha,h3,h7,hd2,h8,h11,hc,h13⟩:=hI;rw[ha] at hG;clear ha a1;have u12:=dn_un hu;have u14:dn D 12=false:=by cases e:dn D 12;rfl;have:=(hc.o.2.2 e).1;rw[u12] at this;cases this
   have t3:dn D 2=true:=hd ⟨2,.data⟩ (by simp) (by decide);have t7:dn D 5=true:=hd ⟨5,.data⟩ (by simp) (by decide);have t11:dn D 9=true:=hd ⟨9,.data⟩ (by simp) (by decide);obtain ⟨⟨R1,e1,R2,e2,rfl⟩,i1⟩:=h3.o t3;obtain ⟨⟨R3,e3,R4,e4,rfl⟩,i2⟩:=h7.o t7;obtain ⟨⟨F,d,rfl⟩,i3⟩:=h11.o t11;have HI1:=ax i1;have HI2:=ax i2;have HI3:=ax i3;have HDJ:=ax (hd2.o t3 t7);have HU:=ax (And.intro u14 (And.intro t3 (And.intro t7 (And.intro t11 (hc.o.1 t11)))));clear u12 u14 t3 t7 t11 i1 i2 i3 h3 h7 hd2 h8 h11 hd;refine hG ?_;clear hG;(try simp only[zz]);go_simp;refine hK.out _ _ hS ⟨HW.o,.agg #[.slice R1 k.pre.facts.length e1,.slice R2 k.pre.atoms.length e2],.agg #[.slice R3 k.post.facts.length e3,.slice R4 k.post.atoms.length e4],v32,.slice F k.changes.length d,.agg #[.slice R1 k.pre.facts.length e1,.slice R2 k.pre.atoms.length e2,.slice R3 k.post.facts.length e3,.slice R4 k.post.atoms.length e4,.slice F k.changes.length d],v6,l1,h1,l2,h2,rfl,?_,?_,?_,?_,?_,?_,?_⟩
   ·exact fun _=>⟨⟨R1,e1,R2,e2,rfl⟩,HI1.o⟩
   ·exact fun _=>⟨⟨R3,e3,R4,e4,rfl⟩,HI2.o⟩
   ·exact fun _ _=>HDJ.o
   ·intro _ h;rw[dn_ne (by decide),HU.o.2.2.2.1] at h;cases h
   ·exact fun _=>⟨⟨F,d,rfl⟩,HI3.o⟩
   ·refine ⟨fun h=>?_,fun h=>⟨⟨?_,?_,?_⟩,_,_,_,_,rfl,rfl,rfl⟩,fun h=>?_⟩
    ·rw[dn_ne (by decide)];exact HU.o.2.2.2.2
    ·rw[dn_ne (by decide)];exact HU.o.2.1
    ·rw[dn_ne (by decide)];exact HU.o.2.2.1
    ·rw[dn_ne (by decide)];exact HU.o.2.2.2.1
    ·rw[dn_ne (by decide),HU.o.1] at h;cases h
   ·intro h;rw[dn_ne (by decide)] at h;obtain ⟨y,cs,q1,q2,q3,q4,q5⟩:=h13.o h;exact ⟨y,cs,q1,q2,q3,fun h=>(by rw[dn_ne (by decide)] at h;exact q4 h),fun h=>(by rw[dn_ne (by decide),HU.o.1] at h;cases h)⟩
  ·obtain ⟨HW,v27,v31,v32,v35,v36,v6,l1,h1,l2,h2,ha,h3,h7,hd2,h8,h11,hc,h13⟩:=hI;rw[ha] at hG;clear ha a1;have u13:=dn_un hu;have u14:dn D 12=false:=by cases e:dn D 12;rfl;have:=(hc.o.2.2 e).2;rw[u13] at this;cases this
   have HU:=ax u14;clear u13 u14 hd;refine hG ?_;clear hG;(try simp only[zz]);go_simp;have hB2:Below w'.heap.size w' (w'.alloc (.cells #[.slice none 0 0,.slice none 0 0,.slice none 0 0,.slice none 0 0,.slice none 0 0] 69)):=bbox (Below.refl _ _) _;have hB42:Below w4.heap.size w4 (w'.alloc (.cells #[.slice none 0 0,.slice none 0 0,.slice none 0 0,.slice none 0 0,.slice none 0 0] 69)):=HW.o.trans (hB2.mono HW.o.size);refine hK.out _ _ ⟨(k0.nz (hB42)).cell,(k1.nz (hB42)).cell⟩ ⟨hB42,v27,v31,v32,v35,v36,.pointer (some ⟨w'.heap.size,0,none⟩),l1,h1,l2,h2,rfl,?_,?_,?_,?_,?_,?_,?_⟩
   ·intro h;rw[dn_ne (by decide)] at h;obtain ⟨q1,q2,q3,q4⟩:=h3.o h;exact ⟨q1,q2.bz hB2,q3,Nat.le_trans q4 hB2.size⟩
   ·intro h;rw[dn_ne (by decide)] at h;obtain ⟨q1,q2,q3,q4⟩:=h7.o h;exact ⟨q1,q2.bz hB2,q3,Nat.le_trans q4 hB2.size⟩
   ·intro h h';rw[dn_ne (by decide)] at h h';exact hd2.o h h'
   ·intro h h';rw[dn_ne (by decide)] at h h';obtain ⟨q1,q2⟩:=h8.o h h';exact ⟨q1,q2.bz hB2⟩
   ·intro h;rw[dn_ne (by decide)] at h;obtain ⟨q1,q2⟩:=h11.o h;exact ⟨q1,q2.bz hB2⟩
   ·refine ⟨fun h=>?_,fun h=>?_,fun h=>?_⟩
    ·rw[dn_ne (by decide)] at h ⊢;exact hc.o.1 h
    ·rw[dn_ne (by decide)] at h;obtain ⟨⟨t3,t7,t11⟩,q⟩:=hc.o.2.1 h;exact ⟨⟨by rw[dn_ne (by decide)];exact t3,by rw[dn_ne (by decide)];exact t7,by rw[dn_ne (by decide)];exact t11⟩,q⟩
    ·rw[dn_ne (by decide),HU.o] at h;cases h
   ·exact fun _=>⟨_,_,rfl,HW.o.size,Blk.new _ _ _,fun _=>rfl,fun h=>(by rw[dn_ne (by decide),HU.o] at h;cases h)⟩
  ·obtain ⟨HW,v27,v31,v32,v35,v36,v6,l1,h1,l2,h2,ha,h3,h7,hd2,h8,h11,hc,h13⟩:=hI;rw[ha] at hG;clear ha a1;have u14:=dn_un hu;have t12:dn D 10=true:=hd ⟨10,.data⟩ (by simp) (by decide);have t13:dn D 11=true:=hd ⟨11,.data⟩ (by simp) (by decide);obtain ⟨⟨t3,t7,t11⟩,p1,p2,q1,q2,e27,e31,e36⟩:=hc.o.2.1 t12;obtain ⟨⟨R1,e1,R2,e2,g27⟩,i1⟩:=h3.o t3;obtain ⟨⟨R3,e3,R4,e4,g31⟩,i2⟩:=h7.o t7;obtain ⟨⟨F,d,g35⟩,i3⟩:=h11.o t11;obtain ⟨y,cs,e6,hy,ky,z4,-⟩:=h13.o t13;obtain rfl:=z4 u14;subst e6 g35;rw[g27] at e27;rw[g31] at e31;injection e27 with e27;injection e27 with e27;injection e27 with e27 e27b;injection e27b with e27b;injection e31 with e31;injection e31 with e31;injection e31 with e31 e31b;injection e31b with e31b;subst e27 e27b e31 e31b e36 g27 g31;have HI1:=ax i1;have HI2:=ax i2;have HI3:=ax i3;have HDJ:=ax (hd2.o t3 t7);have HU:=ax (And.intro t3 (And.intro t7 (And.intro t11 (And.intro (hc.o.1 t11) (And.intro t12 t13)))));clear u14 t12 t13 t3 t7 t11 i1 i2 i3 h3 h7 hd2 h8 h11 h13 z4 hd;have qy:=ky.cell;have ry:=ky.frozen;have ly:=ky.lt;refine hG ?_;clear hG;(try simp only[zz]);go_simp;have hB42:Below w4.heap.size w4 (((((w'.setCell ⟨y,0,none⟩ (.slice R1 k.pre.facts.length e1)).setCell ⟨y,1,none⟩ (.slice R2 k.pre.atoms.length e2)).setCell ⟨y,2,none⟩ (.slice R3 k.post.facts.length e3)).setCell ⟨y,3,none⟩ (.slice R4 k.post.atoms.length e4)).setCell ⟨y,4,none⟩ (.slice F k.changes.length d)):=below_set5 HW.o hy _ _ _ _ _;have ky5:Blk (((((w'.setCell ⟨y,0,none⟩ (.slice R1 k.pre.facts.length e1)).setCell ⟨y,1,none⟩ (.slice R2 k.pre.atoms.length e2)).setCell ⟨y,2,none⟩ (.slice R3 k.post.facts.length e3)).setCell ⟨y,3,none⟩ (.slice R4 k.post.atoms.length e4)).setCell ⟨y,4,none⟩ (.slice F k.changes.length d)) y 69 #[.slice R1 k.pre.facts.length e1,.slice R2 k.pre.atoms.length e2,.slice R3 k.post.facts.length e3,.slice R4 k.post.atoms.length e4,.slice F k.changes.length d]:=(((((ky.set_ 0 (.slice R1 k.pre.facts.length e1)).set_ 1 (.slice R2 k.pre.atoms.length e2)).set_ 2 (.slice R3 k.post.facts.length e3)).set_ 3 (.slice R4 k.post.atoms.length e4)).set_ 4 (.slice F k.changes.length d));have hsz5:(((((w'.setCell ⟨y,0,none⟩ (.slice R1 k.pre.facts.length e1)).setCell ⟨y,1,none⟩ (.slice R2 k.pre.atoms.length e2)).setCell ⟨y,2,none⟩ (.slice R3 k.post.facts.length e3)).setCell ⟨y,3,none⟩ (.slice R4 k.post.atoms.length e4)).setCell ⟨y,4,none⟩ (.slice F k.changes.length d)).heap.size=w'.heap.size:=by simp
   refine hK.out _ _ ⟨(k0.nz (hB42)).cell,(k1.nz (hB42)).cell⟩ ⟨hB42,.agg #[.slice R1 k.pre.facts.length e1,.slice R2 k.pre.atoms.length e2],.agg #[.slice R3 k.post.facts.length e3,.slice R4 k.post.atoms.length e4],v32,.slice F k.changes.length d,.agg #[.slice R1 k.pre.facts.length e1,.slice R2 k.pre.atoms.length e2,.slice R3 k.post.facts.length e3,.slice R4 k.post.atoms.length e4,.slice F k.changes.length d],.pointer (some ⟨y,0,none⟩),l1,h1,l2,h2,rfl,?_,?_,?_,?_,?_,?_,?_⟩
   ·exact fun _=>⟨⟨R1,e1,R2,e2,rfl⟩,HI1.o.1.set5 ky (by decide) (by decide) _ _ _ _ _,HI1.o.2.1,by rw[hsz5];exact HI1.o.2.2⟩
   ·exact fun _=>⟨⟨R3,e3,R4,e4,rfl⟩,HI2.o.1.set5 ky (by decide) (by decide) _ _ _ _ _,HI2.o.2.1,by rw[hsz5];exact HI2.o.2.2⟩
   ·exact fun _ _=>HDJ.o
   ·intro _ h;rw[dn_ne (by decide),HU.o.2.2.1] at h;cases h
   ·exact fun _=>⟨⟨F,d,rfl⟩,(IntsI.set5 (hi:=w'.heap.size) ⟨HI3.o,HI3.o.und⟩ ky (by decide) _ _ _ _ _).1⟩
   ·refine ⟨fun h=>?_,fun h=>⟨⟨?_,?_,?_⟩,_,_,_,_,rfl,rfl,rfl⟩,fun h=>⟨?_,?_⟩⟩
    ·rw[dn_ne (by decide)];exact HU.o.2.2.2.1
    ·rw[dn_ne (by decide)];exact HU.o.1
    ·rw[dn_ne (by decide)];exact HU.o.2.1
    ·rw[dn_ne (by decide)];exact HU.o.2.2.1
    ·rw[dn_ne (by decide)];exact HU.o.2.2.2.2.1
    ·rw[dn_ne (by decide)];exact HU.o.2.2.2.2.2
   ·exact fun _=>⟨y,_,rfl,hy,ky5,fun h=>(by rw[dn_self hu] at h;cases h),fun _=>rfl⟩
 case fin=>
  rintro a1 V aH ⟨HW,v27,v31,v32,v35,v36,v6,l1,h1,l2,h2,rfl,h3,h7,hd2,-,h11,hc,h13⟩;obtain ⟨⟨R1,e1,R2,e2,rfl⟩,i1⟩:=h3.o (by decide);obtain ⟨⟨R3,e3,R4,e4,rfl⟩,i2⟩:=h7.o (by decide);obtain ⟨⟨F,d,rfl⟩,i3⟩:=h11.o (by decide);have hdj:=hd2.o (by decide) (by decide);obtain ⟨-,p1,p2,q1,q2,g27,g31,rfl⟩:=hc.o.2.1 (by decide);obtain ⟨y,cs,rfl,hy,ky,-,z5⟩:=h13.o (by decide);have g36:=z5 (by decide);injection g27 with g27;injection g27 with g27;injection g27 with g27 g27b;injection g27b with g27b;injection g31 with g31;injection g31 with g31;injection g31 with g31 g31b;injection g31b with g31b;subst g27 g27b g31 g31b;injection g36 with g36;subst g36;have HI1:=ax i1;have HI2:=ax i2;have HI3:=ax i3;have HDJ:=ax hdj;have HBV:=ax (hB.trans (HW.o.mono hB.size));replace k1:=k1.nz HW.o;have hzV:=HW.o.size;have HR:=ax (H.o.bz HBV.o);have HF:aJ (Fr g w V):=ax (Fr.ofBelow HBV.o);obtain ⟨HN0,NA0,NF0⟩:=CtN.make i1.1 i2.1 i3 hdj i1.2.1 i2.2.1;have HN:=ax HN0;have NA:=ax NA0;have NF:=ax NF0;clear HI1 HI2 HI3 HDJ h3 h7 hd2 h11 hc h13 HW i1 i2 i3 hdj z5 hB k0 HN0 NA0 NF0 H G1 G2 G3;(try simp only[zz]);refine dn1 ?_;clear aH HBV;obtain ⟨b4,hb4⟩:∃ b4,b4=w4.heap.size:=⟨_,rfl⟩;rw[←hb4] at HN hy hzV hz;clear hb4;(go_wp2_with fail);refine (c_pick g p 40 _ HR.o (by omega)).mono ?_;rintro e V4 ⟨m,rfl,hm,hR2,hF2⟩;have hs4:=hF2.size;replace k1:=k1.fr hF2 (by omega);replace ky:=ky.fr hF2 (by omega);replace HN:=ax (HN.o.fr hF2 (by omega));replace HF:=ax (HF.o.trans hF2);clear HR;have HR:=ax hR2;clear hR2 hF2;(replace qky:=ky.z);by_cases hm0:m=0
  case' pos=>
   subst hm0;clear NA NF;(go_wp2_with fail);clear qky;refine wp_region_noPanic ?_;refine wp_region_last' (S:=(fun w'=>∀ i,w'.cell? ⟨y,i,none⟩=#[.slice R1 k.pre.facts.length e1,.slice R2 k.pre.atoms.length e2,.slice R3 k.post.facts.length e3,.slice R4 k.post.atoms.length e4,.slice F k.changes.length d][i]?)) (by simp) (by kernel_rfl) (by kernel_rfl) (ky.drew.cell) (fun aH=>?_);simp only[List.dropLast,List.getLast,nopOf,List.cons_append,List.nil_append,List.length_cons,List.length_nil,Nat.zero_add,Nat.reduceAdd];have hdr:Below V4.heap.size V4 V4.drew:=(Below.refl _ _).drew;replace k1:=k1.nz hdr;replace ky:=ky.nz hdr;replace HN:=ax (HN.o.bz hdr);replace HR:=ax (HR.o.bz hdr);replace HF:=ax (HF.o.go hdr);have hsd:V4.heap.size≤V4.drew.heap.size:=Nat.le_refl _;clear hdr;generalize V4.drew=V5 at *;refine tk2 0 rfl aH (h:=tk2 1 rfl aH (h:=tk2 2 rfl aH (h:=?_)));(try simp only[zz]);have kl:=Blk.new V5 tI #[.int .i64 1,.int .i64 5,.int .i64 (-1),.int .i64 4];refine rdc 3 rfl fun K hK=>?_;(try simp only[zz]);(go_simp;have hq:=bbox (Below.refl _ V5) (.cells #[.int .i64 1,.int .i64 5,.int .i64 (-1),.int .i64 4] tI);replace k1:=k1.nz hq;replace ky:=ky.nz hq;replace HN:=ax (HN.o.bz hq);replace HR:=ax (HR.o.bz hq);replace HF:=ax (HF.o.go hq);clear hq);refine hK.out _ _ (ky.cell) ?_;clear aH hK K;intro aH;refine rdc 4 rfl fun K hK=>?_;(try simp only[zz]);(go_simp;refine (c_numL g (p+1) [1,5,-1,4] V5.heap.size 4 _ _ HR.o (by omega) kl (by rfl) (by omega) (by rfl) (by decide) (by decide)).mono ?_;rintro e V6 ⟨n,hn,rfl,hR2,hF2⟩;have hs6:=hF2.size;(try simp only[World.size_alloc] at hs6);replace k1:=k1.fr hF2 (by omega);replace ky:=ky.fr hF2 (by omega);replace HN:=ax (HN.o.fr hF2 (by omega));replace HF:=ax (HF.o.trans hF2);replace HR:=ax hR2;clear hR2 hF2 kl hn);refine hK.out _ _ (ky.cell) ?_;clear aH hK K;intro aH;(try simp only[zz]);have k6:=Blk.new V6 tI #[.int .i64 n];refine rdc 5 rfl fun K hK=>?_;(try simp only[zz]);(go_simp;have hq:=bbox (Below.refl _ V6) (.cells #[.int .i64 n] tI);have hzq:V6.heap.size<(V6.alloc (.cells #[.int .i64 n] tI)).heap.size:=(by simp);replace k1:=k1.nz hq;replace ky:=ky.nz hq;replace HN:=ax (HN.o.bz hq);replace HR:=ax (HR.o.bz hq);replace HF:=ax (HF.o.go hq);clear hq);refine hK.out _ _ (ky.cell) ?_;clear aH hK K;intro aH;(try simp only[zz]);refine rdc 6 rfl fun K0 hK=>?_;refine stepIL (xs:=k.changes) (ys:=[n]) (base:=b4) rfl _ _ rfl rfl HN.o.2.2.2.2 rfl (IntsV.lit (xs:=[n]) k6 rfl (by simp)) (by simp;omega) (by simp;omega) ?_;intro A9 d9 w9 o9 hg9 hB9;rw[List.length_append,List.length_singleton] at o9 ⊢;have k19:=Blk.zm (hg:=hg9) k1 HN.o.2.2.2.2.1 (by decide);have k9:=Blk.zm (hg:=hg9) ky HN.o.2.2.2.2.1 (by decide);have HN9:=ax (HN.o.appI hg9 o9);have hF9:Fr g w w9:=HF.o.goB hB9 (by omega);have hR9:Rdr w9 g (p+2):=HR.o.belowB hB9 (by omega);have HFR:=ax (And.intro hF9 hR9);refine hK.out _ _ k9.cell ?_;clear aH hK K0 hg9 o9 hB9 hF9 hR9 k1 ky HN HR HF k6;intro aH;(try simp only[zz]);have q9:=k9.cell;have r9:=k9.frozen;have l9:=k9.lt;refine tk2 7 rfl aH (h:=?_);(try simp only[zz]);refine rdc 8 rfl fun K hK=>?_;go_simp;refine hK.out _ _ (k9.cell) (fun aH=>?_);clear hK K;refine wpAnyH_done (by kernel_rfl) ?_ _;unfold lastQ;go_simp;refine NoPanic.normal ?_;(go_upto_region 9 with fail);have HX:aJ (CtQ g p w (w9.setCell ⟨y,4,none⟩ (.slice A9 (k.changes.length+1) d9)) y):=ax ⟨⟨k.pre,k.post,k.changes++[n]⟩,p+2,.slice R1 k.pre.facts.length e1,.slice R2 k.pre.atoms.length e2,.slice R3 k.post.facts.length e3,.slice R4 k.post.atoms.length e4,.slice A9 (k.changes.length+1) d9,by simpa using k9.set_ 4 (.slice A9 (k.changes.length+1) d9),((HN9.o.setT k9 (by decide) (by decide) (by decide) 4 (.slice A9 (k.changes.length+1) d9)).V).mono (by omega) (Nat.le_refl _),k19.far (by simp only;omega) _,HFR.o.2.set_ (by simp only;omega) _,HFR.o.1.set_ (.inr (by simp only;omega)) _,by omega,by omega,by omega⟩;clear k9 k19 HFR HN9 q9 r9 l9 aH;generalize (w9.setCell ⟨y,4,none⟩ (.slice A9 (k.changes.length+1) d9))=U at *
  case' neg=>
   have m0:((m:Int) == 0)=false:=beq_false_of_ne (by omega);obtain ⟨q,hqp⟩:∃ q,q=p:=⟨_,rfl⟩;rw[←hqp] at HR;by_cases hm1:m=1
   case' pos=>
    subst hm1;clear m0 hm0 NF;have NE:=NA;clear NA;(go_upto_region 9 with (at_builtin;refine appAL (xs:=k.pre.atoms) (ys:=[⟨0,0,0⟩]) (base:=b4) rfl _ _ rfl rfl (HN.o.2.1.bz bel) rfl (AtomsV.oneB (Blk.newE rfl)) (by simp;omega) (by simp;omega) ?_;intro A9 d9 w9 o9 hg9 hB9;rw[List.length_append,List.length_singleton] at o9 ⊢;have k9:=Blk.zm (hg:=hg9) (ky.alloc _) (HN.o.2.1.bz (bbox (Below.refl _ _) _)).1 (by decide);have k19:=Blk.zm (hg:=hg9) (k1.alloc _) (HN.o.2.1.bz (bbox (Below.refl _ _) _)).1 (by decide);have HG:=ax hg9;have O9:=ax o9;clear hg9 o9;(replace qk9:=k9.z)));have hbl:=bbox (Below.refl _ V4) (.cells #[.int .i64 0,.int .i64 0,.int .i64 0] tA);have HN9:=ax ((HN.o.bz hbl).appX1 HG.o O9.o NE.o);have hF9:Fr g w w9:=(HF.o.go hbl).goB hB9 (by omega);have hR9:Rdr w9 g (q+1):=(HR.o.bz hbl).belowB hB9 (by omega);have HX:aJ (CtQ g p w (w9.setCell ⟨y,1,none⟩ (.slice A9 (k.pre.atoms.length+1) d9)) y):=ax ⟨⟨⟨k.pre.facts,k.pre.atoms++[⟨0,0,0⟩]⟩,k.post,k.changes⟩,q+1,.slice R1 k.pre.facts.length e1,.slice A9 (k.pre.atoms.length+1) d9,.slice R3 k.post.facts.length e3,.slice R4 k.post.atoms.length e4,.slice F k.changes.length d,by simpa using k9.set_ 1 (.slice A9 (k.pre.atoms.length+1) d9),((HN9.o.setT k9 (by decide) (by decide) (by decide) 1 (.slice A9 (k.pre.atoms.length+1) d9)).V).mono (by omega) (Nat.le_refl _),k19.far (by simp only;omega) _,hR9.set_ (by simp only;omega) _,hF9.set_ (.inr (by simp only;omega)) _,by omega,by omega,by omega⟩;clear NE HN9 O9 HG hF9 hR9 k9 k19 qk9 hbl hB9 k1 ky qky HN HR HF;generalize (w9.setCell ⟨y,1,none⟩ (.slice A9 (k.pre.atoms.length+1) d9))=U at *
   case' neg=>
    have m1:((m:Int) == 1)=false:=beq_false_of_ne (by omega);by_cases hm2:m=2
    case' pos=>
     subst hm2;clear hm0 hm1 NA;have NE:=NF;clear NF;(go_upto_region 9 with (at_builtin;refine appFL (xs:=k.post.facts) (ys:=[⟨false,9,0⟩]) (base:=b4) rfl _ _ rfl rfl (HN.o.2.2.1.bz bel) rfl (FactsV.oneB (Blk.newE rfl)) (by simp;omega) (by simp;omega) ?_;intro A9 d9 w9 o9 hg9 hB9;rw[List.length_append,List.length_singleton] at o9 ⊢;have k9:=Blk.zm (hg:=hg9) (ky.alloc _) (HN.o.2.2.1.bz (bbox (Below.refl _ _) _)).1 (by decide);have k19:=Blk.zm (hg:=hg9) (k1.alloc _) (HN.o.2.2.1.bz (bbox (Below.refl _ _) _)).1 (by decide);have HG:=ax hg9;have O9:=ax o9;clear hg9 o9;(replace qk9:=k9.z)));have hbl:=bbox (Below.refl _ V4) (.cells #[.bool false,.int .i64 9,.int .i64 0] tF);have HN9:=ax ((HN.o.bz hbl).appF2 HG.o O9.o NE.o);have hF9:Fr g w w9:=(HF.o.go hbl).goB hB9 (by omega);have hR9:Rdr w9 g (q+1):=(HR.o.bz hbl).belowB hB9 (by omega);have HX:aJ (CtQ g p w (w9.setCell ⟨y,2,none⟩ (.slice A9 (k.post.facts.length+1) d9)) y):=ax ⟨⟨k.pre,⟨k.post.facts++[⟨false,9,0⟩],k.post.atoms⟩,k.changes⟩,q+1,.slice R1 k.pre.facts.length e1,.slice R2 k.pre.atoms.length e2,.slice A9 (k.post.facts.length+1) d9,.slice R4 k.post.atoms.length e4,.slice F k.changes.length d,by simpa using k9.set_ 2 (.slice A9 (k.post.facts.length+1) d9),((HN9.o.setT k9 (by decide) (by decide) (by decide) 2 (.slice A9 (k.post.facts.length+1) d9)).V).mono (by omega) (Nat.le_refl _),k19.far (by simp only;omega) _,hR9.set_ (by simp only;omega) _,hF9.set_ (.inr (by simp only;omega)) _,by omega,by omega,by omega⟩;clear NE HN9 O9 HG hF9 hR9 k9 k19 qk9 hbl hB9 k1 ky qky HN HR HF;generalize (w9.setCell ⟨y,2,none⟩ (.slice A9 (k.post.facts.length+1) d9))=U at *
    case' neg=>
     have m2:((m:Int) == 2)=false:=beq_false_of_ne (by omega);(go_upto_region 9 with fail);have HX:aJ (CtQ g p w V4 y):=ax ⟨k,p+1,.slice R1 k.pre.facts.length e1,.slice R2 k.pre.atoms.length e2,.slice R3 k.post.facts.length e3,.slice R4 k.post.atoms.length e4,.slice F k.changes.length d,ky,HN.o.V.mono (by omega) (Nat.le_refl _),k1,by rw[←hqp];exact HR.o,HF.o,by omega,by omega,by omega⟩;clear k1 ky qky HN NA NF HR HF;generalize V4=U at *
  all_goals
   obtain ⟨k',q,b1,b2,b3,b5,iv,ky,cv,k1,hR,hF,hyx,hgx,hq⟩:=HX.o;have HV:=ax cv;have HR:=ax hR;have HF:=ax hF;obtain ⟨R1,e1,R2,e2,R3,e3,R4,e4,F,d,g1⟩:=cv.form;simp only[Value.agg.injEq,Array.mk.injEq,List.cons.injEq,and_true] at g1;obtain ⟨rfl,rfl,rfl,rfl,rfl⟩:=g1;clear cv hR hF HX;(replace qk1:=k1.cell;replace rk1:=k1.frozen;replace lk1:=k1.lt;replace qky:=ky.z);have hne:w.heap.size+1≠y:=by omega
   (go_wp2_with fail);have hs5:((((((U.setCell ⟨w.heap.size+1,0,none⟩ (.slice R1 k'.pre.facts.length e1)).setCell ⟨w.heap.size+1,1,none⟩ (.slice R2 k'.pre.atoms.length e2)).setCell ⟨w.heap.size+1,2,none⟩ (.slice R3 k'.post.facts.length e3)).setCell ⟨w.heap.size+1,3,none⟩ (.slice R4 k'.post.atoms.length e4)).setCell ⟨w.heap.size+1,4,none⟩ (.slice F k'.changes.length d))).heap.size=U.heap.size:=by simp
   refine bodyPost_ret (v:=.agg #[.slice R1 k'.pre.facts.length e1,.slice R2 k'.pre.atoms.length e2,.slice R3 k'.post.facts.length e3,.slice R4 k'.post.atoms.length e4,.slice F k'.changes.length d]) (by simp[results,Tryz.results102,go_sem,qk1,lk1]) rfl ?_;refine ⟨_,k',q,rfl,?_,HR.o.s5 (by omega) _ _ _ _ _,hq,HF.o.s5 (by omega) _ _ _ _ _⟩;rw[hs5];exact (HV.o.s5 (.inl (by omega)) _ _ _ _ _).mono (by omega) (Nat.le_refl _)
end
end Go.Proofs.YtjaohekkmlkinaaGreat
