/- Arguments that are states; marks. -/
import Derived.Test.YtjbboklnegfohaaGreatDoorArg
import Derived.Test.YtjbboklnegfohaaGreatDoorMRange
import Derived.Test.YtjbboklnegfohaaGreatDoorMFmtP
import Derived.Deep.RegionHeld3
import Derived.Deep.DrawnRows
import Derived.Test.YtjbboklnegfohaaGreatDoorDraw
set_option linter.unusedSimpArgs false
set_option linter.unusedVariables false
namespace Go.Proofs.YtjbboklnegfohaaGreatDoor
open Go Go.RowKit Go.Proofs
def Und (v:Value) (hi:Nat):Prop:=∀ g,v.ownBlock=some g→g<hi
theorem FactsO.und {w:World} {base:Nat} {v:Value} {xs:List Fct} (h:FactsO w base v xs):Und v w.heap.size:=fun g hg=>(h.1.lt g hg).2
theorem AtomsO.und {w:World} {base:Nat} {v:Value} {xs:List Atm} (h:AtomsO w base v xs):Und v w.heap.size:=fun g hg=>(h.1.lt g hg).2
theorem Und.mono {v:Value} {a b:Nat} (h:Und v a) (hab:a≤b):Und v b:=fun g hg=>Nat.lt_of_lt_of_le (h g hg) hab
structure Mk (p:Nat→Prop) (w w':World):Prop where
 os:w'.os=w.os
 tape:w'.tape=w.tape
 output:w'.output=w.output
 size:w.heap.size≤w'.heap.size
 block:∀ k,k<w.heap.size→¬p k→w'.heap[k]? = w.heap[k]?
section
variable {p q:Nat→Prop} {w a b:World}
theorem Mk.refl (p:Nat→Prop) (w:World):Mk p w w:=⟨rfl,rfl,rfl,Nat.le_refl _,fun _ _ _=>rfl⟩
theorem Mk.trans (h:Mk p w a) (h2:Mk p a b):Mk p w b:=⟨h2.os.trans h.os,h2.tape.trans h.tape,h2.output.trans h.output,Nat.le_trans h.size h2.size,fun k hk hp=>(h2.block k (Nat.lt_of_lt_of_le hk h.size) hp).trans (h.block k hk hp)⟩
theorem Mk.mono (h:Mk p w a) (hpq:∀ k,p k→q k):Mk q w a:=⟨h.os,h.tape,h.output,h.size,fun k hk hq=>h.block k hk fun hp=>hq (hpq k hp)⟩
theorem Mk.set (h:Mk p w a) {x:Addr} (hx:p x.block) (u:Value):Mk p w (a.setCell x u):=h.trans ⟨rfl,rfl,rfl,by simp,fun k _ hk=>Below.heap_setCell a x u k (fun e=>hk (e▸hx))⟩
theorem Mk.below {lo:Nat} (h:Mk p w a) (hp:∀ k,p k→lo≤k) (hl:lo≤w.heap.size):Below lo w a:=⟨h.os,h.tape,h.output,h.size,fun k hk=>h.block k (by omega) fun hp'=>by have:=hp k hp';omega⟩
end
theorem own_mk {p:Nat→Prop} {w w':World} {base:Nat} {e:TypeId} {size:Nat} {v:Value} {n:Nat} {xs:List Value} (h:w.ownsRow base e size v n xs) (hb:Mk p w w') (hp:∀ g,v.ownBlock=some g→¬p g):w'.ownsRow base e size v n xs:=by
 obtain ⟨h1,h2⟩:=h
 refine ⟨h1,?_⟩
 rcases h2 with h2|⟨g,cap,cur,hv,hg,hh,r⟩
 ·exact Or.inl h2
 ·exact Or.inr ⟨g,cap,cur,hv,hg,(hb.block g (Blk.lt hh) (hp g (by rw[hv];rfl))).trans hh,r⟩
theorem FactsO.mk {p:Nat→Prop} {w w':World} {base:Nat} {v:Value} {xs:List Fct} (h:FactsO w base v xs) (hb:Mk p w w') (hp:∀ g,v.ownBlock=some g→¬p g):FactsO w' base v xs:=⟨own_mk h.1 hb hp,h.2⟩
theorem AtomsO.mk {p:Nat→Prop} {w w':World} {base:Nat} {v:Value} {xs:List Atm} (h:AtomsO w base v xs) (hb:Mk p w w') (hp:∀ g,v.ownBlock=some g→¬p g):AtomsO w' base v xs:=⟨own_mk h.1 hb hp,h.2⟩
theorem Ste.eq_iff (f g:Ste):f=g↔f.values=g.values∧f.heap=g.heap:=by cases f;cases g;simp
end Go.Proofs.YtjbboklnegfohaaGreatDoor

/- Rows that a call changes in place; marks that are held; replaced terms (impl). -/
namespace Go.Proofs.YtjbboklnegfohaaGreatDoor
open Go Go.RowKit Go.Proofs
attribute [local go_sem ↓] Go.wp_at_zero Go.wp_at_succ
theorem FactsV.one {w:World} {g:Nat} {f:Fct} (h:Blk w g tF #[.bool f.eq,.int .i64 f.a,.int .i64 f.b]):FactsV w g (g+1) (some ⟨g,0,none⟩) [f]:=
 ⟨⟨by simp,fun _=>⟨g,0,rfl,Nat.le_refl _,Nat.lt_succ_self _,fun j u hu=>by rw[Nat.zero_add,h.cell];simpa using hu⟩⟩,by simp[Lim]⟩
theorem AtomsV.one {w:World} {g:Nat} {f:Atm} (h:Blk w g tA #[.int .i64 f.kind,.int .i64 f.a,.int .i64 f.b]):AtomsV w g (g+1) (some ⟨g,0,none⟩) [f]:=
 ⟨⟨by simp,fun _=>⟨g,0,rfl,Nat.le_refl _,Nat.lt_succ_self _,fun j u hu=>by rw[Nat.zero_add,h.cell];simpa using hu⟩⟩,by simp[Lim]⟩
theorem FactsV.cl {w:World} {lo hi b o k:Nat} {fs:List Fct} (h:FactsV w lo hi (some ⟨b,o,none⟩) fs) (hk:k<fs.length):w.cell? ⟨b,o+k*3,none⟩=some (.bool fs[k].eq)∧w.cell? ⟨b,o+k*3+1,none⟩=some (.int .i64 fs[k].a)∧w.cell? ⟨b,o+k*3+2,none⟩=some (.int .i64 fs[k].b):=by
 obtain ⟨b',o',e,hc⟩:=h.at hk
 simp only[Option.some.injEq,Addr.mk.injEq,and_true] at e
 obtain ⟨rfl,rfl⟩:=e
 exact hc
theorem AtomsV.cl {w:World} {lo hi b o k:Nat} {fs:List Atm} (h:AtomsV w lo hi (some ⟨b,o,none⟩) fs) (hk:k<fs.length):w.cell? ⟨b,o+k*3,none⟩=some (.int .i64 fs[k].kind)∧w.cell? ⟨b,o+k*3+1,none⟩=some (.int .i64 fs[k].a)∧w.cell? ⟨b,o+k*3+2,none⟩=some (.int .i64 fs[k].b):=by
 obtain ⟨b',o',e,hc⟩:=h.at hk
 simp only[Option.some.injEq,Addr.mk.injEq,and_true] at e
 obtain ⟨rfl,rfl⟩:=e
 exact hc
theorem FactsV.blt {w:World} {lo hi k:Nat} {A:Option Addr} {fs:List Fct} (h:FactsV w lo hi A fs) (hk:k<fs.length):∃ b o,A=some ⟨b,o,none⟩∧b<w.heap.size:=by
 obtain ⟨b,o,e,hc,-⟩:=h.at hk
 exact ⟨b,o,e,block_lt_of_cell hc⟩
theorem AtomsV.blt {w:World} {lo hi k:Nat} {A:Option Addr} {fs:List Atm} (h:AtomsV w lo hi A fs) (hk:k<fs.length):∃ b o,A=some ⟨b,o,none⟩∧b<w.heap.size:=by
 obtain ⟨b,o,e,hc,-⟩:=h.at hk
 exact ⟨b,o,e,block_lt_of_cell hc⟩
theorem IntsV.blt {w:World} {lo hi k:Nat} {A:Option Addr} {fs:List Int} (h:IntsV w lo hi A fs) (hk:k<fs.length):∃ b o,A=some ⟨b,o,none⟩∧b<w.heap.size:=by
 obtain ⟨b,o,e,hc⟩:=h.at hk
 exact ⟨b,o,e,block_lt_of_cell hc⟩
theorem own_ofBlk {w:World} {g base size:Nat} {t:TypeId} (h:Blk w g t #[]) (hb:base≤g):w.ownsRow base t size (.slice (some ⟨g,0,none⟩) 0 0) 0 []:=⟨by simp,.inr ⟨g,0,#[],rfl,hb,h,Nat.le_refl _,by decide,by simp,by simp⟩⟩
theorem FactsO.ofBlk {w:World} {g base:Nat} (h:Blk w g tF #[]) (hb:base≤g):FactsO w base (.slice (some ⟨g,0,none⟩) 0 0) []:=⟨own_ofBlk h hb,by simp[Lim]⟩
theorem AtomsO.ofBlk {w:World} {g base:Nat} (h:Blk w g tA #[]) (hb:base≤g):AtomsO w base (.slice (some ⟨g,0,none⟩) 0 0) []:=⟨own_ofBlk h hb,by simp[Lim]⟩
theorem Blk.grownO {w w':World} {g base size n:Nat} {t e:TypeId} {cs:Array Value} {v:Value} {xs:List Value} (h:Blk w g t cs) (ho:w.ownsRow base e size v n xs) (hg:w.grownBy w' v.ownBlock) (ht:t≠e):Blk w' g t cs:=by
 refine h.grown hg ?_
 intro he
 rcases ho.2 with ⟨rfl,_⟩|⟨k,cap,cur,rfl,_,hh,_⟩
 ·simp[Value.ownBlock] at he
 ·simp only[Value.ownBlock,Option.some.injEq] at he
  exact Blk.ne_ h hh ht he
theorem own_grownO {w w':World} {base base' size size' n n':Nat} {e e':TypeId} {v v':Value} {xs xs':List Value} (h:w.ownsRow base' e' size' v' n' xs') (ho:w.ownsRow base e size v n xs) (hg:w.grownBy w' v.ownBlock) (ht:e'≠e):w'.ownsRow base' e' size' v' n' xs':=by
 obtain ⟨h1,h2⟩:=h
 refine ⟨h1,?_⟩
 rcases h2 with h2|⟨k,cap,cur,hv,hk,hh,r⟩
 ·exact Or.inl h2
 ·exact Or.inr ⟨k,cap,cur,hv,hk,Blk.grownO hh ho hg ht,r⟩
theorem FactsO.grownA {w w':World} {b b':Nat} {v v':Value} {xs:List Fct} {ys:List Atm} (h:FactsO w b v xs) (ho:AtomsO w b' v' ys) (hg:w.grownBy w' v'.ownBlock):FactsO w' b v xs:=⟨own_grownO h.1 ho.1 hg (by decide),h.2⟩
theorem AtomsO.grownF {w w':World} {b b':Nat} {v v':Value} {xs:List Atm} {ys:List Fct} (h:AtomsO w b v xs) (ho:FactsO w b' v' ys) (hg:w.grownBy w' v'.ownBlock):AtomsO w' b v xs:=⟨own_grownO h.1 ho.1 hg (by decide),h.2⟩
theorem Rd.keepB {w w':World} {lo hi size n B:Nat} {A:Option Addr} {xs:List Value} (h:Rd w lo hi size A n xs) (hb:Below B w w') (hh:hi≤B):Rd w' lo hi size A n xs:=h.keep fun b _ h2=>hb.block b (by omega)
theorem FactsV.keepB {w w':World} {lo hi B:Nat} {A:Option Addr} {xs:List Fct} (h:FactsV w lo hi A xs) (hb:Below B w w') (hh:hi≤B):FactsV w' lo hi A xs:=Rd.keepB h hb hh
theorem AtomsV.keepB {w w':World} {lo hi B:Nat} {A:Option Addr} {xs:List Atm} (h:AtomsV w lo hi A xs) (hb:Below B w w') (hh:hi≤B):AtomsV w' lo hi A xs:=Rd.keepB h hb hh
theorem IntsV.keepB {w w':World} {lo hi B:Nat} {A:Option Addr} {xs:List Int} (h:IntsV w lo hi A xs) (hb:Below B w w') (hh:hi≤B):IntsV w' lo hi A xs:=Rd.keepB h hb hh
end Go.Proofs.YtjbboklnegfohaaGreatDoor

/- The spec's joined assertions. -/
namespace Go.Proofs.YtjbboklnegfohaaGreatDoor
open Go Go.RowKit Go.Proofs
attribute [local go_sem ↓] Go.wp_at_zero Go.wp_at_succ
set_option maxRecDepth 100000 in
set_option maxHeartbeats 1600000 in
theorem c_spec_l3Star {lo hi lo' hi':Nat} (v v':Value) (a b:Asn) (w:World) (h:AsnV w lo hi v a) (h':AsnV w lo' hi' v' b) (hn1:a.facts.length+b.facts.length≤1049600) (hn2:a.atoms.length+b.atoms.length≤1049600) :
  Calls Tryz.prog 98 #[v,v'] w fun e w'=>∃ r,e=.returned r∧AsnO w' w.heap.size r (starA a b)∧Below w.heap.size w w':=by
 obtain ⟨A1,c1,A2,c2,rfl,h1,h2⟩:=h
 obtain ⟨A3,c3,A4,c4,rfl,h3,h4⟩:=h'
 go_enter Tryz.func98,Tryz.ntmps98
 have kk:=blk3 w 49 49 49 #[.slice A1 a.facts.length c1,.slice A2 a.atoms.length c2] #[.slice A3 b.facts.length c3,.slice A4 b.atoms.length c4] #[.slice none 0 0,.slice none 0 0]
 have hB:Below w.heap.size w (((w.alloc (.cells #[.slice A1 a.facts.length c1,.slice A2 a.atoms.length c2] 49)).alloc (.cells #[.slice A3 b.facts.length c3,.slice A4 b.atoms.length c4] 49)).alloc (.cells #[.slice none 0 0,.slice none 0 0] 49)):=bel
 obtain ⟨k0,k1,k2⟩:=kk
 go_wp2_with fail
 have hz:=k2.lt
 generalize (((w.alloc (.cells #[.slice A1 a.facts.length c1,.slice A2 a.atoms.length c2] 49)).alloc (.cells #[.slice A3 b.facts.length c3,.slice A4 b.atoms.length c4] 49)).alloc (.cells #[.slice none 0 0,.slice none 0 0] 49))=W at k0 k1 k2 hB hz ⊢
 have tok3:True:=trivial
 have tok6:True:=trivial
 have tok10:True:=trivial
 have tok13:True:=trivial
 go_region_held3 (fun w'=>(∀ i,w'.cell? ⟨w.heap.size,i,none⟩=#[.slice A1 a.facts.length c1,.slice A2 a.atoms.length c2][i]?)∧(∀ i,w'.cell? ⟨w.heap.size+1,i,none⟩=#[.slice A3 b.facts.length c3,.slice A4 b.atoms.length c4][i]?))
  (exact ⟨Blk.cell blks,Blk.cell blks⟩)
  (first
   | (have _t:=tok3;clear _t tok3;refine stepFL (xs:=[]) rfl _ _ rfl rfl (FactsO.ofBlk (base:=w.heap.size) blks (by first|omega|(simp;omega))) rfl (h1.below bel) (by first|omega|(simp;omega)) (by first|omega|(simp;omega)) ?_;intro F1 e1 w1 hO1 hg1 hB1;have hBw1:Below w.heap.size w w1:=Below.trans bel hB1;simp only[List.nil_append] at hO1;have m10:=Blk.grownO (g:=w.heap.size) (hg:=hg1) blks (FactsO.ofBlk (base:=w.heap.size) blks (by first|omega|(simp;omega))).1 (by decide);have m11:=Blk.grownO (g:=w.heap.size+1) (hg:=hg1) blks (FactsO.ofBlk (base:=w.heap.size) blks (by first|omega|(simp;omega))).1 (by decide);have m12:=Blk.grownO (g:=w.heap.size+1+1) (hg:=hg1) blks (FactsO.ofBlk (base:=w.heap.size) blks (by first|omega|(simp;omega))).1 (by decide);have lt1:=m12.lt;(try (have za:Blk w1 (W.heap.size+1) tA #[]:=?zz;case zz=>(refine Blk.grownO (hg:=hg1) ?_ (FactsO.ofBlk (base:=w.heap.size) blks (by first|omega|(simp;omega))).1 (by decide);(repeat (first|(with_reducible assumption)|(with_reducible exact Blk.new _ _ _)|((with_reducible apply Blk.far);(case hp=>(first|exact Nat.le_refl _|(simp;done)|(simp;omega)|(simp only;omega)|omega)))|(with_reducible apply Blk.set_)|((with_reducible refine Blk.newE ?_);(simp;done))|(with_reducible apply Blk.alloc)|(with_reducible apply Blk.drew)|(with_reducible apply Blk.drewN)));done)));(try (have za:Blk w1 W.heap.size tA #[]:=?zz;case zz=>(refine Blk.grownO (hg:=hg1) ?_ (FactsO.ofBlk (base:=w.heap.size) blks (by first|omega|(simp;omega))).1 (by decide);(repeat (first|(with_reducible assumption)|(with_reducible exact Blk.new _ _ _)|((with_reducible apply Blk.far);(case hp=>(first|exact Nat.le_refl _|(simp;done)|(simp;omega)|(simp only;omega)|omega)))|(with_reducible apply Blk.set_)|((with_reducible refine Blk.newE ?_);(simp;done))|(with_reducible apply Blk.alloc)|(with_reducible apply Blk.drew)|(with_reducible apply Blk.drewN)));done))))
   | (have _t:=tok6;clear _t tok6;refine stepFL (xs:=a.facts) rfl _ _ rfl rfl (FactsO.below (w:=w1) hO1 bel) rfl (h3.below bel) (by first|omega|(simp;omega)) (by first|omega|(simp;omega)) ?_;intro F2 e2 w2 hO2 hg2 hB2;have hBw2:Below w.heap.size w w2:=Below.trans bel hB2;have m20:=Blk.grownO (g:=w.heap.size) (hg:=hg2) blks (FactsO.below (w:=w1) hO1 bel).1 (by decide);have m21:=Blk.grownO (g:=w.heap.size+1) (hg:=hg2) blks (FactsO.below (w:=w1) hO1 bel).1 (by decide);have m22:=Blk.grownO (g:=w.heap.size+1+1) (hg:=hg2) blks (FactsO.below (w:=w1) hO1 bel).1 (by decide);have lt2:=m22.lt;(try (have zb:Blk w2 w1.heap.size tA #[]:=?zz;case zz=>(refine Blk.grownO (hg:=hg2) ?_ (FactsO.below (w:=w1) hO1 bel).1 (by decide);(repeat (first|(with_reducible assumption)|(with_reducible exact Blk.new _ _ _)|((with_reducible apply Blk.far);(case hp=>(first|exact Nat.le_refl _|(simp;done)|(simp;omega)|(simp only;omega)|omega)))|(with_reducible apply Blk.set_)|((with_reducible refine Blk.newE ?_);(simp;done))|(with_reducible apply Blk.alloc)|(with_reducible apply Blk.drew)|(with_reducible apply Blk.drewN)));done)));(try (have zb:=Blk.grownO (hg:=hg2) (Blk.next za bel) (FactsO.below (w:=w1) hO1 bel).1 (by decide))))
   | (have _t:=tok10;clear _t tok10;refine stepAL (xs:=[]) rfl _ _ rfl rfl (AtomsO.ofBlk (base:=w.heap.size) blks (by first|omega|(simp;omega))) rfl (h2.below bel) (by first|omega|(simp;omega)) (by first|omega|(simp;omega)) ?_;intro F3 e3 w3 hO3 hg3 hB3;have hBw3:Below w.heap.size w w3:=Below.trans bel hB3;simp only[List.nil_append] at hO3;have m30:=Blk.grownO (g:=w.heap.size) (hg:=hg3) blks (AtomsO.ofBlk (base:=w.heap.size) blks (by first|omega|(simp;omega))).1 (by decide);have m31:=Blk.grownO (g:=w.heap.size+1) (hg:=hg3) blks (AtomsO.ofBlk (base:=w.heap.size) blks (by first|omega|(simp;omega))).1 (by decide);have m32:=Blk.grownO (g:=w.heap.size+1+1) (hg:=hg3) blks (AtomsO.ofBlk (base:=w.heap.size) blks (by first|omega|(simp;omega))).1 (by decide);have lt3:=m32.lt;have hP3:=FactsO.grownA (FactsO.below (w:=w2) hO2 bel) (AtomsO.ofBlk (base:=w.heap.size) blks (by first|omega|(simp;omega))) hg3)
   | (have _t:=tok13;clear _t tok13;refine stepAL (xs:=a.atoms) rfl _ _ rfl rfl (AtomsO.below (w:=w3) hO3 bel) rfl (h4.below bel) (by first|omega|(simp;omega)) (by first|omega|(simp;omega)) ?_;intro F4 e4 w4 hO4 hg4 hB4;have hBw4:Below w.heap.size w w4:=Below.trans bel hB4;have m40:=Blk.grownO (g:=w.heap.size) (hg:=hg4) blks (AtomsO.below (w:=w3) hO3 bel).1 (by decide);have m41:=Blk.grownO (g:=w.heap.size+1) (hg:=hg4) blks (AtomsO.below (w:=w3) hO3 bel).1 (by decide);have m42:=Blk.grownO (g:=w.heap.size+1+1) (hg:=hg4) blks (AtomsO.below (w:=w3) hO3 bel).1 (by decide);have lt4:=m42.lt;have hP4:=FactsO.grownA (FactsO.below (w:=w3) hP3 bel) (AtomsO.below (w:=w3) hO3 bel) hg4;have c42:=m42.cell;have f42:=m42.frozen))
 all_goals
  go_wp2_with fail
  refine bodyPost_ret (v:=.agg #[.slice F2 (a.facts++b.facts).length e2,.slice F4 (a.atoms++b.atoms).length e4]) (by simp[results,Tryz.results98,go_sem,c42]) rfl ⟨_,rfl,⟨_,_,rfl,?_,?_⟩,bel⟩
  ·exact (hP4.setT m42 (by decide) _ _).setT (m42.set_ _ _) (by decide) _ _
  ·exact (hO4.setT m42 (by decide) _ _).setT (m42.set_ _ _) (by decide) _ _
end Go.Proofs.YtjbboklnegfohaaGreatDoor

/- Words for the exact laws: data that lie in blocks of an interval of their own. -/
namespace Go.Proofs.YtjbboklnegfohaaGreatDoor
open Go Go.RowKit Go.Proofs
def FactsI (w:World) (lo hi:Nat) (v:Value) (fs:List Fct):Prop:=FactsO w lo v fs∧Und v hi
def AtomsI (w:World) (lo hi:Nat) (v:Value) (fs:List Atm):Prop:=AtomsO w lo v fs∧Und v hi
def AsnI (w:World) (lo hi:Nat) (v:Value) (a:Asn):Prop:=∃ fv av,v=.agg #[fv,av]∧FactsI w lo hi fv a.facts∧AtomsI w lo hi av a.atoms
section
variable {w w':World} {lo hi lo' hi' a b:Nat} {v:Value}
theorem und_range {w:World} {base:Nat} {e:TypeId} {size:Nat} {v:Value} {n:Nat} {xs:List Value} {hi:Nat} (h:w.ownsRow base e size v n xs) (hu:Und v hi):∀ g,v.ownBlock=some g→base≤g∧g<hi:=fun g hg=>⟨(h.lt g hg).1,hu g hg⟩
theorem FactsI.below {fs:List Fct} (h:FactsI w lo hi v fs) (hb:Below w.heap.size w w'):FactsI w' lo hi v fs:=⟨h.1.below hb,h.2⟩
theorem AtomsI.below {fs:List Atm} (h:AtomsI w lo hi v fs) (hb:Below w.heap.size w w'):AtomsI w' lo hi v fs:=⟨h.1.below hb,h.2⟩
theorem AsnI.below {x:Asn} (h:AsnI w lo hi v x) (hb:Below w.heap.size w w'):AsnI w' lo hi v x:=by
 obtain ⟨fv,av,e,h1,h2⟩:=h;exact ⟨fv,av,e,h1.below hb,h2.below hb⟩
theorem FactsI.mk {fs:List Fct} (h:FactsI w lo hi v fs) (hb:Mk (fun g=>a≤g∧g<b) w w') (hd:hi≤a∨b≤lo):FactsI w' lo hi v fs:=
 ⟨h.1.mk hb fun g hg hp=>by have:=und_range h.1.1 h.2 g hg;omega,h.2⟩
theorem AtomsI.mk {fs:List Atm} (h:AtomsI w lo hi v fs) (hb:Mk (fun g=>a≤g∧g<b) w w') (hd:hi≤a∨b≤lo):AtomsI w' lo hi v fs:=
 ⟨h.1.mk hb fun g hg hp=>by have:=und_range h.1.1 h.2 g hg;omega,h.2⟩
theorem AsnI.mk {x:Asn} (h:AsnI w lo hi v x) (hb:Mk (fun g=>a≤g∧g<b) w w') (hd:hi≤a∨b≤lo):AsnI w' lo hi v x:=by
 obtain ⟨fv,av,e,h1,h2⟩:=h;exact ⟨fv,av,e,h1.mk hb hd,h2.mk hb hd⟩
theorem FactsI.form {fs:List Fct} (h:FactsI w lo hi v fs):∃ A c,v=.slice A fs.length c:=by obtain ⟨A,c,e,-⟩:=h.1.reads;exact ⟨A,c,e⟩
theorem AtomsI.form {fs:List Atm} (h:AtomsI w lo hi v fs):∃ A c,v=.slice A fs.length c:=by obtain ⟨A,c,e,-⟩:=h.1.reads;exact ⟨A,c,e⟩
theorem AsnI.form {x:Asn} (h:AsnI w lo hi v x):∃ A c B d,v=.agg #[.slice A x.facts.length c,.slice B x.atoms.length d]:=by
 obtain ⟨fv,av,rfl,h1,h2⟩:=h
 obtain ⟨A,c,rfl⟩:=h1.form
 obtain ⟨B,d,rfl⟩:=h2.form
 exact ⟨A,c,B,d,rfl⟩
theorem AsnI.reads {x:Asn} (h:AsnI w lo hi v x):AsnV w lo w.heap.size v x:=by
 obtain ⟨fv,av,e,h1,h2⟩:=h;exact AsnO.reads ⟨fv,av,e,h1.1,h2.1⟩
theorem FactsO.I {fs:List Fct} (h:FactsO w lo v fs):FactsI w lo w.heap.size v fs:=⟨h,h.und⟩
theorem AtomsO.I {fs:List Atm} (h:AtomsO w lo v fs):AtomsI w lo w.heap.size v fs:=⟨h,h.und⟩
theorem AsnO.I {x:Asn} (h:AsnO w lo v x):AsnI w lo w.heap.size v x:=by
 obtain ⟨fv,av,e,h1,h2⟩:=h;exact ⟨fv,av,e,h1.I,h2.I⟩
theorem AsnI.len {x:Asn} (h:AsnI w lo hi v x):x.facts.length≤1049600∧x.atoms.length≤1049600:=by
 obtain ⟨fv,av,e,h1,h2⟩:=h;exact ⟨h1.1.2,h2.1.2⟩
theorem Mk.keepB {B:Nat} {w0:World} (h:Below B w0 w) (hm:Mk (fun g=>a≤g∧g<b) w w') (hB:B≤a) (hs:B≤w.heap.size):Below B w0 w':=
 h.trans (hm.below (fun k hk=>by omega) hs)
end
end Go.Proofs.YtjbboklnegfohaaGreatDoor

/- Programs: the laws' own helpers: the size. -/
namespace Go.Proofs.YtjbboklnegfohaaGreatDoor
open Go Go.RowKit Go.Proofs
def Cms.sz:Cms→Nat
 | .nil=>0
 | .cons _ _ _ _ _ body els r=>body.sz+els.sz+r.sz+1
theorem Cms.sz_drop:∀ (n:Nat) (L:Cms),(L.drop n).sz≤L.sz
 | 0,L=>Nat.le_refl _
 | n+1,.nil=>Nat.le_refl _
 | n+1,.cons _ _ _ _ _ _ _ r=>by simp only[Cms.drop,Cms.sz];have:=Cms.sz_drop n r;omega
end Go.Proofs.YtjbboklnegfohaaGreatDoor

/- Programs of our own: rows of commands in blocks of an interval, no two parts of which share a block. -/
namespace Go.Proofs.YtjbboklnegfohaaGreatDoor
open Go Go.RowKit Go.Proofs
abbrev tC:Nat:=51
theorem infoC:(Tryz.prog.info? tC).map (fun i=>(i.zero,i.size,i.bytes))=some (some (.agg #[.int .i64 0,.int .i64 0,.int .i64 0,.bool false,.int .i64 0,.int .i64 0,.slice none 0 0,.slice none 0 0,.slice none 0 0,.slice none 0 0]),10,144):=by kernel_rfl
section
variable {w w':World} {lo hi lo' hi':Nat}
variable {v:Value} {L:Cms}
end
end Go.Proofs.YtjbboklnegfohaaGreatDoor

/- Programs: the laws' copies. -/
namespace Go.Proofs.YtjbboklnegfohaaGreatDoor
open Go Go.RowKit Go.Proofs
theorem AsnI.lo_ {w:World} {lo lo' hi:Nat} {v:Value} {x:Asn} (h:AsnI w lo hi v x) (hl:lo'≤lo):AsnI w lo' hi v x:=by
 obtain ⟨fv,av,e,h1,h2⟩:=h;exact ⟨fv,av,e,⟨h1.1.lower hl,h1.2⟩,⟨h2.1.lower hl,h2.2⟩⟩
end Go.Proofs.YtjbboklnegfohaaGreatDoor

/- Programs: the laws' copies of whole lists. -/
namespace Go.Proofs.YtjbboklnegfohaaGreatDoor
open Go Go.RowKit Go.Proofs
def Cms.take:Nat→Cms→Cms
 | 0,_=>.nil
 | _+1,.nil=>.nil
 | n+1,.cons k a b t i body els r=>.cons k a b t i body els (r.take n)
theorem Cms.take_all:∀ (L:Cms),L.take L.len=L
 | .nil=>rfl
 | .cons k a b t i body els r=>by simp only[Cms.len,Cms.take];rw[Cms.take_all r]
theorem Cms.take_len:∀ (n:Nat) (L:Cms),n≤L.len→(L.take n).len=n
 | 0,L,_=>by cases L<;>rfl
 | n+1,.nil,h=>by simp[Cms.len] at h
 | n+1,.cons k a b t i body els r,h=>by simp only[Cms.len,Cms.take] at h ⊢;rw[Cms.take_len n r (by omega)]
section
variable {w w':World}
end
end Go.Proofs.YtjbboklnegfohaaGreatDoor

/- Programs in blocks of any kind: rows of our own whose parts lie in other blocks. -/
namespace Go.Proofs.YtjbboklnegfohaaGreatDoor
open Go Go.RowKit Go.Proofs
def RwX (w:World) (X:Nat→Prop) (size:Nat) (A:Option Addr) (n:Nat) (xs:List Value):Prop:=
 xs.length=n * size∧(0<n * size→∃ b o,A=some ⟨b,o,none⟩∧X b∧∀ j u,xs[j]? = some u→w.cell? ⟨b,o+j,none⟩=some u)
def CmsX (w:World) (X:Nat→Prop):Cms→Nat→Nat→Prop
 | .nil,_,_=>True
 | .cons k a b t i body els r,bl,o=>
  (w.cell? ⟨bl,o,none⟩=some (.int .i64 k)∧w.cell? ⟨bl,o+1,none⟩=some (.int .i64 a)∧w.cell? ⟨bl,o+2,none⟩=some (.int .i64 b)∧
   w.cell? ⟨bl,o+3,none⟩=some (.bool t.eq)∧w.cell? ⟨bl,o+4,none⟩=some (.int .i64 t.a)∧w.cell? ⟨bl,o+5,none⟩=some (.int .i64 t.b))∧
  (∃ A c,w.cell? ⟨bl,o+6,none⟩=some (.slice A i.facts.length c)∧RwX w X 3 A i.facts.length (encF i.facts))∧
  (∃ A c,w.cell? ⟨bl,o+7,none⟩=some (.slice A i.atoms.length c)∧RwX w X 3 A i.atoms.length (encA i.atoms))∧
  (∃ A c,w.cell? ⟨bl,o+8,none⟩=some (.slice A body.len c)∧(0<body.len→∃ b' o',A=some ⟨b',o',none⟩∧X b'∧CmsX w X body b' o'))∧
  (∃ A c,w.cell? ⟨bl,o+9,none⟩=some (.slice A els.len c)∧(0<els.len→∃ b' o',A=some ⟨b',o',none⟩∧X b'∧CmsX w X els b' o'))∧
  CmsX w X r bl (o+10)
def PartX (w:World) (X:Nat→Prop) (A:Option Addr) (L:Cms):Prop:=0<L.len→∃ b o,A=some ⟨b,o,none⟩∧X b∧CmsX w X L b o
section
variable {w w':World} {X Y:Nat→Prop} {lo hi base:Nat}
theorem RwX.keep {size n:Nat} {A:Option Addr} {xs:List Value} (h:RwX w X size A n xs) (hk:∀ b,X b→b<w.heap.size→w'.heap[b]? = w.heap[b]?):RwX w' X size A n xs:=
 ⟨h.1,fun hn=>by
  obtain ⟨b,o,e,h1,hc⟩:=h.2 hn
  have h0:=h.1
  have hx:xs[0]? = some (xs[0]'(by omega)):=List.getElem?_eq_getElem (by omega)
  have hlt:b<w.heap.size:=block_lt_of_cell (hc 0 _ hx)
  exact ⟨b,o,e,h1,fun j u hu=>(World.cell?_of_block (a:=⟨b,o+j,none⟩) (hk b h1 hlt)).trans (hc j u hu)⟩⟩
theorem RwX.mono {size n:Nat} {A:Option Addr} {xs:List Value} (h:RwX w X size A n xs) (hXY:∀ b,X b→b<w.heap.size→Y b):RwX w Y size A n xs:=
 ⟨h.1,fun hn=>by
  obtain ⟨b,o,e,h1,hc⟩:=h.2 hn
  have h0:=h.1
  have hx:xs[0]? = some (xs[0]'(by omega)):=List.getElem?_eq_getElem (by omega)
  have hlt:b<w.heap.size:=block_lt_of_cell (hc 0 _ hx)
  exact ⟨b,o,e,hXY b h1 hlt,hc⟩⟩
theorem RwX.rw_ {size n:Nat} {A:Option Addr} {xs:List Value} (h:RwX w X size A n xs) (hX:∀ b,X b→lo≤b):Rw w lo w.heap.size size A n xs:=
 ⟨h.1,fun hn=>by
  obtain ⟨b,o,e,h1,hc⟩:=h.2 hn
  have h0:=h.1
  have hx:xs[0]? = some (xs[0]'(by omega)):=List.getElem?_eq_getElem (by omega)
  exact ⟨b,o,e,hX b h1,block_lt_of_cell (hc 0 _ hx),hc⟩⟩
theorem Rw.x {size n:Nat} {A:Option Addr} {xs:List Value} (h:Rw w lo hi size A n xs) (hX:∀ b,lo≤b→b<hi→X b):RwX w X size A n xs:=
 ⟨h.1,fun hn=>by
  obtain ⟨b,o,e,h1,h2,hc⟩:=h.2 hn
  exact ⟨b,o,e,hX b h1 h2,hc⟩⟩
theorem CmsX.lt {k a b:Int} {t:Fct} {i:Asn} {body els r:Cms} {bl o:Nat} (h:CmsX w X (.cons k a b t i body els r) bl o):bl<w.heap.size:=block_lt_of_cell h.1.1
theorem CmsX.lt_:∀ {L:Cms} {bl o:Nat},0<L.len→CmsX w X L bl o→bl<w.heap.size
 | .nil,_,_,h,_=>by simp[Cms.len] at h
 | .cons ..,_,_,_,h=>h.lt
theorem CmsX.keep (hk:∀ b,X b→b<w.heap.size→w'.heap[b]? = w.heap[b]?):∀ {L:Cms} {bl o:Nat},w'.heap[bl]? = w.heap[bl]?→CmsX w X L bl o→CmsX w' X L bl o
 | .nil,_,_,_,_=>trivial
 | .cons k a b t i body els r,bl,o,e1,h=>by
  obtain ⟨⟨h0,h1,h2,h3,h4,h5⟩,⟨A6,c6,h6,g6⟩,⟨A7,c7,h7,g7⟩,⟨A8,c8,h8,g8⟩,⟨A9,c9,h9,g9⟩,hr⟩:=h
  have hc:∀ j,w'.cell? ⟨bl,j,none⟩=w.cell? ⟨bl,j,none⟩:=fun j=>World.cell?_of_block (a:=⟨bl,j,none⟩) e1
  refine ⟨⟨(hc _).trans h0,(hc _).trans h1,(hc _).trans h2,(hc _).trans h3,(hc _).trans h4,(hc _).trans h5⟩,⟨A6,c6,(hc _).trans h6,g6.keep hk⟩,⟨A7,c7,(hc _).trans h7,g7.keep hk⟩,⟨A8,c8,(hc _).trans h8,fun hl=>?_⟩,⟨A9,c9,(hc _).trans h9,fun hl=>?_⟩,CmsX.keep hk e1 hr⟩
  ·obtain ⟨b',o',e,p1,p3⟩:=g8 hl;exact ⟨b',o',e,p1,CmsX.keep hk (hk b' p1 (CmsX.lt_ hl p3)) p3⟩
  ·obtain ⟨b',o',e,p1,p3⟩:=g9 hl;exact ⟨b',o',e,p1,CmsX.keep hk (hk b' p1 (CmsX.lt_ hl p3)) p3⟩
theorem CmsX.mono (hXY:∀ b,X b→b<w.heap.size→Y b):∀ {L:Cms} {bl o:Nat},CmsX w X L bl o→CmsX w Y L bl o
 | .nil,_,_,_=>trivial
 | .cons k a b t i body els r,bl,o,h=>by
  obtain ⟨h0,⟨A6,c6,h6,g6⟩,⟨A7,c7,h7,g7⟩,⟨A8,c8,h8,g8⟩,⟨A9,c9,h9,g9⟩,hr⟩:=h
  refine ⟨h0,⟨A6,c6,h6,g6.mono hXY⟩,⟨A7,c7,h7,g7.mono hXY⟩,⟨A8,c8,h8,fun hl=>?_⟩,⟨A9,c9,h9,fun hl=>?_⟩,CmsX.mono hXY hr⟩
  ·obtain ⟨b',o',e,p1,p3⟩:=g8 hl;exact ⟨b',o',e,hXY b' p1 (CmsX.lt_ hl p3),CmsX.mono hXY p3⟩
  ·obtain ⟨b',o',e,p1,p3⟩:=g9 hl;exact ⟨b',o',e,hXY b' p1 (CmsX.lt_ hl p3),CmsX.mono hXY p3⟩
theorem CmsX.at_ (hX:∀ b,X b→lo≤b):∀ {L:Cms} {bl o:Nat},CmsX w X L bl o→CmsAt w lo w.heap.size L bl o
 | .nil,_,_,_=>trivial
 | .cons k a b t i body els r,bl,o,h=>by
  obtain ⟨h0,⟨A6,c6,h6,g6⟩,⟨A7,c7,h7,g7⟩,⟨A8,c8,h8,g8⟩,⟨A9,c9,h9,g9⟩,hr⟩:=h
  refine ⟨h0,⟨A6,c6,h6,g6.rw_ hX⟩,⟨A7,c7,h7,g7.rw_ hX⟩,⟨A8,c8,h8,fun hl=>?_⟩,⟨A9,c9,h9,fun hl=>?_⟩,CmsX.at_ hX hr⟩
  ·obtain ⟨b',o',e,p1,p3⟩:=g8 hl;exact ⟨b',o',e,hX b' p1,CmsX.lt_ hl p3,CmsX.at_ hX p3⟩
  ·obtain ⟨b',o',e,p1,p3⟩:=g9 hl;exact ⟨b',o',e,hX b' p1,CmsX.lt_ hl p3,CmsX.at_ hX p3⟩
theorem PartX.keep {A:Option Addr} {L:Cms} (h:PartX w X A L) (hk:∀ b,X b→b<w.heap.size→w'.heap[b]? = w.heap[b]?):PartX w' X A L:=fun hl=>by
 obtain ⟨b,o,e,p1,p2⟩:=h hl;exact ⟨b,o,e,p1,p2.keep hk (hk b p1 (CmsX.lt_ hl p2))⟩
theorem PartX.mono {A:Option Addr} {L:Cms} (h:PartX w X A L) (hXY:∀ b,X b→b<w.heap.size→Y b):PartX w Y A L:=fun hl=>by
 obtain ⟨b,o,e,p1,p2⟩:=h hl;exact ⟨b,o,e,hXY b p1 (CmsX.lt_ hl p2),p2.mono hXY⟩
theorem PartX.v {A:Option Addr} {L:Cms} (h:PartX w X A L) (hX:∀ b,X b→lo≤b):CmsV w lo w.heap.size A L:=fun hl=>by
 obtain ⟨b,o,e,p1,p2⟩:=h hl;exact ⟨b,o,e,hX b p1,CmsX.lt_ hl p2,p2.at_ hX⟩
theorem PartX.nil (A:Option Addr):PartX w X A .nil:=fun h=>by simp[Cms.len] at h
end
def Cms.app:Cms→Cms→Cms
 | .nil,M=>M
 | .cons k a b t i body els r,M=>.cons k a b t i body els (r.app M)
theorem Cms.len_app:∀ (L M:Cms),(L.app M).len=L.len+M.len
 | .nil,M=>by simp[Cms.app,Cms.len]
 | .cons k a b t i body els r,M=>by simp only[Cms.app,Cms.len,Cms.len_app r M];omega
theorem Cms.cost_app:∀ (L M:Cms),(L.app M).cost=L.cost+M.cost
 | .nil,M=>by simp[Cms.app,Cms.cost]
 | .cons k a b t i body els r,M=>by simp only[Cms.app,Cms.cost,Cms.cost_app r M];omega
def tenL (k a b:Int) (t:Fct) (vF vA vB vE:Value):List Value:=[.int .i64 k,.int .i64 a,.int .i64 b,.bool t.eq,.int .i64 t.a,.int .i64 t.b,vF,vA,vB,vE]
def CmsT (w:World) (X:Nat→Prop):Cms→List Value→Prop
 | .nil,cs=>cs=[]
 | .cons k a b t i body els r,cs=>∃ AF cF AA cA AB cB AE cE rest,cs=tenL k a b t (.slice AF i.facts.length cF) (.slice AA i.atoms.length cA) (.slice AB body.len cB) (.slice AE els.len cE)++rest∧
   RwX w X 3 AF i.facts.length (encF i.facts)∧RwX w X 3 AA i.atoms.length (encA i.atoms)∧PartX w X AB body∧PartX w X AE els∧CmsT w X r rest
section
variable {w w':World} {X Y:Nat→Prop} {lo hi base:Nat}
theorem CmsT.len:∀ {L:Cms} {cs:List Value},CmsT w X L cs→cs.length=L.len * 10
 | .nil,cs,h=>by simp[CmsT] at h;simp[h,Cms.len]
 | .cons k a b t i body els r,cs,h=>by
  obtain ⟨AF,cF,AA,cA,AB,cB,AE,cE,rest,rfl,-,-,-,-,hr⟩:=h
  simp only[List.length_append,tenL,List.length_cons,List.length_nil,CmsT.len hr,Cms.len];omega
theorem CmsT.keep (hk:∀ b,X b→b<w.heap.size→w'.heap[b]? = w.heap[b]?):∀ {L:Cms} {cs:List Value},CmsT w X L cs→CmsT w' X L cs
 | .nil,cs,h=>h
 | .cons k a b t i body els r,cs,h=>by
  obtain ⟨AF,cF,AA,cA,AB,cB,AE,cE,rest,e,h1,h2,h3,h4,hr⟩:=h
  exact ⟨AF,cF,AA,cA,AB,cB,AE,cE,rest,e,h1.keep hk,h2.keep hk,h3.keep hk,h4.keep hk,CmsT.keep hk hr⟩
theorem CmsT.mono (hXY:∀ b,X b→b<w.heap.size→Y b):∀ {L:Cms} {cs:List Value},CmsT w X L cs→CmsT w Y L cs
 | .nil,cs,h=>h
 | .cons k a b t i body els r,cs,h=>by
  obtain ⟨AF,cF,AA,cA,AB,cB,AE,cE,rest,e,h1,h2,h3,h4,hr⟩:=h
  exact ⟨AF,cF,AA,cA,AB,cB,AE,cE,rest,e,h1.mono hXY,h2.mono hXY,h3.mono hXY,h4.mono hXY,CmsT.mono hXY hr⟩
theorem CmsT.x {g:Nat}:∀ {L:Cms} {cs:List Value} {o:Nat},CmsT w X L cs→(∀ j u,cs[j]? = some u→w.cell? ⟨g,o+j,none⟩=some u)→CmsX w X L g o
 | .nil,cs,_,_,_=>trivial
 | .cons k a b t i body els r,cs,o,h,hc=>by
  obtain ⟨AF,cF,AA,cA,AB,cB,AE,cE,rest,rfl,h1,h2,h3,h4,hr⟩:=h
  refine ⟨⟨hc 0 _ rfl,hc 1 _ rfl,hc 2 _ rfl,hc 3 _ rfl,hc 4 _ rfl,hc 5 _ rfl⟩,⟨AF,cF,hc 6 _ rfl,h1⟩,⟨AA,cA,hc 7 _ rfl,h2⟩,⟨AB,cB,hc 8 _ rfl,h3⟩,⟨AE,cE,hc 9 _ rfl,h4⟩,CmsT.x hr fun j u hu=>?_⟩
  have:=hc (10+j) u (by rw[List.getElem?_append_right (by simp[tenL]),show 10+j - (tenL k a b t (.slice AF i.facts.length cF) (.slice AA i.atoms.length cA) (.slice AB body.len cB) (.slice AE els.len cE)).length=j by simp[tenL]];exact hu)
  rwa [show o+(10+j)=o+10+j by omega] at this
theorem CmsT.app:∀ {L M:Cms} {cs ds:List Value},CmsT w X L cs→CmsT w X M ds→CmsT w X (L.app M) (cs++ds)
 | .nil,M,cs,ds,h,h'=>by simp only[CmsT] at h;subst h;exact h'
 | .cons k a b t i body els r,M,cs,ds,h,h'=>by
  obtain ⟨AF,cF,AA,cA,AB,cB,AE,cE,rest,rfl,h1,h2,h3,h4,hr⟩:=h
  exact ⟨AF,cF,AA,cA,AB,cB,AE,cE,rest++ds,List.append_assoc ..,h1,h2,h3,h4,CmsT.app hr h'⟩
end
def CmsN (w:World) (base:Nat) (v:Value) (L:Cms):Prop:=∃ cs,w.ownsRow base tC 10 v L.len cs∧CmsT w (fun b=>base≤b∧v.ownBlock≠some b) L cs∧L.len≤1049600
section
variable {w w':World} {base base':Nat} {v:Value} {L:Cms}
theorem CmsN.below (h:CmsN w base v L) (hb:Below w.heap.size w w'):CmsN w' base v L:=by
 obtain ⟨cs,h1,h2,h3⟩:=h
 exact ⟨cs,own_below h1 hb,h2.keep fun b _ hl=>hb.block b hl,h3⟩
theorem CmsN.fr {g:Nat} (h:CmsN w base v L) (hf:Fr g w w') (hg:g<base):CmsN w' base v L:=by
 obtain ⟨cs,h1,h2,h3⟩:=h
 exact ⟨cs,own_fr h1 hf hg,h2.keep fun b hb hl=>hf.block b hl (by omega),h3⟩
theorem CmsN.lower (h:CmsN w base v L) (hb:base'≤base):CmsN w base' v L:=by
 obtain ⟨cs,h1,h2,h3⟩:=h
 exact ⟨cs,own_lower h1 hb,h2.mono fun b hx _=>⟨by omega,hx.2⟩,h3⟩
theorem CmsN.reads (h:CmsN w base v L):∃ A c,v=.slice A L.len c∧CmsV w base w.heap.size A L:=by
 obtain ⟨cs,⟨hl,h2⟩,h3,h4⟩:=h
 rcases h2 with ⟨rfl,hn⟩|⟨g,cap,cur,rfl,hb,hg,hn,hm,hs,ht⟩
 ·exact ⟨none,0,by rw[hn],fun hp=>by omega⟩
 ·refine ⟨_,_,rfl,fun hp=>⟨g,0,rfl,hb,Blk.lt hg,CmsX.at_ (fun b hx=>hx.1) (CmsT.x h3 fun j u hu=>?_)⟩⟩
  rw[Nat.zero_add,cell_of_row w g j cur tC (0,0) hg]
  rw[←ht,List.getElem?_take] at hu
  split at hu
  ·simpa using hu
  ·cases hu
theorem CmsN.nil (w:World) (base:Nat):CmsN w base (.slice none 0 0) .nil:=⟨[],World.ownsRow_nil _ _ _ _,rfl,by simp[Cms.len]⟩
theorem CmsN.empty (w:World) {base:Nat} (hb:base≤w.heap.size):CmsN (w.alloc (.cells #[] tC)) base (.slice (some ⟨w.heap.size,0,none⟩) 0 0) .nil:=
 ⟨[],own_lower (own_empty w _ _) hb,rfl,by simp[Cms.len]⟩
theorem CmsN.lim (h:CmsN w base v L):L.len≤1049600:=by obtain ⟨_,_,_,h⟩:=h;exact h
end
theorem CmsN.grow {w w':World} {base:Nat} {v v':Value} {L:Cms} {k a b:Int} {t:Fct} {i:Asn} {body els:Cms} {AF AA AB AE:Option Addr} {cF cA cB cE:Nat} {cs:List Value}
  (hT:CmsT w (fun b=>base≤b∧v.ownBlock≠some b) L cs) (hl:L.len+1≤1049600)
  (h1:RwX w (fun b=>base≤b∧v.ownBlock≠some b) 3 AF i.facts.length (encF i.facts)) (h2:RwX w (fun b=>base≤b∧v.ownBlock≠some b) 3 AA i.atoms.length (encA i.atoms))
  (h3:PartX w (fun b=>base≤b∧v.ownBlock≠some b) AB body) (h4:PartX w (fun b=>base≤b∧v.ownBlock≠some b) AE els)
  (ho:w'.ownsRow base tC 10 v' (L.len+1) (cs++tenL k a b t (.slice AF i.facts.length cF) (.slice AA i.atoms.length cA) (.slice AB body.len cB) (.slice AE els.len cE)))
  (hg:w.grownBy w' v.ownBlock) (hv:v'.ownBlock=v.ownBlock∨v'.ownBlock=some w.heap.size):CmsN w' base v' (L.app (.cons k a b t i body els .nil)):=by
 have hk:∀ b,(base≤b∧v.ownBlock≠some b)→b<w.heap.size→w'.heap[b]? = w.heap[b]?:=fun b hb hlt=>hg.block b hlt (fun e=>hb.2 e.symm)
 have hlen:(L.app (.cons k a b t i body els .nil)).len=L.len+1:=by rw[Cms.len_app];rfl
 refine ⟨cs++tenL k a b t (.slice AF i.facts.length cF) (.slice AA i.atoms.length cA) (.slice AB body.len cB) (.slice AE els.len cE),by rw[hlen];exact ho,?_,by omega⟩
 have hT2:CmsT w (fun b=>base≤b∧v.ownBlock≠some b) (L.app (.cons k a b t i body els .nil)) (cs++tenL k a b t (.slice AF i.facts.length cF) (.slice AA i.atoms.length cA) (.slice AB body.len cB) (.slice AE els.len cE)):=
  hT.app ⟨AF,cF,AA,cA,AB,cB,AE,cE,[],by rw[List.append_nil],h1,h2,h3,h4,rfl⟩
 have hT3:=(hT2.mono (Y:=fun b=>(base≤b∧v.ownBlock≠some b)∧b<w.heap.size) fun b hb hlt=>⟨hb,hlt⟩).keep (w':=w') fun b hb hlt=>hk b hb.1 hlt
 refine hT3.mono fun b hb _=>⟨hb.1.1,fun e=>?_⟩
 rcases hv with hv|hv
 ·exact hb.1.2 (hv.symm.trans e)
 ·rw[hv] at e
  injection e with e
  omega
end Go.Proofs.YtjbboklnegfohaaGreatDoor

/- Programs: comparison. -/
namespace Go.Proofs.YtjbboklnegfohaaGreatDoor
open Go Go.RowKit Go.Proofs
end Go.Proofs.YtjbboklnegfohaaGreatDoor

/- Programs: the small tests. -/
namespace Go.Proofs.YtjbboklnegfohaaGreatDoor
open Go Go.RowKit Go.Proofs
def noAsn (i:Asn):Bool:=decide (i.facts.length=0)&&decide (i.atoms.length=0)
def noFct (t:Fct):Bool:=decide (t=⟨false,0,0⟩)
def basicB (k:Int):Bool:=decide (1≤k∧k≤5)
set_option maxHeartbeats 1600000 in
theorem c_spec_l8NoInv (A1 A2:Option Addr) (c1 c2:Nat) (i:Asn) (w:World) (h1:i.facts.length≤1049600) (h2:i.atoms.length≤1049600):Calls Tryz.prog 38 #[.agg #[.slice A1 i.facts.length c1,.slice A2 i.atoms.length c2]] w fun e w'=>e=.returned (.bool (noAsn i))∧Below w.heap.size w w':=by
 obtain ⟨R,hR⟩:∃ R,R=noAsn i:=⟨_,rfl⟩
 rw[←hR]
 unfold noAsn at hR
 replace hR:=Lib.hid hR
 by_cases q1:i.facts.length=0
 all_goals by_cases q2:i.atoms.length=0
 all_goals
  go_enter Tryz.func38,Tryz.ntmps38
  go_wp2
  go_ret
  exact ⟨ret_bool (by rw[hR.out];simp_all),bel⟩
set_option maxHeartbeats 1600000 in
theorem c_impl_noAssertion (A1 A2:Option Addr) (c1 c2:Nat) (i:Asn) (w:World) (h1:i.facts.length≤1049600) (h2:i.atoms.length≤1049600):Calls Tryz.prog 63 #[.agg #[.slice A1 i.facts.length c1,.slice A2 i.atoms.length c2]] w fun e w'=>e=.returned (.bool (noAsn i))∧Below w.heap.size w w':=by
 obtain ⟨R,hR⟩:∃ R,R=noAsn i:=⟨_,rfl⟩
 rw[←hR]
 unfold noAsn at hR
 replace hR:=Lib.hid hR
 by_cases q1:i.facts.length=0
 all_goals by_cases q2:i.atoms.length=0
 all_goals
  go_enter Tryz.func63,Tryz.ntmps63
  go_wp2
  go_ret
  exact ⟨ret_bool (by rw[hR.out];simp_all),bel⟩
set_option maxHeartbeats 1600000 in
theorem c_spec_l8NoFact (t:Fct) (w:World):Calls Tryz.prog 69 #[t.val] w fun e w'=>e=.returned (.bool (noFct t))∧Below w.heap.size w w':=by
 obtain ⟨q,a,b⟩:=t
 go_enter Tryz.func69,Tryz.ntmps69
 go_wp2
 all_goals
  go_ret
  exact ⟨ret_bool (by simp_all [noFct]),bel⟩
set_option maxHeartbeats 1600000 in
theorem c_impl_isBasic (k a b:Int) (t:Fct) (vF vA vB vE:Value) (w:World):Calls Tryz.prog 62 #[.agg #[.int .i64 k,.int .i64 a,.int .i64 b,.bool t.eq,.int .i64 t.a,.int .i64 t.b,vF,vA,vB,vE]] w fun e w'=>e=.returned (.bool (basicB k))∧Below w.heap.size w w':=by
 by_cases h:1≤k
 ·by_cases h2:k≤5
  all_goals
   go_enter Tryz.func62,Tryz.ntmps62
   go_wp2
   go_ret
   exact ⟨ret_bool (by simp[basicB,h,h2]),bel⟩
 ·go_enter Tryz.func62,Tryz.ntmps62
  go_wp2
  go_ret
  exact ⟨ret_bool (by simp[basicB];omega),bel⟩
end Go.Proofs.YtjbboklnegfohaaGreatDoor

/- Contracts: a strings.Builder of our own: WriteString, and what of commands stays. -/
namespace Go.Proofs.YtjbboklnegfohaaGreatDoor
open Go Go.RowKit Go.Proofs
def KpC (w w':World):Prop:=∀ g cs,Blk w g tC cs→Blk w' g tC cs
set_option maxRecDepth 100000 in
set_option maxHeartbeats 1600000 in
theorem c_copyCheckK {B b:Nat} {bs:List Value} (w:World) (h:Lib.IsBuilder tBd 5 B b bs w):Calls Tryz.prog 48 #[.pointer (some ⟨b,0,none⟩)] w fun e w'=>e=.returned (.tuple #[])∧Lib.BuilderAt tBd 5 B b (.pointer (some ⟨b,0,none⟩)) bs w'∧Below B w w'∧KpC w w':=by
 obtain ⟨j,hj,hjs⟩:=Option.map_eq_some_iff.1 bld_size
 rcases h with h|h
 ·have h0:=h.cell0
  have hsh:=h.shape
  have hfz:=h.frozen0
  have HX:=Lib.hid h
  clear h
  go_enter Tryz.func48,Tryz.ntmps48
  go_wp2_with fail
  rw[Lib.run_to_unsafe w ⟨b,0,none⟩ Tryz.underlying64 Tryz.underlying120 hj (by rw[hjs];decide) hsh (Nat.zero_lt_succ 1)]
  simp only[Result.andThen]
  rw[Oper.upon_value]
  go_wp2_with fail
  rw[run_callFunc_extern Tryz.func82 (by kernel_rfl) (by kernel_rfl) (by kernel_rfl) (e:=Extern.AbiNoEscape.same) (by kernel_rfl)]
  rw[Lib.run_noEscape]
  simp only[Result.andThen]
  rw[Oper.upon_value]
  go_wp2_with fail
  rw[Lib.run_from_unsafe w ⟨b,0,none⟩ Tryz.underlying120 Tryz.underlying64 hj hsh bld_lies]
  simp only[Result.andThen]
  rw[Oper.upon_value]
  go_wp2_with fail
  go_end0
  exact ⟨rfl,HX.out.used _,(Below.refl B w).setCell (p:=⟨b,0,none⟩) HX.out.1 _,fun g cs hk=>hk.far (fun e=>by
   obtain ⟨-,v,e1,-,-⟩:=HX.out
   exact Blk.ne_ hk (show Blk w b tBd _ from e1) (by decide) e) _⟩
 ·have h0:=h.cell0
  have HX:=Lib.hid h
  clear h
  go_enter Tryz.func48,Tryz.ntmps48
  go_wp2_with fail
  rw[Lib.run_neq_ptr_same w _ Tryz.underlying64 hj]
  go_wp2_with fail
  go_end0
  exact ⟨rfl,HX.out,Below.refl B _,fun g cs hk=>hk⟩
set_option maxRecDepth 100000 in
set_option maxHeartbeats 1600000 in
theorem c_WriteStringK {B b:Nat} {l:Bs} (x:Bs) (w:World) (h:Lib.IsBuilder tBd 5 B b (Lib.byteCells l) w) (hlen:l.length+x.length≤100000000) (hBw:B≤w.heap.size):Calls Tryz.prog 27 #[.pointer (some ⟨b,0,none⟩),sv x] w fun e w'=>∃ v,e=.returned v∧Lib.IsBuilder tBd 5 B b (Lib.byteCells (l++x)) w'∧Below B w w'∧KpC w w':=by
 obtain ⟨i0,hi,hz0,hz1,hz2⟩:=info_parts bld_byte
 have HX:=Lib.hid h
 have hll:(Lib.byteCells l).length=l.length:=by simp[Lib.byteCells]
 have hxx:Lib.byteCells (l++x)=Lib.byteCells l++Lib.strCells ⟨x.toArray⟩:=by simp[Lib.byteCells,Lib.strCells]
 rw[hxx]
 clear h hxx
 go_enter Tryz.func27,Tryz.ntmps27
 go_wp2_with (go_at_call 48;refine (c_copyCheckK _ HX.out).mono ?_)
 rintro e w1 ⟨rfl,h1,hb1,hkp⟩
 obtain ⟨hB,v,hbk,hown,hne⟩:=h1
 have c0:w1.cell? ⟨b,0,none⟩=some (.pointer (some ⟨b,0,none⟩)):=by rw[Lib.cell_of_heap hbk];rfl
 have c1:w1.cell? ⟨b,1,none⟩=some v:=by rw[Lib.cell_of_heap hbk];rfl
 go_wp2_with (at_builtin;refine Lib.wpList_append_own_string _ rfl _ _ 22 9 rfl B 5 i0 Tryz.underlying22 Tryz.underlying9 hi hz0 hz1 hz2 _ _ _ rfl hown ⟨x.toArray⟩ rfl ?c3 ?c4 ?c5 ?_)
 case c3=>unfold maxLen;simp only[ByteArray.size,List.size_toArray];omega
 case c4=>simp only[ByteArray.size,List.size_toArray];omega
 case c5=>have:=hb1.size;omega
 intro v' w2 hown' hgrow _
 have hlt:b<w1.heap.size:=by
  rcases Nat.lt_or_ge b w1.heap.size with h'|h'
  ·exact h'
  ·simp[Array.getElem?_eq_none h'] at hbk
 have hb2:w2.heap[b]? = some (.cells #[.pointer (some ⟨b,0,none⟩),v] tBd (0,0)):=by
  rw[hgrow.block b hlt (fun e=>hne e.symm)]
  exact hbk
 have d0:w2.cell? ⟨b,0,none⟩=some (.pointer (some ⟨b,0,none⟩)):=by rw[Lib.cell_of_heap hb2];rfl
 have d1:w2.cell? ⟨b,1,none⟩=some v:=by rw[Lib.cell_of_heap hb2];rfl
 have f1:w2.frozen? ⟨b,1,none⟩=false:=Lib.frozen_of_heap hb2 1
 obtain ⟨ao,n',cap,rfl⟩:∃ ao n' cap,v'=.slice ao n' cap:=by
  rcases hown'.2 with ⟨hv,_⟩|⟨g,cap,cur,hv,_⟩
  ·exact ⟨_,_,_,hv⟩
  ·exact ⟨_,_,_,hv⟩
 go_wp2_with fail
 go_ret2
 refine ⟨_,rfl,.inr ?_,?_,fun g cs hk=>((hkp g cs hk).grownO hown hgrow (by decide)).far (fun e=>Blk.ne_ ((hkp g cs hk).grownO hown hgrow (by decide)) (show Blk w2 b tBd _ from hb2) (by decide) e) _⟩
 ·exact Lib.BuilderAt.put (T:=tBd) (e:=5) hB hb2 (bs':=Lib.byteCells l++Lib.strCells ⟨x.toArray⟩) (by rw[List.length_append,Lib.strCells_length,hll];simpa only[ByteArray.size,List.size_toArray] using hown') (by decide)
 ·exact (hb1.grown hgrow (by have:=hb1.size;omega) (fun k hk=>(hown.lt k hk).1)).setCell (p:=⟨b,1,none⟩) hB _
end Go.Proofs.YtjbboklnegfohaaGreatDoor

/- Programs: marks. -/
namespace Go.Proofs.YtjbboklnegfohaaGreatDoor
open Go Go.RowKit Go.Proofs
def Cms.marks:Cms→Nat
 | .nil=>0
 | .cons _ _ _ _ i body els r=>6+3 * i.facts.length+3 * i.atoms.length+body.marks+els.marks+r.marks
end Go.Proofs.YtjbboklnegfohaaGreatDoor

/- Words for the exact laws: contracts in blocks of their own. -/
namespace Go.Proofs.YtjbboklnegfohaaGreatDoor
open Go Go.RowKit Go.Proofs
section
variable {w w':World} {lo hi lo' hi' a b:Nat} {v:Value}
theorem z1f {fv av:Value} {x:Asn} (h:AsnO w lo (.agg #[fv,av]) x):FactsO w lo fv x.facts:=by
 obtain ⟨fv',av',e,h1,h2⟩:=h
 injection e with e;injection e with e;injection e with e1 e2;injection e2 with e2;subst e1;subst e2
 exact h1
end
theorem AsnI.own {w:World} {lo hi:Nat} {fv av:Value} {x:Asn} (h:AsnI w lo hi (.agg #[fv,av]) x) (g:Nat) (hg:fv.ownBlock=some g∨av.ownBlock=some g):lo≤g∧g<hi∧g<w.heap.size:=by
 obtain ⟨fv',av',e,⟨o1,u1⟩,⟨o2,u2⟩⟩:=h
 injection e with e;injection e with e;injection e with e1 e2;injection e2 with e2;subst e1;subst e2
 rcases hg with hg|hg
 ·have:=(o1.1.lt g hg);have:=u1 g hg;omega
 ·have:=(o2.1.lt g hg);have:=u2 g hg;omega
end Go.Proofs.YtjbboklnegfohaaGreatDoor

/- Words for regions that allocate a variable beside calls. -/
namespace Go.Proofs.YtjbboklnegfohaaGreatDoor
open Go Go.RowKit Go.Proofs
theorem AsnI.setT {w:World} {lo hi:Nat} {v:Value} {x:Asn} (h:AsnI w lo hi v x) {g:Nat} {t:TypeId} {cs:Array Value} (hk:Blk w g t cs) (h1:t≠tF) (h2:t≠tA) (i:Nat) (u:Value):AsnI (w.setCell ⟨g,i,none⟩ u) lo hi v x:=by
 obtain ⟨fv,av,e,p1,p2⟩:=h
 exact ⟨fv,av,e,⟨p1.1.setT hk h1 i u,p1.2⟩,⟨p2.1.setT hk h2 i u,p2.2⟩⟩
end Go.Proofs.YtjbboklnegfohaaGreatDoor
