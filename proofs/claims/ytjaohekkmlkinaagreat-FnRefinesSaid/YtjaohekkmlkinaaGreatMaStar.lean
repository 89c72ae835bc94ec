/- Rows that a call changes in place; marks that are held; replaced terms (impl). -/
import Derived.Test.YtjaohekkmlkinaaGreatMaArgS
import Derived.Deep.RegionHeld3
import Derived.Deep.DrawnRows
set_option linter.unusedSimpArgs false
set_option linter.unusedVariables false
set_option maxRecDepth 100000
set_option maxHeartbeats 25600000
namespace Go.Proofs.YtjaohekkmlkinaaGreat
section
open Go Go.RowKit Go.Proofs
attribute [local go_sem ↓] Go.wp_at_zero Go.wp_at_succ
theorem set_same {α:Type} {L:List α} {i:Nat} {x:α} (h:L[i]? = some x):L.set i x=L:=by
 apply List.ext_getElem?;intro k;rw[List.getElem?_set]
 split
 ·rename_i e;subst e
  split
  ·exact h.symm
  ·rename_i hn;rw[List.getElem?_eq_none (by omega)] at h;cases h
 ·rfl
theorem flat3_set {α:Type} (f0 f1 f2:α→Value):∀ (L:List α) (j:Nat) (x:α),j<L.length→((L.set j x).flatMap fun x=>[f0 x,f1 x,f2 x])=(((L.flatMap fun x=>[f0 x,f1 x,f2 x]).set (j*3) (f0 x)).set (j*3+1) (f1 x)).set (j*3+2) (f2 x):=by
 intro L
 induction L with
 | nil=>intro j x h;simp at h
 | cons g L ih=>
  intro j x h
  cases j with
  | zero=>simp
  | succ j=>
   have e:=ih j x (by simpa using h);rw[List.set_cons_succ,List.flatMap_cons,e,List.flatMap_cons,show (j+1)*3=j*3+1+1+1 from by omega,show j*3+1+1+1+1=(j*3+1)+1+1+1 from by omega,show j*3+1+1+1+2=(j*3+2)+1+1+1 from by omega];simp only[List.cons_append,List.nil_append,List.set_cons_succ]
theorem Pre.setL {cs:Array Value} {L:List Value} {m:Nat} (h:Pre cs L m) (i:Nat) (u:Value) (hs:m≤cs.size) (hl:m≤L.length):Pre (cs.setIfInBounds i u) (L.set i u) m:=by
 intro j hj;by_cases e:i=j
 ·subst e;rw[Array.getElem?_setIfInBounds_self,if_pos (by omega),List.getElem?_set_self (by omega)]
 ·rw[Array.getElem?_setIfInBounds_ne e,List.getElem?_set_ne e];exact h j hj
theorem FactsO.open_ {w:World} {base:Nat} {A:Option Addr} {n c k:Nat} {fs:List Fct} (h:FactsO w base (.slice A n c) fs) (hk:k<fs.length):∃ g cur,n=fs.length∧A=some ⟨g,0,none⟩∧base≤g∧Blk w g tF cur∧fs.length * 3≤cur.size∧cur[k*3]? = some (.bool fs[k].eq)∧cur[k*3+1]? = some (.int .i64 fs[k].a)∧cur[k*3+2]? = some (.int .i64 fs[k].b)∧
  (∀ (i:Nat) (u:Value) (gs:List Fct),encF gs=(encF fs).set i u→gs.length=fs.length→FactsO (w.setCell ⟨g,i,none⟩ u) base (.slice A n c) gs):=by
 obtain ⟨⟨hl,h2⟩,hL⟩:=h;rcases h2 with ⟨e,hn⟩|⟨g,cap,cur,e,hb,hh,hn,hm,hs,ht⟩
 ·omega
 ·injection e with e1 e2 e3;subst e1 e2 e3;have hK:Blk w g tF cur:=hh
  have hP:Pre cur (encF fs) (fs.length * 3):=by
   intro j hj;rw[←ht,List.getElem?_take,if_pos hj];simp
  obtain ⟨t0,t1,t2⟩:=flat3 (fun f:Fct=>.bool f.eq) (fun f=>.int .i64 f.a) (fun f=>.int .i64 f.b) fs k hk;refine ⟨g,cur,rfl,rfl,hb,hK,by rw[hs];exact Nat.mul_le_mul hn (Nat.le_refl _),(hP _ (by omega)).trans t0,(hP _ (by omega)).trans t1,(hP _ (by omega)).trans t2,?_⟩;intro i u gs he hg;refine ⟨?_,by rw[hg];exact hL⟩;rw[he,hg];exact own_of_blk (hK.set_ i u) hb (by rw[List.length_set,hl]) (hP.setL i u (by rw[hs];exact Nat.mul_le_mul hn (Nat.le_refl _)) (by rw[hl];exact Nat.le_refl _)) hn hm (by simpa using hs)
theorem AtomsO.open_ {w:World} {base:Nat} {A:Option Addr} {n c k:Nat} {fs:List Atm} (h:AtomsO w base (.slice A n c) fs) (hk:k<fs.length):∃ g cur,n=fs.length∧A=some ⟨g,0,none⟩∧base≤g∧Blk w g tA cur∧fs.length * 3≤cur.size∧cur[k*3]? = some (.int .i64 fs[k].kind)∧cur[k*3+1]? = some (.int .i64 fs[k].a)∧cur[k*3+2]? = some (.int .i64 fs[k].b)∧
  (∀ (i:Nat) (u:Value) (gs:List Atm),encA gs=(encA fs).set i u→gs.length=fs.length→AtomsO (w.setCell ⟨g,i,none⟩ u) base (.slice A n c) gs):=by
 obtain ⟨⟨hl,h2⟩,hL⟩:=h;rcases h2 with ⟨e,hn⟩|⟨g,cap,cur,e,hb,hh,hn,hm,hs,ht⟩
 ·omega
 ·injection e with e1 e2 e3;subst e1 e2 e3;have hK:Blk w g tA cur:=hh
  have hP:Pre cur (encA fs) (fs.length * 3):=by
   intro j hj;rw[←ht,List.getElem?_take,if_pos hj];simp
  obtain ⟨t0,t1,t2⟩:=flat3 (fun f:Atm=>.int .i64 f.kind) (fun f=>.int .i64 f.a) (fun f=>.int .i64 f.b) fs k hk;refine ⟨g,cur,rfl,rfl,hb,hK,by rw[hs];exact Nat.mul_le_mul hn (Nat.le_refl _),(hP _ (by omega)).trans t0,(hP _ (by omega)).trans t1,(hP _ (by omega)).trans t2,?_⟩;intro i u gs he hg;refine ⟨?_,by rw[hg];exact hL⟩;rw[he,hg];exact own_of_blk (hK.set_ i u) hb (by rw[List.length_set,hl]) (hP.setL i u (by rw[hs];exact Nat.mul_le_mul hn (Nat.le_refl _)) (by rw[hl];exact Nat.le_refl _)) hn hm (by simpa using hs)
theorem FactsV.one {w:World} {g:Nat} {f:Fct} (h:Blk w g tF #[.bool f.eq,.int .i64 f.a,.int .i64 f.b]):FactsV w g (g+1) (some ⟨g,0,none⟩) [f]:=
 ⟨⟨by simp,fun _=>⟨g,0,rfl,Nat.le_refl _,Nat.lt_succ_self _,fun j u hu=>by rw[Nat.zero_add,h.cell];simpa using hu⟩⟩,by simp[Lim]⟩
theorem AtomsV.one {w:World} {g:Nat} {f:Atm} (h:Blk w g tA #[.int .i64 f.kind,.int .i64 f.a,.int .i64 f.b]):AtomsV w g (g+1) (some ⟨g,0,none⟩) [f]:=
 ⟨⟨by simp,fun _=>⟨g,0,rfl,Nat.le_refl _,Nat.lt_succ_self _,fun j u hu=>by rw[Nat.zero_add,h.cell];simpa using hu⟩⟩,by simp[Lim]⟩
theorem FactsV.cl {w:World} {lo hi b o k:Nat} {fs:List Fct} (h:FactsV w lo hi (some ⟨b,o,none⟩) fs) (hk:k<fs.length):w.cell? ⟨b,o+k*3,none⟩=some (.bool fs[k].eq)∧w.cell? ⟨b,o+k*3+1,none⟩=some (.int .i64 fs[k].a)∧w.cell? ⟨b,o+k*3+2,none⟩=some (.int .i64 fs[k].b):=by
 obtain ⟨b',o',e,hc⟩:=h.at hk;simp only[Option.some.injEq,Addr.mk.injEq,and_true] at e;obtain ⟨rfl,rfl⟩:=e;exact hc
theorem AtomsV.cl {w:World} {lo hi b o k:Nat} {fs:List Atm} (h:AtomsV w lo hi (some ⟨b,o,none⟩) fs) (hk:k<fs.length):w.cell? ⟨b,o+k*3,none⟩=some (.int .i64 fs[k].kind)∧w.cell? ⟨b,o+k*3+1,none⟩=some (.int .i64 fs[k].a)∧w.cell? ⟨b,o+k*3+2,none⟩=some (.int .i64 fs[k].b):=by
 obtain ⟨b',o',e,hc⟩:=h.at hk;simp only[Option.some.injEq,Addr.mk.injEq,and_true] at e;obtain ⟨rfl,rfl⟩:=e;exact hc
theorem FactsV.blt {w:World} {lo hi k:Nat} {A:Option Addr} {fs:List Fct} (h:FactsV w lo hi A fs) (hk:k<fs.length):∃ b o,A=some ⟨b,o,none⟩∧b<w.heap.size:=by
 obtain ⟨b,o,e,hc,-⟩:=h.at hk;exact ⟨b,o,e,block_lt_of_cell hc⟩
theorem AtomsV.blt {w:World} {lo hi k:Nat} {A:Option Addr} {fs:List Atm} (h:AtomsV w lo hi A fs) (hk:k<fs.length):∃ b o,A=some ⟨b,o,none⟩∧b<w.heap.size:=by
 obtain ⟨b,o,e,hc,-⟩:=h.at hk;exact ⟨b,o,e,block_lt_of_cell hc⟩
theorem IntsV.blt {w:World} {lo hi k:Nat} {A:Option Addr} {fs:List Int} (h:IntsV w lo hi A fs) (hk:k<fs.length):∃ b o,A=some ⟨b,o,none⟩∧b<w.heap.size:=by
 obtain ⟨b,o,e,hc⟩:=h.at hk;exact ⟨b,o,e,block_lt_of_cell hc⟩
theorem BoolsV.blt {w:World} {lo hi k:Nat} {A:Option Addr} {fs:List Bool} (h:BoolsV w lo hi A fs) (hk:k<fs.length):∃ b o,A=some ⟨b,o,none⟩∧b<w.heap.size:=by
 obtain ⟨b,o,e,hc⟩:=h.at hk;exact ⟨b,o,e,block_lt_of_cell hc⟩
theorem own_ofBlk {w:World} {g base size:Nat} {t:TypeId} (h:Blk w g t #[]) (hb:base≤g):w.ownsRow base t size (.slice (some ⟨g,0,none⟩) 0 0) 0 []:=⟨by simp,.inr ⟨g,0,#[],rfl,hb,h,Nat.le_refl _,by decide,by simp,by simp⟩⟩
theorem FactsO.ofBlk {w:World} {g base:Nat} (h:Blk w g tF #[]) (hb:base≤g):FactsO w base (.slice (some ⟨g,0,none⟩) 0 0) []:=⟨own_ofBlk h hb,by simp[Lim]⟩
theorem AtomsO.ofBlk {w:World} {g base:Nat} (h:Blk w g tA #[]) (hb:base≤g):AtomsO w base (.slice (some ⟨g,0,none⟩) 0 0) []:=⟨own_ofBlk h hb,by simp[Lim]⟩
theorem IntsO.ofBlk {w:World} {g base:Nat} (h:Blk w g tI #[]) (hb:base≤g):IntsO w base (.slice (some ⟨g,0,none⟩) 0 0) []:=⟨own_ofBlk h hb,by simp[Lim]⟩
theorem Blk.zm {w w':World} {g base size n:Nat} {t e:TypeId} {cs:Array Value} {v:Value} {xs:List Value} (h:Blk w g t cs) (ho:w.ownsRow base e size v n xs) (hg:w.grownBy w' v.ownBlock) (ht:t≠e):Blk w' g t cs:=by
 refine h.grown hg ?_;intro he;rcases ho.2 with ⟨rfl,_⟩|⟨k,cap,cur,rfl,_,hh,_⟩
 ·simp[Value.ownBlock] at he
 ·simp only[Value.ownBlock,Option.some.injEq] at he;exact Blk.ne_ h hh ht he
theorem own_grownO {w w':World} {base base' size size' n n':Nat} {e e':TypeId} {v v':Value} {xs xs':List Value} (h:w.ownsRow base' e' size' v' n' xs') (ho:w.ownsRow base e size v n xs) (hg:w.grownBy w' v.ownBlock) (ht:e'≠e):w'.ownsRow base' e' size' v' n' xs':=by
 obtain ⟨h1,h2⟩:=h;refine ⟨h1,?_⟩;rcases h2 with h2|⟨k,cap,cur,hv,hk,hh,r⟩
 ·exact Or.inl h2
 ·exact Or.inr ⟨k,cap,cur,hv,hk,Blk.zm hh ho hg ht,r⟩
theorem FactsO.grownA {w w':World} {b b':Nat} {v v':Value} {xs:List Fct} {ys:List Atm} (h:FactsO w b v xs) (ho:AtomsO w b' v' ys) (hg:w.grownBy w' v'.ownBlock):FactsO w' b v xs:=⟨own_grownO h.1 ho.1 hg (by decide),h.2⟩
theorem AtomsO.grownF {w w':World} {b b':Nat} {v v':Value} {xs:List Atm} {ys:List Fct} (h:AtomsO w b v xs) (ho:FactsO w b' v' ys) (hg:w.grownBy w' v'.ownBlock):AtomsO w' b v xs:=⟨own_grownO h.1 ho.1 hg (by decide),h.2⟩
theorem Rd.keepB {w w':World} {lo hi size n B:Nat} {A:Option Addr} {xs:List Value} (h:Rd w lo hi size A n xs) (hb:Below B w w') (hh:hi≤B):Rd w' lo hi size A n xs:=h.keep fun b _ h2=>hb.block b (by omega)
theorem FactsV.keepB {w w':World} {lo hi B:Nat} {A:Option Addr} {xs:List Fct} (h:FactsV w lo hi A xs) (hb:Below B w w') (hh:hi≤B):FactsV w' lo hi A xs:=Rd.keepB h hb hh
theorem AtomsV.keepB {w w':World} {lo hi B:Nat} {A:Option Addr} {xs:List Atm} (h:AtomsV w lo hi A xs) (hb:Below B w w') (hh:hi≤B):AtomsV w' lo hi A xs:=Rd.keepB h hb hh
theorem IntsV.keepB {w w':World} {lo hi B:Nat} {A:Option Addr} {xs:List Int} (h:IntsV w lo hi A xs) (hb:Below B w w') (hh:hi≤B):IntsV w' lo hi A xs:=Rd.keepB h hb hh
theorem BoolsV.keepB {w w':World} {lo hi B:Nat} {A:Option Addr} {xs:List Bool} (h:BoolsV w lo hi A xs) (hb:Below B w w') (hh:hi≤B):BoolsV w' lo hi A xs:=Rd.keepB h hb hh
theorem c_spec_l3Star {lo hi lo' hi':Nat} (v v':Value) (a b:Asn) (w:World) (h:AsnV w lo hi v a) (h':AsnV w lo' hi' v' b) (hn1:a.facts.length+b.facts.length≤1049600) (hn2:a.atoms.length+b.atoms.length≤1049600) :
  Calls Tryz.prog 110 #[v,v'] w fun e w'=>∃ r,e=.returned r∧AsnO w' w.heap.size r (starA a b)∧Below w.heap.size w w':=by
 obtain ⟨A1,c1,A2,c2,rfl,h1,h2⟩:=h;obtain ⟨A3,c3,A4,c4,rfl,h3,h4⟩:=h';(go_enter Tryz.func110,Tryz.ntmps110);have kk:=blk3 w 37 37 37 #[.slice A1 a.facts.length c1,.slice A2 a.atoms.length c2] #[.slice A3 b.facts.length c3,.slice A4 b.atoms.length c4] #[.slice none 0 0,.slice none 0 0];have hB:Below w.heap.size w (((w.alloc (.cells #[.slice A1 a.facts.length c1,.slice A2 a.atoms.length c2] 37)).alloc (.cells #[.slice A3 b.facts.length c3,.slice A4 b.atoms.length c4] 37)).alloc (.cells #[.slice none 0 0,.slice none 0 0] 37)):=bel;obtain ⟨k0,k1,k2⟩:=kk;(go_wp2_with fail);have hz:=k2.lt;generalize (((w.alloc (.cells #[.slice A1 a.facts.length c1,.slice A2 a.atoms.length c2] 37)).alloc (.cells #[.slice A3 b.facts.length c3,.slice A4 b.atoms.length c4] 37)).alloc (.cells #[.slice none 0 0,.slice none 0 0] 37))=W at k0 k1 k2 hB hz ⊢;have tok3:True:=trivial;have tok6:True:=trivial;have tok10:True:=trivial;have tok13:True:=trivial
 go_region_held3 (fun w'=>(∀ i,w'.cell? ⟨w.heap.size,i,none⟩=#[.slice A1 a.facts.length c1,.slice A2 a.atoms.length c2][i]?)∧(∀ i,w'.cell? ⟨w.heap.size+1,i,none⟩=#[.slice A3 b.facts.length c3,.slice A4 b.atoms.length c4][i]?))
  (exact ⟨Blk.cell blks,Blk.cell blks⟩)
  (first
   | (have _t:=tok3;clear _t tok3;refine stepFL (xs:=[]) rfl _ _ rfl rfl (FactsO.ofBlk (base:=w.heap.size) blks (by first|omega|(simp;omega))) rfl (h1.bz bel) (by first|omega|(simp;omega)) (by first|omega|(simp;omega)) ?_;intro F1 e1 w1 hO1 hg1 hB1;have hBw1:Below w.heap.size w w1:=Below.trans bel hB1;simp only[List.nil_append] at hO1;have m10:=Blk.zm (g:=w.heap.size) (hg:=hg1) blks (FactsO.ofBlk (base:=w.heap.size) blks (by first|omega|(simp;omega))).1 (by decide);have m11:=Blk.zm (g:=w.heap.size+1) (hg:=hg1) blks (FactsO.ofBlk (base:=w.heap.size) blks (by first|omega|(simp;omega))).1 (by decide);have m12:=Blk.zm (g:=w.heap.size+1+1) (hg:=hg1) blks (FactsO.ofBlk (base:=w.heap.size) blks (by first|omega|(simp;omega))).1 (by decide);have lt1:=m12.lt;(try (have za:Blk w1 (W.heap.size+1) tA #[]:=?zz;case zz=>(refine Blk.zm (hg:=hg1) ?_ (FactsO.ofBlk (base:=w.heap.size) blks (by first|omega|(simp;omega))).1 (by decide);(repeat (first|(with_reducible assumption)|(with_reducible exact Blk.new _ _ _)|((with_reducible apply Blk.far);(case hp=>(first|exact Nat.le_refl _|(simp;done)|(simp;omega)|(simp only;omega)|omega)))|(with_reducible apply Blk.set_)|((with_reducible refine Blk.newE ?_);(simp;done))|(with_reducible apply Blk.alloc)|(with_reducible apply Blk.drew)|(with_reducible apply Blk.drewN)));done)));(try (have za:Blk w1 W.heap.size tA #[]:=?zz;case zz=>(refine Blk.zm (hg:=hg1) ?_ (FactsO.ofBlk (base:=w.heap.size) blks (by first|omega|(simp;omega))).1 (by decide);(repeat (first|(with_reducible assumption)|(with_reducible exact Blk.new _ _ _)|((with_reducible apply Blk.far);(case hp=>(first|exact Nat.le_refl _|(simp;done)|(simp;omega)|(simp only;omega)|omega)))|(with_reducible apply Blk.set_)|((with_reducible refine Blk.newE ?_);(simp;done))|(with_reducible apply Blk.alloc)|(with_reducible apply Blk.drew)|(with_reducible apply Blk.drewN)));done))))
   | (have _t:=tok6;clear _t tok6;refine stepFL (xs:=a.facts) rfl _ _ rfl rfl (FactsO.bz (w:=w1) hO1 bel) rfl (h3.bz bel) (by first|omega|(simp;omega)) (by first|omega|(simp;omega)) ?_;intro F2 e2 w2 hO2 hg2 hB2;have hBw2:Below w.heap.size w w2:=Below.trans bel hB2;have m20:=Blk.zm (g:=w.heap.size) (hg:=hg2) blks (FactsO.bz (w:=w1) hO1 bel).1 (by decide);have m21:=Blk.zm (g:=w.heap.size+1) (hg:=hg2) blks (FactsO.bz (w:=w1) hO1 bel).1 (by decide);have m22:=Blk.zm (g:=w.heap.size+1+1) (hg:=hg2) blks (FactsO.bz (w:=w1) hO1 bel).1 (by decide);have lt2:=m22.lt;(try (have zb:Blk w2 w1.heap.size tA #[]:=?zz;case zz=>(refine Blk.zm (hg:=hg2) ?_ (FactsO.bz (w:=w1) hO1 bel).1 (by decide);(repeat (first|(with_reducible assumption)|(with_reducible exact Blk.new _ _ _)|((with_reducible apply Blk.far);(case hp=>(first|exact Nat.le_refl _|(simp;done)|(simp;omega)|(simp only;omega)|omega)))|(with_reducible apply Blk.set_)|((with_reducible refine Blk.newE ?_);(simp;done))|(with_reducible apply Blk.alloc)|(with_reducible apply Blk.drew)|(with_reducible apply Blk.drewN)));done)));(try (have zb:=Blk.zm (hg:=hg2) (Blk.nz za bel) (FactsO.bz (w:=w1) hO1 bel).1 (by decide))))
   | (have _t:=tok10;clear _t tok10;refine stepAL (xs:=[]) rfl _ _ rfl rfl (AtomsO.ofBlk (base:=w.heap.size) blks (by first|omega|(simp;omega))) rfl (h2.bz bel) (by first|omega|(simp;omega)) (by first|omega|(simp;omega)) ?_;intro F3 e3 w3 hO3 hg3 hB3;have hBw3:Below w.heap.size w w3:=Below.trans bel hB3;simp only[List.nil_append] at hO3;have m30:=Blk.zm (g:=w.heap.size) (hg:=hg3) blks (AtomsO.ofBlk (base:=w.heap.size) blks (by first|omega|(simp;omega))).1 (by decide);have m31:=Blk.zm (g:=w.heap.size+1) (hg:=hg3) blks (AtomsO.ofBlk (base:=w.heap.size) blks (by first|omega|(simp;omega))).1 (by decide);have m32:=Blk.zm (g:=w.heap.size+1+1) (hg:=hg3) blks (AtomsO.ofBlk (base:=w.heap.size) blks (by first|omega|(simp;omega))).1 (by decide);have lt3:=m32.lt;have hP3:=FactsO.grownA (FactsO.bz (w:=w2) hO2 bel) (AtomsO.ofBlk (base:=w.heap.size) blks (by first|omega|(simp;omega))) hg3)
   | (have _t:=tok13;clear _t tok13;refine stepAL (xs:=a.atoms) rfl _ _ rfl rfl (AtomsO.bz (w:=w3) hO3 bel) rfl (h4.bz bel) (by first|omega|(simp;omega)) (by first|omega|(simp;omega)) ?_;intro F4 e4 w4 hO4 hg4 hB4;have hBw4:Below w.heap.size w w4:=Below.trans bel hB4;have m40:=Blk.zm (g:=w.heap.size) (hg:=hg4) blks (AtomsO.bz (w:=w3) hO3 bel).1 (by decide);have m41:=Blk.zm (g:=w.heap.size+1) (hg:=hg4) blks (AtomsO.bz (w:=w3) hO3 bel).1 (by decide);have m42:=Blk.zm (g:=w.heap.size+1+1) (hg:=hg4) blks (AtomsO.bz (w:=w3) hO3 bel).1 (by decide);have lt4:=m42.lt;have hP4:=FactsO.grownA (FactsO.bz (w:=w3) hP3 bel) (AtomsO.bz (w:=w3) hO3 bel) hg4;have c42:=m42.cell;have f42:=m42.frozen))
 all_goals
  (go_wp2_with fail);refine bodyPost_ret (v:=.agg #[.slice F2 (a.facts++b.facts).length e2,.slice F4 (a.atoms++b.atoms).length e4]) (by simp[results,Tryz.results110,go_sem,c42]) rfl ⟨_,rfl,⟨_,_,rfl,?_,?_⟩,bel⟩
  ·exact (hP4.setT m42 (by decide) _ _).setT (m42.set_ _ _) (by decide) _ _
  ·exact (hO4.setT m42 (by decide) _ _).setT (m42.set_ _ _) (by decide) _ _
end
end Go.Proofs.YtjaohekkmlkinaaGreat
