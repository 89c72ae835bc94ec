/- Contracts: the spec's first failing case. -/
import Derived.Test.YtgdfdmjnadnlnaaGreatMatchT
import Derived.BigQuiet
import Derived.Deep.QuietTactic
import Derived.Deep.DeepCutAuto
import Derived.Test.YtgdfdmjnadnlnaaGreatMFirstG
set_option linter.unusedSimpArgs false
set_option linter.unusedVariables false
set_option maxRecDepth 100000
set_option maxHeartbeats 25600000
namespace Go.Proofs.YtgdfdmjnadnlnaaGreat
section
open Go Go.RowKit Go.Proofs
attribute [local go_sem ↓] Go.wp_at_zero Go.wp_at_succ
def caseB (a b:Asn) (c:List Int):Bool:=fitsS c b.facts&&matchB (filledL a.atoms c) (filledL b.atoms c)
theorem filled_goal {b:Asn} (hb:b.valid=true) (c:List Int):∀ x∈filledL b.atoms c,x.kind=1∨(x.kind=2∧x.a≠x.b):=by
 intro x hx;unfold filledL at hx;obtain ⟨y,hy,rfl⟩:=List.mem_map.1 hx;obtain ⟨hy1,hy2⟩:=List.mem_filter.1 hy
 have hv:y.valid=true:=by
  simp only[Asn.valid,Bool.and_eq_true,List.all_eq_true] at hb;exact hb.2.2 y hy1
 simp only[Atm.valid,Bool.and_eq_true,decide_eq_true_eq] at hv;rcases hv.1.1 with h|h
 ·exact Or.inl h
 ·refine Or.inr ⟨h,fun e=>?_⟩;unfold Atm.fill at hy2;rw[h] at hy2;simp only[Atm.cls] at e;simp[e] at hy2
theorem c_spec_l6Case {lo hi lo' hi' lo2 hi2:Nat} (v v':Value) (B:Option Addr) (cc:Nat) (a b:Asn) (c:List Int) (w:World) (h:AsnV w lo hi v a) (h':AsnV w lo' hi' v' b) (hi_:IntsV w lo2 hi2 B c) (ha:a.valid=true) (hb:b.valid=true) (hc:c.length=9) :
  Calls Tryz.prog 245 #[v,v',.slice B 9 cc] w fun e w'=>e=.returned (.bool (caseB a b c))∧Below w.heap.size w w':=by
 have HA:=ax (Asn.valid_ok ha);have HBV:=ax (Asn.valid_ok hb);have HC:=ax hc;have HI:=ax hi_;have HGO:=ax (filled_goal hb c);have hal:=(valid_len ha).2;obtain ⟨A1,c1,A2,c2,rfl,h1,h2⟩:=h;obtain ⟨A3,c3,A4,c4,rfl,h3,h4⟩:=h';have H2:=ax h2;have H3:=ax h3;have H4:=ax h4;have HXL:=ax (filledL_len a.atoms c);have HE:aJ (caseB a b c=(fitsS c b.facts&&matchB (filledL a.atoms c) (filledL b.atoms c))):=rfl;clear h1 h2 h3 h4 ha hb hc hi_;(go_enter Tryz.func245,Tryz.ntmps245);have k0:Blk ((w.alloc (.cells #[.slice A1 a.facts.length c1,.slice A2 a.atoms.length c2] tAs)).alloc (.cells #[.slice A3 b.facts.length c3,.slice A4 b.atoms.length c4] tAs)) w.heap.size tAs #[.slice A1 a.facts.length c1,.slice A2 a.atoms.length c2]:=blks;have k1:Blk ((w.alloc (.cells #[.slice A1 a.facts.length c1,.slice A2 a.atoms.length c2] tAs)).alloc (.cells #[.slice A3 b.facts.length c3,.slice A4 b.atoms.length c4] tAs)) (w.heap.size+1) tAs #[.slice A3 b.facts.length c3,.slice A4 b.atoms.length c4]:=blks;(go_wp2_with fail);cases hf:fitsS c b.facts
 ·have E:aJ (caseB a b c=false):=by show _=_;rw[HE.o,hf];rfl
  have HF:=ax hf;clear hf;refine wp_region_noPanic ?_;refine wp_region_held_drew (S:=(fun w'=>(∀ i,w'.cell? ⟨w.heap.size,i,none⟩=#[.slice A1 a.facts.length c1,.slice A2 a.atoms.length c2][i]?)∧(∀ i,w'.cell? ⟨w.heap.size+1,i,none⟩=#[.slice A3 b.facts.length c3,.slice A4 b.atoms.length c4][i]?))) (by kernel_rfl) (⟨Blk.cell blks,Blk.cell blks⟩) (fun aH=>?_);refine tk2 0 rfl aH (h:=tk2 1 rfl aH (h:=tk2 2 rfl aH (h:=?_)));refine rdc 3 rfl fun K hK=>?_;(try simp only[zz]);(go_simp;refine (c_fits9 A3 B c3 cc b.facts c _ (H3.o.bz bel) (HI.o.bz bel) HC.o HBV.o.1).mono ?_;rintro e w1 ⟨rfl,rfl⟩;rw[HF.o]);refine hK.out _ _ (⟨Blk.cell blks,Blk.cell blks⟩) ?_;clear aH hK K;intro aH;(try simp only[zz]);refine tk2 4 rfl aH (h:=?_);(try simp only[zz]);refine tku 5 rfl aH ?_;(try simp only[zz]);refine tku 6 rfl aH ?_;(try simp only[zz]);refine tku 7 rfl aH ?_;(try simp only[zz]);refine tku 8 rfl aH ?_;(try simp only[zz]);refine tku 9 rfl aH ?_;(try simp only[zz]);refine tku 10 rfl aH ?_;(try simp only[zz]);refine tku 11 rfl aH ?_;(try simp only[zz]);refine tku 12 rfl aH ?_;(try simp only[zz]);refine tku 13 rfl aH ?_;(try simp only[zz]);refine tk2 14 rfl aH (h:=tk2 15 rfl aH (h:=?_));(try simp only[zz]);refine dn1 ?_;(go_wp2_with fail);go_ret;exact ⟨ret_bool (by rw[E.o]),bel⟩
 ·have E:aJ (caseB a b c=matchB (filledL a.atoms c) (filledL b.atoms c)):=by show _=_;rw[HE.o,hf];rfl
  have HF:=ax hf;clear hf;refine wp_region_noPanic ?_;refine wp_region_held_drew (S:=(fun w'=>(∀ i,w'.cell? ⟨w.heap.size,i,none⟩=#[.slice A1 a.facts.length c1,.slice A2 a.atoms.length c2][i]?)∧(∀ i,w'.cell? ⟨w.heap.size+1,i,none⟩=#[.slice A3 b.facts.length c3,.slice A4 b.atoms.length c4][i]?))) (by kernel_rfl) (⟨Blk.cell blks,Blk.cell blks⟩) (fun aH=>?_);refine tk2 0 rfl aH (h:=tk2 1 rfl aH (h:=tk2 2 rfl aH (h:=?_)));refine rdc 3 rfl fun K hK=>?_;(try simp only[zz]);(go_simp;refine (c_fits9 A3 B c3 cc b.facts c _ (H3.o.bz bel) (HI.o.bz bel) HC.o HBV.o.1).mono ?_;rintro e w1 ⟨rfl,rfl⟩;rw[HF.o]);refine hK.out _ _ (⟨Blk.cell blks,Blk.cell blks⟩) ?_;clear aH hK K;intro aH;(try simp only[zz]);refine tk2 4 rfl aH (h:=tk2 5 rfl aH (h:=tk2 6 rfl aH (h:=?_)));(try simp only[zz]);refine tk2 7 rfl aH (h:=tk2 9 rfl aH (h:=tk2 10 rfl aH (h:=?_)));(try simp only[zz]);refine tk2 11 rfl aH (h:=?_);refine rdc 8 rfl fun K hK=>?_;(try simp only[zz]);(go_simp;refine (c_filled9 A2 B c2 cc a.atoms c _ (H2.o.bz bel) (HI.o.bz bel) HC.o HA.o.2).mono ?_;rintro e w2 ⟨r2,rfl,o2,hB2⟩;obtain ⟨X2,x2,rfl,v2⟩:=o2.reads;have hBx:=bgo (w:=w) bel hB2;replace k0:=Blk.nz (g:=w.heap.size) blks hB2;replace k1:=Blk.nz (g:=w.heap.size+1) blks hB2);refine hK.out _ _ (⟨Blk.cell blks,Blk.cell blks⟩) ?_;clear aH hK K;intro aH;refine rdc 12 rfl fun K hK=>?_;(try simp only[zz]);(go_simp;refine (c_filled9 A4 B c4 cc b.atoms c _ (H4.o.bz bel) (HI.o.bz bel) HC.o HBV.o.2).mono ?_;rintro e w3 ⟨r3,rfl,o3,hB3⟩;obtain ⟨X3,x3,rfl,v3⟩:=o3.reads;have hz3:=hB3.size;have hBy:=bgo (w:=w) hBx hB3;have v2':=v2.bz hB3;replace k0:=Blk.nz (g:=w.heap.size) blks hB3;replace k1:=Blk.nz (g:=w.heap.size+1) blks hB3);refine hK.out _ _ (⟨Blk.cell blks,Blk.cell blks⟩) ?_;clear aH hK K;intro aH;refine rdc 13 rfl fun K hK=>?_;(try simp only[zz]);(go_simp;refine (c_spec_l6Match X2 X3 x2 x3 (filledL a.atoms c) (filledL b.atoms c) _ (AtomsV.bz v2' bel) (AtomsV.bz v3 bel) (by first|omega|(simp;omega)) (by first|exact Nat.le_refl _|(simp)) (by have:=HXL.o;omega) HGO.o).mono ?_;rintro e w4 ⟨rfl,hB4⟩;have hBz:=bgo (w:=w) hBy hB4;replace k0:=Blk.nz (g:=w.heap.size) blks hB4;replace k1:=Blk.nz (g:=w.heap.size+1) blks hB4);refine hK.out _ _ (⟨Blk.cell blks,Blk.cell blks⟩) ?_;clear aH hK K;intro aH;(try simp only[zz]);refine tk2 14 rfl aH (h:=tk2 15 rfl aH (h:=?_));(try simp only[zz]);refine dn1 ?_;(go_wp2_with fail);go_ret;exact ⟨ret_bool (by rw[E.o]),hBz⟩
end
section
open Go
theorem caseB_ent {a b:Asn} (hb:b.valid=true) {c:List Int} (hc:c∈cases a (caseS a (tset (termsL b)))):caseB a b c=entB a b c:=by
 have hok:=Asn.valid_ok hb
 have hpos:∀ t∈termsL b,0≤t∧t≤8→0≤cl c t:=by
  intro t ht h8;obtain ⟨n,rfl⟩:=Int.eq_ofNat_of_zero_le h8.1;refine ((CaseT.pos (a:=a) ⟨c,hc⟩ n (by omega)).1 ?_).1;rw[caseS_bit]
  have:(tset (termsL b)).testBit n=true:=by
   rw[tset_bit];simp only[decide_eq_true_eq];exact ⟨termsL_ok hb _ ht,ht⟩
  simp[this]
 unfold caseB entB
 congr 1
 unfold fitsS
 have e:∀ f∈b.facts,(!(decide (0≤cl c f.a)&&decide (0≤cl c f.b) && !f.fits c))=f.fits c:=by
  intro f hf;have h1:=hok.1 f hf;have ht:=termsL_facts hf;rw[decide_eq_true (hpos _ ht.1 h1.1),decide_eq_true (hpos _ ht.2 h1.2)];simp
 rw[Bool.eq_iff_iff,List.all_eq_true,List.all_eq_true];constructor
 ·intro h f hf;rw[←e f hf];exact h f hf
 ·intro h f hf;rw[e f hf];exact h f hf
theorem head_filter {α:Type} (p:α→Bool) (l:List α):(l.filter p).head? = l.find? p:=by
 induction l with
 | nil=>rfl
 | cons x xs ih=>cases h:p x<;>simp[List.filter_cons,List.find?_cons,h,ih]
theorem failF_eq {a b:Asn} (hb:b.valid=true):((cases a (caseS a (tset (termsL b)))).filter fun c=>!caseB a b c).head? = failF a b:=by
 rw[head_filter];unfold failF
 have:∀ (l:List (List Int)),(∀ c∈l,caseB a b c=entB a b c)→(l.find? fun c=>!caseB a b c)=l.find? fun c=>!entB a b c:=by
  intro l
  induction l with
  | nil=>intro _;rfl
  | cons x xs ih=>
   intro h;rw[List.find?_cons,List.find?_cons,h x List.mem_cons_self,ih fun y hy=>h y (List.mem_cons_of_mem _ hy)]
 exact this _ fun c hc=>caseB_ent hb hc
end
section
open Go Go.RowKit Go.Proofs
attribute [local go_sem ↓] Go.wp_at_zero Go.wp_at_succ
theorem c_spec_l6Both {lo hi lo' hi':Nat} (v v':Value) (a b:Asn) (w:World) (h:AsnV w lo hi v a) (h':AsnV w lo' hi' v' b) (hn1:a.facts.length+b.facts.length≤1049600) (hn2:a.atoms.length+b.atoms.length≤1049600) (ht:∀ t∈termsL (starA a b),isTermB t=true) :
  Calls Tryz.prog 194 #[v,v'] w fun e w'=>∃ r,e=.returned r∧BoolsO w' w.heap.size r (flagsOf (tset (termsL (starA a b))))∧Below w.heap.size w w':=by
 obtain ⟨A1,c1,A2,c2,rfl,h1,h2⟩:=h;obtain ⟨A3,c3,A4,c4,rfl,h3,h4⟩:=h';(go_enter Tryz.func194,Tryz.ntmps194);have HTT:=ax ht;clear ht;have hB:Below w.heap.size w ((w.alloc (.cells #[.slice A1 a.facts.length c1,.slice A2 a.atoms.length c2] 36)).alloc (.cells #[.slice A3 b.facts.length c3,.slice A4 b.atoms.length c4] 36)):=bel;have k0:Blk ((w.alloc (.cells #[.slice A1 a.facts.length c1,.slice A2 a.atoms.length c2] 36)).alloc (.cells #[.slice A3 b.facts.length c3,.slice A4 b.atoms.length c4] 36)) w.heap.size tAs #[.slice A1 a.facts.length c1,.slice A2 a.atoms.length c2]:=blks;have k1:Blk ((w.alloc (.cells #[.slice A1 a.facts.length c1,.slice A2 a.atoms.length c2] 36)).alloc (.cells #[.slice A3 b.facts.length c3,.slice A4 b.atoms.length c4] 36)) (w.heap.size+1) tAs #[.slice A3 b.facts.length c3,.slice A4 b.atoms.length c4]:=blks;(go_wp2_with fail);have hz:=k1.lt;generalize ((w.alloc (.cells #[.slice A1 a.facts.length c1,.slice A2 a.atoms.length c2] 36)).alloc (.cells #[.slice A3 b.facts.length c3,.slice A4 b.atoms.length c4] 36))=W at k0 k1 hB hz ⊢;have tok3:True:=trivial;have tok6:True:=trivial;have tok10:True:=trivial;have tok13:True:=trivial;have tok15:True:=trivial
 go_region_held3 (fun w'=>(∀ i,w'.cell? ⟨w.heap.size,i,none⟩=#[.slice A1 a.facts.length c1,.slice A2 a.atoms.length c2][i]?)∧(∀ i,w'.cell? ⟨w.heap.size+1,i,none⟩=#[.slice A3 b.facts.length c3,.slice A4 b.atoms.length c4][i]?))
  (exact ⟨Blk.cell blks,Blk.cell blks⟩)
  (first
   | (have _t:=tok3;clear _t tok3;refine stepFL (xs:=[]) rfl _ _ rfl rfl (FactsO.ofBlk (base:=w.heap.size) blks (by first|omega|(simp;omega))) rfl (h1.bz bel) (by first|omega|(simp;omega)) (by first|omega|(simp;omega)) ?_;intro F1 e1 w1 hO1 hg1 hB1;have hBw1:Below w.heap.size w w1:=Below.trans bel hB1;simp only[List.nil_append] at hO1;have m10:=Blk.grownO (g:=w.heap.size) (hg:=hg1) blks (FactsO.ofBlk (base:=w.heap.size) blks (by first|omega|(simp;omega))).1 (by decide);have m11:=Blk.grownO (g:=w.heap.size+1) (hg:=hg1) blks (FactsO.ofBlk (base:=w.heap.size) blks (by first|omega|(simp;omega))).1 (by decide);have lt1:=m11.lt;(try (have za:Blk w1 (W.heap.size+1) tA #[]:=?zz;case zz=>(refine Blk.grownO (hg:=hg1) ?_ (FactsO.ofBlk (base:=w.heap.size) blks (by first|omega|(simp;omega))).1 (by decide);(repeat (first|(with_reducible assumption)|(with_reducible exact Blk.new _ _ _)|((with_reducible apply Blk.far);(case hp=>(first|exact Nat.le_refl _|(simp;done)|(simp;omega)|(simp only;omega)|omega)))|(with_reducible apply Blk.set_)|((with_reducible refine Blk.newE ?_);(simp;done))|(with_reducible apply Blk.alloc)|(with_reducible apply Blk.drew)|(with_reducible apply Blk.drewN)));done)));(try (have za:Blk w1 W.heap.size tA #[]:=?zz;case zz=>(refine Blk.grownO (hg:=hg1) ?_ (FactsO.ofBlk (base:=w.heap.size) blks (by first|omega|(simp;omega))).1 (by decide);(repeat (first|(with_reducible assumption)|(with_reducible exact Blk.new _ _ _)|((with_reducible apply Blk.far);(case hp=>(first|exact Nat.le_refl _|(simp;done)|(simp;omega)|(simp only;omega)|omega)))|(with_reducible apply Blk.set_)|((with_reducible refine Blk.newE ?_);(simp;done))|(with_reducible apply Blk.alloc)|(with_reducible apply Blk.drew)|(with_reducible apply Blk.drewN)));done))))
   | (have _t:=tok6;clear _t tok6;refine stepFL (xs:=a.facts) rfl _ _ rfl rfl (FactsO.bz (w:=w1) hO1 bel) rfl (h3.bz bel) (by first|omega|(simp;omega)) (by first|omega|(simp;omega)) ?_;intro F2 e2 w2 hO2 hg2 hB2;have hBw2:Below w.heap.size w w2:=Below.trans bel hB2;have m20:=Blk.grownO (g:=w.heap.size) (hg:=hg2) blks (FactsO.bz (w:=w1) hO1 bel).1 (by decide);have m21:=Blk.grownO (g:=w.heap.size+1) (hg:=hg2) blks (FactsO.bz (w:=w1) hO1 bel).1 (by decide);have lt2:=m21.lt;(try (have zb:Blk w2 w1.heap.size tA #[]:=?zz;case zz=>(refine Blk.grownO (hg:=hg2) ?_ (FactsO.bz (w:=w1) hO1 bel).1 (by decide);(repeat (first|(with_reducible assumption)|(with_reducible exact Blk.new _ _ _)|((with_reducible apply Blk.far);(case hp=>(first|exact Nat.le_refl _|(simp;done)|(simp;omega)|(simp only;omega)|omega)))|(with_reducible apply Blk.set_)|((with_reducible refine Blk.newE ?_);(simp;done))|(with_reducible apply Blk.alloc)|(with_reducible apply Blk.drew)|(with_reducible apply Blk.drewN)));done)));(try (have zb:=Blk.grownO (hg:=hg2) (Blk.nz za bel) (FactsO.bz (w:=w1) hO1 bel).1 (by decide))))
   | (have _t:=tok10;clear _t tok10;refine stepAL (xs:=[]) rfl _ _ rfl rfl (AtomsO.ofBlk (base:=w.heap.size) blks (by first|omega|(simp;omega))) rfl (h2.bz bel) (by first|omega|(simp;omega)) (by first|omega|(simp;omega)) ?_;intro F3 e3 w3 hO3 hg3 hB3;have hBw3:Below w.heap.size w w3:=Below.trans bel hB3;simp only[List.nil_append] at hO3;have m30:=Blk.grownO (g:=w.heap.size) (hg:=hg3) blks (AtomsO.ofBlk (base:=w.heap.size) blks (by first|omega|(simp;omega))).1 (by decide);have m31:=Blk.grownO (g:=w.heap.size+1) (hg:=hg3) blks (AtomsO.ofBlk (base:=w.heap.size) blks (by first|omega|(simp;omega))).1 (by decide);have lt3:=m31.lt;have hP3:=FactsO.grownA (FactsO.bz (w:=w2) hO2 bel) (AtomsO.ofBlk (base:=w.heap.size) blks (by first|omega|(simp;omega))) hg3)
   | (have _t:=tok13;clear _t tok13;refine stepAL (xs:=a.atoms) rfl _ _ rfl rfl (AtomsO.bz (w:=w3) hO3 bel) rfl (h4.bz bel) (by first|omega|(simp;omega)) (by first|omega|(simp;omega)) ?_;intro F4 e4 w4 hO4 hg4 hB4;have hBw4:Below w.heap.size w w4:=Below.trans bel hB4;have m40:=Blk.grownO (g:=w.heap.size) (hg:=hg4) blks (AtomsO.bz (w:=w3) hO3 bel).1 (by decide);have m41:=Blk.grownO (g:=w.heap.size+1) (hg:=hg4) blks (AtomsO.bz (w:=w3) hO3 bel).1 (by decide);have lt4:=m41.lt;have hP4:=FactsO.grownA (FactsO.bz (w:=w3) hP3 bel) (AtomsO.bz (w:=w3) hO3 bel) hg4)
   | (have _t:=tok15;clear _t tok15;go_at_call 77;have hS:AsnO w4 w.heap.size (.agg #[.slice F2 (a.facts.length+b.facts.length) e2,.slice F4 (a.atoms.length+b.atoms.length) e4]) (starA a b):=(⟨_,_,rfl,(by first|exact hP4|(rw[←List.length_append];exact hP4)),(by first|exact hO4|(rw[←List.length_append];exact hO4))⟩);refine (c_spec_l3Terms _ (starA a b) w4 hS.reads HTT.o).mono ?_;rintro e w5 ⟨r5,rfl,o5,hB5⟩;have hBw5:Below w.heap.size w w5:=bgo hBw4 hB5;have m50:=m40.nz hB5;have m51:=m41.nz hB5;have lt5:=m51.lt;have hz5:=hBw4.size))
 all_goals
  (go_wp2_with fail);go_ret;exact ⟨r5,rfl,o5.lower hz5,hBw5⟩
def seekF (a b:Asn) (S n:Nat) (c:List Int):List (List Int):=(seek a S n c).filter fun d=>!caseB a b d
def seekFAt (a b:Asn) (S n:Nat) (c:List Int) (k:Nat):List (List Int):=if k<8 - n∧cl c k≠k then [] else seekF a b S n (c.set (8 - n) k)
theorem seekF_cut {a b:Asn} {S:Nat} (n:Nat) {c:List Int} (h:(fitsS c a.facts&&earlyF c [] a.atoms)=false):seekF a b S n c=[]:=by
 unfold seekF;rw[seek_cut n h];rfl
theorem seekF_leaf {a b:Asn} {S:Nat} {c:List Int} (h:(fitsS c a.facts&&earlyF c [] a.atoms)=true):seekF a b S 0 c=if apartF [] (filledL a.atoms c) then (if caseB a b c then [] else [c]) else []:=by
 unfold seekF;rw[seek_leaf h];cases apartF [] (filledL a.atoms c)<;>cases e:caseB a b c<;>simp[e]
theorem seekF_step {a b:Asn} {S n:Nat} {c:List Int} (h:(fitsS c a.facts&&earlyF c [] a.atoms)=true):seekF a b S (n+1) c=if S.testBit (8 - n) then (List.range (9 - n)).flatMap (seekFAt a b S n c) else seekF a b S n c:=by
 unfold seekF;rw[seek_step h]
 split
 ·rw[List.filter_flatMap];apply flatMap_congr';intro k _;unfold seekAt seekFAt seekF
  split<;>rfl
 ·rfl
theorem c_spec_l6Seek {a b:Asn} {S lo hi lo2 hi2 lo3 hi3:Nat} {A1 A2 A3 A4:Option Addr} {d1 d2 d3 d4:Nat} (T:Option Addr) (tc:Nat) (hv:a.valid=true) (hvb:b.valid=true) :
  ∀ (n:Nat) (c:List Int) (B:Option Addr) (cc lo' hi':Nat) (w:World),n≤8→c.length=9→(∀ j:Nat,j<9 - n→S.testBit j=true→0≤cl c j∧cl c j≤j)→(∀ j:Nat,j<9→cl c j≤8)→
   AsnV w lo hi (.agg #[.slice A1 a.facts.length d1,.slice A2 a.atoms.length d2]) a→AsnV w lo3 hi3 (.agg #[.slice A3 b.facts.length d3,.slice A4 b.atoms.length d4]) b→BoolsV w lo2 hi2 T (flagsOf S)→IntsV w lo' hi' B c→
   Calls Tryz.prog 193 #[.agg #[.slice A1 a.facts.length d1,.slice A2 a.atoms.length d2],.agg #[.slice A3 b.facts.length d3,.slice A4 b.atoms.length d4],.slice T 9 tc,.slice B 9 cc,.int .i64 ((9 - n:Nat):Int)] w fun e w'=>
    ∃ r,e=.returned (.tuple #[r,.bool (!(seekF a b S n c).isEmpty)])∧IntsO w' w.heap.size r (firstI (seekF a b S n c))∧Below w.heap.size w w':=by
 intro n
 induction n with
 | zero=>
  intro c B cc lo' hi' w hn hc _ hc8 hA hAb hT hI;have HO0:=ax hv;have HO:=ax (Asn.valid_ok hv);have hV:=ax hA;have hVb:=ax hAb;have HVB:=ax hvb;have HC:=ax hc;have HI:=ax hI
  have HCL:aJ (∀ x∈a.atoms,cl c x.a≤8):=fun x hx=>by
   have:=(HO.o.2 x hx).1;obtain ⟨t,et⟩:=Int.eq_ofNat_of_zero_le this.1;rw[et];exact hc8 t (by omega)
  obtain ⟨B1,e1,B2,e2,he,h1,h2⟩:=hA;injection he with he;injection he with he;injection he with he1 he2;injection he2 with he2 he3;injection he1 with he1 _ he4;injection he2 with he2 _ he5;subst he1 he4 he2 he5;have H1:=ax h1;have H2:=ax h2;have hvl:=valid_len hv;clear h1 h2 hc hc8 hT hI he3 hAb;(go_enter Tryz.func193,Tryz.ntmps193);(go_wp2_with fail);refine (c_fits9 A1 B d1 cc a.facts c _ (H1.o.bz bel) (HI.o.bz bel) HC.o HO.o.1).mono ?_;rintro e w1 ⟨rfl,rfl⟩;cases hf:fitsS c a.facts
  ·have E:=ax (seekF_cut (a:=a) (b:=b) (S:=S) 0 (c:=c) (by rw[hf];rfl));clear hf;(go_wp2_with fail);go_ret2;exact ⟨_,by rw[E.o];rfl,by rw[E.o];exact IntsO.lower (IntsO.empty _ (by first|rfl|simp)) (by first|omega|simp),bel⟩
  have HF:=ax hf;clear hf;(go_wp2_with fail);refine (c_early9 A2 B d2 cc a.atoms c _ (H2.o.bz bel) (HI.o.bz bel) HC.o HO.o.2 HCL.o).mono ?_;rintro e w2 ⟨rfl,hB2⟩;have hB:Below w.heap.size w w2:=bgo (w:=w) bel hB2;have k0:Blk w2 w.heap.size tAs #[.slice A1 a.facts.length d1,.slice A2 a.atoms.length d2]:=Blk.nz blks hB2;have kb:Blk w2 (w.heap.size+1) tAs #[.slice A3 b.facts.length d3,.slice A4 b.atoms.length d4]:=Blk.nz blks hB2;have q0:=k0.cell;have l0:=k0.lt;have qb:=kb.cell;have lb:=kb.lt;clear hB2;cases he:earlyF c [] a.atoms
  ·have E:=ax (seekF_cut (a:=a) (b:=b) (S:=S) 0 (c:=c) (by rw[HF.o,he];rfl));clear he;(go_wp2_with fail);go_ret2;exact ⟨_,by rw[E.o];rfl,by rw[E.o];exact IntsO.lower (IntsO.empty _ rfl) (by omega),bel⟩
  have E0:=ax (seekF_leaf (a:=a) (b:=b) (S:=S) (c:=c) (by rw[HF.o,he];rfl));clear he;(go_wp2_with fail);refine (c_filled9 A2 B d2 cc a.atoms c _ (H2.o.bz hB) (HI.o.bz hB) HC.o HO.o.2).mono ?_;rintro e w3 ⟨r3,rfl,o3,hB3⟩;obtain ⟨R3,e3,rfl,v3⟩:=o3.reads;have hBB:Below w.heap.size w w3:=bgo hB hB3;(go_wp2_with fail);refine (c_spec_l5Apart R3 e3 (filledL a.atoms c) _ v3).mono ?_;rintro e w4 ⟨rfl,hB4⟩;have hB5:Below w.heap.size w w4:=bgo hBB hB4;have hz:=hB5.size;replace k0:=(k0.nz hB3).nz hB4;replace kb:=(kb.nz hB3).nz hB4;(replace qk0:=k0.z;replace qkb:=kb.z);clear o3 v3 hB3 hB4 hBB q0 l0 qb lb hB;cases hap:apartF [] (filledL a.atoms c)
  ·have E:=ax (show seekF a b S 0 c=[] by rw[E0.o,hap];rfl);clear hap;(go_wp2_with fail);go_ret2;exact ⟨_,by rw[E.o];rfl,by rw[E.o];exact IntsO.lower (IntsO.empty _ rfl) (by omega),bel⟩
  have E1:=ax (show seekF a b S 0 c=if caseB a b c then [] else [c] by rw[E0.o,hap];cases caseB a b c<;>rfl);clear hap;(go_wp2_with fail);refine (c_spec_l6Case _ _ B cc a b c _ (hV.o.bz hB5) (hVb.o.bz hB5) (HI.o.bz hB5) HO0.o HVB.o HC.o).mono ?_;rintro e w5 ⟨rfl,hB6⟩;have hB7:Below w.heap.size w w5:=bgo hB5 hB6;replace hz:=hB7.size;clear hB6 hB5 k0 kb qk0 qkb;cases hcb:caseB a b c
  ·have E:=ax (show seekF a b S 0 c=[c] by rw[E1.o,hcb];rfl);clear hcb;(go_wp2_with (at_builtin;refine appIL (ys:=c) rfl _ _ rfl (v:=.slice (some ⟨w5.heap.size,0,none⟩) 0 0) rfl (IntsO.empty w5 rfl) (by rw[HC.o];rfl) (HI.o.bz bel) (by rw[HC.o];simp) (by simp) ?_;intro A' c' w6 o6 hg6 hB8;rw[List.nil_append,HC.o]));go_ret2;exact ⟨_,by rw[E.o];rfl,by rw[E.o];rw[List.nil_append,HC.o] at o6;exact o6.lower hz,Below.trans bel (hB8.mono hz)⟩
  ·have E:=ax (show seekF a b S 0 c=[] by rw[E1.o,hcb];rfl);clear hcb;(go_wp2_with fail);go_ret2;exact ⟨_,by rw[E.o];rfl,by rw[E.o];exact IntsO.lower (IntsO.empty _ rfl) (by omega),bel⟩
 | succ n ih=>
  intro c B cc lo' hi' w hn hc hcl hc8 hA hAb hT hI;have HO0:=ax hv;have HO:=ax (Asn.valid_ok hv);have hV:=ax hA;have hVb:=ax hAb;have HVB:=ax hvb;have HC:=ax hc;have HI:=ax hI;have HTT:=ax hT;have HC8:=ax hc8;have HCL0:=ax hcl;have IH:=ax ih
  have HCL:aJ (∀ x∈a.atoms,cl c x.a≤8):=fun x hx=>by
   have:=(HO.o.2 x hx).1;obtain ⟨t,et⟩:=Int.eq_ofNat_of_zero_le this.1;rw[et];exact hc8 t (by omega)
  obtain ⟨B1,e1,B2,e2,he,h1,h2⟩:=hA;injection he with he;injection he with he;injection he with he1 he2;injection he2 with he2 he3;injection he1 with he1 _ he4;injection he2 with he2 _ he5;subst he1 he4 he2 he5;have H1:=ax h1;have H2:=ax h2;obtain ⟨tb,tz0,rfl,ltb⟩:=flags_addr hT;obtain ⟨pb,ob,rfl,lpb⟩:=hI.blt (k:=0) (by omega);obtain ⟨m,hm8⟩:∃ m,m=8 - n:=⟨_,rfl⟩;have E1:aJ (((9 - n:Nat):Int)=(m:Int)+1):=by show _=_;omega
  rw[show 9 - (n+1)=m from by omega] at HCL0 ⊢;have HM8:=ax hm8;have HN:=ax hn;have hmg:¬(8<(m:Int)):=by omega
  have hmi9:(m:Int)<9:=by omega
  clear h1 h2 hc hc8 hcl hT hI he3 ih hm8 hn hAb;(go_enter Tryz.func193,Tryz.ntmps193);(go_wp2_with fail);refine (c_fits9 A1 _ d1 cc a.facts c _ (H1.o.bz bel) (HI.o.bz bel) HC.o HO.o.1).mono ?_;rintro e w1 ⟨rfl,rfl⟩;cases hf:fitsS c a.facts
  ·have E:=ax (seekF_cut (a:=a) (b:=b) (S:=S) (n+1) (c:=c) (by rw[hf];rfl));clear hf;(go_wp2_with fail);go_ret2;exact ⟨_,by rw[E.o];rfl,by rw[E.o];exact IntsO.lower (IntsO.empty _ (by first|rfl|simp)) (by first|omega|simp),bel⟩
  have HF:=ax hf;clear hf;(go_wp2_with fail);refine (c_early9 A2 _ d2 cc a.atoms c _ (H2.o.bz bel) (HI.o.bz bel) HC.o HO.o.2 HCL.o).mono ?_;rintro e w2 ⟨rfl,hB2⟩;have hB:Below w.heap.size w w2:=bgo (w:=w) bel hB2;have k0:Blk w2 w.heap.size tAs #[.slice A1 a.facts.length d1,.slice A2 a.atoms.length d2]:=Blk.nz blks hB2;have kb:Blk w2 (w.heap.size+1) tAs #[.slice A3 b.facts.length d3,.slice A4 b.atoms.length d4]:=Blk.nz blks hB2;have q0:=k0.cell;have l0:=k0.lt;have qb:=kb.cell;have lb:=kb.lt;clear hB2;cases he:earlyF c [] a.atoms
  ·have E:=ax (seekF_cut (a:=a) (b:=b) (S:=S) (n+1) (c:=c) (by rw[HF.o,he];rfl));clear he;(go_wp2_with fail);go_ret2;exact ⟨_,by rw[E.o];rfl,by rw[E.o];exact IntsO.lower (IntsO.empty _ rfl) (by omega),bel⟩
  have E0:=ax (seekF_step (a:=a) (b:=b) (S:=S) (n:=n) (c:=c) (by rw[HF.o,he];rfl));clear he;have qt:=flags_at (HTT.o.bz hB) (m:=m) (by omega);cases ht:S.testBit m
  ·rw[ht] at qt;have E:aJ (seekF a b S (n+1) c=seekF a b S n c):=by show _=_;rw[E0.o,←HM8.o,ht];rfl
   have ih1:=IH.o c _ cc _ _ w2 (by have:=HN.o;omega) HC.o (fun j hj hS=>by
    by_cases e:j=m
    ·subst e;rw[ht] at hS;cases hS
    ·exact HCL0.o j (by have:=HM8.o;have:=HN.o;omega) hS) HC8.o (hV.o.bz hB) (hVb.o.bz hB) (HTT.o.bz hB) (HI.o.bz hB)
   rw[E1.o] at ih1;have IH1:=ax ih1;clear ih1 ht;(go_wp2_with fail);refine IH1.o.mono ?_;rintro e w3 ⟨r,rfl,o3,hB3⟩;have O3:=ax o3;have hz:=hB.size;clear o3;(go_wp2_with fail);go_ret2;exact ⟨r,by rw[E.o];rfl,by rw[E.o];exact O3.o.lower hz,bgo hB hB3⟩
  ·rw[ht] at qt;have E:aJ (seekF a b S (n+1) c=(List.range (9 - n)).flatMap (seekFAt a b S n c)):=by show _=_;rw[E0.o,←HM8.o,ht];rfl
   clear ht;(go_wp2_with fail)
   go_loopw [12] (fun i wr=>∃ k:Nat,k≤m+1∧i=.int .i64 k∧aJ ((List.range k).flatMap (seekFAt a b S n c)=[])∧Blk wr w.heap.size tAs #[.slice A1 a.facts.length d1,.slice A2 a.atoms.length d2]∧Blk wr (w.heap.size+1) tAs #[.slice A3 b.facts.length d3,.slice A4 b.atoms.length d4]∧Below w.heap.size w wr) (fun i _=>9 - (intOf i).toNat)
   case atStart=>exact ⟨0,Nat.zero_le _,rfl,rfl,k0,kb,hB⟩
   case round=>
    clear k0 kb hB q0 l0 qb lb qt;obtain ⟨k,hk,rfl,HP,k0,kb,hB⟩:=hrel;have q0:=k0.cell;have l0:=k0.lt;have qb:=kb.cell;have lb:=kb.lt;have hz:=hB.size;by_cases hlt:k≤m
    ·have hki:(k:Int)≤(m:Int):=by omega
     have hk9:(k:Int)<9:=by omega
     have hkc:=ints_cl (HI.o.bz hB) (m:=k) (by rw[HC.o];omega);have HNX:aJ ((List.range (k+1)).flatMap (seekFAt a b S n c)=seekFAt a b S n c k):=by show _=_;rw[List.range_succ,List.flatMap_append,HP.o];simp
     by_cases hskip:k<m∧cl c k≠k
     ·have HX:aJ (seekFAt a b S n c k=[]):=by show _=_;rw[seekFAt,if_pos (by rw[←HM8.o];exact hskip)]
      have hkm:(k:Int)<(m:Int):=by omega
      have hne:(cl c k != (k:Int))=true:=by simpa using hskip.2
      clear hskip hki hlt;(go_wp2_with fail)
      go_round
      case rel=>exact ⟨k+1,by omega,by go_num,by show _=_;rw[HNX.o,HX.o],k0,kb,hB⟩
      case measure=>simp[intOf];omega
     ·have hsk2:k<m→(cl c k != (k:Int))=false:=fun h=>by
       cases Int.decEq (cl c k) k with
       | isTrue h=>simp[h]
       | isFalse h'=>exact absurd ⟨h,h'⟩ hskip
      have HX:aJ (seekFAt a b S n c k=seekF a b S n (c.set m k)):=by
       show _=_;rw[seekFAt,←HM8.o,if_neg hskip]
      clear hskip;have hcs:(c.set m (k:Int)).length=9:=by simpa using HC.o
      have HCS:=ax hcs
      have hcl':∀ j:Nat,j<9 - n→S.testBit j=true→0≤cl (c.set m (k:Int)) j∧cl (c.set m (k:Int)) j≤j:=fun j hj hSj=>by
       have:=HM8.o;have:=HN.o;rw[cl_set HC.o (by omega) _ (by omega)]
       split
       ·omega
       ·exact HCL0.o j (by omega) hSj
      have HCL':=ax hcl'
      have hc8':∀ j:Nat,j<9→cl (c.set m (k:Int)) j≤8:=fun j hj=>by
       rw[cl_set HC.o (by omega) _ (by omega)]
       split
       ·omega
       ·exact HC8.o j hj
      have HC8':=ax hc8';clear hcl' hc8' hcs;obtain hkm|hkm:k<m∨k=m:=by omega
      case' inl=>have h1:(k:Int)<(m:Int):=by omega
      case' inl=>have h2:=hsk2 hkm
      case' inr=>have h1:¬(k:Int)<(m:Int):=by omega
      all_goals
       clear hkm hsk2;(go_wp2_with (at_builtin;refine appIL (ys:=c) (base:=wr.heap.size) rfl _ _ rfl (v:=.slice (some ⟨wr.heap.size,0,none⟩) 0 0) rfl (IntsO.empty wr rfl) (by rw[HC.o];rfl) (HI.o.bz bel) (by rw[HC.o];simp) (by simp) ?_;intro A' c' w5 o5 hg5 hB6;rw[List.nil_append,HC.o] at o5 ⊢;obtain ⟨g,cur,-,rfl,hgb,kg,hcm,hset⟩:=o5.open_ (k:=m) (by rw[HC.o];omega);have qg:=(kg.cell m).trans hcm;have rg:=kg.frozen;have lg:=kg.lt;have HSET:=ax (hset k);have k5:=Blk.bz (g:=w.heap.size) (w:=wr.alloc (.cells #[] tI)) (k0.alloc _) hB6 l0;have hB5:Below w.heap.size w w5:=Below.trans bel (hB6.mono (by omega));have k6:=k5.far (p:=⟨g,m,none⟩) (by simp only;omega) (.int .i64 k);have kb5:=Blk.bz (g:=w.heap.size+1) (w:=wr.alloc (.cells #[] tI)) (kb.alloc _) hB6 lb;have kb6:=kb5.far (p:=⟨g,m,none⟩) (by simp only;omega) (.int .i64 k);have qb6:=kb6.cell;have q6:=k6.cell;clear hset o5 kg hcm q0 qb hg5));have hB7:Below w.heap.size w (w5.setCell ⟨g,m,none⟩ (.int .i64 k)):=hB5.setCell (p:=⟨g,m,none⟩) (by simp only;omega) _;have hz7:=hB7.size;have v7:=HSET.o.readsI.2;have ih1:=IH.o (c.set m (k:Int)) _ c' _ _ _ (by have:=HN.o;omega) HCS.o HCL'.o HC8'.o (hV.o.bz hB7) (hVb.o.bz hB7) (HTT.o.bz hB7) v7;rw[E1.o] at ih1;refine ih1.mono ?_;clear ih1 v7 q6 k5 qg rg qb6 kb5;rintro e w8 ⟨r,rfl,o8,hB8⟩;have O8:=ax o8;have k8:=k6.nz hB8;have kb8:=kb6.nz hB8;have hBn:=bgo hB7 hB8;clear o8 hB8 k6 kb6 hB7 hB5 hB6;cases hem:(seekF a b S n (c.set m (k:Int))).isEmpty
       ·have hne:seekFAt a b S n c k≠[]:=by rw[HX.o];intro h;rw[h] at hem;cases hem
        obtain ⟨y,y1,y2⟩:=flatMap_first (N:=9 - n) (by have:=HM8.o;have:=HN.o;omega) HP.o hne;rw[HX.o] at y1
        have E2:aJ ((seekF a b S (n+1) c).isEmpty=false∧firstI (seekF a b S (n+1) c)=firstI (seekF a b S n (c.set m (k:Int)))):=by
         refine ⟨?_,?_⟩
         ·rw[E.o]
          cases h:(List.range (9 - n)).flatMap (seekFAt a b S n c) with
          | nil=>rw[h] at y2;cases y2
          | cons _ _=>rfl
         ·unfold firstI;rw[E.o,y1,y2]
        clear hem hne y1 y2;(go_wp2_with fail);go_ret2;exact ⟨r,by rw[E2.o.1];rfl,by rw[E2.o.2];exact O8.o.lower hz7,hBn⟩
       ·have HX2:aJ (seekFAt a b S n c k=[]):=by show _=_;rw[HX.o];simpa using hem
        clear hem;(go_wp2_with fail)
        go_round
        case rel=>exact ⟨k+1,by omega,by go_num,by show _=_;rw[HNX.o,HX2.o],k8,kb8,hBn⟩
        case measure=>simp[intOf];omega
    ·obtain rfl:k=m+1:=by omega
     have E2:aJ (seekF a b S (n+1) c=[]):=by show _=_;rw[E.o,show 9 - n=m+1 from by have:=HM8.o;have:=HN.o;omega];exact HP.o
     (go_wp2_with fail);go_ret2;exact ⟨_,by rw[E2.o];rfl,by rw[E2.o];exact IntsO.lower (IntsO.empty _ rfl) (by omega),bel⟩
def entF (a b:Asn):Bool:=a.valid&&b.valid && !(failF a b).isSome
theorem termsL_star (a b:Asn) (t:Int):t∈termsL (starA a b)↔t∈termsL a∨t∈termsL b:=by
 simp only[termsL,starA,List.flatMap_append,List.mem_append];constructor
 ·rintro ((h|h)|(h|h))<;>simp[h]
 ·rintro ((h|h)|(h|h))<;>simp[h]
theorem seekF_fail {a b:Asn} (ha:a.valid=true) (hb:b.valid=true):(!(seekF a b (tset (termsL (starA a b))) 8 opened).isEmpty)=(failF a b).isSome∧firstI (seekF a b (tset (termsL (starA a b))) 8 opened)=(failF a b).getD []:=by
 have e:seek a (tset (termsL (starA a b))) 8 opened=cases a (caseS a (tset (termsL b))):=by
  refine seek_caseS ha _ _ fun j h1 h2=>?_;rw[caseS_bit,tset_bit,tset_bit];have hj:¬j=0:=by omega
  rw[decide_eq_false hj,Bool.or_false,←Bool.decide_or,decide_eq_decide,termsL_star];constructor
  ·rintro ⟨g,h|h⟩
   ·exact Or.inl ⟨g,h⟩
   ·exact Or.inr ⟨g,h⟩
  ·rintro (⟨g,h⟩|⟨g,h⟩)
   ·exact ⟨g,Or.inl h⟩
   ·exact ⟨g,Or.inr h⟩
 unfold seekF firstI;rw[e,←failF_eq hb];cases (cases a (caseS a (tset (termsL b)))).filter fun d=>!caseB a b d<;>exact ⟨rfl,rfl⟩
theorem termsL_star_ok {a b:Asn} (ha:a.valid=true) (hb:b.valid=true):∀ t∈termsL (starA a b),isTermB t=true:=by
 intro t ht;rcases (termsL_star a b t).1 ht with h|h
 ·exact termsL_ok ha t h
 ·exact termsL_ok hb t h
theorem c_spec_l6Fails {lo hi lo' hi':Nat} (v v':Value) (a b:Asn) (w:World) (h:AsnV w lo hi v a) (h':AsnV w lo' hi' v' b) (ha:a.valid=true) (hb:b.valid=true) :
  Calls Tryz.prog 131 #[v,v'] w fun e w'=>∃ r,e=.returned (.tuple #[r,.bool (failF a b).isSome])∧IntsO w' w.heap.size r ((failF a b).getD [])∧Below w.heap.size w w':=by
 have hV:=ax h;have hV':=ax h';have HA:=ax ha;have HB:=ax hb;have HT:=ax (termsL_star_ok ha hb);have HS:=ax (seekF_fail ha hb);have HOP:=ax openedB;have HLA:=ax (valid_len ha);have HLB:=ax (valid_len hb);obtain ⟨A1,c1,A2,c2,rfl,-,-⟩:=h;obtain ⟨A3,c3,A4,c4,rfl,-,-⟩:=h';clear ha hb;(go_enter Tryz.func131,Tryz.ntmps131);have k0:Blk ((w.alloc (.cells #[.slice A1 a.facts.length c1,.slice A2 a.atoms.length c2] tAs)).alloc (.cells #[.slice A3 b.facts.length c3,.slice A4 b.atoms.length c4] tAs)) w.heap.size tAs #[.slice A1 a.facts.length c1,.slice A2 a.atoms.length c2]:=blks;have k1:Blk ((w.alloc (.cells #[.slice A1 a.facts.length c1,.slice A2 a.atoms.length c2] tAs)).alloc (.cells #[.slice A3 b.facts.length c3,.slice A4 b.atoms.length c4] tAs)) (w.heap.size+1) tAs #[.slice A3 b.facts.length c3,.slice A4 b.atoms.length c4]:=blks;(go_wp2_with fail);refine wp_region_noPanic ?_;refine wp_region_held_drew (S:=(fun w'=>(∀ i,w'.cell? ⟨w.heap.size,i,none⟩=#[.slice A1 a.facts.length c1,.slice A2 a.atoms.length c2][i]?)∧(∀ i,w'.cell? ⟨w.heap.size+1,i,none⟩=#[.slice A3 b.facts.length c3,.slice A4 b.atoms.length c4][i]?))) (by kernel_rfl) (⟨Blk.cell blks,Blk.cell blks⟩) (fun aH=>?_);refine tk2 0 rfl aH (h:=tk2 1 rfl aH (h:=tk2 2 rfl aH (h:=?_)));(try simp only[zz]);refine tk2 3 rfl aH (h:=?_);refine rdc 4 rfl fun K hK=>?_;(try simp only[zz]);(go_simp;refine (c_spec_l6Both _ _ a b _ (hV.o.bz bel) (hV'.o.bz bel) (by have:=HLA.o;have:=HLB.o;omega) (by have:=HLA.o;have:=HLB.o;omega) HT.o).mono ?_;rintro e w3 ⟨r3,rfl,o3,hB3⟩;obtain ⟨Tb,ct,rfl,fT⟩:=o3.reads;rw[flagsOf_length];have hB:=bgo (w:=w) bel hB3;replace k0:=Blk.nz (g:=w.heap.size) blks hB3;replace k1:=Blk.nz (g:=w.heap.size+1) blks hB3;clear o3);refine hK.out _ _ (⟨Blk.cell blks,Blk.cell blks⟩) ?_;clear aH hK K;intro aH;refine rdc 5 rfl fun K hK=>?_;(try simp only[zz]);(go_simp;refine (c_spec_l5Open _).mono ?_;rintro e w4 ⟨r4,rfl,o4,hB4⟩;obtain ⟨Cb,cc,rfl,fC⟩:=o4.reads;have hB2:=bgo (w:=w) bel hB4;have fT4:=fT.bz hB4;replace k0:=Blk.nz (g:=w.heap.size) blks hB4;replace k1:=Blk.nz (g:=w.heap.size+1) blks hB4;clear o4);refine hK.out _ _ (⟨Blk.cell blks,Blk.cell blks⟩) ?_;clear aH hK K;intro aH;refine rdc 6 rfl fun K hK=>?_;(try simp only[zz]);(go_simp;refine (c_spec_l6Seek Tb ct HA.o HB.o 8 opened Cb cc _ _ _ (by omega) rfl (HOP.o.2 _) HOP.o.1 (hV.o.bz bel) (hV'.o.bz bel) (fT4.bz bel) (fC.bz bel)).mono ?_;rintro e w5 ⟨r5,rfl,o5,hB5⟩;have hz5:=hB2.size;have hB6:=bgo (w:=w) bel hB5;replace k0:=Blk.nz (g:=w.heap.size) blks hB5;replace k1:=Blk.nz (g:=w.heap.size+1) blks hB5);refine hK.out _ _ (⟨Blk.cell blks,Blk.cell blks⟩) ?_;clear aH hK K;intro aH;(try simp only[zz]);refine tk2 7 rfl aH (h:=tk2 8 rfl aH (h:=tk2 9 rfl aH (h:=?_)));(try simp only[zz]);refine tk2 10 rfl aH (h:=?_);(try simp only[zz]);refine dn1 ?_;have O5:=ax o5;clear o5 fC fT fT4 hB5 hB4 hB3;(go_wp2_with fail);go_ret2;exact ⟨r5,by rw[←HS.o.1];rfl,by rw[←HS.o.2];exact O5.o.lower (by first|exact hz5|(simp;exact hz5)),bel⟩
theorem c_spec_Entails {lo hi lo' hi':Nat} (v v':Value) (a b:Asn) (w:World) (h:AsnV w lo hi v a) (h':AsnV w lo' hi' v' b) :
  Calls Tryz.prog 78 #[v,v'] w fun e w'=>e=.returned (.bool (entF a b))∧Below w.heap.size w w':=by
 have hV:=ax h;have hV':=ax h';obtain ⟨A1,c1,A2,c2,rfl,-,-⟩:=h;obtain ⟨A3,c3,A4,c4,rfl,-,-⟩:=h';(go_enter Tryz.func78,Tryz.ntmps78);have k0:Blk ((w.alloc (.cells #[.slice A1 a.facts.length c1,.slice A2 a.atoms.length c2] tAs)).alloc (.cells #[.slice A3 b.facts.length c3,.slice A4 b.atoms.length c4] tAs)) w.heap.size tAs #[.slice A1 a.facts.length c1,.slice A2 a.atoms.length c2]:=blks;have k1:Blk ((w.alloc (.cells #[.slice A1 a.facts.length c1,.slice A2 a.atoms.length c2] tAs)).alloc (.cells #[.slice A3 b.facts.length c3,.slice A4 b.atoms.length c4] tAs)) (w.heap.size+1) tAs #[.slice A3 b.facts.length c3,.slice A4 b.atoms.length c4]:=blks;(go_wp2_with fail);refine (c_spec_AssertionValid _ a _ (hV.o.bz bel)).mono ?_;rintro e w1 ⟨rfl,hB1⟩;have hB:Below w.heap.size w w1:=bgo (w:=w) bel hB1;replace k0:=k0.nz hB1;replace k1:=k1.nz hB1;(replace qk0:=k0.z;replace qk1:=k1.z);clear hB1;cases ha:a.valid
 ·have E:aJ (entF a b=false):=by show _=_;simp[entF,ha]
  clear ha;(go_wp2_with fail);go_ret;exact ⟨ret_bool E.o.symm,hB⟩
 ·have HA:=ax ha;clear ha;(go_wp2_with fail);refine (c_spec_AssertionValid _ b _ (hV'.o.bz hB)).mono ?_;rintro e w2 ⟨rfl,hB2⟩;replace hB:=bgo hB hB2;replace k0:=k0.nz hB2;replace k1:=k1.nz hB2;(replace qk0:=k0.z;replace qk1:=k1.z);clear hB2;cases hb:b.valid
  ·have E:aJ (entF a b=false):=by show _=_;simp[entF,hb]
   clear hb;(go_wp2_with fail);go_ret;exact ⟨ret_bool E.o.symm,hB⟩
  ·have HB:=ax hb;have E:aJ (entF a b=(failF a b).isNone):=by show _=_;rw[entF,HA.o,hb];cases failF a b<;>rfl
   clear hb;(go_wp2_with fail);refine (c_spec_l6Fails _ _ a b _ (hV.o.bz hB) (hV'.o.bz hB) HA.o HB.o).mono ?_;rintro e w3 ⟨r,rfl,-,hB3⟩;replace hB:=bgo hB hB3;clear hB3 k0 k1 qk0 qk1;(go_wp2_with fail);go_ret;exact ⟨ret_bool E.o.symm,hB⟩
theorem c_impl_Entails {lo hi lo' hi':Nat} (v v':Value) (a b:Asn) (w:World) (h:AsnV w lo hi v a) (h':AsnV w lo' hi' v' b) (hhi:hi≤w.heap.size) (hhi':hi'≤w.heap.size) :
  Calls Tryz.prog 54 #[v,v'] w fun e w'=>e=.returned (.bool (entF a b))∧Below w.heap.size w w':=by
 have hV:=ax h;have hV':=ax h';obtain ⟨A1,c1,A2,c2,rfl,-,-⟩:=h;obtain ⟨A3,c3,A4,c4,rfl,-,-⟩:=h';(go_enter Tryz.func54,Tryz.ntmps54);have k0:Blk ((w.alloc (.cells #[.slice A1 a.facts.length c1,.slice A2 a.atoms.length c2] tAs)).alloc (.cells #[.slice A3 b.facts.length c3,.slice A4 b.atoms.length c4] tAs)) w.heap.size tAs #[.slice A1 a.facts.length c1,.slice A2 a.atoms.length c2]:=blks;have k1:Blk ((w.alloc (.cells #[.slice A1 a.facts.length c1,.slice A2 a.atoms.length c2] tAs)).alloc (.cells #[.slice A3 b.facts.length c3,.slice A4 b.atoms.length c4] tAs)) (w.heap.size+1) tAs #[.slice A3 b.facts.length c3,.slice A4 b.atoms.length c4]:=blks;(go_wp2_with fail);refine (c_impl_AssertionValid _ a _ (hV.o.bz bel)).mono ?_;rintro e w1 ⟨rfl,hB1⟩;have hB:Below w.heap.size w w1:=bgo (w:=w) bel hB1;replace k0:=k0.nz hB1;replace k1:=k1.nz hB1;(replace qk0:=k0.z;replace qk1:=k1.z);clear hB1;cases ha:a.valid
 ·have E:aJ (entF a b=false):=by show _=_;simp[entF,ha]
  clear ha;(go_wp2_with fail);go_ret;exact ⟨ret_bool E.o.symm,hB⟩
 ·have HA:=ax ha;clear ha;(go_wp2_with fail);refine (c_impl_AssertionValid _ b _ (hV'.o.bz hB)).mono ?_;rintro e w2 ⟨rfl,hB2⟩;replace hB:=bgo hB hB2;replace k0:=k0.nz hB2;replace k1:=k1.nz hB2;(replace qk0:=k0.z;replace qk1:=k1.z);clear hB2;cases hb:b.valid
  ·have E:aJ (entF a b=false):=by show _=_;simp[entF,hb]
   clear hb;(go_wp2_with fail);go_ret;exact ⟨ret_bool E.o.symm,hB⟩
  ·have HB:=ax hb;have hz:=hB.size;have E:aJ (entF a b=(failF a b).isNone):=by show _=_;rw[entF,HA.o,hb];cases failF a b<;>rfl
   clear hb;(go_wp2_with fail);refine (c_impl_failingCase _ _ a b _ (hV.o.bz hB) (hV'.o.bz hB) (by omega) (by omega) HA.o HB.o).mono ?_;rintro e w3 ⟨rfl,hB3⟩;replace hB:=bgo hB hB3;clear hB3 k0 k1 qk0 qk1;(go_wp2_with fail);go_ret;exact ⟨ret_bool E.o.symm,bel⟩
end
section
open Go Go.RowKit
def maskA (m:Nat):Nat→List Atm→List Atm
 | _,[]=>[]
 | i,x :: xs=>if m.testBit i then x :: maskA m (i+1) xs else maskA m (i+1) xs
def pickA (a:Asn) (m:Nat):Asn:=⟨[],maskA m 0 a.atoms⟩
def seekM (p:Nat→Bool):Nat→Nat→Option Nat
 | 0,_=>none
 | n+1,m=>if p m then some m else seekM p n (m+1)
def frB (a b:Asn) (m:Nat):Bool:=entF a (starA b (pickA a m))
def frM (a b:Asn):Option Nat:=seekM (frB a b) (2 ^ a.atoms.length) 0
def frameF (a b:Asn):Option Asn:=if a.valid&&b.valid then (frM a b).map (pickA a) else none
theorem maskA_len (m:Nat):∀ (xs:List Atm) (i:Nat),(maskA m i xs).length≤xs.length
 | [],_=>Nat.le_refl _
 | x :: xs,i=>by
  unfold maskA;have:=maskA_len m xs (i+1)
  split
  ·simp only[List.length_cons];omega
  ·simp only[List.length_cons];omega
theorem maskA_mem {m:Nat} {x:Atm}:∀ {xs:List Atm} {i:Nat},x∈maskA m i xs→x∈xs
 | [],_,h=>h
 | y :: xs,i,h=>by
  unfold maskA at h
  split at h
  ·rcases List.mem_cons.1 h with rfl|h
   ·exact List.mem_cons_self
   ·exact List.mem_cons_of_mem _ (maskA_mem h)
  ·exact List.mem_cons_of_mem _ (maskA_mem h)
theorem pickA_valid {a:Asn} (h:a.valid=true) (m:Nat):(pickA a m).valid=true:=by
 simp only[Asn.valid,factsValid,Bool.and_eq_true,decide_eq_true_eq,List.all_eq_true] at h ⊢;exact ⟨⟨Nat.zero_le _,fun _ h=>by cases h⟩,Nat.le_trans (maskA_len m _ 0) h.2.1,fun x hx=>h.2.2 x (maskA_mem hx)⟩
theorem frB_star {a b:Asn} (ha:a.valid=true) (hb:b.valid=true) (m:Nat):frB a b m=((starF b (pickA a m)).isSome&&entF a ((starF b (pickA a m)).getD ⟨[],[]⟩)):=by
 unfold starF;rw[hb,pickA_valid ha];unfold frB;cases h:(starA b (pickA a m)).valid
 ·rw[show (true&&true&&false)=false from rfl];simp only[Bool.false_eq_true,if_false,Option.isSome_none,Bool.false_and];unfold entF;rw[h,Bool.and_false,Bool.false_and]
 ·rfl
theorem frB_spec {a b:Asn} (m:Nat):frB a b m=((starA b (pickA a m)).valid&&entF a (starA b (pickA a m))):=by
 unfold frB;cases h:(starA b (pickA a m)).valid
 ·unfold entF;rw[h,Bool.and_false,Bool.false_and];rfl
 ·rfl
theorem seekM_lt {p:Nat→Bool}:∀ {n m k:Nat},seekM p n m=some k→m≤k∧k<m+n∧p k=true
 | 0,_,_,h=>by cases h
 | n+1,m,k,h=>by
  unfold seekM at h
  split at h
  ·rename_i hp;injection h with h;subst h;exact ⟨Nat.le_refl _,by omega,hp⟩
  ·have:=seekM_lt h;exact ⟨by omega,by omega,this.2.2⟩
theorem seekM_step {p:Nat→Bool} {N k:Nat} (hk:k<N):seekM p (N - k) k=if p k then some k else seekM p (N - (k+1)) (k+1):=by
 rw[show N - k=(N - (k+1))+1 by omega,seekM]
theorem frame_some {a b f:Asn} (h:frameF a b=some f):a.valid=true∧b.valid=true∧∃ m,m<2 ^ a.atoms.length∧f=pickA a m∧frB a b m=true:=by
 unfold frameF at h
 split at h
 ·rename_i hv;rw[Bool.and_eq_true] at hv;obtain ⟨m,h1,h2⟩:=Option.map_eq_some_iff.1 h;have:=seekM_lt h1;exact ⟨hv.1,hv.2,m,by omega,h2.symm,this.2.2⟩
 ·cases h
theorem frame_valid {a b f:Asn} (h:frameF a b=some f):f.valid=true:=by
 obtain ⟨ha,-,m,-,rfl,-⟩:=frame_some h;exact pickA_valid ha m
/-! the filled atoms stay the same -/
/-! separated atoms describe themselves -/
/-! no further terms -/
end
section
open Go Go.RowKit Go.Proofs
attribute [local go_sem ↓] Go.wp_at_zero Go.wp_at_succ
theorem ofInt_i64m (a:Nat) (ha:a<9223372036854775808):(BitVec.ofInt 64 (a:Int)).toNat=a:=by
 rw[BitVec.ofInt_natCast,BitVec.toNat_ofNat];exact Nat.mod_eq_of_lt (by omega)
theorem i64_and_nat (a b:Nat) (ha:a<9223372036854775808) (hb:b<9223372036854775808):bits .and .i64 (a:Int) (b:Int)=((a &&& b:Nat):Int):=by
 have hx:a &&& b<2 ^ 63:=Nat.and_lt_two_pow _ (by omega);show IntKind.i64.wrap ((BitVec.ofInt 64 (a:Int) &&& BitVec.ofInt 64 (b:Int)).toNat:Int)=_;rw[BitVec.toNat_and,ofInt_i64m a ha,ofInt_i64m b hb];simp[IntKind.wrap,IntKind.bits,IntKind.signed];omega
theorem bit_at (m k:Nat) (hm:m<9223372036854775808):(bits .and .i64 ((m:Int) / 2 ^ k) 1 == 1)=m.testBit k:=by
 have e:((m:Int) / 2 ^ k)=((m / 2 ^ k:Nat):Int):=by simp
 have h:m / 2 ^ k<9223372036854775808:=Nat.lt_of_le_of_lt (Nat.div_le_self _ _) hm;rw[e,show (1:Int)=((1:Nat):Int) from rfl,i64_and_nat _ _ h (by decide),Nat.and_one_is_mod,Nat.testBit_eq_decide_div_mod_eq,Bool.eq_iff_iff];simp;omega
theorem maskA_snoc (m:Nat) (xs:List Atm) (k:Nat) (hk:k<xs.length):maskA m 0 (xs.take (k+1))=maskA m 0 (xs.take k)++if m.testBit k then [xs[k]] else []:=by
 have gen:∀ (ys:List Atm) (y:Atm) (i:Nat),maskA m i (ys++[y])=maskA m i ys++if m.testBit (i+ys.length) then [y] else []:=by
  intro ys y
  induction ys with
  | nil=>intro i;simp[maskA]
  | cons z zs ih=>
   intro i;simp only[List.cons_append,maskA,ih,List.length_cons];rw[show i+1+zs.length=i+(zs.length+1) by omega]
   split<;>simp
 rw[List.take_succ_eq_append_getElem hk,gen,List.length_take,Nat.zero_add,Nat.min_eq_left (by omega)]
theorem c_impl_pick {lo hi:Nat} (v:Value) (a:Asn) (m:Nat) (w:World) (h:AsnV w lo hi v a) (hm:m≤1000000) (hla:a.atoms.length≤60) :
  Calls Tryz.prog 200 #[v,.int .i64 m] w fun e w'=>∃ r,e=.returned r∧AsnO w' w.heap.size r (pickA a m)∧Below w.heap.size w w':=by
 obtain ⟨A1,c1,A2,c2,rfl,-,h2⟩:=h;have H2:=ax h2;have hl:=h2.le;clear h2;(go_enter Tryz.func200,Tryz.ntmps200);obtain ⟨-,k4,k5⟩:=blk3 w tAs tAs tAs #[.slice A1 a.facts.length c1,.slice A2 a.atoms.length c2] #[.slice none 0 0,.slice none 0 0] #[.slice none 0 0,.slice none 0 0];have HB:aJ (Below w.heap.size w (((w.alloc (.cells #[.slice A1 a.facts.length c1,.slice A2 a.atoms.length c2] tAs)).alloc (.cells #[.slice none 0 0,.slice none 0 0] tAs)).alloc (.cells #[.slice none 0 0,.slice none 0 0] tAs))):=ax bel;(go_wp2_with fail);generalize (((w.alloc (.cells #[.slice A1 a.facts.length c1,.slice A2 a.atoms.length c2] tAs)).alloc (.cells #[.slice none 0 0,.slice none 0 0] tAs)).alloc (.cells #[.slice none 0 0,.slice none 0 0] tAs))=W at k4 k5 HB ⊢
 go_loopw [11] (fun i wr=>∃ (k:Nat) (acc:List Atm) (A:Option Addr) (c:Nat),k≤a.atoms.length∧i=.int .i64 k∧aJ (acc=maskA m 0 (a.atoms.take k))∧acc.length≤k∧AtomsO wr (w.heap.size+1+1+1) (.slice A acc.length c) acc∧Blk wr (w.heap.size+1) tAs #[.slice none 0 0,.slice none 0 0]∧Blk wr (w.heap.size+1+1) tAs #[.slice none 0 0,.slice A acc.length c]∧aJ (Below w.heap.size w wr)) (fun i _=>a.atoms.length - (intOf i).toNat)
 case atStart=>exact ⟨0,[],none,0,Nat.zero_le _,rfl,by simp[aJ,maskA],Nat.le_refl _,AtomsO.nil _ _,k4,k5,HB⟩
 case round=>
  clear k4 k5 HB;obtain ⟨k,acc,A,c,hk,rfl,HACC,hal,of,k4,k5,HB⟩:=hrel;by_cases hlt:k<a.atoms.length
  ·obtain ⟨b,off,rfl,g0,g1,g2⟩:=(H2.o.bz HB.o).at hlt;have hki:(k:Int)<(a.atoms.length:Int):=by omega
   have HS:=ax (maskA_snoc m a.atoms k hlt);obtain ⟨x,hx⟩:∃ x,x=a.atoms[k]:=⟨_,rfl⟩;rw[←hx] at g0 g1 g2 HS;have hbit:=bit_at m k (by omega);have hk64:min k 64=k:=by omega
   have hbx:Below wr.heap.size wr (wr.alloc (.cells #[.int .i64 x.kind,.int .i64 x.a,.int .i64 x.b] tA)):=bbox (Below.refl _ _) _;have k41:=k4.nz hbx;have k51:=k5.nz hbx;have l5:=k51.lt;have HB1:=ax (bgo HB.o hbx);have of1:=of.bz hbx;clear hx;cases hb:m.testBit k
   ·rw[hb] at hbit;have HA2:aJ (acc=maskA m 0 (a.atoms.take (k+1))):=ax (by rw[HS.o,hb,←HACC.o];simp);clear hb HS;(replace qk51:=k51.z);(go_wp2_with fail)
    go_round
    case rel=>exact ⟨k+1,acc,A,c,by omega,by go_num,HA2,by omega,of1,k41,k51,HB1⟩
    case measure=>simp[intOf];omega
   ·rw[hb] at hbit;have HA2:aJ (acc++[x]=maskA m 0 (a.atoms.take (k+1))):=ax (by rw[HS.o,hb,←HACC.o];simp);clear hb HS;have kx:=Blk.new wr tA #[.int .i64 x.kind,.int .i64 x.a,.int .i64 x.b];have hz1:(wr.alloc (.cells #[.int .i64 x.kind,.int .i64 x.a,.int .i64 x.b] tA)).heap.size=wr.heap.size+1:=by simp
    have hzB:=HB.o.size;have hl0:=k5.lt;(replace qk41:=k41.z;replace qk51:=k51.z;replace qkx:=kx.z);(go_wp2_with (at_builtin;refine appAL (ys:=[x]) rfl _ _ rfl (v:=.slice A acc.length c) rfl (of1.bz (bbox (Below.refl _ _) _)) rfl (AtomsV.one (f:=x) (Blk.newE (by simp))) (by simp;omega) (by simp;omega) ?_;intro A' c' w5 of2 hg2 hB5;have z5:=Blk.grownO (g:=w.heap.size+1+1) (k51.alloc _) (of1.bz (bbox (Below.refl _ _) _)).1 hg2 (by decide);have z4:=Blk.grownO (g:=w.heap.size+1) (k41.alloc _) (of1.bz (bbox (Below.refl _ _) _)).1 hg2 (by decide);have z5c:=z5.cell;have z5f:=z5.frozen;have z5l:=z5.lt))
    go_round
    case rel=>
     refine ⟨k+1,acc++[x],A',c',by omega,by go_num,HA2,by simp;omega,?_,z4.far (by simp only[];omega) _,?_,?_⟩
     ·simpa using of2.setT z5 (by decide) _ _
     ·simpa using z5.set_ 1 (.slice A' (acc.length+1) c')
     ·have hb5:=hB5.mono (show w.heap.size≤w.heap.size+1+1+1 by omega);exact ax (((bbox HB1.o _).trans hb5).setCell (p:=⟨w.heap.size+1+1,1,none⟩) (by simp only;omega) _)
    case measure=>simp[intOf];omega
  ·obtain rfl:k=a.atoms.length:=by omega
   have hacc:acc=maskA m 0 a.atoms:=by have:=HACC.o;rwa [List.take_length] at this
   subst hacc;have hBl:=HB.o;(replace qk4:=k4.cell;replace rk4:=k4.frozen;replace lk4:=k4.lt;replace qk5:=k5.z);(go_wp2_with fail);refine bodyPost_ret (v:=.agg #[.slice none 0 0,.slice A (maskA m 0 a.atoms).length c]) (by simp[results,Tryz.results200,go_sem,qk4,lk4]) rfl ⟨_,rfl,⟨_,_,rfl,FactsO.nil _ _,?_⟩,?_⟩
   ·exact ((of.setT k4 (by decide) 0 _).setT (k4.set_ 0 _) (by decide) 1 _).lower (by omega)
   ·exact ((hBl.setCell (p:=⟨w.heap.size+1,0,none⟩) (by simp only;omega) _).setCell (p:=⟨w.heap.size+1,1,none⟩) (by simp only;omega) _)
theorem AsnO.setW {w:World} {base:Nat} {v:Value} {a:Asn} (h:AsnO w base v a) {g:Nat} {cs:Array Value} (hk:Blk w g tAs cs) (u0 u1:Value):AsnO ((w.setCell ⟨g,0,none⟩ u0).setCell ⟨g,1,none⟩ u1) base v a:=by
 obtain ⟨fv,av,e,p1,p2⟩:=h;have k1:=hk.set_ 0 u0;exact ⟨fv,av,e,(p1.setT hk (by decide) _ _).setT k1 (by decide) _ _,(p2.setT hk (by decide) _ _).setT k1 (by decide) _ _⟩
theorem c_frClo {lo hi lo' hi':Nat} (g g':Nat) (a b:Asn) (A1 A2 A3 A4:Option Addr) (c1 c2 c3 c4 m:Nat) (w:World) (ha:AsnV w lo hi (.agg #[.slice A1 a.facts.length c1,.slice A2 a.atoms.length c2]) a) (hb:AsnV w lo' hi' (.agg #[.slice A3 b.facts.length c3,.slice A4 b.atoms.length c4]) b) (hhi:hi≤w.heap.size) (hv:a.valid=true) (hv':b.valid=true) (hm:m≤1000000)
  (k1:Blk w g tAs #[.slice A1 a.facts.length c1,.slice A2 a.atoms.length c2]) (k2:Blk w g' tAs #[.slice A3 b.facts.length c3,.slice A4 b.atoms.length c4]) :
  Calls Tryz.prog 199 #[.int .i64 m,.pointer (some ⟨g',0,none⟩),.pointer (some ⟨g,0,none⟩)] w fun e w'=>e=.returned (.bool (frB a b m))∧Below w.heap.size w w':=by
 have HA:=ax ha;have HB:=ax hb;have HE:=ax (frB_star hv hv' m);have hla:=(valid_len hv).2;obtain ⟨fb,hfb⟩:∃ x,x=frB a b m:=⟨_,rfl⟩;obtain ⟨P,hP⟩:∃ P,P=pickA a m:=⟨_,rfl⟩;obtain ⟨q,hq⟩:∃ q,q=(starF b (pickA a m)).isSome:=⟨_,rfl⟩;obtain ⟨C,hC⟩:∃ C,C=(starF b (pickA a m)).getD ⟨[],[]⟩:=⟨_,rfl⟩;rw[←hfb,←hq,←hC] at HE;rw[←hfb];have CS:aJ (∀ {lo hi lo' hi':Nat} (v v':Value) (W:World),AsnV W lo hi v b→AsnV W lo' hi' v' P→Calls Tryz.prog 41 #[v,v'] W fun e w'=>∃ r,e=.returned (.tuple #[r,.bool q])∧AsnO w' W.heap.size r C∧Below W.heap.size W w'):=ax fun v v' W h1 h2=>by rw[hq,hC,←hP];exact c_impl_Star v v' b P W h1 h2
 have CP:aJ (∀ {lo hi:Nat} (v:Value) (W:World),AsnV W lo hi v a→Calls Tryz.prog 200 #[v,.int .i64 m] W fun e w'=>∃ r,e=.returned r∧AsnO w' W.heap.size r P∧Below W.heap.size W w'):=ax fun v W h=>by rw[hP];exact c_impl_pick v a m W h hm (by omega)
 clear hfb hP hq hC hv hv' ha hb;have hlg:=k1.lt;have hlg':=k2.lt;(go_enter Tryz.func199,Tryz.ntmps199);have q1:=k1.cell;have q2:=k2.cell;(go_upto_region 1 with fail)
 go_cut [5,6] (fun s5 s6 wc=>∃ (x:Nat) (F:Option Addr) (f:Nat) (G:Option Addr) (e:Nat),s5=.pointer (some ⟨x,0,none⟩)∧s6=.bool q∧Blk wc x tAs #[.slice F C.facts.length f,.slice G C.atoms.length e]∧AsnV wc 0 wc.heap.size (.agg #[.slice F C.facts.length f,.slice G C.atoms.length e]) C∧aJ (Below w.heap.size w wc))
 case first=>
  (go_wp2_with fail);refine wp_region_noPanic ?_;refine wp_region_held_drew (S:=(fun w'=>(∀ j,w'.cell? ⟨g',j,none⟩=#[.slice A3 b.facts.length c3,.slice A4 b.atoms.length c4][j]?)∧(∀ j,w'.cell? ⟨g,j,none⟩=#[.slice A1 a.facts.length c1,.slice A2 a.atoms.length c2][j]?))) (by kernel_rfl) (⟨k2.drew.cell,k1.drew.cell⟩) (fun aH=>?_);have hB0:Below w.heap.size w w.drew:=(Below.refl _ _).drew;refine tk2 0 rfl aH (h:=tk2 1 rfl aH (h:=tk2 2 rfl aH (h:=?_)));(try simp only[zz]);refine wpAnyH_ready (rs:=[3,8]) (by kernel_rfl) (by simp) (AllReadyH.cons rfl (fun K hK=>?_) (AllReadyH.cons rfl (fun K hK=>?_) AllReadyH.nil))
  ·(try simp only[zz]);(go_simp;refine (CP.o _ _ (HA.o.bz hB0)).mono ?_;rintro e w1 ⟨r1,rfl,o1,hB1⟩;obtain ⟨F1,f1,G1,e1,rfl⟩:=o1.I.form;replace hB1:Below w.heap.size w w1:=bgo hB0 hB1);refine hK.out _ _ (⟨(k2.nz hB1).cell,(k1.nz hB1).cell⟩) ?_;clear aH hK K;intro aH;(try simp only[zz]);have hP1:=o1.reads;refine wpAnyH_ready (rs:=[4,8]) (by kernel_rfl) (by simp) (AllReadyH.cons rfl (fun K hK=>?_) (AllReadyH.cons rfl (fun K hK=>?_) AllReadyH.nil))
   ·(try simp only[zz]);(go_simp;refine (CS.o _ _ _ (HB.o.bz hB1) hP1).mono ?_;rintro e w2 ⟨r2,rfl,o2,hB2⟩;obtain ⟨F,f,G,e,rfl⟩:=o2.I.form;replace hB2:Below w.heap.size w w2:=bgo hB1 hB2);refine hK.out _ _ (⟨(k2.nz hB2).cell,(k1.nz hB2).cell⟩) ?_;clear aH hK K;intro aH;(try simp only[zz]);refine tk2 5 rfl aH (h:=tk2 6 rfl aH (h:=tk2 7 rfl aH (h:=?_)));refine rdc 8 rfl fun K hK=>?_;(try simp only[zz]);go_simp;refine hK.out _ _ (⟨(k2.nz (bbox hB2 (.cells #[.slice none 0 0,.slice none 0 0] tAs))).cell,(k1.nz (bbox hB2 (.cells #[.slice none 0 0,.slice none 0 0] tAs))).cell⟩) ?_;clear aH hK K;intro aH;refine rdc 9 rfl fun K hK=>?_;(try simp only[zz]);go_simp;refine hK.out _ _ (⟨(k2.nz (bbox hB2 (.cells #[.slice F C.facts.length f,.slice G C.atoms.length e] tAs))).cell,(k1.nz (bbox hB2 (.cells #[.slice F C.facts.length f,.slice G C.atoms.length e] tAs))).cell⟩) ?_;clear aH hK K;intro aH;(try simp only[zz]);refine tk2 10 rfl aH (h:=?_);(try simp only[zz]);refine dn1 ?_;(go_wp2_with fail);go_meet
    case rel=>exact ⟨w2.heap.size,F,f,G,e,rfl,rfl,Blk.new _ _ _,(o2.reads.bz (bbox (Below.refl _ _) _)).mono (Nat.zero_le _) (by simp),ax (bbox hB2 _)⟩
   ·(try simp only[zz]);go_simp;refine hK.out _ _ (⟨(k2.nz (bbox hB1 (.cells #[.slice none 0 0,.slice none 0 0] tAs))).cell,(k1.nz (bbox hB1 (.cells #[.slice none 0 0,.slice none 0 0] tAs))).cell⟩) ?_;clear aH hK K;intro aH;(try simp only[zz]);have kb:=Blk.new w1 tAs #[.slice none 0 0,.slice none 0 0];have hb:=bbox hB1 (.cells #[.slice none 0 0,.slice none 0 0] tAs);have hP2:=hP1.bz (bbox (Below.refl _ w1) (.cells #[.slice none 0 0,.slice none 0 0] tAs));refine rdc 4 rfl fun K hK=>?_;(try simp only[zz]);(go_simp;refine (CS.o _ _ _ (HB.o.bz hb) hP2).mono ?_;rintro e w2 ⟨r2,rfl,o2,hB2⟩;obtain ⟨F,f,G,e,rfl⟩:=o2.I.form;have kb2:=kb.nz hB2;replace hB2:Below w.heap.size w w2:=bgo hb hB2);refine hK.out _ _ (⟨(k2.nz hB2).cell,(k1.nz hB2).cell⟩) ?_;clear aH hK K;intro aH;(try simp only[zz]);refine tk2 5 rfl aH (h:=tk2 6 rfl aH (h:=tk2 7 rfl aH (h:=?_)));(try simp only[zz]);have hlb:=kb2.lt;have ql:=kb2.cell;have rl:=kb2.frozen;have hle:w.heap.size≤w1.heap.size:=by first|exact Nat.le_refl _|exact hB1.size
    have hn1:g≠w1.heap.size:=by omega
    have hn2:g'≠w1.heap.size:=by omega
    refine rdc 9 rfl fun K hK=>?_;(try simp only[zz]);go_simp;refine hK.out _ _ (⟨(((k2.nz hB2).far (p:=⟨w1.heap.size,0,none⟩) (fun e=>hn2 e) (.slice F C.facts.length f)).far (p:=⟨w1.heap.size,1,none⟩) (fun e=>hn2 e) (.slice G C.atoms.length e)).cell,(((k1.nz hB2).far (p:=⟨w1.heap.size,0,none⟩) (fun e=>hn1 e) (.slice F C.facts.length f)).far (p:=⟨w1.heap.size,1,none⟩) (fun e=>hn1 e) (.slice G C.atoms.length e)).cell⟩) ?_;clear aH hK K;intro aH;(try simp only[zz]);refine tk2 10 rfl aH (h:=?_);(try simp only[zz]);refine dn1 ?_;(go_wp2_with fail);go_meet
    case rel=>exact ⟨w1.heap.size,F,f,G,e,rfl,rfl,(kb2.set_ 0 (.slice F C.facts.length f)).set_ 1 (.slice G C.atoms.length e),(AsnO.setW o2 kb2 _ _).reads.mono (Nat.zero_le _) (by simp),ax ((hB2.setCell (p:=⟨w1.heap.size,0,none⟩) hle _).setCell (p:=⟨w1.heap.size,1,none⟩) hle _)⟩
  ·(try simp only[zz]);go_simp;refine hK.out _ _ (⟨(k2.nz (bbox hB0 (.cells #[.slice none 0 0,.slice none 0 0] tAs))).cell,(k1.nz (bbox hB0 (.cells #[.slice none 0 0,.slice none 0 0] tAs))).cell⟩) ?_;clear aH hK K;intro aH;(try simp only[zz]);have kb:Blk (w.drew.alloc (.cells #[.slice none 0 0,.slice none 0 0] tAs)) w.heap.size tAs #[.slice none 0 0,.slice none 0 0]:=Blk.new w.drew _ _;have hb:=bbox hB0 (.cells #[.slice none 0 0,.slice none 0 0] tAs);refine rdc 3 rfl fun K hK=>?_;(try simp only[zz]);(go_simp;refine (CP.o _ _ (HA.o.bz hb)).mono ?_;rintro e w1 ⟨r1,rfl,o1,hB1⟩;obtain ⟨F1,f1,G1,e1,rfl⟩:=o1.I.form;have kb1:=kb.nz hB1;replace hB1:Below w.heap.size w w1:=bgo hb hB1);refine hK.out _ _ (⟨(k2.nz hB1).cell,(k1.nz hB1).cell⟩) ?_;clear aH hK K;intro aH;(try simp only[zz]);have hP1:=o1.reads;refine rdc 4 rfl fun K hK=>?_;(try simp only[zz]);(go_simp;refine (CS.o _ _ _ (HB.o.bz hB1) hP1).mono ?_;rintro e w2 ⟨r2,rfl,o2,hB2⟩;obtain ⟨F,f,G,e,rfl⟩:=o2.I.form;have kb2:=kb1.nz hB2;replace hB2:Below w.heap.size w w2:=bgo hB1 hB2);refine hK.out _ _ (⟨(k2.nz hB2).cell,(k1.nz hB2).cell⟩) ?_;clear aH hK K;intro aH;(try simp only[zz]);refine tk2 5 rfl aH (h:=tk2 6 rfl aH (h:=tk2 7 rfl aH (h:=?_)));(try simp only[zz]);have hlb:=kb2.lt;have ql:=kb2.cell;have rl:=kb2.frozen;have hle:w.heap.size≤w.heap.size:=by first|exact Nat.le_refl _|exact hB1.size
   have hn1:g≠w.heap.size:=by omega
   have hn2:g'≠w.heap.size:=by omega
   refine rdc 9 rfl fun K hK=>?_;(try simp only[zz]);go_simp;refine hK.out _ _ (⟨(((k2.nz hB2).far (p:=⟨w.heap.size,0,none⟩) (fun e=>hn2 e) (.slice F C.facts.length f)).far (p:=⟨w.heap.size,1,none⟩) (fun e=>hn2 e) (.slice G C.atoms.length e)).cell,(((k1.nz hB2).far (p:=⟨w.heap.size,0,none⟩) (fun e=>hn1 e) (.slice F C.facts.length f)).far (p:=⟨w.heap.size,1,none⟩) (fun e=>hn1 e) (.slice G C.atoms.length e)).cell⟩) ?_;clear aH hK K;intro aH;(try simp only[zz]);refine tk2 10 rfl aH (h:=?_);(try simp only[zz]);refine dn1 ?_;(go_wp2_with fail);go_meet
   case rel=>exact ⟨w.heap.size,F,f,G,e,rfl,rfl,(kb2.set_ 0 (.slice F C.facts.length f)).set_ 1 (.slice G C.atoms.length e),(AsnO.setW o2 kb2 _ _).reads.mono (Nat.zero_le _) (by simp),ax ((hB2.setCell (p:=⟨w.heap.size,0,none⟩) hle _).setCell (p:=⟨w.heap.size,1,none⟩) hle _)⟩
 case rest=>
  obtain ⟨x,F,f,G,e,rfl,rfl,kx,hC,hB⟩:=hcut;have kg:=k1.nz hB.o;have hzB:=hB.o.size;(replace qkx:=kx.z;replace qkg:=kg.z);cases q
  ·have E:fb=false:=by rw[HE.o];rfl
   (go_wp2_with fail);go_ret;exact ⟨ret_bool E.symm,hB.o⟩
  ·have E:aJ (fb=entF a C):=by show _=_;rw[HE.o];rfl
   (go_wp2_with fail);refine (c_impl_Entails _ _ a C _ (HA.o.bz hB.o) hC (by omega) (Nat.le_refl _)).mono ?_;rintro e w2 ⟨rfl,hB2⟩;rw[←E.o];(go_wp2_with fail);go_ret;exact ⟨rfl,bgo hB.o hB2⟩
theorem c_frLeast {lo hi lo' hi':Nat} (g g':Nat) (a b:Asn) (A1 A2 A3 A4:Option Addr) (c1 c2 c3 c4:Nat) (w:World) (ha:AsnV w lo hi (.agg #[.slice A1 a.facts.length c1,.slice A2 a.atoms.length c2]) a) (hb:AsnV w lo' hi' (.agg #[.slice A3 b.facts.length c3,.slice A4 b.atoms.length c4]) b) (hhi:hi≤w.heap.size) (hv:a.valid=true) (hv':b.valid=true)
  (k1:Blk w g tAs #[.slice A1 a.facts.length c1,.slice A2 a.atoms.length c2]) (k2:Blk w g' tAs #[.slice A3 b.facts.length c3,.slice A4 b.atoms.length c4]) :
  Calls Tryz.prog 198 #[.int .i64 a.atoms.length,.func (.func 199) #[] #[.pointer (some ⟨g',0,none⟩),.pointer (some ⟨g,0,none⟩)]] w fun e w'=>e=.returned (.tuple #[.int .i64 ((frM a b).getD 0:Nat),.bool (frM a b).isSome])∧Below w.heap.size w w':=by
 have HA:=ax ha;have HB:=ax hb;have hla:=(valid_len hv).2;have HV:=ax hv;have HV':=ax hv';have K1:=ax k1;have K2:=ax k2;obtain ⟨n,hn⟩:∃ n,n=a.atoms.length:=⟨_,rfl⟩;obtain ⟨N,hN⟩:∃ N:Nat,N=2 ^ n:=⟨_,rfl⟩;have hN64:N≤64:=by rw[hN];exact Nat.pow_le_pow_right (n:=2) (by decide) (show n≤6 by omega)
 have HM:aJ (frM a b=seekM (frB a b) (N - 0) 0):=ax (by rw[hN,hn];rfl);have hp:(2:Int) ^ n=(N:Int):=by rw[hN];simp
 have hn64:min n 64=n:=by omega
 rw[←hn] at hla;replace hN:=ax hN;clear ha hb hv hv' k1 k2;(go_enter Tryz.func198,Tryz.ntmps198);rw[←hn];replace hn:=ax hn;(go_wp2_with fail)
 go_loopw [6] (fun i wr=>∃ k:Nat,k≤N∧i=.int .i64 k∧aJ (frM a b=seekM (frB a b) (N - k) k)∧aJ (Below w.heap.size w wr)) (fun i _=>N - (intOf i).toNat)
 case atStart=>exact ⟨0,Nat.zero_le _,rfl,HM,ax (Below.refl _ _)⟩
 case round=>
  clear HM;obtain ⟨k,hk,rfl,HM,hB⟩:=hrel;by_cases hlt:k<N
  ·have hki:(k:Int)<(N:Int):=by omega
   (go_wp2_with fail);refine (c_frClo g g' a b A1 A2 A3 A4 c1 c2 c3 c4 k wr (HA.o.bz hB.o) (HB.o.bz hB.o) (by have:=hB.o.size;omega) HV.o HV'.o (by omega) (K1.o.nz hB.o) (K2.o.nz hB.o)).mono ?_;rintro e w1 ⟨rfl,hB1⟩;have hBw:=ax (bgo hB.o hB1);have HS:aJ (frM a b=if frB a b k then some k else seekM (frB a b) (N - (k+1)) (k+1)):=ax (by rw[HM.o,seekM_step hlt]);clear hB1;cases hp:frB a b k
   ·have HM2:aJ (frM a b=seekM (frB a b) (N - (k+1)) (k+1)):=ax (by rw[HS.o,hp];rfl);clear hp HM HS;(go_wp2_with fail)
    go_round
    case rel=>exact ⟨k+1,by omega,by go_num,HM2,hBw⟩
    case measure=>simp[intOf];omega
   ·have E:aJ (frM a b=some k):=ax (by rw[HS.o,hp];rfl);clear hp HM HS;(go_wp2_with fail);go_ret2;exact ⟨by rw[E.o];rfl,hBw.o⟩
  ·obtain rfl:k=N:=by omega
   have E:aJ (frM a b=none):=ax (by rw[HM.o,Nat.sub_self];rfl);(go_wp2_with fail);go_ret2;exact ⟨by rw[E.o];rfl,hB.o⟩
theorem frame_none1 {a b:Asn} (h:a.valid=false):frameF a b=none:=by unfold frameF;rw[h];rfl
theorem frame_none2 {a b:Asn} (h:a.valid=true) (h':b.valid=false):frameF a b=none:=by unfold frameF;rw[h,h'];rfl
theorem frame_map {a b:Asn} (h:a.valid=true) (h':b.valid=true):frameF a b=(frM a b).map (pickA a):=by unfold frameF;rw[h,h'];rfl
theorem c_impl_FrameOf {lo hi lo' hi':Nat} (v v':Value) (a b:Asn) (w:World) (h:AsnV w lo hi v a) (h':AsnV w lo' hi' v' b) (hhi:hi≤w.heap.size) :
  Calls Tryz.prog 139 #[v,v'] w fun e w'=>∃ r,e=.returned (.tuple #[r,.bool (frameF a b).isSome])∧AsnO w' w.heap.size r ((frameF a b).getD ⟨[],[]⟩)∧Below w.heap.size w w':=by
 have HA:=ax h;have HB:=ax h';obtain ⟨A1,c1,A2,c2,rfl,-,-⟩:=h;obtain ⟨A3,c3,A4,c4,rfl,-,-⟩:=h';have H1:=ax (@frame_none1 a b);have H2:=ax (@frame_none2 a b);have H3:=ax (@frame_map a b);obtain ⟨k1,k2,k4⟩:=blk3 w tAs tAs tAs #[.slice A1 a.facts.length c1,.slice A2 a.atoms.length c2] #[.slice A3 b.facts.length c3,.slice A4 b.atoms.length c4] #[.slice none 0 0,.slice none 0 0];have hB:Below w.heap.size w (((w.alloc (.cells #[.slice A1 a.facts.length c1,.slice A2 a.atoms.length c2] tAs)).alloc (.cells #[.slice A3 b.facts.length c3,.slice A4 b.atoms.length c4] tAs)).alloc (.cells #[.slice none 0 0,.slice none 0 0] tAs)):=bel;(go_enter Tryz.func139,Tryz.ntmps139);(go_upto_region 1 with fail);generalize (((w.alloc (.cells #[.slice A1 a.facts.length c1,.slice A2 a.atoms.length c2] tAs)).alloc (.cells #[.slice A3 b.facts.length c3,.slice A4 b.atoms.length c4] tAs)).alloc (.cells #[.slice none 0 0,.slice none 0 0] tAs))=W at k1 k2 k4 hB ⊢;(replace qk1:=k1.z;replace qk2:=k2.z;replace qk4:=k4.cell;replace rk4:=k4.frozen;replace lk4:=k4.lt);(go_wp2_with fail);refine (c_impl_AssertionValid _ a _ (HA.o.bz hB)).mono ?_;rintro e w1 ⟨rfl,hB1⟩;(replace hB:=bgo hB hB1;replace k1:=k1.nz hB1;replace qk1:=k1.z;replace k2:=k2.nz hB1;replace qk2:=k2.z;replace k4:=k4.nz hB1;replace qk4:=k4.cell;replace rk4:=k4.frozen;replace lk4:=k4.lt);clear hB1;cases ha:a.valid
 ·have E:=ax (H1.o ha);clear ha H1 H2 H3;(go_wp2_with fail);refine bodyPost_ret (v:=.tuple #[.agg #[.slice none 0 0,.slice none 0 0],.bool false]) (by simp[results,Tryz.results139,go_sem,qk4,lk4]) rfl ⟨_,by rw[E.o];rfl,by rw[E.o];exact AsnO.zero _ _,bel⟩
 have HV:=ax ha;clear ha;(go_wp2_with fail);refine (c_impl_AssertionValid _ b _ (HB.o.bz hB)).mono ?_;rintro e w2 ⟨rfl,hB2⟩;(replace hB:=bgo hB hB2;replace k1:=k1.nz hB2;replace qk1:=k1.z;replace k2:=k2.nz hB2;replace qk2:=k2.z;replace k4:=k4.nz hB2;replace qk4:=k4.cell;replace rk4:=k4.frozen;replace lk4:=k4.lt);clear hB2;cases hb:b.valid
 ·have E:=ax (H2.o HV.o hb);clear hb H1 H2 H3;(go_wp2_with fail);refine bodyPost_ret (v:=.tuple #[.agg #[.slice none 0 0,.slice none 0 0],.bool false]) (by simp[results,Tryz.results139,go_sem,qk4,lk4]) rfl ⟨_,by rw[E.o];rfl,by rw[E.o];exact AsnO.zero _ _,bel⟩
 have HV':=ax hb;have E:=ax (H3.o HV.o HV'.o);have hla:=(valid_len HV.o).2;clear hb H1 H2 H3;(go_wp2_with fail);refine (c_frLeast _ _ a b A1 A2 A3 A4 c1 c2 c3 c4 _ (HA.o.bz hB) (HB.o.bz hB) (by have:=hB.size;omega) HV.o HV'.o k1 k2).mono ?_;rintro e w3 ⟨rfl,hB3⟩;have hz:=hB.size;(replace hB:=bgo hB hB3;replace k1:=k1.nz hB3;replace qk1:=k1.z;replace k2:=k2.nz hB3;replace qk2:=k2.z;replace k4:=k4.nz hB3;replace qk4:=k4.cell;replace rk4:=k4.frozen;replace lk4:=k4.lt);clear hB3
 cases hm:frM a b with
 | none=>
  rw[hm] at E;clear hm;(go_wp2_with fail);refine bodyPost_ret (v:=.tuple #[.agg #[.slice none 0 0,.slice none 0 0],.bool false]) (by simp[results,Tryz.results139,go_sem,qk4,lk4]) rfl ⟨_,by rw[E.o];rfl,by rw[E.o];exact AsnO.zero _ _,bel⟩
 | some m=>
  rw[hm] at E
  have hm64:m≤1000000:=by
   have h1:=(seekM_lt hm).2.1;have h2:2 ^ a.atoms.length≤2 ^ 6:=Nat.pow_le_pow_right (by decide) hla;omega
  clear hm;(go_wp2_with fail);refine (c_impl_pick _ a m _ (HA.o.bz hB) hm64 (by omega)).mono ?_;rintro e w4 ⟨r,rfl,o,hB4⟩;have hz4:=hB.size;(replace hB:=bgo hB hB4;replace k4:=k4.nz hB4;replace qk4:=k4.cell;replace rk4:=k4.frozen;replace lk4:=k4.lt);clear hB4 k1 k2 qk1 qk2;obtain ⟨F,f,G,g,rfl⟩:=o.I.form;have O:=ax o;clear o;(go_wp2_with fail);refine bodyPost_ret (v:=.tuple #[.agg #[.slice F (pickA a m).facts.length f,.slice G (pickA a m).atoms.length g],.bool true]) (by simp[results,Tryz.results139,go_sem,qk4,lk4]) rfl ⟨_,by rw[E.o];rfl,?_,bel⟩;rw[E.o];exact (AsnO.setW O.o k4 _ _).lower (by omega)
theorem c_l7Pick {lo hi:Nat} (v:Value) (a:Asn) (m:Nat) (w:World) (h:AsnV w lo hi v a) (hm:m≤1000000) (hla:a.atoms.length≤60) :
  Calls Tryz.prog 197 #[v,.int .i64 m] w fun e w'=>∃ r,e=.returned r∧AsnO w' w.heap.size r (pickA a m)∧Below w.heap.size w w':=by
 obtain ⟨A1,c1,A2,c2,rfl,-,h2⟩:=h;have H2:=ax h2;have hl:=h2.le;clear h2;(go_enter Tryz.func197,Tryz.ntmps197);obtain ⟨k0,kr,kg⟩:=blk3 w tAs tAs tAs #[.slice A1 a.facts.length c1,.slice A2 a.atoms.length c2] #[.slice none 0 0,.slice none 0 0] #[.slice none 0 0,.slice none 0 0];have HB:aJ (Below w.heap.size w (((w.alloc (.cells #[.slice A1 a.facts.length c1,.slice A2 a.atoms.length c2] tAs)).alloc (.cells #[.slice none 0 0,.slice none 0 0] tAs)).alloc (.cells #[.slice none 0 0,.slice none 0 0] tAs))):=ax bel;(go_wp2_with fail);generalize (((w.alloc (.cells #[.slice A1 a.facts.length c1,.slice A2 a.atoms.length c2] tAs)).alloc (.cells #[.slice none 0 0,.slice none 0 0] tAs)).alloc (.cells #[.slice none 0 0,.slice none 0 0] tAs))=W at k0 kr kg HB ⊢
 go_loopw [6] (fun i wr=>∃ (j:Nat) (xs:List Atm) (A3:Option Addr) (c3:Nat),j≤a.atoms.length∧i=.int .i64 j∧aJ (xs=maskA m 0 (a.atoms.take j))∧xs.length≤j∧aJ (AtomsO wr w.heap.size (.slice A3 xs.length c3) xs)∧Blk wr w.heap.size tAs #[.slice A1 a.facts.length c1,.slice A2 a.atoms.length c2]∧Blk wr (w.heap.size+1) tAs #[.slice none 0 0,.slice none 0 0]∧Blk wr (w.heap.size+1+1) tAs #[.slice none 0 0,.slice A3 xs.length c3]∧aJ (Below w.heap.size w wr)) (fun i _=>a.atoms.length - (intOf i).toNat)
 case atStart=>exact ⟨0,[],none,0,Nat.zero_le _,rfl,by simp[aJ,maskA],Nat.le_refl _,AtomsO.nil _ _,k0,kr,kg,HB⟩
 case round=>
  clear k0 kr kg HB;obtain ⟨j,xs,A3,c3,hj,rfl,HXS,hxl,HA,k0,kr,kg,HB⟩:=hrel;(replace qk0:=k0.z;replace qkr:=kr.cell;replace rkr:=kr.frozen;replace lkr:=kr.lt;replace qkg:=kg.z);have hsz:=HB.o.size;by_cases hlt:j<a.atoms.length
  ·have HX:=ax (H2.o.bz HB.o);obtain ⟨b,off,rfl,hbl⟩:=HX.o.blt hlt;have hji:(j:Int)<(a.atoms.length:Int):=by omega
   have HS:=ax (maskA_snoc m a.atoms j hlt);have hbit:=bit_at m j (by omega);have hk64:min j 64=j:=by omega
   cases hb:m.testBit j
   ·rw[hb] at hbit;have HXN:aJ (xs=maskA m 0 (a.atoms.take (j+1))):=ax (by rw[HS.o,hb,←HXS.o];simp);clear hb HS;(go_wp2_with fail)
    go_round
    case rel=>exact ⟨j+1,xs,A3,c3,by omega,by go_num,HXN,by omega,HA,k0,kr,kg,HB⟩
    case measure=>simp[intOf];omega
   ·rw[hb] at hbit;have HXN:aJ (xs++[a.atoms[j]]=maskA m 0 (a.atoms.take (j+1))):=ax (by rw[HS.o,hb,←HXS.o];simp);clear hb HS;(go_wp2_with fail);refine wp_region_noPanic ?_;refine wp_region_last' (S:=(fun w'=>(∀ i,w'.cell? ⟨w.heap.size+1+1,i,none⟩=#[.slice none 0 0,.slice A3 xs.length c3][i]?)∧(∀ i,w'.cell? ⟨w.heap.size,i,none⟩=#[.slice A1 a.facts.length c1,.slice (some ⟨b,off,none⟩) a.atoms.length c2][i]?)∧w'.cell? ⟨b,off+j * 3,none⟩=some (.int .i64 a.atoms[j].kind)∧w'.cell? ⟨b,off+j * 3+1,none⟩=some (.int .i64 a.atoms[j].a)∧w'.cell? ⟨b,off+j * 3+2,none⟩=some (.int .i64 a.atoms[j].b))) (by simp) (by kernel_rfl) (by kernel_rfl) (⟨Blk.cell blks,Blk.cell blks,(AtomsV.bz HX.o bel).cl hlt⟩) (fun aH=>?_);simp only[List.dropLast,List.getLast,nopOf,List.cons_append,List.nil_append,List.length_cons,List.length_nil,Nat.zero_add,Nat.reduceAdd];refine tk2 0 rfl aH (h:=tk2 1 rfl aH (h:=tk2 2 rfl aH (h:=?_)));(try simp only[zz]);refine tk2 3 rfl aH (h:=tk2 4 rfl aH (h:=tk2 5 rfl aH (h:=?_)));(try simp only[zz]);refine tk2 6 rfl aH (h:=?_);refine rdc 7 rfl fun K hK=>?_;(try simp only[zz]);go_simp;refine hK.out _ _ (⟨Blk.cell blks,Blk.cell blks,(AtomsV.bz HX.o bel).cl hlt⟩) ?_;clear aH hK K;intro aH;(try simp only[zz]);have hBX:Below w.heap.size w (wr.alloc (.cells #[.int .i64 a.atoms[j].kind,.int .i64 a.atoms[j].a,.int .i64 a.atoms[j].b] tA)).drew:=(Below.alloc HB.o hsz _).drew;have HAX:=ax (HA.o.bz (((Below.refl wr.heap.size wr).alloc (Nat.le_refl _) (.cells #[.int .i64 a.atoms[j].kind,.int .i64 a.atoms[j].a,.int .i64 a.atoms[j].b] tA)).drew));have kl:=(Blk.new wr tA #[.int .i64 a.atoms[j].kind,.int .i64 a.atoms[j].a,.int .i64 a.atoms[j].b]).drew;have kgX:=(kg.alloc (.cells #[.int .i64 a.atoms[j].kind,.int .i64 a.atoms[j].a,.int .i64 a.atoms[j].b] tA)).drew;have k0X:=(k0.alloc (.cells #[.int .i64 a.atoms[j].kind,.int .i64 a.atoms[j].a,.int .i64 a.atoms[j].b] tA)).drew;have krX:=(kr.alloc (.cells #[.int .i64 a.atoms[j].kind,.int .i64 a.atoms[j].a,.int .i64 a.atoms[j].b] tA)).drew;clear kg k0 kr HA HX qk0 qkg qkr rkr lkr;generalize (wr.alloc (.cells #[.int .i64 a.atoms[j].kind,.int .i64 a.atoms[j].a,.int .i64 a.atoms[j].b] tA)).drew=V at hBX HAX kl kgX k0X krX aH ⊢;have hszV:=hBX.size;generalize wr.heap.size=L at kl ⊢;clear hsz hbl HB;refine rdc 8 rfl fun K hK=>?_;skip;(refine stepAL (base:=w.heap.size) (xs:=xs) (ys:=[a.atoms[j]]) rfl _ _ rfl rfl HAX.o rfl (AtomsV.one' kl) (by simp;omega) hszV ?_;intro A' d' w2 of2 hg2 hB3;have z2:=Blk.grownO (hg:=hg2) kgX HAX.o.1 (by decide);have z0:=Blk.grownO (hg:=hg2) k0X HAX.o.1 (by decide);have hBw2:Below w.heap.size w w2:=hBX.trans hB3);refine hK.out _ _ (⟨z2.cell,z0.cell,(H2.o.bz hBw2).cl hlt⟩) ?_;clear aH hK K;intro aH;(try simp only[zz]);have rz2:=z2.frozen;have lz2:=z2.lt;refine tk2 9 rfl aH (h:=?_);(try simp only[zz]);refine rdc 10 rfl fun K hK=>?_;go_simp;refine hK.out _ _ (⟨z2.cell,z0.cell,(H2.o.bz hBw2).cl hlt⟩) (fun aH=>?_);clear hK K;refine wpAnyH_done (by kernel_rfl) ?_ _;unfold lastQ;go_simp;refine NoPanic.normal ?_;have zr:=Blk.grownO (hg:=hg2) krX HAX.o.1 (by decide);(go_wp2_with fail);have of3:=of2.setT z2 (by decide) 1 (.slice A' (xs.length+1) d')
    go_round
    case rel=>exact ⟨j+1,xs++[a.atoms[j]],A',d',by omega,by go_num,HXN,by simp;omega,(by simpa using of3:AtomsO _ _ _ _),z0.far (by simp only[];omega) _,zr.far (by simp only[];omega) _,(by have:=z2.set_ 1 (.slice A' (xs.length+1) d');simpa using this),hBw2.setCell (p:=⟨w.heap.size+1+1,1,none⟩) (by simp only;omega) _⟩
    case measure=>simp[intOf];omega
  ·obtain rfl:j=a.atoms.length:=by omega
   have hacc:xs=maskA m 0 a.atoms:=by have:=HXS.o;rwa [List.take_length] at this
   subst hacc;(go_wp2_with fail);refine bodyPost_ret (v:=.agg #[.slice none 0 0,.slice A3 (maskA m 0 a.atoms).length c3]) (by simp[results,Tryz.results197,go_sem,qkr]) rfl ⟨_,rfl,⟨_,_,rfl,FactsO.nil _ _,?_⟩,?_⟩
   ·exact (HA.o.setT kr (by decide) 0 _).setT (kr.set_ 0 _) (by decide) 1 _
   ·exact (HB.o.setCell (p:=⟨w.heap.size+1,0,none⟩) (by simp only;omega) _).setCell (p:=⟨w.heap.size+1,1,none⟩) (by simp only;omega) _
theorem c_l7Frame {lo hi lo' hi':Nat} (v v':Value) (a b:Asn) (w:World) (h:AsnV w lo hi v a) (h':AsnV w lo' hi' v' b) (hv:a.valid=true) (hv':b.valid=true) :
  Calls Tryz.prog 135 #[v,v'] w fun e w'=>∃ r,e=.returned (.tuple #[r,.bool (frameF a b).isSome])∧AsnO w' w.heap.size r ((frameF a b).getD ⟨[],[]⟩)∧Below w.heap.size w w':=by
 have HA:=ax h;have HB:=ax h';have hla:=(valid_len hv);have hlb:=(valid_len hv');have HF:=ax (frame_map hv hv');obtain ⟨A1,c1,A2,c2,rfl,-,-⟩:=h;obtain ⟨A3,c3,A4,c4,rfl,-,-⟩:=h';obtain ⟨n,hn⟩:∃ n,n=a.atoms.length:=⟨_,rfl⟩;obtain ⟨N,hN⟩:∃ N:Nat,N=2 ^ n:=⟨_,rfl⟩;have hN64:N≤64:=by rw[hN];exact Nat.pow_le_pow_right (n:=2) (by decide) (show n≤6 by omega)
 have HM:aJ (frM a b=seekM (frB a b) (N - 0) 0):=ax (by rw[hN,hn];rfl);have hp:(2:Int) ^ n=(N:Int):=by rw[hN];simp
 have hn64:min n 64=n:=by omega
 rw[←hn] at hla ⊢;have hPL:∀ m,(pickA a m).facts.length≤12∧(pickA a m).atoms.length≤n:=fun m=>⟨Nat.zero_le _,by rw[hn];exact maskA_len m _ 0⟩;have HPL:=ax hPL;replace hN:=ax hN;clear hv hv' hPL;(go_enter Tryz.func135,Tryz.ntmps135);obtain ⟨k2,k3,k4⟩:=blk3 w tAs tAs tAs #[.slice A1 a.facts.length c1,.slice A2 n c2] #[.slice A3 b.facts.length c3,.slice A4 b.atoms.length c4] #[.slice none 0 0,.slice none 0 0];have hB:aJ (Below w.heap.size w (((w.alloc (.cells #[.slice A1 a.facts.length c1,.slice A2 n c2] tAs)).alloc (.cells #[.slice A3 b.facts.length c3,.slice A4 b.atoms.length c4] tAs)).alloc (.cells #[.slice none 0 0,.slice none 0 0] tAs))):=ax bel;rw[←hn] at HA;replace hn:=ax hn;(go_wp2_with fail);generalize (((w.alloc (.cells #[.slice A1 a.facts.length c1,.slice A2 n c2] tAs)).alloc (.cells #[.slice A3 b.facts.length c3,.slice A4 b.atoms.length c4] tAs)).alloc (.cells #[.slice none 0 0,.slice none 0 0] tAs))=W at k2 k3 k4 hB ⊢
 go_loopw [6] (fun i wr=>∃ k:Nat,k≤N∧i=.int .i64 k∧aJ (frM a b=seekM (frB a b) (N - k) k)∧Blk wr w.heap.size tAs #[.slice A1 a.facts.length c1,.slice A2 n c2]∧Blk wr (w.heap.size+1) tAs #[.slice A3 b.facts.length c3,.slice A4 b.atoms.length c4]∧Blk wr (w.heap.size+1+1) tAs #[.slice none 0 0,.slice none 0 0]∧aJ (Below w.heap.size w wr)) (fun i _=>N - (intOf i).toNat)
 case atStart=>exact ⟨0,Nat.zero_le _,rfl,HM,k2,k3,k4,hB⟩
 case round=>
  clear HM k2 k3 k4 hB;obtain ⟨k,hk,rfl,HM,k2,k3,k4,hB⟩:=hrel;(replace qk2:=k2.z;replace qk3:=k3.z;replace qk4:=k4.cell;replace rk4:=k4.frozen;replace lk4:=k4.lt);by_cases hlt:k<N
  ·have hki:(k:Int)<(N:Int):=by omega
   have HS:aJ (frM a b=if frB a b k then some k else seekM (frB a b) (N - (k+1)) (k+1)):=ax (by rw[HM.o,seekM_step hlt]);have HFS:=ax (frB_spec (a:=a) (b:=b) k);clear HM;(go_wp2_with fail);refine (c_l7Pick _ a k _ (HA.o.bz hB.o) (by omega) (by have:=hn.o;omega)).mono ?_;rintro e w1 ⟨r1,rfl,o1,hB1⟩;obtain ⟨hp1,hp2⟩:=HPL.o k;obtain ⟨P,hP⟩:∃ P,P=pickA a k:=⟨_,rfl⟩;rw[←hP] at o1 HFS hp1 hp2;replace hP:=ax hP;obtain ⟨F1,f1,G1,g1,rfl⟩:=o1.I.form;have O1:=ax o1;have hzr:=hB.o.size;(replace k2:=k2.nz hB1;replace qk2:=k2.z;replace k3:=k3.nz hB1;replace qk3:=k3.z;replace k4:=k4.nz hB1;replace qk4:=k4.cell;replace rk4:=k4.frozen;replace lk4:=k4.lt);have HB1:=ax (bgo hB.o hB1);clear hB1 o1 hB;have k7:=Blk.new w1 tAs #[.slice F1 P.facts.length f1,.slice G1 P.atoms.length g1];have hbx:=bbox HB1.o (.cells #[.slice F1 P.facts.length f1,.slice G1 P.atoms.length g1] tAs);have k2x:=k2.alloc (.cells #[.slice F1 P.facts.length f1,.slice G1 P.atoms.length g1] tAs);have k3x:=k3.alloc (.cells #[.slice F1 P.facts.length f1,.slice G1 P.atoms.length g1] tAs);have k4x:=k4.alloc (.cells #[.slice F1 P.facts.length f1,.slice G1 P.atoms.length g1] tAs);have O1x:=ax ((O1.o.bz (bbox (Below.refl _ _) (.cells #[.slice F1 P.facts.length f1,.slice G1 P.atoms.length g1] tAs))).lower (base':=w.heap.size) hzr);clear O1;(go_upto_region 5 with fail);generalize (w1.alloc (.cells #[.slice F1 P.facts.length f1,.slice G1 P.atoms.length g1] tAs))=V1 at k7 hbx k2x k3x k4x O1x ⊢;clear k2 k3 k4 qk2 qk3 qk4 rk4 lk4;(replace qk7:=k7.z;replace qk2x:=k2x.z;replace qk3x:=k3x.z;replace qk4x:=k4x.cell;replace rk4x:=k4x.frozen;replace lk4x:=k4x.lt);have hzV:=hbx.size;(go_wp2_with fail);refine (c_spec_l3Star _ _ b P _ (HB.o.bz hbx) O1x.o.reads (by omega) (by omega)).mono ?_;rintro e w2 ⟨r2,rfl,o2,hB2⟩;obtain ⟨C,hC⟩:∃ C,C=starA b P:=⟨_,rfl⟩;rw[←hC] at o2;rw[hP.o,←hP.o,←hC] at HFS;replace hC:=ax hC;obtain ⟨F2,f2,G2,g2,rfl⟩:=o2.I.form;have hC2:=ax o2.reads;have O2x:=ax (O1x.o.bz hB2);(replace k7:=k7.nz hB2;replace k2x:=k2x.nz hB2;replace k3x:=k3x.nz hB2;replace k4x:=k4x.nz hB2);have HB2:=ax (bgo hbx hB2);clear hB2 o2 hbx O1x;have k8:=Blk.new w2 tAs #[.slice F2 C.facts.length f2,.slice G2 C.atoms.length g2];have hbx:=bbox HB2.o (.cells #[.slice F2 C.facts.length f2,.slice G2 C.atoms.length g2] tAs);replace k7:=k7.alloc (.cells #[.slice F2 C.facts.length f2,.slice G2 C.atoms.length g2] tAs);replace k2x:=k2x.alloc (.cells #[.slice F2 C.facts.length f2,.slice G2 C.atoms.length g2] tAs);replace k3x:=k3x.alloc (.cells #[.slice F2 C.facts.length f2,.slice G2 C.atoms.length g2] tAs);replace k4x:=k4x.alloc (.cells #[.slice F2 C.facts.length f2,.slice G2 C.atoms.length g2] tAs);have HC:=ax ((hC2.o.bz (bbox (Below.refl _ _) (.cells #[.slice F2 C.facts.length f2,.slice G2 C.atoms.length g2] tAs))));have O1x:=ax (O2x.o.bz (bbox (Below.refl _ _) (.cells #[.slice F2 C.facts.length f2,.slice G2 C.atoms.length g2] tAs)));have hzc:w2.heap.size≤(w2.alloc (.cells #[.slice F2 C.facts.length f2,.slice G2 C.atoms.length g2] tAs)).heap.size:=by simp
   obtain ⟨pf,hpf⟩:∃ x,x=V1.heap.size:=⟨_,rfl⟩;clear hC2 O2x qk7 qk2x qk3x qk4x rk4x lk4x;(go_upto_region 6 with fail);generalize (w2.alloc (.cells #[.slice F2 C.facts.length f2,.slice G2 C.atoms.length g2] tAs))=V2 at k7 hbx k2x k3x k4x O1x k8 HC hzc ⊢;(replace qk7:=k7.z;replace qk2x:=k2x.z;replace qk3x:=k3x.z;replace qk4x:=k4x.cell;replace rk4x:=k4x.frozen;replace lk4x:=k4x.lt;replace qk8:=k8.z);(go_wp2_with fail);refine (c_spec_AssertionValid _ C _ HC.o).mono ?_;rintro e w3 ⟨rfl,hB3⟩;(replace k7:=k7.nz hB3;replace qk7:=k7.z;replace k8:=k8.nz hB3;replace qk8:=k8.z;replace k2x:=k2x.nz hB3;replace qk2x:=k2x.z;replace k3x:=k3x.nz hB3;replace qk3x:=k3x.z;replace k4x:=k4x.nz hB3;replace qk4x:=k4x.cell;replace rk4x:=k4x.frozen;replace lk4x:=k4x.lt);have HB3:=ax (bgo hbx hB3);have HC3:=ax (HC.o.bz hB3);have O3:=ax (O1x.o.bz hB3);have hz3:=hB3.size;clear hB3 hbx HC O1x;cases hcv:C.valid
   ·have HM2:aJ (frM a b=seekM (frB a b) (N - (k+1)) (k+1)):=ax (by rw[HS.o,HFS.o,hcv];rfl);clear hcv HS HFS;(go_wp2_with fail)
    go_round
    case rel=>exact ⟨k+1,by omega,by go_num,HM2,k2x,k3x,k4x,HB3⟩
    case measure=>simp[intOf];omega
   ·rw[hcv,Bool.true_and] at HFS;clear hcv;(go_wp2_with fail);refine (c_spec_Entails _ _ a C _ (HA.o.bz HB3.o) HC3.o).mono ?_;rintro e w4 ⟨rfl,hB4⟩;rw[←HFS.o];(replace k7:=k7.nz hB4;replace qk7:=k7.z;replace k2x:=k2x.nz hB4;replace qk2x:=k2x.z;replace k3x:=k3x.nz hB4;replace qk3x:=k3x.z;replace k4x:=k4x.nz hB4;replace qk4x:=k4x.cell;replace rk4x:=k4x.frozen;replace lk4x:=k4x.lt);have HB4:=ax (bgo HB3.o hB4);have O4:=ax (O3.o.bz hB4);clear hB4 HB3 HC3 O3 k8 qk8;cases hp:frB a b k
    ·have HM2:aJ (frM a b=seekM (frB a b) (N - (k+1)) (k+1)):=ax (by rw[HS.o,hp];rfl);clear hp HS HFS;(go_wp2_with fail)
     go_round
     case rel=>exact ⟨k+1,by omega,by go_num,HM2,k2x,k3x,k4x,HB4⟩
     case measure=>simp[intOf];omega
    ·have E:aJ (frameF a b=some P):=ax (by rw[HF.o,HS.o,hp,if_pos rfl,Option.map_some,←hP.o]);clear hp HS HFS;(go_wp2_with fail);refine bodyPost_ret (v:=.tuple #[.agg #[.slice F1 P.facts.length f1,.slice G1 P.atoms.length g1],.bool true]) (by simp[results,Tryz.results135,go_sem,qk4x,lk4x]) rfl ⟨_,by rw[E.o];rfl,?_,?_⟩
     ·rw[E.o];exact AsnO.setW O4.o k4x _ _
     ·exact (HB4.o.setCell (p:=⟨w.heap.size+1+1,0,none⟩) (by simp only;omega) _).setCell (p:=⟨w.heap.size+1+1,1,none⟩) (by simp only;omega) _
  ·obtain rfl:k=N:=by omega
   have E:aJ (frameF a b=none):=ax (by rw[HF.o,HM.o,Nat.sub_self];rfl);have hBw:=hB.o;(go_wp2_with fail);refine bodyPost_ret (v:=.tuple #[.agg #[.slice none 0 0,.slice none 0 0],.bool false]) (by simp[results,Tryz.results135,go_sem,qk4,lk4]) rfl ⟨_,by rw[E.o];rfl,by rw[E.o];exact AsnO.zero _ _,bel⟩
end
end Go.Proofs.YtgdfdmjnadnlnaaGreat
