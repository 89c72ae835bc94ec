/- Contracts: the terms of both. -/
import Derived.Test.YtjaohekkmlkinaaGreatMbFailP
set_option linter.unusedSimpArgs false
set_option linter.unusedVariables false
set_option maxRecDepth 100000
set_option maxHeartbeats 25600000
namespace Go.Proofs.YtjaohekkmlkinaaGreat
section
open Go Go.RowKit Go.Proofs
attribute [local go_sem ↓] Go.wp_at_zero Go.wp_at_succ
theorem c_spec_l6Both {lo hi lo' hi':Nat} (v v':Value) (a b:Asn) (w:World) (h:AsnV w lo hi v a) (h':AsnV w lo' hi' v' b) (hn1:a.facts.length+b.facts.length≤1049600) (hn2:a.atoms.length+b.atoms.length≤1049600) (ht:∀ t∈mz (starA a b),jq t=true) :
  Calls Tryz.prog 199 #[v,v'] w fun e w'=>∃ r,e=.returned r∧BoolsO w' w.heap.size r (zj (tset (mz (starA a b))))∧Below w.heap.size w w':=by
 obtain ⟨A1,c1,A2,c2,rfl,h1,h2⟩:=h;obtain ⟨A3,c3,A4,c4,rfl,h3,h4⟩:=h';(go_enter Tryz.func199,Tryz.ntmps199);have HTT:=ax ht;clear ht;have hB:Below w.heap.size w ((w.alloc (.cells #[.slice A1 a.facts.length c1,.slice A2 a.atoms.length c2] 37)).alloc (.cells #[.slice A3 b.facts.length c3,.slice A4 b.atoms.length c4] 37)):=bel;have k0:Blk ((w.alloc (.cells #[.slice A1 a.facts.length c1,.slice A2 a.atoms.length c2] 37)).alloc (.cells #[.slice A3 b.facts.length c3,.slice A4 b.atoms.length c4] 37)) w.heap.size tAs #[.slice A1 a.facts.length c1,.slice A2 a.atoms.length c2]:=blks;have k1:Blk ((w.alloc (.cells #[.slice A1 a.facts.length c1,.slice A2 a.atoms.length c2] 37)).alloc (.cells #[.slice A3 b.facts.length c3,.slice A4 b.atoms.length c4] 37)) (w.heap.size+1) tAs #[.slice A3 b.facts.length c3,.slice A4 b.atoms.length c4]:=blks;(go_wp2_with fail);have hz:=k1.lt;generalize ((w.alloc (.cells #[.slice A1 a.facts.length c1,.slice A2 a.atoms.length c2] 37)).alloc (.cells #[.slice A3 b.facts.length c3,.slice A4 b.atoms.length c4] 37))=W at k0 k1 hB hz ⊢;have tok3:True:=trivial;have tok6:True:=trivial;have tok10:True:=trivial;have tok13:True:=trivial;have tok15:True:=trivial
 go_region_held3 (fun w'=>(∀ i,w'.cell? ⟨w.heap.size,i,none⟩=#[.slice A1 a.facts.length c1,.slice A2 a.atoms.length c2][i]?)∧(∀ i,w'.cell? ⟨w.heap.size+1,i,none⟩=#[.slice A3 b.facts.length c3,.slice A4 b.atoms.length c4][i]?))
  (exact ⟨Blk.cell blks,Blk.cell blks⟩)
  (first
   | (have _t:=tok3;clear _t tok3;refine stepFL (xs:=[]) rfl _ _ rfl rfl (FactsO.ofBlk (base:=w.heap.size) blks (by first|omega|(simp;omega))) rfl (h1.bz bel) (by first|omega|(simp;omega)) (by first|omega|(simp;omega)) ?_;intro F1 e1 w1 hO1 hg1 hB1;have hBw1:Below w.heap.size w w1:=Below.trans bel hB1;simp only[List.nil_append] at hO1;have m10:=Blk.zm (g:=w.heap.size) (hg:=hg1) blks (FactsO.ofBlk (base:=w.heap.size) blks (by first|omega|(simp;omega))).1 (by decide);have m11:=Blk.zm (g:=w.heap.size+1) (hg:=hg1) blks (FactsO.ofBlk (base:=w.heap.size) blks (by first|omega|(simp;omega))).1 (by decide);have lt1:=m11.lt;(try (have za:Blk w1 (W.heap.size+1) tA #[]:=?zz;case zz=>(refine Blk.zm (hg:=hg1) ?_ (FactsO.ofBlk (base:=w.heap.size) blks (by first|omega|(simp;omega))).1 (by decide);(repeat (first|(with_reducible assumption)|(with_reducible exact Blk.new _ _ _)|((with_reducible apply Blk.far);(case hp=>(first|exact Nat.le_refl _|(simp;done)|(simp;omega)|(simp only;omega)|omega)))|(with_reducible apply Blk.set_)|((with_reducible refine Blk.newE ?_);(simp;done))|(with_reducible apply Blk.alloc)|(with_reducible apply Blk.drew)|(with_reducible apply Blk.drewN)));done)));(try (have za:Blk w1 W.heap.size tA #[]:=?zz;case zz=>(refine Blk.zm (hg:=hg1) ?_ (FactsO.ofBlk (base:=w.heap.size) blks (by first|omega|(simp;omega))).1 (by decide);(repeat (first|(with_reducible assumption)|(with_reducible exact Blk.new _ _ _)|((with_reducible apply Blk.far);(case hp=>(first|exact Nat.le_refl _|(simp;done)|(simp;omega)|(simp only;omega)|omega)))|(with_reducible apply Blk.set_)|((with_reducible refine Blk.newE ?_);(simp;done))|(with_reducible apply Blk.alloc)|(with_reducible apply Blk.drew)|(with_reducible apply Blk.drewN)));done))))
   | (have _t:=tok6;clear _t tok6;refine stepFL (xs:=a.facts) rfl _ _ rfl rfl (FactsO.bz (w:=w1) hO1 bel) rfl (h3.bz bel) (by first|omega|(simp;omega)) (by first|omega|(simp;omega)) ?_;intro F2 e2 w2 hO2 hg2 hB2;have hBw2:Below w.heap.size w w2:=Below.trans bel hB2;have m20:=Blk.zm (g:=w.heap.size) (hg:=hg2) blks (FactsO.bz (w:=w1) hO1 bel).1 (by decide);have m21:=Blk.zm (g:=w.heap.size+1) (hg:=hg2) blks (FactsO.bz (w:=w1) hO1 bel).1 (by decide);have lt2:=m21.lt;(try (have zb:Blk w2 w1.heap.size tA #[]:=?zz;case zz=>(refine Blk.zm (hg:=hg2) ?_ (FactsO.bz (w:=w1) hO1 bel).1 (by decide);(repeat (first|(with_reducible assumption)|(with_reducible exact Blk.new _ _ _)|((with_reducible apply Blk.far);(case hp=>(first|exact Nat.le_refl _|(simp;done)|(simp;omega)|(simp only;omega)|omega)))|(with_reducible apply Blk.set_)|((with_reducible refine Blk.newE ?_);(simp;done))|(with_reducible apply Blk.alloc)|(with_reducible apply Blk.drew)|(with_reducible apply Blk.drewN)));done)));(try (have zb:=Blk.zm (hg:=hg2) (Blk.nz za bel) (FactsO.bz (w:=w1) hO1 bel).1 (by decide))))
   | (have _t:=tok10;clear _t tok10;refine stepAL (xs:=[]) rfl _ _ rfl rfl (AtomsO.ofBlk (base:=w.heap.size) blks (by first|omega|(simp;omega))) rfl (h2.bz bel) (by first|omega|(simp;omega)) (by first|omega|(simp;omega)) ?_;intro F3 e3 w3 hO3 hg3 hB3;have hBw3:Below w.heap.size w w3:=Below.trans bel hB3;simp only[List.nil_append] at hO3;have m30:=Blk.zm (g:=w.heap.size) (hg:=hg3) blks (AtomsO.ofBlk (base:=w.heap.size) blks (by first|omega|(simp;omega))).1 (by decide);have m31:=Blk.zm (g:=w.heap.size+1) (hg:=hg3) blks (AtomsO.ofBlk (base:=w.heap.size) blks (by first|omega|(simp;omega))).1 (by decide);have lt3:=m31.lt;have hP3:=FactsO.grownA (FactsO.bz (w:=w2) hO2 bel) (AtomsO.ofBlk (base:=w.heap.size) blks (by first|omega|(simp;omega))) hg3)
   | (have _t:=tok13;clear _t tok13;refine stepAL (xs:=a.atoms) rfl _ _ rfl rfl (AtomsO.bz (w:=w3) hO3 bel) rfl (h4.bz bel) (by first|omega|(simp;omega)) (by first|omega|(simp;omega)) ?_;intro F4 e4 w4 hO4 hg4 hB4;have hBw4:Below w.heap.size w w4:=Below.trans bel hB4;have m40:=Blk.zm (g:=w.heap.size) (hg:=hg4) blks (AtomsO.bz (w:=w3) hO3 bel).1 (by decide);have m41:=Blk.zm (g:=w.heap.size+1) (hg:=hg4) blks (AtomsO.bz (w:=w3) hO3 bel).1 (by decide);have lt4:=m41.lt;have hP4:=FactsO.grownA (FactsO.bz (w:=w3) hP3 bel) (AtomsO.bz (w:=w3) hO3 bel) hg4)
   | (have _t:=tok15;clear _t tok15;go_at_call 85;have hS:AsnO w4 w.heap.size (.agg #[.slice F2 (a.facts.length+b.facts.length) e2,.slice F4 (a.atoms.length+b.atoms.length) e4]) (starA a b):=(⟨_,_,rfl,(by first|exact hP4|(rw[←List.length_append];exact hP4)),(by first|exact hO4|(rw[←List.length_append];exact hO4))⟩);refine (c_spec_l3Terms _ (starA a b) w4 hS.rj HTT.o).mono ?_;rintro e w5 ⟨r5,rfl,o5,hB5⟩;have hBw5:Below w.heap.size w w5:=bgo hBw4 hB5;have m50:=m40.nz hB5;have m51:=m41.nz hB5;have lt5:=m51.lt;have hz5:=hBw4.size))
 all_goals
  (go_wp2_with fail);go_ret;exact ⟨r5,rfl,o5.bq hz5,hBw5⟩
def seekF (a b:Asn) (S n:Nat) (c:List Int):List (List Int):=(seek a S n c).filter fun d=>!caseB a b d
def seekFAt (a b:Asn) (S n:Nat) (c:List Int) (k:Nat):List (List Int):=if k<8 - n∧cl c k≠k then [] else seekF a b S n (c.set (8 - n) k)
theorem seekF_cut {a b:Asn} {S:Nat} (n:Nat) {c:List Int} (h:(fitsS c a.facts&&earlyF c [] a.atoms)=false):seekF a b S n c=[]:=by
 unfold seekF;rw[seek_cut n h];rfl
theorem seekF_leaf {a b:Asn} {S:Nat} {c:List Int} (h:(fitsS c a.facts&&earlyF c [] a.atoms)=true):seekF a b S 0 c=if apartF [] (filledL a.atoms c) then (if caseB a b c then [] else [c]) else []:=by
 unfold seekF;rw[seek_leaf h];cases apartF [] (filledL a.atoms c)<;>cases e:caseB a b c<;>simp[e]
theorem seekF_step {a b:Asn} {S n:Nat} {c:List Int} (h:(fitsS c a.facts&&earlyF c [] a.atoms)=true):seekF a b S (n+1) c=if S.testBit (8 - n) then (List.range (9 - n)).flatMap (seekFAt a b S n c) else seekF a b S n c:=by
 unfold seekF;rw[seek_step h]
 split
 ·rw[List.filter_flatMap];apply flatMap_congr';intro k _;unfold seekAt seekFAt seekF
  split<;>rfl
 ·rfl
theorem c_spec_l6Seek {a b:Asn} {S lo hi lo2 hi2 lo3 hi3:Nat} {A1 A2 A3 A4:Option Addr} {d1 d2 d3 d4:Nat} (T:Option Addr) (tc:Nat) (hv:a.valid=true) (hvb:b.valid=true) :
  ∀ (n:Nat) (c:List Int) (B:Option Addr) (cc lo' hi':Nat) (w:World),n≤8→c.length=9→(∀ j:Nat,j<9 - n→S.testBit j=true→0≤cl c j∧cl c j≤j)→(∀ j:Nat,j<9→cl c j≤8)→
   AsnV w lo hi (.agg #[.slice A1 a.facts.length d1,.slice A2 a.atoms.length d2]) a→AsnV w lo3 hi3 (.agg #[.slice A3 b.facts.length d3,.slice A4 b.atoms.length d4]) b→BoolsV w lo2 hi2 T (zj S)→IntsV w lo' hi' B c→
   Calls Tryz.prog 198 #[.agg #[.slice A1 a.facts.length d1,.slice A2 a.atoms.length d2],.agg #[.slice A3 b.facts.length d3,.slice A4 b.atoms.length d4],.slice T 9 tc,.slice B 9 cc,.int .i64 ((9 - n:Nat):Int)] w fun e w'=>
    ∃ r,e=.returned (.tuple #[r,.bool (!(seekF a b S n c).isEmpty)])∧IntsO w' w.heap.size r (firstI (seekF a b S n c))∧Below w.heap.size w w':=by
 intro n
 induction n with
 | zero=>
  intro c B cc lo' hi' w hn hc _ hc8 hA hAb hT hI;have HO0:=ax hv;have HO:=ax (Asn.valid_ok hv);have hV:=ax hA;have hVb:=ax hAb;have HVB:=ax hvb;have HC:=ax hc;have HI:=ax hI
  have HCL:aJ (∀ x∈a.atoms,cl c x.a≤8):=fun x hx=>by
   have:=(HO.o.2 x hx).1;obtain ⟨t,et⟩:=Int.eq_ofNat_of_zero_le this.1;rw[et];exact hc8 t (by omega)
  obtain ⟨B1,e1,B2,e2,he,h1,h2⟩:=hA;injection he with he;injection he with he;injection he with he1 he2;injection he2 with he2 he3;injection he1 with he1 _ he4;injection he2 with he2 _ he5;subst he1 he4 he2 he5;have H1:=ax h1;have H2:=ax h2;have hvl:=zjC hv;clear h1 h2 hc hc8 hT hI he3 hAb;(go_enter Tryz.func198,Tryz.ntmps198);(go_wp2_with fail);refine (c_fits9 A1 B d1 cc a.facts c _ (H1.o.bz bel) (HI.o.bz bel) HC.o HO.o.1).mono ?_;rintro e w1 ⟨rfl,rfl⟩;cases hf:fitsS c a.facts
  ·have E:=ax (seekF_cut (a:=a) (b:=b) (S:=S) 0 (c:=c) (by rw[hf];rfl));clear hf;(go_wp2_with fail);go_ret2;exact ⟨_,by rw[E.o];rfl,by rw[E.o];exact IntsO.bq (IntsO.empty _ (by first|rfl|simp)) (by first|omega|simp),bel⟩
  have HF:=ax hf;clear hf;(go_wp2_with fail);refine (c_early9 A2 B d2 cc a.atoms c _ (H2.o.bz bel) (HI.o.bz bel) HC.o HO.o.2 HCL.o).mono ?_;rintro e w2 ⟨rfl,hB2⟩;have hB:Below w.heap.size w w2:=bgo (w:=w) bel hB2;have k0:Blk w2 w.heap.size tAs #[.slice A1 a.facts.length d1,.slice A2 a.atoms.length d2]:=Blk.nz blks hB2;have kb:Blk w2 (w.heap.size+1) tAs #[.slice A3 b.facts.length d3,.slice A4 b.atoms.length d4]:=Blk.nz blks hB2;have q0:=k0.cell;have l0:=k0.lt;have qb:=kb.cell;have lb:=kb.lt;clear hB2;cases he:earlyF c [] a.atoms
  ·have E:=ax (seekF_cut (a:=a) (b:=b) (S:=S) 0 (c:=c) (by rw[HF.o,he];rfl));clear he;(go_wp2_with fail);go_ret2;exact ⟨_,by rw[E.o];rfl,by rw[E.o];exact IntsO.bq (IntsO.empty _ rfl) (by omega),bel⟩
  have E0:=ax (seekF_leaf (a:=a) (b:=b) (S:=S) (c:=c) (by rw[HF.o,he];rfl));clear he;(go_wp2_with fail);refine (c_filled9 A2 B d2 cc a.atoms c _ (H2.o.bz hB) (HI.o.bz hB) HC.o HO.o.2).mono ?_;rintro e w3 ⟨r3,rfl,o3,hB3⟩;obtain ⟨R3,e3,rfl,v3⟩:=o3.rj;have hBB:Below w.heap.size w w3:=bgo hB hB3;(go_wp2_with fail);refine (c_spec_l5Apart R3 e3 (filledL a.atoms c) _ v3).mono ?_;rintro e w4 ⟨rfl,hB4⟩;have hB5:Below w.heap.size w w4:=bgo hBB hB4;have hz:=hB5.size;replace k0:=(k0.nz hB3).nz hB4;replace kb:=(kb.nz hB3).nz hB4;(replace qk0:=k0.z;replace qkb:=kb.z);clear o3 v3 hB3 hB4 hBB q0 l0 qb lb hB;cases hap:apartF [] (filledL a.atoms c)
  ·have E:=ax (show seekF a b S 0 c=[] by rw[E0.o,hap];rfl);clear hap;(go_wp2_with fail);go_ret2;exact ⟨_,by rw[E.o];rfl,by rw[E.o];exact IntsO.bq (IntsO.empty _ rfl) (by omega),bel⟩
  have E1:=ax (show seekF a b S 0 c=if caseB a b c then [] else [c] by rw[E0.o,hap];cases caseB a b c<;>rfl);clear hap;(go_wp2_with fail);refine (c_spec_l6Case _ _ B cc a b c _ (hV.o.bz hB5) (hVb.o.bz hB5) (HI.o.bz hB5) HO0.o HVB.o HC.o).mono ?_;rintro e w5 ⟨rfl,hB6⟩;have hB7:Below w.heap.size w w5:=bgo hB5 hB6;replace hz:=hB7.size;clear hB6 hB5 k0 kb qk0 qkb;cases hcb:caseB a b c
  ·have E:=ax (show seekF a b S 0 c=[c] by rw[E1.o,hcb];rfl);clear hcb;(go_wp2_with (at_builtin;refine appIL (ys:=c) rfl _ _ rfl (v:=.slice (some ⟨w5.heap.size,0,none⟩) 0 0) rfl (IntsO.empty w5 rfl) (by rw[HC.o];rfl) (HI.o.bz bel) (by rw[HC.o];simp) (by simp) ?_;intro A' c' w6 o6 hg6 hB8;rw[List.nil_append,HC.o]));go_ret2;exact ⟨_,by rw[E.o];rfl,by rw[E.o];rw[List.nil_append,HC.o] at o6;exact o6.bq hz,Below.trans bel (hB8.mono hz)⟩
  ·have E:=ax (show seekF a b S 0 c=[] by rw[E1.o,hcb];rfl);clear hcb;(go_wp2_with fail);go_ret2;exact ⟨_,by rw[E.o];rfl,by rw[E.o];exact IntsO.bq (IntsO.empty _ rfl) (by omega),bel⟩
 | succ n ih=>
  intro c B cc lo' hi' w hn hc hcl hc8 hA hAb hT hI;have HO0:=ax hv;have HO:=ax (Asn.valid_ok hv);have hV:=ax hA;have hVb:=ax hAb;have HVB:=ax hvb;have HC:=ax hc;have HI:=ax hI;have HTT:=ax hT;have HC8:=ax hc8;have HCL0:=ax hcl;have IH:=ax ih
  have HCL:aJ (∀ x∈a.atoms,cl c x.a≤8):=fun x hx=>by
   have:=(HO.o.2 x hx).1;obtain ⟨t,et⟩:=Int.eq_ofNat_of_zero_le this.1;rw[et];exact hc8 t (by omega)
  obtain ⟨B1,e1,B2,e2,he,h1,h2⟩:=hA;injection he with he;injection he with he;injection he with he1 he2;injection he2 with he2 he3;injection he1 with he1 _ he4;injection he2 with he2 _ he5;subst he1 he4 he2 he5;have H1:=ax h1;have H2:=ax h2;obtain ⟨tb,tz0,rfl,ltb⟩:=flags_addr hT;obtain ⟨pb,ob,rfl,lpb⟩:=hI.blt (k:=0) (by omega);obtain ⟨m,hm8⟩:∃ m,m=8 - n:=⟨_,rfl⟩;have E1:aJ (((9 - n:Nat):Int)=(m:Int)+1):=by show _=_;omega
  rw[show 9 - (n+1)=m from by omega] at HCL0 ⊢;have HM8:=ax hm8;have HN:=ax hn;have hmg:¬(8<(m:Int)):=by omega
  have hmi9:(m:Int)<9:=by omega
  clear h1 h2 hc hc8 hcl hT hI he3 ih hm8 hn hAb;(go_enter Tryz.func198,Tryz.ntmps198);(go_wp2_with fail);refine (c_fits9 A1 _ d1 cc a.facts c _ (H1.o.bz bel) (HI.o.bz bel) HC.o HO.o.1).mono ?_;rintro e w1 ⟨rfl,rfl⟩;cases hf:fitsS c a.facts
  ·have E:=ax (seekF_cut (a:=a) (b:=b) (S:=S) (n+1) (c:=c) (by rw[hf];rfl));clear hf;(go_wp2_with fail);go_ret2;exact ⟨_,by rw[E.o];rfl,by rw[E.o];exact IntsO.bq (IntsO.empty _ (by first|rfl|simp)) (by first|omega|simp),bel⟩
  have HF:=ax hf;clear hf;(go_wp2_with fail);refine (c_early9 A2 _ d2 cc a.atoms c _ (H2.o.bz bel) (HI.o.bz bel) HC.o HO.o.2 HCL.o).mono ?_;rintro e w2 ⟨rfl,hB2⟩;have hB:Below w.heap.size w w2:=bgo (w:=w) bel hB2;have k0:Blk w2 w.heap.size tAs #[.slice A1 a.facts.length d1,.slice A2 a.atoms.length d2]:=Blk.nz blks hB2;have kb:Blk w2 (w.heap.size+1) tAs #[.slice A3 b.facts.length d3,.slice A4 b.atoms.length d4]:=Blk.nz blks hB2;have q0:=k0.cell;have l0:=k0.lt;have qb:=kb.cell;have lb:=kb.lt;clear hB2;cases he:earlyF c [] a.atoms
  ·have E:=ax (seekF_cut (a:=a) (b:=b) (S:=S) (n+1) (c:=c) (by rw[HF.o,he];rfl));clear he;(go_wp2_with fail);go_ret2;exact ⟨_,by rw[E.o];rfl,by rw[E.o];exact IntsO.bq (IntsO.empty _ rfl) (by omega),bel⟩
  have E0:=ax (seekF_step (a:=a) (b:=b) (S:=S) (n:=n) (c:=c) (by rw[HF.o,he];rfl));clear he;have qt:=flags_at (HTT.o.bz hB) (m:=m) (by omega);cases ht:S.testBit m
  ·rw[ht] at qt;have E:aJ (seekF a b S (n+1) c=seekF a b S n c):=by show _=_;rw[E0.o,←HM8.o,ht];rfl
   have ih1:=IH.o c _ cc _ _ w2 (by have:=HN.o;omega) HC.o (fun j hj hS=>by
    by_cases e:j=m
    ·subst e;rw[ht] at hS;cases hS
    ·exact HCL0.o j (by have:=HM8.o;have:=HN.o;omega) hS) HC8.o (hV.o.bz hB) (hVb.o.bz hB) (HTT.o.bz hB) (HI.o.bz hB)
   rw[E1.o] at ih1;have IH1:=ax ih1;clear ih1 ht;(go_wp2_with fail);refine IH1.o.mono ?_;rintro e w3 ⟨r,rfl,o3,hB3⟩;have O3:=ax o3;have hz:=hB.size;clear o3;(go_wp2_with fail);go_ret2;exact ⟨r,by rw[E.o];rfl,by rw[E.o];exact O3.o.bq hz,bgo hB hB3⟩
  ·rw[ht] at qt;have E:aJ (seekF a b S (n+1) c=(List.range (9 - n)).flatMap (seekFAt a b S n c)):=by show _=_;rw[E0.o,←HM8.o,ht];rfl
   clear ht;(go_wp2_with fail)
   go_loopw [12] (fun i wr=>∃ k:Nat,k≤m+1∧i=.int .i64 k∧aJ ((List.range k).flatMap (seekFAt a b S n c)=[])∧Blk wr w.heap.size tAs #[.slice A1 a.facts.length d1,.slice A2 a.atoms.length d2]∧Blk wr (w.heap.size+1) tAs #[.slice A3 b.facts.length d3,.slice A4 b.atoms.length d4]∧Below w.heap.size w wr) (fun i _=>9 - (intOf i).toNat)
   case atStart=>exact ⟨0,Nat.zero_le _,rfl,rfl,k0,kb,hB⟩
   case round=>
    clear k0 kb hB q0 l0 qb lb qt;obtain ⟨k,hk,rfl,HP,k0,kb,hB⟩:=hrel;have q0:=k0.cell;have l0:=k0.lt;have qb:=kb.cell;have lb:=kb.lt;have hz:=hB.size;by_cases hlt:k≤m
    ·have hki:(k:Int)≤(m:Int):=by omega
     have hk9:(k:Int)<9:=by omega
     have hkc:=ints_cl (HI.o.bz hB) (m:=k) (by rw[HC.o];omega);have HNX:aJ ((List.range (k+1)).flatMap (seekFAt a b S n c)=seekFAt a b S n c k):=by show _=_;rw[List.range_succ,List.flatMap_append,HP.o];simp
     by_cases hskip:k<m∧cl c k≠k
     ·have HX:aJ (seekFAt a b S n c k=[]):=by show _=_;rw[seekFAt,if_pos (by rw[←HM8.o];exact hskip)]
      have hkm:(k:Int)<(m:Int):=by omega
      have hne:(cl c k != (k:Int))=true:=by simpa using hskip.2
      clear hskip hki hlt;(go_wp2_with fail)
      go_round
      case rel=>exact ⟨k+1,by omega,by go_num,by show _=_;rw[HNX.o,HX.o],k0,kb,hB⟩
      case measure=>simp[intOf];omega
     ·have hsk2:k<m→(cl c k != (k:Int))=false:=fun h=>by
       cases Int.decEq (cl c k) k with
       | isTrue h=>simp[h]
       | isFalse h'=>exact absurd ⟨h,h'⟩ hskip
      have HX:aJ (seekFAt a b S n c k=seekF a b S n (c.set m k)):=by
       show _=_;rw[seekFAt,←HM8.o,if_neg hskip]
      clear hskip;have hcs:(c.set m (k:Int)).length=9:=by simpa using HC.o
      have HCS:=ax hcs
      have hcl':∀ j:Nat,j<9 - n→S.testBit j=true→0≤cl (c.set m (k:Int)) j∧cl (c.set m (k:Int)) j≤j:=fun j hj hSj=>by
       have:=HM8.o;have:=HN.o;rw[cl_set HC.o (by omega) _ (by omega)]
       split
       ·omega
       ·exact HCL0.o j (by omega) hSj
      have HCL':=ax hcl'
      have hc8':∀ j:Nat,j<9→cl (c.set m (k:Int)) j≤8:=fun j hj=>by
       rw[cl_set HC.o (by omega) _ (by omega)]
       split
       ·omega
       ·exact HC8.o j hj
      have HC8':=ax hc8';clear hcl' hc8' hcs;obtain hkm|hkm:k<m∨k=m:=by omega
      case' inl=>have h1:(k:Int)<(m:Int):=by omega
      case' inl=>have h2:=hsk2 hkm
      case' inr=>have h1:¬(k:Int)<(m:Int):=by omega
      all_goals
       clear hkm hsk2;(go_wp2_with (at_builtin;refine appIL (ys:=c) (base:=wr.heap.size) rfl _ _ rfl (v:=.slice (some ⟨wr.heap.size,0,none⟩) 0 0) rfl (IntsO.empty wr rfl) (by rw[HC.o];rfl) (HI.o.bz bel) (by rw[HC.o];simp) (by simp) ?_;intro A' c' w5 o5 hg5 hB6;rw[List.nil_append,HC.o] at o5 ⊢;obtain ⟨g,cur,-,rfl,hgb,kg,hcm,hset⟩:=o5.open_ (k:=m) (by rw[HC.o];omega);have qg:=(kg.cell m).trans hcm;have rg:=kg.frozen;have lg:=kg.lt;have HSET:=ax (hset k);have k5:=Blk.bz (g:=w.heap.size) (w:=wr.alloc (.cells #[] tI)) (k0.alloc _) hB6 l0;have hB5:Below w.heap.size w w5:=Below.trans bel (hB6.mono (by omega));have k6:=k5.far (p:=⟨g,m,none⟩) (by simp only;omega) (.int .i64 k);have kb5:=Blk.bz (g:=w.heap.size+1) (w:=wr.alloc (.cells #[] tI)) (kb.alloc _) hB6 lb;have kb6:=kb5.far (p:=⟨g,m,none⟩) (by simp only;omega) (.int .i64 k);have qb6:=kb6.cell;have q6:=k6.cell;clear hset o5 kg hcm q0 qb hg5));have hB7:Below w.heap.size w (w5.setCell ⟨g,m,none⟩ (.int .i64 k)):=hB5.setCell (p:=⟨g,m,none⟩) (by simp only;omega) _;have hz7:=hB7.size;have v7:=HSET.o.readsI.2;have ih1:=IH.o (c.set m (k:Int)) _ c' _ _ _ (by have:=HN.o;omega) HCS.o HCL'.o HC8'.o (hV.o.bz hB7) (hVb.o.bz hB7) (HTT.o.bz hB7) v7;rw[E1.o] at ih1;refine ih1.mono ?_;clear ih1 v7 q6 k5 qg rg qb6 kb5;rintro e w8 ⟨r,rfl,o8,hB8⟩;have O8:=ax o8;have k8:=k6.nz hB8;have kb8:=kb6.nz hB8;have hBn:=bgo hB7 hB8;clear o8 hB8 k6 kb6 hB7 hB5 hB6;cases hem:(seekF a b S n (c.set m (k:Int))).isEmpty
       ·have hne:seekFAt a b S n c k≠[]:=by rw[HX.o];intro h;rw[h] at hem;cases hem
        obtain ⟨y,y1,y2⟩:=flatMap_first (N:=9 - n) (by have:=HM8.o;have:=HN.o;omega) HP.o hne;rw[HX.o] at y1
        have E2:aJ ((seekF a b S (n+1) c).isEmpty=false∧firstI (seekF a b S (n+1) c)=firstI (seekF a b S n (c.set m (k:Int)))):=by
         refine ⟨?_,?_⟩
         ·rw[E.o]
          cases h:(List.range (9 - n)).flatMap (seekFAt a b S n c) with
          | nil=>rw[h] at y2;cases y2
          | cons _ _=>rfl
         ·unfold firstI;rw[E.o,y1,y2]
        clear hem hne y1 y2;(go_wp2_with fail);go_ret2;exact ⟨r,by rw[E2.o.1];rfl,by rw[E2.o.2];exact O8.o.bq hz7,hBn⟩
       ·have HX2:aJ (seekFAt a b S n c k=[]):=by show _=_;rw[HX.o];simpa using hem
        clear hem;(go_wp2_with fail)
        go_round
        case rel=>exact ⟨k+1,by omega,by go_num,by show _=_;rw[HNX.o,HX2.o],k8,kb8,hBn⟩
        case measure=>simp[intOf];omega
    ·obtain rfl:k=m+1:=by omega
     have E2:aJ (seekF a b S (n+1) c=[]):=by show _=_;rw[E.o,show 9 - n=m+1 from by have:=HM8.o;have:=HN.o;omega];exact HP.o
     (go_wp2_with fail);go_ret2;exact ⟨_,by rw[E2.o];rfl,by rw[E2.o];exact IntsO.bq (IntsO.empty _ rfl) (by omega),bel⟩
def entF (a b:Asn):Bool:=a.valid&&b.valid && !(failF a b).isSome
theorem termsL_star (a b:Asn) (t:Int):t∈mz (starA a b)↔t∈mz a∨t∈mz b:=by
 simp only[mz,starA,List.flatMap_append,List.mem_append];constructor
 ·rintro ((h|h)|(h|h))<;>simp[h]
 ·rintro ((h|h)|(h|h))<;>simp[h]
theorem seekF_fail {a b:Asn} (ha:a.valid=true) (hb:b.valid=true):(!(seekF a b (tset (mz (starA a b))) 8 opened).isEmpty)=(failF a b).isSome∧firstI (seekF a b (tset (mz (starA a b))) 8 opened)=(failF a b).getD []:=by
 have e:seek a (tset (mz (starA a b))) 8 opened=cases a (caseS a (tset (mz b))):=by
  refine seek_caseS ha _ _ fun j h1 h2=>?_;rw[caseS_bit,tset_bit,tset_bit];have hj:¬j=0:=by omega
  rw[decide_eq_false hj,Bool.or_false,←Bool.decide_or,decide_eq_decide,termsL_star];constructor
  ·rintro ⟨g,h|h⟩
   ·exact Or.inl ⟨g,h⟩
   ·exact Or.inr ⟨g,h⟩
  ·rintro (⟨g,h⟩|⟨g,h⟩)
   ·exact ⟨g,Or.inl h⟩
   ·exact ⟨g,Or.inr h⟩
 unfold seekF firstI;rw[e,←failF_eq hb];cases (cases a (caseS a (tset (mz b)))).filter fun d=>!caseB a b d<;>exact ⟨rfl,rfl⟩
theorem termsL_star_ok {a b:Asn} (ha:a.valid=true) (hb:b.valid=true):∀ t∈mz (starA a b),jq t=true:=by
 intro t ht;rcases (termsL_star a b t).1 ht with h|h
 ·exact termsL_ok ha t h
 ·exact termsL_ok hb t h
theorem c_spec_l6Fails {lo hi lo' hi':Nat} (v v':Value) (a b:Asn) (w:World) (h:AsnV w lo hi v a) (h':AsnV w lo' hi' v' b) (ha:a.valid=true) (hb:b.valid=true) :
  Calls Tryz.prog 149 #[v,v'] w fun e w'=>∃ r,e=.returned (.tuple #[r,.bool (failF a b).isSome])∧IntsO w' w.heap.size r ((failF a b).getD [])∧Below w.heap.size w w':=by
 have hV:=ax h;have hV':=ax h';have HA:=ax ha;have HB:=ax hb;have HT:=ax (termsL_star_ok ha hb);have HS:=ax (seekF_fail ha hb);have HOP:=ax openedB;have HLA:=ax (zjC ha);have HLB:=ax (zjC hb);obtain ⟨A1,c1,A2,c2,rfl,-,-⟩:=h;obtain ⟨A3,c3,A4,c4,rfl,-,-⟩:=h';clear ha hb;(go_enter Tryz.func149,Tryz.ntmps149);have k0:Blk ((w.alloc (.cells #[.slice A1 a.facts.length c1,.slice A2 a.atoms.length c2] tAs)).alloc (.cells #[.slice A3 b.facts.length c3,.slice A4 b.atoms.length c4] tAs)) w.heap.size tAs #[.slice A1 a.facts.length c1,.slice A2 a.atoms.length c2]:=blks;have k1:Blk ((w.alloc (.cells #[.slice A1 a.facts.length c1,.slice A2 a.atoms.length c2] tAs)).alloc (.cells #[.slice A3 b.facts.length c3,.slice A4 b.atoms.length c4] tAs)) (w.heap.size+1) tAs #[.slice A3 b.facts.length c3,.slice A4 b.atoms.length c4]:=blks;(go_wp2_with fail);refine wp_region_noPanic ?_;refine wp_region_held_drew (S:=(fun w'=>(∀ i,w'.cell? ⟨w.heap.size,i,none⟩=#[.slice A1 a.facts.length c1,.slice A2 a.atoms.length c2][i]?)∧(∀ i,w'.cell? ⟨w.heap.size+1,i,none⟩=#[.slice A3 b.facts.length c3,.slice A4 b.atoms.length c4][i]?))) (by kernel_rfl) (⟨Blk.cell blks,Blk.cell blks⟩) (fun aH=>?_);refine tk2 0 rfl aH (h:=tk2 1 rfl aH (h:=tk2 2 rfl aH (h:=?_)));(try simp only[zz]);refine tk2 3 rfl aH (h:=?_);refine rdc 4 rfl fun K hK=>?_;(try simp only[zz]);(go_simp;refine (c_spec_l6Both _ _ a b _ (hV.o.bz bel) (hV'.o.bz bel) (by have:=HLA.o;have:=HLB.o;omega) (by have:=HLA.o;have:=HLB.o;omega) HT.o).mono ?_;rintro e w3 ⟨r3,rfl,o3,hB3⟩;obtain ⟨Tb,ct,rfl,fT⟩:=o3.rj;rw[zjB];have hB:=bgo (w:=w) bel hB3;replace k0:=Blk.nz (g:=w.heap.size) blks hB3;replace k1:=Blk.nz (g:=w.heap.size+1) blks hB3;clear o3);refine hK.out _ _ (⟨Blk.cell blks,Blk.cell blks⟩) ?_;clear aH hK K;intro aH;refine rdc 5 rfl fun K hK=>?_;(try simp only[zz]);(go_simp;refine (c_spec_l5Open _).mono ?_;rintro e w4 ⟨r4,rfl,o4,hB4⟩;obtain ⟨Cb,cc,rfl,fC⟩:=o4.rj;have hB2:=bgo (w:=w) bel hB4;have fT4:=fT.bz hB4;replace k0:=Blk.nz (g:=w.heap.size) blks hB4;replace k1:=Blk.nz (g:=w.heap.size+1) blks hB4;clear o4);refine hK.out _ _ (⟨Blk.cell blks,Blk.cell blks⟩) ?_;clear aH hK K;intro aH;refine rdc 6 rfl fun K hK=>?_;(try simp only[zz]);(go_simp;refine (c_spec_l6Seek Tb ct HA.o HB.o 8 opened Cb cc _ _ _ (by omega) rfl (HOP.o.2 _) HOP.o.1 (hV.o.bz bel) (hV'.o.bz bel) (fT4.bz bel) (fC.bz bel)).mono ?_;rintro e w5 ⟨r5,rfl,o5,hB5⟩;have hz5:=hB2.size;have hB6:=bgo (w:=w) bel hB5;replace k0:=Blk.nz (g:=w.heap.size) blks hB5;replace k1:=Blk.nz (g:=w.heap.size+1) blks hB5);refine hK.out _ _ (⟨Blk.cell blks,Blk.cell blks⟩) ?_;clear aH hK K;intro aH;(try simp only[zz]);refine tk2 7 rfl aH (h:=tk2 8 rfl aH (h:=tk2 9 rfl aH (h:=?_)));(try simp only[zz]);refine tk2 10 rfl aH (h:=?_);(try simp only[zz]);refine dn1 ?_;have O5:=ax o5;clear o5 fC fT fT4 hB5 hB4 hB3;(go_wp2_with fail);go_ret2;exact ⟨r5,by rw[←HS.o.1];rfl,by rw[←HS.o.2];exact O5.o.bq (by first|exact hz5|(simp;exact hz5)),bel⟩
theorem c_spec_Entails {lo hi lo' hi':Nat} (v v':Value) (a b:Asn) (w:World) (h:AsnV w lo hi v a) (h':AsnV w lo' hi' v' b) :
  Calls Tryz.prog 86 #[v,v'] w fun e w'=>e=.returned (.bool (entF a b))∧Below w.heap.size w w':=by
 have hV:=ax h;have hV':=ax h';obtain ⟨A1,c1,A2,c2,rfl,-,-⟩:=h;obtain ⟨A3,c3,A4,c4,rfl,-,-⟩:=h';(go_enter Tryz.func86,Tryz.ntmps86);have k0:Blk ((w.alloc (.cells #[.slice A1 a.facts.length c1,.slice A2 a.atoms.length c2] tAs)).alloc (.cells #[.slice A3 b.facts.length c3,.slice A4 b.atoms.length c4] tAs)) w.heap.size tAs #[.slice A1 a.facts.length c1,.slice A2 a.atoms.length c2]:=blks;have k1:Blk ((w.alloc (.cells #[.slice A1 a.facts.length c1,.slice A2 a.atoms.length c2] tAs)).alloc (.cells #[.slice A3 b.facts.length c3,.slice A4 b.atoms.length c4] tAs)) (w.heap.size+1) tAs #[.slice A3 b.facts.length c3,.slice A4 b.atoms.length c4]:=blks;(go_wp2_with fail);refine (vz _ a _ (hV.o.bz bel)).mono ?_;rintro e w1 ⟨rfl,hB1⟩;have hB:Below w.heap.size w w1:=bgo (w:=w) bel hB1;replace k0:=k0.nz hB1;replace k1:=k1.nz hB1;(replace qk0:=k0.z;replace qk1:=k1.z);clear hB1;cases ha:a.valid
 ·have E:aJ (entF a b=false):=by show _=_;simp[entF,ha]
  clear ha;(go_wp2_with fail);go_ret;exact ⟨zjD E.o.symm,hB⟩
 ·have HA:=ax ha;clear ha;(go_wp2_with fail);refine (vz _ b _ (hV'.o.bz hB)).mono ?_;rintro e w2 ⟨rfl,hB2⟩;replace hB:=bgo hB hB2;replace k0:=k0.nz hB2;replace k1:=k1.nz hB2;(replace qk0:=k0.z;replace qk1:=k1.z);clear hB2;cases hb:b.valid
  ·have E:aJ (entF a b=false):=by show _=_;simp[entF,hb]
   clear hb;(go_wp2_with fail);go_ret;exact ⟨zjD E.o.symm,hB⟩
  ·have HB:=ax hb;have E:aJ (entF a b=(failF a b).isNone):=by show _=_;rw[entF,HA.o,hb];cases failF a b<;>rfl
   clear hb;(go_wp2_with fail);refine (c_spec_l6Fails _ _ a b _ (hV.o.bz hB) (hV'.o.bz hB) HA.o HB.o).mono ?_;rintro e w3 ⟨r,rfl,-,hB3⟩;replace hB:=bgo hB hB3;clear hB3 k0 k1 qk0 qk1;(go_wp2_with fail);go_ret;exact ⟨zjD E.o.symm,hB⟩
theorem c_impl_Entails {lo hi lo' hi':Nat} (v v':Value) (a b:Asn) (w:World) (h:AsnV w lo hi v a) (h':AsnV w lo' hi' v' b) (hhi:hi≤w.heap.size) (hhi':hi'≤w.heap.size) :
  Calls Tryz.prog 27 #[v,v'] w fun e w'=>e=.returned (.bool (entF a b))∧Below w.heap.size w w':=by
 have hV:=ax h;have hV':=ax h';obtain ⟨A1,c1,A2,c2,rfl,-,-⟩:=h;obtain ⟨A3,c3,A4,c4,rfl,-,-⟩:=h';(go_enter Tryz.func27,Tryz.ntmps27);have k0:Blk ((w.alloc (.cells #[.slice A1 a.facts.length c1,.slice A2 a.atoms.length c2] tAs)).alloc (.cells #[.slice A3 b.facts.length c3,.slice A4 b.atoms.length c4] tAs)) w.heap.size tAs #[.slice A1 a.facts.length c1,.slice A2 a.atoms.length c2]:=blks;have k1:Blk ((w.alloc (.cells #[.slice A1 a.facts.length c1,.slice A2 a.atoms.length c2] tAs)).alloc (.cells #[.slice A3 b.facts.length c3,.slice A4 b.atoms.length c4] tAs)) (w.heap.size+1) tAs #[.slice A3 b.facts.length c3,.slice A4 b.atoms.length c4]:=blks;(go_wp2_with fail);refine (jz _ a _ (hV.o.bz bel)).mono ?_;rintro e w1 ⟨rfl,hB1⟩;have hB:Below w.heap.size w w1:=bgo (w:=w) bel hB1;replace k0:=k0.nz hB1;replace k1:=k1.nz hB1;(replace qk0:=k0.z;replace qk1:=k1.z);clear hB1;cases ha:a.valid
 ·have E:aJ (entF a b=false):=by show _=_;simp[entF,ha]
  clear ha;(go_wp2_with fail);go_ret;exact ⟨zjD E.o.symm,hB⟩
 ·have HA:=ax ha;clear ha;(go_wp2_with fail);refine (jz _ b _ (hV'.o.bz hB)).mono ?_;rintro e w2 ⟨rfl,hB2⟩;replace hB:=bgo hB hB2;replace k0:=k0.nz hB2;replace k1:=k1.nz hB2;(replace qk0:=k0.z;replace qk1:=k1.z);clear hB2;cases hb:b.valid
  ·have E:aJ (entF a b=false):=by show _=_;simp[entF,hb]
   clear hb;(go_wp2_with fail);go_ret;exact ⟨zjD E.o.symm,hB⟩
  ·have HB:=ax hb;have hz:=hB.size;have E:aJ (entF a b=(failF a b).isNone):=by show _=_;rw[entF,HA.o,hb];cases failF a b<;>rfl
   clear hb;(go_wp2_with fail);refine (c_impl_failingCase _ _ a b _ (hV.o.bz hB) (hV'.o.bz hB) (by omega) (by omega) HA.o HB.o).mono ?_;rintro e w3 ⟨rfl,hB3⟩;replace hB:=bgo hB hB3;clear hB3 k0 k1 qk0 qk1;(go_wp2_with fail);go_ret;exact ⟨zjD E.o.symm,bel⟩
end
end Go.Proofs.YtjaohekkmlkinaaGreat
