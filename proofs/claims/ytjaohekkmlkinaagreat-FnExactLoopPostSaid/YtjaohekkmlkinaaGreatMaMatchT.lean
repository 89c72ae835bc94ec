/- Contracts: the spec's first case. -/
import Derived.Test.YtjaohekkmlkinaaGreatMaSeq
import Derived.Deep.RegionHeld3
import Derived.Deep.LoopGhost
set_option linter.unusedSimpArgs false
set_option linter.unusedVariables false
set_option maxRecDepth 100000
set_option maxHeartbeats 25600000
namespace Go.Proofs.YtjaohekkmlkinaaGreat
section
open Go Go.RowKit Go.Proofs
attribute [local go_sem ↓] Go.wp_at_zero Go.wp_at_succ
theorem IntsO.open_ {w:World} {base:Nat} {A:Option Addr} {n c k:Nat} {fs:List Int} (h:IntsO w base (.slice A n c) fs) (hk:k<fs.length):∃ g cur,n=fs.length∧A=some ⟨g,0,none⟩∧base≤g∧Blk w g tI cur∧cur[k]? = some (.int .i64 fs[k])∧
  (∀ v:Int,IntsO (w.setCell ⟨g,k,none⟩ (.int .i64 v)) base (.slice A n c) (fs.set k v)):=by
 obtain ⟨⟨hl,h2⟩,hL⟩:=h;rcases h2 with ⟨e,hn⟩|⟨g,cap,cur,e,hb,hh,hn,hm,hs,ht⟩
 ·omega
 ·injection e with e1 e2 e3;subst e1 e2 e3;have hK:Blk w g tI cur:=hh
  have hP:Pre cur (encI fs) (fs.length * 1):=by
   intro j hj;rw[←ht,List.getElem?_take,if_pos hj];simp
  refine ⟨g,cur,rfl,rfl,hb,hK,(hP _ (by omega)).trans (by simp[List.getElem?_eq_getElem hk]),?_⟩;intro v;refine ⟨?_,by rw[List.length_set];exact hL⟩;rw[show encI (fs.set k v)=(encI fs).set k (.int .i64 v) from by simp[encI,List.map_set],List.length_set];exact own_of_blk (hK.set_ k (.int .i64 v)) hb (by rw[List.length_set,hl]) (hP.setL k (.int .i64 v) (by rw[hs];exact Nat.mul_le_mul hn (Nat.le_refl _)) (by rw[hl];exact Nat.le_refl _)) hn hm (by simpa using hs)
def seekAt (a:Asn) (S n:Nat) (c:List Int) (k:Nat):List (List Int):=if k<8 - n∧cl c k≠k then [] else seek a S n (c.set (8 - n) k)
theorem seek_cut {a:Asn} {S:Nat} (n:Nat) {c:List Int} (h:(fitsS c a.facts&&earlyF c [] a.atoms)=false):seek a S n c=[]:=by
 cases n<;>(unfold seek;rw[h];rfl)
theorem seek_leaf {a:Asn} {S:Nat} {c:List Int} (h:(fitsS c a.facts&&earlyF c [] a.atoms)=true):seek a S 0 c=if apartF [] (filledL a.atoms c) then [c] else []:=by
 unfold seek;rw[h,if_pos rfl]
theorem seek_step {a:Asn} {S n:Nat} {c:List Int} (h:(fitsS c a.facts&&earlyF c [] a.atoms)=true):seek a S (n+1) c=if S.testBit (8 - n) then (List.range (9 - n)).flatMap (seekAt a S n c) else seek a S n c:=by
 conv=>lhs;unfold seek
 rw[h,if_pos rfl];rfl
theorem flatMap_first {α:Type} {f:Nat→List α} {k N:Nat} (hk:k<N) (h:(List.range k).flatMap f=[]) (hne:f k≠[]):∃ y,(f k).head? = some y∧((List.range N).flatMap f).head? = some y:=by
 obtain ⟨m,rfl⟩:∃ m,N=k+(m+1):=⟨N - k - 1,by omega⟩;rw[List.range_add,List.range_succ_eq_map,List.map_cons,List.flatMap_append,List.flatMap_cons,Nat.add_zero,h,List.nil_append]
 cases e:f k with
 | nil=>exact absurd e hne
 | cons y ys=>exact ⟨y,rfl,rfl⟩
def firstI (L:List (List Int)):List Int:=L.head?.getD []
theorem c_fits9 {lo hi lo' hi':Nat} (A B:Option Addr) (c0 c1:Nat) (fs:List Fct) (c:List Int) (w:World) (h:FactsV w lo hi A fs) (h':IntsV w lo' hi' B c) (hc:c.length=9) (hf:FactsOk fs) :
  Calls Tryz.prog 244 #[.slice A fs.length c0,.slice B 9 c1] w fun e w'=>e=.returned (.bool (fitsS c fs))∧w=w':=by
 have:=c_spec_l5Fits A B c0 c1 fs c w h h' hc hf;rwa [hc] at this
theorem c_early9 {lo hi lo' hi':Nat} (A B:Option Addr) (c0 c1:Nat) (xs:List Atm) (c:List Int) (w:World) (h:AtomsV w lo hi A xs) (h':IntsV w lo' hi' B c) (hc:c.length=9) (hx:AtomsOk xs) (hcl:∀ x∈xs,cl c x.a≤8) :
  Calls Tryz.prog 245 #[.slice A xs.length c0,.slice B 9 c1] w fun e w'=>e=.returned (.bool (earlyF c [] xs))∧Below w.heap.size w w':=by
 have:=c_spec_l5Early A B c0 c1 xs c w h h' hc hx hcl;rwa [hc] at this
theorem c_filled9 {lo hi lo' hi':Nat} (A B:Option Addr) (c0 c1:Nat) (xs:List Atm) (c:List Int) (w:World) (h:AtomsV w lo hi A xs) (h':IntsV w lo' hi' B c) (hc:c.length=9) (hx:AtomsOk xs) :
  Calls Tryz.prog 209 #[.slice A xs.length c0,.slice B 9 c1] w fun e w'=>∃ r,e=.returned r∧AtomsO w' w.heap.size r (filledL xs c)∧Below w.heap.size w w':=by
 have:=c_spec_l5Filled A B c0 c1 xs c w h h' hc hx;rwa [hc] at this
theorem c_spec_l5FirstG {a:Asn} {S lo hi lo2 hi2:Nat} {A1 A2:Option Addr} {d1 d2:Nat} (T:Option Addr) (tc:Nat) (hOK:aJ (FactsOk a.facts∧AtomsOk a.atoms)) (hvl0:aJ (a.facts.length≤40∧a.atoms.length≤6)) :
  ∀ (n:Nat) (c:List Int) (B:Option Addr) (cc lo' hi':Nat) (w:World),n≤8→c.length=9→(∀ j:Nat,j<9 - n→S.testBit j=true→0≤cl c j∧cl c j≤j)→(∀ j:Nat,j<9→cl c j≤8)→
   AsnV w lo hi (.agg #[.slice A1 a.facts.length d1,.slice A2 a.atoms.length d2]) a→BoolsV w lo2 hi2 T (zj S)→IntsV w lo' hi' B c→
   Calls Tryz.prog 237 #[.agg #[.slice A1 a.facts.length d1,.slice A2 a.atoms.length d2],.slice T 9 tc,.slice B 9 cc,.int .i64 ((9 - n:Nat):Int)] w fun e w'=>
    ∃ r,e=.returned (.tuple #[r,.bool (!(seek a S n c).isEmpty)])∧IntsO w' w.heap.size r (firstI (seek a S n c))∧Below w.heap.size w w':=by
 intro n
 induction n with
 | zero=>
  intro c B cc lo' hi' w hn hc _ hc8 hA hT hI;have HO:=hOK;have hV:=ax hA;have HC:=ax hc;have HI:=ax hI
  have HCL:aJ (∀ x∈a.atoms,cl c x.a≤8):=fun x hx=>by
   have:=(HO.o.2 x hx).1;obtain ⟨t,et⟩:=Int.eq_ofNat_of_zero_le this.1;rw[et];exact hc8 t (by omega)
  obtain ⟨B1,e1,B2,e2,he,h1,h2⟩:=hA;injection he with he;injection he with he;injection he with he1 he2;injection he2 with he2 he3;injection he1 with he1 _ he4;injection he2 with he2 _ he5;subst he1 he4 he2 he5;have H1:=ax h1;have H2:=ax h2;have hvl:=hvl0.o;clear h1 h2 hc hc8 hT hI he3;(go_enter Tryz.func237,Tryz.ntmps237);(go_wp2_with fail);refine (c_fits9 A1 B d1 cc a.facts c _ (H1.o.bz bel) (HI.o.bz bel) HC.o HO.o.1).mono ?_;rintro e w1 ⟨rfl,rfl⟩;cases hf:fitsS c a.facts
  ·have E:=ax (seek_cut (a:=a) (S:=S) 0 (c:=c) (by rw[hf];rfl));clear hf;(go_wp2_with fail);go_ret2;exact ⟨_,by rw[E.o];rfl,by rw[E.o];exact IntsO.bq (IntsO.empty _ (by simp)) (by simp),bel⟩
  have HF:=ax hf;clear hf;(go_wp2_with fail);refine (c_early9 A2 B d2 cc a.atoms c _ (H2.o.bz bel) (HI.o.bz bel) HC.o HO.o.2 HCL.o).mono ?_;rintro e w2 ⟨rfl,hB2⟩;have hB:Below w.heap.size w w2:=bgo (w:=w) bel hB2;have k0:Blk w2 w.heap.size tAs #[.slice A1 a.facts.length d1,.slice A2 a.atoms.length d2]:=Blk.nz blks hB2;have q0:=k0.cell;have l0:=k0.lt;clear hB2;cases he:earlyF c [] a.atoms
  ·have E:=ax (seek_cut (a:=a) (S:=S) 0 (c:=c) (by rw[HF.o,he];rfl));clear he;(go_wp2_with fail);go_ret2;exact ⟨_,by rw[E.o];rfl,by rw[E.o];exact IntsO.bq (IntsO.empty _ rfl) (by omega),bel⟩
  have E0:=ax (seek_leaf (a:=a) (S:=S) (c:=c) (by rw[HF.o,he];rfl));clear he;(go_wp2_with fail);refine (c_filled9 A2 B d2 cc a.atoms c _ (H2.o.bz hB) (HI.o.bz hB) HC.o HO.o.2).mono ?_;rintro e w3 ⟨r3,rfl,o3,hB3⟩;obtain ⟨R3,e3,rfl,v3⟩:=o3.rj;have hBB:Below w.heap.size w w3:=bgo hB hB3;(go_wp2_with fail);refine (c_spec_l5Apart R3 e3 (filledL a.atoms c) _ v3).mono ?_;rintro e w4 ⟨rfl,hB4⟩;have hB5:Below w.heap.size w w4:=bgo hBB hB4;have hz:=hB5.size;clear o3 v3 hB3 hB4 hBB q0 l0 k0 hB;cases hap:apartF [] (filledL a.atoms c)
  ·have E:=ax (show seek a S 0 c=[] by rw[E0.o,hap];rfl);clear hap;(go_wp2_with fail);go_ret2;exact ⟨_,by rw[E.o];rfl,by rw[E.o];exact IntsO.bq (IntsO.empty _ rfl) (by omega),bel⟩
  ·have E:=ax (show seek a S 0 c=[c] by rw[E0.o,hap];rfl);clear hap;(go_wp2_with (at_builtin;refine appIL (ys:=c) rfl _ _ rfl (v:=.slice (some ⟨w4.heap.size,0,none⟩) 0 0) rfl (IntsO.empty w4 rfl) (by rw[HC.o];rfl) (HI.o.bz bel) (by rw[HC.o];simp) (by simp) ?_;intro A' c' w5 o5 hg5 hB6;rw[List.nil_append,HC.o]));go_ret2;exact ⟨_,by rw[E.o];rfl,by rw[E.o];rw[List.nil_append,HC.o] at o5;exact o5.bq hz,Below.trans bel (hB6.mono hz)⟩
 | succ n ih=>
  intro c B cc lo' hi' w hn hc hcl hc8 hA hT hI;have HO:=hOK;have hV:=ax hA;have HC:=ax hc;have HI:=ax hI;have HTT:=ax hT;have HC8:=ax hc8;have HCL0:=ax hcl;have IH:=ax ih
  have HCL:aJ (∀ x∈a.atoms,cl c x.a≤8):=fun x hx=>by
   have:=(HO.o.2 x hx).1;obtain ⟨t,et⟩:=Int.eq_ofNat_of_zero_le this.1;rw[et];exact hc8 t (by omega)
  obtain ⟨B1,e1,B2,e2,he,h1,h2⟩:=hA;injection he with he;injection he with he;injection he with he1 he2;injection he2 with he2 he3;injection he1 with he1 _ he4;injection he2 with he2 _ he5;subst he1 he4 he2 he5;have H1:=ax h1;have H2:=ax h2;obtain ⟨tb,tz0,rfl,ltb⟩:=flags_addr hT;obtain ⟨pb,ob,rfl,lpb⟩:=hI.blt (k:=0) (by omega);obtain ⟨m,hm8⟩:∃ m,m=8 - n:=⟨_,rfl⟩;have E1:aJ (((9 - n:Nat):Int)=(m:Int)+1):=by show _=_;omega
  rw[show 9 - (n+1)=m from by omega] at HCL0 ⊢;have HM8:=ax hm8;have HN:=ax hn;have hmg:¬(8<(m:Int)):=by omega
  have hmi9:(m:Int)<9:=by omega
  clear h1 h2 hc hc8 hcl hT hI he3 ih hm8 hn;(go_enter Tryz.func237,Tryz.ntmps237);(go_wp2_with fail);refine (c_fits9 A1 _ d1 cc a.facts c _ (H1.o.bz bel) (HI.o.bz bel) HC.o HO.o.1).mono ?_;rintro e w1 ⟨rfl,rfl⟩;cases hf:fitsS c a.facts
  ·have E:=ax (seek_cut (a:=a) (S:=S) (n+1) (c:=c) (by rw[hf];rfl));clear hf;(go_wp2_with fail);go_ret2;exact ⟨_,by rw[E.o];rfl,by rw[E.o];exact IntsO.bq (IntsO.empty _ (by simp)) (by simp),bel⟩
  have HF:=ax hf;clear hf;(go_wp2_with fail);refine (c_early9 A2 _ d2 cc a.atoms c _ (H2.o.bz bel) (HI.o.bz bel) HC.o HO.o.2 HCL.o).mono ?_;rintro e w2 ⟨rfl,hB2⟩;have hB:Below w.heap.size w w2:=bgo (w:=w) bel hB2;have k0:Blk w2 w.heap.size tAs #[.slice A1 a.facts.length d1,.slice A2 a.atoms.length d2]:=Blk.nz blks hB2;have q0:=k0.cell;have l0:=k0.lt;clear hB2;cases he:earlyF c [] a.atoms
  ·have E:=ax (seek_cut (a:=a) (S:=S) (n+1) (c:=c) (by rw[HF.o,he];rfl));clear he;(go_wp2_with fail);go_ret2;exact ⟨_,by rw[E.o];rfl,by rw[E.o];exact IntsO.bq (IntsO.empty _ rfl) (by omega),bel⟩
  have E0:=ax (seek_step (a:=a) (S:=S) (n:=n) (c:=c) (by rw[HF.o,he];rfl));clear he;have qt:=flags_at (HTT.o.bz hB) (m:=m) (by omega);cases ht:S.testBit m
  ·rw[ht] at qt;have E:aJ (seek a S (n+1) c=seek a S n c):=by show _=_;rw[E0.o,←HM8.o,ht];rfl
   have ih1:=IH.o c _ cc _ _ w2 (by have:=HN.o;omega) HC.o (fun j hj hS=>by
    by_cases e:j=m
    ·subst e;rw[ht] at hS;cases hS
    ·exact HCL0.o j (by have:=HM8.o;have:=HN.o;omega) hS) HC8.o (hV.o.bz hB) (HTT.o.bz hB) (HI.o.bz hB)
   rw[E1.o] at ih1;have IH1:=ax ih1;clear ih1 ht;(go_wp2_with fail);refine IH1.o.mono ?_;rintro e w3 ⟨r,rfl,o3,hB3⟩;have O3:=ax o3;have hz:=hB.size;clear o3;(go_wp2_with fail);go_ret2;exact ⟨r,by rw[E.o];rfl,by rw[E.o];exact O3.o.bq hz,bgo hB hB3⟩
  ·rw[ht] at qt;have E:aJ (seek a S (n+1) c=(List.range (9 - n)).flatMap (seekAt a S n c)):=by show _=_;rw[E0.o,←HM8.o,ht];rfl
   clear ht;(go_wp2_with fail)
   go_loopw [10] (fun i wr=>∃ k:Nat,k≤m+1∧i=.int .i64 k∧aJ ((List.range k).flatMap (seekAt a S n c)=[])∧Blk wr w.heap.size tAs #[.slice A1 a.facts.length d1,.slice A2 a.atoms.length d2]∧Below w.heap.size w wr) (fun i _=>9 - (intOf i).toNat)
   case atStart=>exact ⟨0,Nat.zero_le _,rfl,rfl,k0,hB⟩
   case round=>
    clear k0 hB q0 l0 qt;obtain ⟨k,hk,rfl,HP,k0,hB⟩:=hrel;have q0:=k0.cell;have l0:=k0.lt;have hz:=hB.size;by_cases hlt:k≤m
    ·have hki:(k:Int)≤(m:Int):=by omega
     have hk9:(k:Int)<9:=by omega
     have hkc:=ints_cl (HI.o.bz hB) (m:=k) (by rw[HC.o];omega);have HNX:aJ ((List.range (k+1)).flatMap (seekAt a S n c)=seekAt a S n c k):=by show _=_;rw[List.range_succ,List.flatMap_append,HP.o];simp
     by_cases hskip:k<m∧cl c k≠k
     ·have HX:aJ (seekAt a S n c k=[]):=by show _=_;rw[seekAt,if_pos (by rw[←HM8.o];exact hskip)]
      have hkm:(k:Int)<(m:Int):=by omega
      have hne:(cl c k != (k:Int))=true:=by simpa using hskip.2
      clear hskip hki hlt;(go_wp2_with fail)
      go_round
      case rel=>exact ⟨k+1,by omega,by go_num,by show _=_;rw[HNX.o,HX.o],k0,hB⟩
      case measure=>simp[intOf];omega
     ·have hsk2:k<m→(cl c k != (k:Int))=false:=fun h=>by
       cases Int.decEq (cl c k) k with
       | isTrue h=>simp[h]
       | isFalse h'=>exact absurd ⟨h,h'⟩ hskip
      have HX:aJ (seekAt a S n c k=seek a S n (c.set m k)):=by
       show _=_;rw[seekAt,←HM8.o,if_neg hskip]
      clear hskip;have hcs:(c.set m (k:Int)).length=9:=by simpa using HC.o
      have HCS:=ax hcs
      have hcl':∀ j:Nat,j<9 - n→S.testBit j=true→0≤cl (c.set m (k:Int)) j∧cl (c.set m (k:Int)) j≤j:=fun j hj hSj=>by
       have:=HM8.o;have:=HN.o;rw[cl_set HC.o (by omega) _ (by omega)]
       split
       ·omega
       ·exact HCL0.o j (by omega) hSj
      have HCL':=ax hcl'
      have hc8':∀ j:Nat,j<9→cl (c.set m (k:Int)) j≤8:=fun j hj=>by
       rw[cl_set HC.o (by omega) _ (by omega)]
       split
       ·omega
       ·exact HC8.o j hj
      have HC8':=ax hc8';clear hcl' hc8' hcs;obtain hkm|hkm:k<m∨k=m:=by omega
      case' inl=>have h1:(k:Int)<(m:Int):=by omega
      case' inl=>have h2:=hsk2 hkm
      case' inr=>have h1:¬(k:Int)<(m:Int):=by omega
      all_goals
       clear hkm hsk2;(go_wp2_with (at_builtin;refine appIL (ys:=c) (base:=wr.heap.size) rfl _ _ rfl (v:=.slice (some ⟨wr.heap.size,0,none⟩) 0 0) rfl (IntsO.empty wr rfl) (by rw[HC.o];rfl) (HI.o.bz bel) (by rw[HC.o];simp) (by simp) ?_;intro A' c' w5 o5 hg5 hB6;rw[List.nil_append,HC.o] at o5 ⊢;obtain ⟨g,cur,-,rfl,hgb,kg,hcm,hset⟩:=o5.open_ (k:=m) (by rw[HC.o];omega);have qg:=(kg.cell m).trans hcm;have rg:=kg.frozen;have lg:=kg.lt;have HSET:=ax (hset k);have k5:=Blk.bz (g:=w.heap.size) (w:=wr.alloc (.cells #[] tI)) (k0.alloc _) hB6 l0;have hB5:Below w.heap.size w w5:=Below.trans bel (hB6.mono (by omega));have k6:=k5.far (p:=⟨g,m,none⟩) (by simp only;omega) (.int .i64 k);have q6:=k6.cell;clear hset o5 kg hcm q0 hg5));have hB7:Below w.heap.size w (w5.setCell ⟨g,m,none⟩ (.int .i64 k)):=hB5.setCell (p:=⟨g,m,none⟩) (by simp only;omega) _;have hz7:=hB7.size;have v7:=HSET.o.readsI.2;have ih1:=IH.o (c.set m (k:Int)) _ c' _ _ _ (by have:=HN.o;omega) HCS.o HCL'.o HC8'.o (hV.o.bz hB7) (HTT.o.bz hB7) v7;rw[E1.o] at ih1;refine ih1.mono ?_;clear ih1 v7 q6 k5 qg rg;rintro e w8 ⟨r,rfl,o8,hB8⟩;have O8:=ax o8;have k8:=k6.nz hB8;have hBn:=bgo hB7 hB8;clear o8 hB8 k6 hB7 hB5 hB6;cases hem:(seek a S n (c.set m (k:Int))).isEmpty
       ·have hne:seekAt a S n c k≠[]:=by rw[HX.o];intro h;rw[h] at hem;cases hem
        obtain ⟨y,y1,y2⟩:=flatMap_first (N:=9 - n) (by have:=HM8.o;have:=HN.o;omega) HP.o hne;rw[HX.o] at y1
        have E2:aJ ((seek a S (n+1) c).isEmpty=false∧firstI (seek a S (n+1) c)=firstI (seek a S n (c.set m (k:Int)))):=by
         refine ⟨?_,?_⟩
         ·rw[E.o]
          cases h:(List.range (9 - n)).flatMap (seekAt a S n c) with
          | nil=>rw[h] at y2;cases y2
          | cons _ _=>rfl
         ·unfold firstI;rw[E.o,y1,y2]
        clear hem hne y1 y2;(go_wp2_with fail);go_ret2;exact ⟨r,by rw[E2.o.1];rfl,by rw[E2.o.2];exact O8.o.bq hz7,hBn⟩
       ·have HX2:aJ (seekAt a S n c k=[]):=by show _=_;rw[HX.o];simpa using hem
        clear hem;(go_wp2_with fail)
        go_round
        case rel=>exact ⟨k+1,by omega,by go_num,by show _=_;rw[HNX.o,HX2.o],k8,hBn⟩
        case measure=>simp[intOf];omega
    ·obtain rfl:k=m+1:=by omega
     have E2:aJ (seek a S (n+1) c=[]):=by show _=_;rw[E.o,show 9 - n=m+1 from by have:=HM8.o;have:=HN.o;omega];exact HP.o
     (go_wp2_with fail);go_ret2;exact ⟨_,by rw[E2.o];rfl,by rw[E2.o];exact IntsO.bq (IntsO.empty _ rfl) (by omega),bel⟩
theorem c_spec_l5First {a:Asn} {S lo hi lo2 hi2:Nat} {A1 A2:Option Addr} {d1 d2:Nat} (T:Option Addr) (tc:Nat) (hv:a.valid=true) :
  ∀ (n:Nat) (c:List Int) (B:Option Addr) (cc lo' hi':Nat) (w:World),n≤8→c.length=9→(∀ j:Nat,j<9 - n→S.testBit j=true→0≤cl c j∧cl c j≤j)→(∀ j:Nat,j<9→cl c j≤8)→
   AsnV w lo hi (.agg #[.slice A1 a.facts.length d1,.slice A2 a.atoms.length d2]) a→BoolsV w lo2 hi2 T (zj S)→IntsV w lo' hi' B c→
   Calls Tryz.prog 237 #[.agg #[.slice A1 a.facts.length d1,.slice A2 a.atoms.length d2],.slice T 9 tc,.slice B 9 cc,.int .i64 ((9 - n:Nat):Int)] w fun e w'=>
    ∃ r,e=.returned (.tuple #[r,.bool (!(seek a S n c).isEmpty)])∧IntsO w' w.heap.size r (firstI (seek a S n c))∧Below w.heap.size w w':=
 c_spec_l5FirstG T tc (ax (Asn.valid_ok hv)) (ax (by have:=zjC hv;omega))
theorem openedB:(∀ j:Nat,j<9→cl opened j≤8)∧∀ (S:Nat) (j:Nat),j<9 - 8→S.testBit j=true→0≤cl opened j∧cl opened j≤j:=by
 refine ⟨fun j hj=>?_,fun S j hj _=>?_⟩
 ·obtain rfl|rfl|rfl|rfl|rfl|rfl|rfl|rfl|rfl:j=0∨j=1∨j=2∨j=3∨j=4∨j=5∨j=6∨j=7∨j=8:=by omega
  all_goals decide
 ·obtain rfl:j=0:=by omega
  decide
theorem seek_congr (a:Asn) {S S':Nat} (h:∀ j,1≤j→j<9→S.testBit j=S'.testBit j):∀ (n:Nat) (c:List Int),n≤8→seek a S n c=seek a S' n c:=by
 intro n
 induction n with
 | zero=>intro c _;rfl
 | succ n ih=>
  intro c hn;unfold seek;rw[h (8 - n) (by omega) (by omega)];have e:∀ c',seek a S n c'=seek a S' n c':=fun c'=>ih c' (by omega)
  split
  ·split
   ·apply flatMap_congr';intro k _;rw[e]
   ·exact e _
  ·rfl
theorem seek_caseS {a:Asn} (hv:a.valid=true) (F S:Nat) (h:∀ j,1≤j→j<9→S.testBit j=(caseS a F).testBit j):seek a S 8 opened=cases a (caseS a F):=by
 rw[seek_congr a h 8 opened (by omega)];exact seek_cases (Asn.valid_ok hv).1 (Asn.valid_ok hv).2 (caseS_zero a F) (caseS_not hv F)
theorem seek_terms {a:Asn} (hv:a.valid=true):seek a (tset (mz a)) 8 opened=cases a (caseS a 0):=by
 refine seek_caseS hv 0 _ fun j h1 h2=>?_;rw[caseS_bit,tset_bit];have:¬j=0:=by omega
 simp[this]
theorem c_spec_Consistent {lo hi:Nat} (v:Value) (a:Asn) (w:World) (h:AsnV w lo hi v a) :
  Calls Tryz.prog 185 #[v] w fun e w'=>e=.returned (.bool (a.valid && !(cases a (caseS a 0)).isEmpty))∧Below w.heap.size w w':=by
 have hV:=ax h;obtain ⟨A1,c1,A2,c2,rfl,-,-⟩:=h;(go_enter Tryz.func185,Tryz.ntmps185);(go_wp2_with fail);refine (vz _ a _ (hV.o.bz bel)).mono ?_;rintro e w1 ⟨rfl,hB1⟩;have k0:Blk w1 w.heap.size tAs #[.slice A1 a.facts.length c1,.slice A2 a.atoms.length c2]:=Blk.nz blks hB1;have hB:Below w.heap.size w w1:=bgo (w:=w) bel hB1;clear hB1;have q0:=k0.cell;have l0:=k0.lt;cases hv:a.valid
 ·(go_wp2_with fail);go_ret;exact ⟨zjD (by simp[hv]),hB⟩
 ·have HV:=ax hv;have HT:=ax (termsL_ok hv);have HS:=ax (seek_terms hv);have HOP:=ax openedB;clear hv;(go_wp2_with fail);refine wp_region_noPanic ?_;refine wp_region_held_drew (S:=(fun w'=>∀ i,w'.cell? ⟨w.heap.size,i,none⟩=#[.slice A1 a.facts.length c1,.slice A2 a.atoms.length c2][i]?)) (by kernel_rfl) (Blk.cell blks) (fun aH=>?_);refine tk2 0 rfl aH (h:=tk2 1 rfl aH (h:=?_));refine rdc 2 rfl fun K hK=>?_;(try simp only[zz]);(go_simp;refine (c_spec_l3Terms _ a _ (hV.o.bz bel) HT.o).mono ?_;rintro e w3 ⟨r3,rfl,o3,hB3⟩;obtain ⟨Tb,ct,rfl,fT⟩:=o3.rj;rw[zjB];have hB':=bgo (w:=w) bel hB3;replace k0:=Blk.nz (g:=w.heap.size) blks hB3);refine hK.out _ _ (Blk.cell blks) ?_;clear aH hK K;intro aH;refine rdc 3 rfl fun K hK=>?_;(try simp only[zz]);(go_simp;refine (c_spec_l5Open _).mono ?_;rintro e w4 ⟨r4,rfl,o4,hB4⟩;obtain ⟨Cb,cc,rfl,fC⟩:=o4.rj;have hB2:=bgo hB' hB4;have fT4:=fT.bz hB4;replace k0:=Blk.nz (g:=w.heap.size) blks hB4);refine hK.out _ _ (Blk.cell blks) ?_;clear aH hK K;intro aH;refine rdc 4 rfl fun K hK=>?_;(try simp only[zz]);(go_simp;refine (c_spec_l5First Tb ct HV.o 8 opened Cb cc _ _ _ (by omega) rfl (HOP.o.2 _) HOP.o.1 (hV.o.bz bel) (fT4.bz bel) (fC.bz bel)).mono ?_;rintro e w5 ⟨r5,rfl,o5,hB5⟩;have hB6:=bgo (w:=w) bel hB5;replace k0:=Blk.nz (g:=w.heap.size) blks hB5);refine hK.out _ _ (Blk.cell blks) ?_;clear aH hK K;intro aH;(try simp only[zz]);refine tk2 5 rfl aH (h:=tk2 6 rfl aH (h:=tk2 7 rfl aH (h:=?_)));(try simp only[zz]);refine tk2 8 rfl aH (h:=tk2 9 rfl aH (h:=?_));(try simp only[zz]);refine dn1 ?_;(go_wp2_with fail);go_ret;exact ⟨zjD (by rw[HS.o,HV.o];rfl),bel⟩
def addF (a:Asn) (f:Fct):Asn:=⟨a.facts++[f],a.atoms⟩
theorem c_impl_withFact {lo hi:Nat} (v:Value) (a:Asn) (f:Fct) (w:World) (h:AsnV w lo hi v a) (hn:a.facts.length+1≤1049600) :
  Calls Tryz.prog 187 #[v,f.val] w fun e w'=>∃ r,e=.returned r∧AsnO w' w.heap.size r (addF a f)∧Below w.heap.size w w':=by
 obtain ⟨A1,c1,A2,c2,rfl,h1,h2⟩:=h;have l2:=h2.le;(go_enter Tryz.func187,Tryz.ntmps187);obtain ⟨k0,k1,k2⟩:=blk3 w 37 41 37 #[.slice A1 a.facts.length c1,.slice A2 a.atoms.length c2] #[.bool f.eq,.int .i64 f.a,.int .i64 f.b] #[.slice none 0 0,.slice none 0 0];(go_wp2_with fail);refine wp_region_noPanic ?_;refine wp_region_held_drew (S:=(fun w'=>(∀ i,w'.cell? ⟨w.heap.size,i,none⟩=#[.slice A1 a.facts.length c1,.slice A2 a.atoms.length c2][i]?)∧(∀ i,w'.cell? ⟨w.heap.size+1,i,none⟩=#[.bool f.eq,.int .i64 f.a,.int .i64 f.b][i]?))) (by kernel_rfl) (⟨Blk.cell blks,Blk.cell blks⟩) (fun aH=>?_);refine tk2 0 rfl aH (h:=tk2 1 rfl aH (h:=tk2 2 rfl aH (h:=?_)));(try simp only[zz]);refine tk2 5 rfl aH (h:=tk2 6 rfl aH (h:=?_));refine rdc 3 rfl fun K hK=>?_;(try simp only[zz]);go_simp;refine hK.out _ _ (⟨Blk.cell blks,Blk.cell blks⟩) ?_;clear aH hK K;intro aH;refine rdc 4 rfl fun K hK=>?_;(try simp only[zz]);(go_simp;refine (c_joinF A1 _ c1 1 a.facts [f] _ (h1.bz bel) (FactsV.one (f:=f) blks) (by simpa using hn)).mono ?_;rintro e w1 ⟨r1,rfl,o1,hB1⟩;obtain ⟨F1,e1,rfl,-⟩:=o1.rj;have hB:=bgo (w:=w) bel hB1;replace k0:=Blk.nz (g:=w.heap.size) blks hB1;replace k1:=Blk.nz (g:=w.heap.size+1) blks hB1;replace k2:=Blk.nz (g:=w.heap.size+1+1) blks hB1);refine hK.out _ _ (⟨Blk.cell blks,Blk.cell blks⟩) ?_;clear aH hK K;intro aH;refine rdc 7 rfl fun K hK=>?_;(try simp only[zz]);(go_simp;refine (c_joinA A2 none c2 0 a.atoms [] _ (h2.bz bel) (Rd.nil _ 0 0 _ _) (by simpa using l2)).mono ?_;rintro e w2 ⟨r2,rfl,o2,hB2⟩;obtain ⟨F2,e2,rfl,-⟩:=o2.rj;have hBB:=bgo hB hB2;have o1':=o1.bz hB2;replace k0:=Blk.nz (g:=w.heap.size) blks hB2;replace k1:=Blk.nz (g:=w.heap.size+1) blks hB2;replace k2:=Blk.nz (g:=w.heap.size+1+1) blks hB2;have q2:=k2.cell;have f2:=k2.frozen);refine hK.out _ _ (⟨Blk.cell blks,Blk.cell blks⟩) ?_;clear aH hK K;intro aH;(try simp only[zz]);refine tk2 8 rfl aH (h:=?_);refine rdc 9 rfl fun K hK=>?_;(try simp only[zz]);go_simp;refine hK.out _ _ (⟨Blk.cell blks,Blk.cell blks⟩) ?_;clear aH hK K;intro aH;(try simp only[zz]);refine dn1 ?_;clear aH;(go_wp2_with fail);have p1:=o1'.bq (base':=w.heap.size) (by (try simp)<;>omega);have p2:=o2.bq (base':=w.heap.size) hB.size;rw[show (a.facts++[f]).length=a.facts.length+1 from by simp] at p1;rw[List.append_nil] at p2;refine bodyPost_ret (v:=.agg #[.slice F1 (a.facts.length+1) e1,.slice F2 a.atoms.length e2]) (by simp[results,Tryz.results187,go_sem,q2]) rfl ⟨_,rfl,⟨_,_,rfl,?_,?_⟩,bel⟩
 ·exact (p1.setT k2 (by decide) 0 (.slice F1 (a.facts.length+1) e1)).setT (k2.set_ 0 _) (by decide) 1 (.slice F2 a.atoms.length e2)
 ·exact (p2.setT k2 (by decide) 0 (.slice F1 (a.facts.length+1) e1)).setT (k2.set_ 0 _) (by decide) 1 (.slice F2 a.atoms.length e2)
end
section
open Go Go.RowKit Go.Proofs
theorem Merge {G T:Prop} (h:G) (f:aJ G→T):T:=f h
theorem absThen {K:Act→World→Prop} {Q:Exit→Act→World→Prop} {e:Exit} {a:Act} {V:World} (h:∀ V',V'=V→Exit.then K Q e a V'):Exit.then K Q e a V:=h V rfl
theorem AsnI.setT {w:World} {lo hi:Nat} {v:Value} {x:Asn} (h:AsnI w lo hi v x) {g:Nat} {t:TypeId} {cs:Array Value} (hk:Blk w g t cs) (h1:t≠tF) (h2:t≠tA) (i:Nat) (u:Value):AsnI (w.setCell ⟨g,i,none⟩ u) lo hi v x:=by
 obtain ⟨fv,av,e,p1,p2⟩:=h;exact ⟨fv,av,e,⟨p1.1.setT hk h1 i u,p1.2⟩,⟨p2.1.setT hk h2 i u,p2.2⟩⟩
theorem IntsI.setT {w:World} {lo hi:Nat} {v:Value} {x:List Int} (h:IntsI w lo hi v x) {g:Nat} {t:TypeId} {cs:Array Value} (hk:Blk w g t cs) (h1:t≠tI) (i:Nat) (u:Value):IntsI (w.setCell ⟨g,i,none⟩ u) lo hi v x:=⟨h.1.setT hk h1 i u,h.2⟩
abbrev tIS:Nat:=31
theorem infoIS:(Tryz.prog.info? tIS).map (fun i=>(i.zero,i.size,i.bytes))=some (some (.slice none 0 0),1,24):=by kernel_rfl
def tot (xss:List (List Int)):Nat:=(xss.map List.length).sum
section
variable {w w':World} {base base':Nat} {v:Value} {vs:List Value} {xss:List (List Int)}
theorem own_turn {w w':World} {T:TypeId} {B base size n:Nat} {e:TypeId} {v:Value} {xs:List Value} {row:Option Nat} (h:w.ownsRow base e size v n xs) (hg:w.grownBy w' row) (hr:Turn T B w row) (ht:e≠T):w'.ownsRow base e size v n xs:=by
 obtain ⟨h1,h2⟩:=h;refine ⟨h1,?_⟩;rcases h2 with h2|⟨k,cap,cur,hv,hg',hh,r⟩
 ·exact Or.inl h2
 ·exact Or.inr ⟨k,cap,cur,hv,hg',Blk.turn (g:=k) hh hg hr (Or.inl ht),r⟩
end
section
variable {w w':World} {lo hi a b:Nat} {v:Value} {xss:List (List Int)}
end
theorem own_ne {w:World} {b b' s s' n n':Nat} {e e':TypeId} {v v':Value} {xs xs':List Value} (h:w.ownsRow b e s v n xs) (h':w.ownsRow b' e' s' v' n' xs') (ht:e≠e'):∀ g,v.ownBlock=some g→v'.ownBlock≠some g:=by
 intro g hg hg';rcases h.2 with ⟨rfl,-⟩|⟨k,cap,cur,rfl,-,hh,-⟩
 ·cases hg
 ·rcases h'.2 with ⟨rfl,-⟩|⟨k',cap',cur',rfl,-,hh',-⟩
  ·cases hg'
  ·have e1:k=g:=by simpa[Value.ownBlock] using hg
   have e2:k'=g:=by simpa[Value.ownBlock] using hg'
   subst e1;subst e2;exact (Blk.ne_ (g:=k') hh hh' ht) rfl
end
section
open Go Go.RowKit Go.Proofs
attribute [local go_sem ↓] Go.wp_at_zero Go.wp_at_succ
attribute [local go_sem] Oper.semAt_some
structure KX (w w':World):Prop where
 os:w'.os=w.os
 tape:w'.tape=w.tape
 output:w'.output=w.output
 size:w.heap.size≤w'.heap.size
 keep:∀ (k:Nat) (o:Obj),w.heap[k]? = some o→(∀ cs,o≠.cells cs tIS (0,0))→w'.heap[k]? = some o
section
variable {w w' w1:World}
theorem KX.of (h:Below w.heap.size w w'):KX w w':=⟨h.os,h.tape,h.output,h.size,fun k o hk _=>(h.block k (Array.getElem?_eq_some_iff.1 hk).1).trans hk⟩
theorem KX.trans (h:KX w w1) (k:KX w1 w'):KX w w':=⟨k.os.trans h.os,k.tape.trans h.tape,k.output.trans h.output,Nat.le_trans h.size k.size,fun i o hi ho=>k.keep i o (h.keep i o hi ho) ho⟩
theorem KX.set (h:KX w w1) {p:Addr} (hp:w.heap.size≤p.block) (u:Value):KX w (w1.setCell p u):=
 ⟨h.os,h.tape,h.output,by have:=h.size;simpa using this,fun k o hk ho=>(Below.heap_setCell w1 p u k (by have:=(Array.getElem?_eq_some_iff.1 hk).1;omega)).trans (h.keep k o hk ho)⟩
theorem KX.blk (h:KX w w') {g:Nat} {t:TypeId} {cs:Array Value} (hb:Blk w g t cs) (ht:t≠tIS):Blk w' g t cs:=h.keep g _ hb fun c e=>by injection e with _ e2;exact ht e2
theorem KX.ints (h:KX w w') {base:Nat} {v:Value} {xs:List Int} (ho:IntsO w base v xs):IntsO w' base v xs:=by
 obtain ⟨⟨h1,h2⟩,h3⟩:=ho;refine ⟨⟨h1,?_⟩,h3⟩;rcases h2 with h2|⟨k,cap,cur,hv,hg,hh,r⟩
 ·exact Or.inl h2
 ·exact Or.inr ⟨k,cap,cur,hv,hg,h.blk (g:=k) hh (by decide),r⟩
end
theorem KX.keeps {w w':World} (h:KX w w'):KeepsOthers w w':=⟨h.size,fun k o hk ho=>h.keep k o hk fun cs e=>by subst e;cases ho⟩
theorem KX.kept {T1 T2:TypeId} {n₀:Nat} {w w':World} (h:KX w w') (hb:Below n₀ w w') (h1:T1≠tIS) (h2:T2≠tIS):Kept T1 T2 n₀ w w':=⟨hb,fun g t cs ht hk=>h.blk hk (by rcases ht with rfl|rfl;exact h1;exact h2)⟩
section
variable {P:Program} {n:Nat}
end
section
variable {ops:Array Oper} {rest:List Oper} {o:Oper} {a:Act} {Q:Exit→Act→World→Prop} {w w0:World} {base:Nat} {v:Value} {vs:List Value} {xss:List (List Int)}
theorem rwS {w:World} {g:Nat} {sv:Value} (h:Blk w g tIS #[sv]):Rw w g (g+1) 1 (some ⟨g,0,none⟩) 1 [sv]:=
 ⟨rfl,fun _=>⟨g,0,rfl,Nat.le_refl _,Nat.lt_succ_self _,fun j u hu=>by
  match j,hu with
  | 0,hu=>simp at hu;subst hu;exact h.cell 0⟩⟩
end
end
section
open Go Go.RowKit Go.Proofs
attribute [local go_sem ↓] Go.wp_at_zero Go.wp_at_succ
theorem fits_drop (c:List Int) (fs:List Fct) (k:Nat) (hk:k<fs.length):(fs.drop k).all (Fct.fits c)=(fs[k].fits c&&(fs.drop (k+1)).all (Fct.fits c)):=by
 rw[List.drop_eq_getElem_cons hk];rfl
theorem c_impl_factsHold {lo hi:Nat} (A:Option Addr) (d:Nat) (fs:List Fct) (c:List Int) (g:Nat) (w:World) (h:FactsV w lo hi A fs) (hk:Blk w g tTc (encI c).toArray) (hc:c.length=9) (hf:FactsOk fs) :
  Calls Tryz.prog 203 #[.pointer (some ⟨g,0,none⟩),.slice A fs.length d] w fun e w'=>e=.returned (.bool (fs.all (Fct.fits c)))∧Below w.heap.size w w':=by
 have hl:=h.le;have hgl:=hk.lt;have HF:=ax hf;have H:=ax h;clear hf h;(go_enter Tryz.func203,Tryz.ntmps203);(go_wp2_with fail)
 go_loopw [9] (fun i wr=>∃ k:Nat,k≤fs.length∧i=.int .i64 k∧aJ (fs.all (Fct.fits c)=(fs.drop k).all (Fct.fits c))∧Below w.heap.size w wr) (fun i _=>fs.length - (intOf i).toNat)
 case atStart=>exact ⟨0,Nat.zero_le _,rfl,rfl,bel⟩
 case round=>
  obtain ⟨k,hkk,rfl,HA,hB⟩:=hrel;by_cases hlt:k<fs.length
  ·obtain ⟨b,off,rfl,hbl⟩:=H.o.blt hlt;obtain ⟨g0,g1,g2⟩:=(H.o.bz hB).cl hlt;have HD:=ax (fits_drop c fs k hlt);have hfk:=HF.o _ (List.getElem_mem hlt);obtain ⟨f,hfe⟩:∃ f,f=fs[k]:=⟨_,rfl⟩;rw[←hfe] at g0 g1 g2 HD hfk;clear hfe;have kg:Blk wr g tTc (encI c).toArray:=hk.bz hB hgl;have hgr:=kg.lt;(go_wp2_with fail);refine (c_impl_factHolds f c g _ (kg.alloc _) hc hfk.1 hfk.2).mono ?_;rintro e w1 ⟨rfl,hB1⟩;have hBx:Below w.heap.size w w1:=bgo (w:=w) bel hB1;cases hff:f.fits c
   ·have HZ:=ax (show fs.all (Fct.fits c)=false by rw[HA.o,HD.o,hff];rfl);clear hff hB1;(go_wp2_with fail);go_ret;exact ⟨zjD (by rw[HZ.o]),hBx⟩
   ·have HZ:=ax (show (fs.drop k).all (Fct.fits c)=(fs.drop (k+1)).all (Fct.fits c) by rw[HD.o,hff];rfl);clear hff hB1;(go_wp2_with fail)
    go_round
    case rel=>exact ⟨k+1,by omega,by go_num,by show _=_;rw[HA.o,HZ.o],hBx⟩
    case measure=>simp[intOf];omega
  ·obtain rfl:k=fs.length:=by omega
   have HZ:aJ (fs.all (Fct.fits c)=true):=by show _=_;rw[HA.o,List.drop_length];rfl
   (go_wp2_with fail);go_ret;exact ⟨zjD (by rw[HZ.o]),hB⟩
theorem any_drop (p:Atm→Bool) (xs:List Atm) (k:Nat) (hk:k<xs.length):(xs.drop k).any p=(p xs[k] || (xs.drop (k+1)).any p):=by
 rw[List.drop_eq_getElem_cons hk];rfl
def begB (xs:List Atm) (b:Int):Bool:=xs.any fun x=>decide (x.a=b)
theorem c_impl_beginsAt {lo hi:Nat} (A:Option Addr) (d:Nat) (xs:List Atm) (b:Int) (w:World) (h:AtomsV w lo hi A xs) :
  Calls Tryz.prog 253 #[.slice A xs.length d,.int .i64 b] w fun e w'=>e=.returned (.bool (begB xs b))∧Below w.heap.size w w':=by
 have hl:=h.le;have H:=ax h;clear h;(go_enter Tryz.func253,Tryz.ntmps253);(go_wp2_with fail)
 go_loopw [9] (fun i wr=>∃ k:Nat,k≤xs.length∧i=.int .i64 k∧aJ (begB xs b=begB (xs.drop k) b)∧Below w.heap.size w wr) (fun i _=>xs.length - (intOf i).toNat)
 case atStart=>exact ⟨0,Nat.zero_le _,rfl,rfl,bel⟩
 case round=>
  obtain ⟨k,hkk,rfl,HA,hB⟩:=hrel;by_cases hlt:k<xs.length
  ·obtain ⟨bb,off,rfl,hbl⟩:=H.o.blt hlt;obtain ⟨g0,g1,g2⟩:=(H.o.bz hB).cl hlt;have HD:=ax (any_drop (fun x=>decide (x.a=b)) xs k hlt);obtain ⟨x,hxe⟩:∃ x,x=xs[k]:=⟨_,rfl⟩;rw[←hxe] at g0 g1 g2 HD;clear hxe;by_cases he:x.a=b
   ·have HZ:aJ (begB xs b=true):=by show _=_;rw[HA.o];unfold begB;rw[HD.o,decide_eq_true he];rfl
    have he':(x.a == b)=true:=by simpa using he
    clear he;(go_wp2_with fail);go_ret;exact ⟨zjD (by rw[HZ.o]),bel⟩
   ·have HZ:aJ (begB xs b=begB (xs.drop (k+1)) b):=by show _=_;rw[HA.o];unfold begB;rw[HD.o,decide_eq_false he];rfl
    have he':(x.a == b)=false:=by simpa using he
    clear he;(go_wp2_with fail)
    go_round
    case rel=>exact ⟨k+1,by omega,by go_num,HZ,bel⟩
    case measure=>simp[intOf];omega
  ·obtain rfl:k=xs.length:=by omega
   have HZ:aJ (begB xs b=false):=by show _=_;rw[HA.o,List.drop_length];rfl
   (go_wp2_with fail);go_ret;exact ⟨zjD (by rw[HZ.o]),hB⟩
abbrev tMt:Nat:=239
def ub (used:List Bool) (k:Nat):Bool:=(used[k]?).getD false
abbrev cmC (V:Value) (used:List Bool) (cnt:Nat):Array Value:=#[V,.bool (ub used 0),.bool (ub used 1),.bool (ub used 2),.bool (ub used 3),.bool (ub used 4),.bool (ub used 5),.int .i64 (cnt:Int)]
theorem cm_used {w:World} {g cnt:Nat} {t:TypeId} {V:Value} {used:List Bool} (h:Blk w g t (cmC V used cnt)) {k:Nat} (hk:k<6):w.cell? ⟨g,1+k,none⟩=some (.bool (ub used k)):=by
 rw[h.cell];obtain rfl|rfl|rfl|rfl|rfl|rfl:k=0∨k=1∨k=2∨k=3∨k=4∨k=5:=by omega
 all_goals rfl
theorem freeAt_of {xs:List Atm} {used:List Bool} {c:Int} {k:Nat} (hk:k<xs.length) (hu:used.length=xs.length):freeAt xs used c k=(decide (xs[k].a=c) && !ub used k):=by
 unfold freeAt ub;rw[List.getElem?_eq_getElem hk,List.getElem?_eq_getElem (by omega)];rfl
theorem c_impl_unusedAt {lo hi:Nat} (A:Option Addr) (d cnt:Nat) (xs:List Atm) (used:List Bool) (b:Int) (g:Nat) (w:World) (h:AtomsV w lo hi A xs) (hk:Blk w g tMt (cmC (.slice A xs.length d) used cnt)) (hl6:xs.length≤6) (hu:used.length=xs.length) :
  Calls Tryz.prog 251 #[.pointer (some ⟨g,0,none⟩),.int .i64 b] w fun e w'=>e=.returned (.tuple #[.int .i64 ((findU xs used b).getD 0:Nat),.bool (findU xs used b).isSome])∧Below w.heap.size w w':=by
 have hgl:=hk.lt;have H:=ax h;have HU:=ax hu;have q0:=hk.cell 0;have HK:=ax hk;clear h hu hk;(go_enter Tryz.func251,Tryz.ntmps251);(go_wp2_with fail)
 go_loopw [13] (fun i wr=>∃ k:Nat,k≤xs.length∧i=.int .i64 k∧aJ (∀ j,j<k→freeAt xs used b j=false)∧Below w.heap.size w wr) (fun i _=>xs.length - (intOf i).toNat)
 case atStart=>exact ⟨0,Nat.zero_le _,rfl,fun j hj=>absurd hj (Nat.not_lt_zero _),bel⟩
 case round=>
  clear q0;obtain ⟨k,hkk,rfl,HA,hB⟩:=hrel;have kg:Blk wr g tMt (cmC (.slice A xs.length d) used cnt):=HK.o.bz hB hgl;by_cases hlt:k<xs.length
  ·obtain ⟨bb,off,rfl,hbl⟩:=H.o.blt hlt;obtain ⟨g0,g1,g2⟩:=(H.o.bz hB).cl hlt;have HD:=ax (freeAt_of (c:=b) hlt HU.o);have qu:=cm_used kg (k:=k) (by omega);have hgr:=kg.lt;have hk6:(k:Int)<6:=by omega
   obtain ⟨x,hxe⟩:∃ x,x=xs[k]:=⟨_,rfl⟩;rw[←hxe] at g0 g1 g2 HD;clear hxe;clear kg;cases hff:freeAt xs used b k
   ·have HZ:aJ (∀ j,j<k+1→freeAt xs used b j=false):=fun j hj=>by
     by_cases e:j=k
     ·rw[e];exact hff
     ·exact HA.o j (by omega)
    rw[HD.o] at hff;by_cases he:x.a=b
    ·have he':(x.a == b)=true:=by simpa using he
     have hub:ub used k=true:=by rw[decide_eq_true he] at hff;simpa using hff
     rw[hub] at qu;clear he hff hub;(go_wp2_with fail)
     go_round
     case rel=>exact ⟨k+1,by omega,by go_num,HZ,bel⟩
     case measure=>simp[intOf];omega
    ·have he':(x.a == b)=false:=by simpa using he
     clear he hff;(go_wp2_with fail)
     go_round
     case rel=>exact ⟨k+1,by omega,by go_num,HZ,bel⟩
     case measure=>simp[intOf];omega
   ·have HZ:aJ (findU xs used b=some k):=range_find_some hlt hff HA.o;rw[HD.o,Bool.and_eq_true,decide_eq_true_eq] at hff;have he':(x.a == b)=true:=by simpa using hff.1
    have hub:ub used k=false:=by simpa using hff.2
    rw[hub] at qu;clear hff hub;(go_wp2_with fail);go_ret2;exact ⟨by rw[HZ.o];rfl,bel⟩
  ·obtain rfl:k=xs.length:=by omega
   have HZ:aJ (findU xs used b=none):=range_find_none HA.o;(go_wp2_with fail);go_ret2;exact ⟨by rw[HZ.o];rfl,hB⟩
theorem ub_set {used:List Bool} {k:Nat} (hk:k<used.length) (j:Nat):ub (used.set k true) j=if k=j then true else ub used j:=by
 unfold ub;rw[List.getElem?_set];by_cases e:k=j
 ·subst e;simp[hk]
 ·simp[e]
theorem cm_take {V:Value} {used:List Bool} {cnt k:Nat} (hk:k<used.length) (h6:k<6):((cmC V used cnt).setIfInBounds (1+k) (.bool true)).setIfInBounds 7 (.int .i64 ((cnt:Int)+1))=cmC V (used.set k true) (cnt+1):=by
 unfold cmC;simp only[ub_set hk];obtain rfl|rfl|rfl|rfl|rfl|rfl:k=0∨k=1∨k=2∨k=3∨k=4∨k=5:=by omega
 all_goals simp
abbrev cmU (V:Value) (used:List Bool):Array Value:=cmC V used (used.count true)
theorem c_impl_take {V:Value} {used:List Bool} (k g:Nat) (w:World) (hk:Blk w g tMt (cmU V used)) (hku:used[k]? = some false) (h6:used.length≤6) :
  Calls Tryz.prog 252 #[.pointer (some ⟨g,0,none⟩),.int .i64 k] w fun e w'=>(∃ v,e=.returned v)∧Blk w' g tMt (cmU V (used.set k true))∧Mk (fun h=>h=g) w w':=by
 have hgl:=hk.lt;have hkl:k<used.length:=(List.getElem?_eq_some_iff.1 hku).1;have hcnt:=List.count_le_length (a:=true) (l:=used);obtain ⟨cnt,hcn⟩:∃ n,n=used.count true:=⟨_,rfl⟩;have HE:aJ ((used.set k true).count true=cnt+1):=by show _=_;rw[count_take hku,hcn]
 unfold cmU at hk;rw[←hcn] at hk hcnt;have qu:=cm_used hk (k:=k) (by omega);have q7:w.cell? ⟨g,7,none⟩=some (.int .i64 (cnt:Int)):=hk.cell 7;have r:=hk.frozen;have hk6:(k:Int)<6:=by omega
 have HT:=ax (cm_take (V:=V) (cnt:=cnt) hkl (by omega));have HK:=ax hk;have hne:¬(1+k=7):=by omega
 have hne':¬(7=1+k):=by omega
 clear hk hku hcn;(go_enter Tryz.func252,Tryz.ntmps252);(go_wp2_with fail)
 go_end0
 refine ⟨⟨_,rfl⟩,?_,((Mk.refl (fun h=>h=g) _).set (x:=⟨g,1+k,none⟩) rfl _).set (x:=⟨g,7,none⟩) rfl _⟩;show Blk _ _ _ (cmC V (used.set k true) ((used.set k true).count true));rw[HE.o,←HT.o];exact (HK.o.set_ _ _).set_ _ _
def cellF (xs:List Atm) (used:List Bool) (x:Atm):Option (List Bool):=(findU xs used x.a).bind fun k=>if (xs[k]?).getD default=x then some (used.set k true) else none
theorem AtomsV.keepM {w w':World} {lo hi g:Nat} {A:Option Addr} {xs:List Atm} (h:AtomsV w lo hi A xs) (hm:Mk (fun h=>h=g) w w') (hg:hi≤g) (hw:g≤w.heap.size):AtomsV w' lo hi A xs:=h.keepB (hm.bz (lo:=g) (fun k e=>by omega) hw) hg
theorem c_impl_useCell {lo hi:Nat} (A:Option Addr) (d:Nat) (xs:List Atm) (used:List Bool) (x:Atm) (g:Nat) (w:World) (h:AtomsV w lo hi A xs) (hhi:hi≤g) (hk:Blk w g tMt (cmU (.slice A xs.length d) used)) (hl6:xs.length≤6) (hu:used.length=xs.length) :
  Calls Tryz.prog 205 #[.pointer (some ⟨g,0,none⟩),x.val] w fun e w'=>∃ r ys,e=.returned (.tuple #[r,.bool (cellF xs used x).isSome])∧IntsO w' w.heap.size r ys∧Mk (fun h=>h=g) w w'∧(∀ u,cellF xs used x=some u→Blk w' g tMt (cmU (.slice A xs.length d) u)):=by
 have hgl:=hk.lt;have H:=ax h;have HU:=ax hu;have HK:=ax hk;clear h hu hk;(go_enter Tryz.func205,Tryz.ntmps205);(go_wp2_with fail);refine (c_impl_unusedAt A d _ xs used x.a g _ (H.o.bz bel) (HK.o.alloc _) hl6 HU.o).mono ?_;rintro e w1 ⟨rfl,hB1⟩;have hB:Below w.heap.size w w1:=bgo (w:=w) bel hB1;have kg:=HK.o.bz hB hgl;have k0:Blk w1 w.heap.size tA #[.int .i64 x.kind,.int .i64 x.a,.int .i64 x.b]:=Blk.nz blks hB1;have q0:=k0.cell;have l0:=k0.lt;have gl1:=kg.lt;clear hB1;cases hf:findU xs used x.a
 ·have E:aJ (cellF xs used x=none):=by show _=_;unfold cellF;rw[hf];rfl
  clear hf;(go_wp2_with fail);(go_quiet (fail));(go_wp2_with fail);go_ret2;exact ⟨_,[],by rw[E.o];rfl,IntsO.nil _ _,Mk.below_ bel,fun u hu=>by rw[E.o] at hu;cases hu⟩
 ·rename_i k;obtain ⟨hkl,hfr⟩:=findU_some hf;have hfu:=freeAt_used hfr;obtain ⟨b,off,rfl,hbl⟩:=H.o.blt hkl;obtain ⟨g0,g1,g2⟩:=(H.o.bz hB).cl hkl;rw[freeAt_of hkl HU.o,Bool.and_eq_true,decide_eq_true_eq] at hfr;have q1:w1.cell? ⟨g,0,none⟩=some (.slice (some ⟨b,off,none⟩) xs.length d):=kg.cell 0;have E:aJ (cellF xs used x=if xs[k]=x then some (used.set k true) else none):=by show _=_;unfold cellF;rw[hf];simp only[Option.bind_some,List.getElem?_eq_getElem hkl,Option.getD_some]
  obtain ⟨y,hy⟩:∃ y,y=xs[k]:=⟨_,rfl⟩;rw[←hy] at g0 g1 g2 E hfr;have hya:=hfr.1;have hkx:(k:Int)<(xs.length:Int):=by omega
  have HKG:=ax kg;have HFU:=ax hfu;clear hf hy hfr kg hfu;have hq2:∀ i,w1.cell? ⟨w.heap.size,i,none⟩=#[.int .i64 x.kind,.int .i64 x.a,.int .i64 x.b][i]?:=q0;rw[hya] at g1;have e2:(x.a == x.a)=true:=by simp
  by_cases f1:y.kind=x.kind
  ·by_cases f3:y.b=x.b
   ·have E2:aJ (cellF xs used x=some (used.set k true)):=by
     show _=_;rw[E.o,if_pos];cases y;cases x;simp_all
    rw[f1] at g0;rw[f3] at g2;(go_wp2_with fail);(go_quiet (fail));(go_wp2_with fail);have kg:=HKG.o;refine (c_impl_take k g _ (used:=used) (V:=.slice (some ⟨b,off,none⟩) xs.length d) blks HFU.o.2 (by rw[HU.o];exact hl6)).mono ?_;rintro e w3 ⟨⟨v,rfl⟩,k3,hM⟩;have hMM:Mk (fun h=>h=g) w w3:=Mk.trans (Mk.below_ (w:=w) bel) hM;have hz3:=hMM.size;clear kg;(go_wp2_with fail);go_ret2;exact ⟨_,[(k:Int)],by rw[E2.o];rfl,IntsO.one w3 k hz3,hMM.trans (Mk.below_ bel),fun u hu=>by rw[E2.o] at hu;cases hu;exact k3.alloc _⟩
   ·have e3:(y.b == x.b)=false:=by simpa using f3
    have E2:aJ (cellF xs used x=none):=by show _=_;rw[E.o,if_neg (fun e=>f3 (by rw[e]))]
    rw[f1] at g0;(go_wp2_with fail);(go_quiet (fail));(go_wp2_with fail);go_ret2;exact ⟨_,[],by rw[E2.o];rfl,IntsO.nil _ _,Mk.below_ bel,fun u hu=>by rw[E2.o] at hu;cases hu⟩
  ·have e1:(y.kind == x.kind)=false:=by simpa using f1
   have E2:aJ (cellF xs used x=none):=by show _=_;rw[E.o,if_neg (fun e=>f1 (by rw[e]))]
   (go_wp2_with fail);(go_quiet (fail));(go_wp2_with fail);go_ret2;exact ⟨_,[],by rw[E2.o];rfl,IntsO.nil _ _,Mk.below_ bel,fun u hu=>by rw[E2.o] at hu;cases hu⟩
theorem c_spec_l5Begins {lo hi:Nat} (A:Option Addr) (d:Nat) (xs:List Atm) (b:Int) (w:World) (h:AtomsV w lo hi A xs) :
  Calls Tryz.prog 305 #[.slice A xs.length d,.int .i64 b] w fun e w'=>e=.returned (.bool (begB xs b))∧w=w':=by
 have hl:=h.le;have H:=ax h;clear h;(go_enter Tryz.func305,Tryz.ntmps305);(go_wp2_with fail)
 go_loop [5] (fun i=>∃ k:Nat,k≤xs.length∧i=.int .i64 k∧aJ (begB xs b=begB (xs.drop k) b)) (fun i=>xs.length - (intOf i).toNat)
 case atStart=>exact ⟨0,Nat.zero_le _,rfl,rfl⟩
 case round=>
  obtain ⟨k,hkk,rfl,HA⟩:=hrel;by_cases hlt:k<xs.length
  ·obtain ⟨bb,off,rfl,hbl⟩:=H.o.blt hlt;obtain ⟨g0,g1,g2⟩:=H.o.cl hlt;have HD:=ax (any_drop (fun x=>decide (x.a=b)) xs k hlt);obtain ⟨x,hxe⟩:∃ x,x=xs[k]:=⟨_,rfl⟩;rw[←hxe] at g0 g1 g2 HD;clear hxe;by_cases he:x.a=b
   ·have HZ:aJ (begB xs b=true):=by show _=_;rw[HA.o];unfold begB;rw[HD.o,decide_eq_true he];rfl
    have he':(x.a == b)=true:=by simpa using he
    clear he;(go_wp2_with fail);go_ret;exact ⟨zjD (by rw[HZ.o]),rfl⟩
   ·have HZ:aJ (begB xs b=begB (xs.drop (k+1)) b):=by show _=_;rw[HA.o];unfold begB;rw[HD.o,decide_eq_false he];rfl
    have he':(x.a == b)=false:=by simpa using he
    clear he;(go_wp2_with fail)
    go_round
    case rel=>exact ⟨k+1,by omega,by go_num,HZ⟩
    case measure=>simp[intOf];omega
  ·obtain rfl:k=xs.length:=by omega
   have HZ:aJ (begB xs b=false):=by show _=_;rw[HA.o,List.drop_length];rfl
   (go_wp2_with fail);go_ret;exact ⟨zjD (by rw[HZ.o]),rfl⟩
def fndI (o:Option Nat):Int:=match o with|some k=>k|none=>-1
theorem c_spec_l6Find {lo hi lo2 hi2:Nat} (A B:Option Addr) (d e:Nat) (xs:List Atm) (used:List Bool) (b:Int) (w:World) (h:AtomsV w lo hi A xs) (h':BoolsV w lo2 hi2 B used) (hu:used.length=xs.length) :
  Calls Tryz.prog 299 #[.slice A xs.length d,.slice B xs.length e,.int .i64 b] w fun e w'=>e=.returned (.int .i64 (fndI (findU xs used b)))∧w=w':=by
 have hl:=h.le;have H:=ax h;have H':=ax h';have HU:=ax hu;clear h h' hu;(go_enter Tryz.func299,Tryz.ntmps299);(go_wp2_with fail)
 go_loop [7] (fun i=>∃ k:Nat,k≤xs.length∧i=.int .i64 k∧aJ (∀ j,j<k→freeAt xs used b j=false)) (fun i=>xs.length - (intOf i).toNat)
 case atStart=>exact ⟨0,Nat.zero_le _,rfl,fun j hj=>absurd hj (Nat.not_lt_zero _)⟩
 case round=>
  obtain ⟨k,hkk,rfl,HA⟩:=hrel;by_cases hlt:k<xs.length
  ·obtain ⟨bb,off,rfl,hbl⟩:=H.o.blt hlt;obtain ⟨g0,g1,g2⟩:=H.o.cl hlt;obtain ⟨b2,off2,rfl,hbl2⟩:=H'.o.blt (k:=k) (by rw[HU.o];exact hlt);have qu:w.cell? ⟨b2,off2+k,none⟩=some (.bool (ub used k)):=by rw[H'.o.cl (k:=k) (by rw[HU.o];exact hlt)];unfold ub;rw[List.getElem?_eq_getElem];rfl
   have HD:=ax (freeAt_of (c:=b) hlt HU.o);obtain ⟨x,hxe⟩:∃ x,x=xs[k]:=⟨_,rfl⟩;rw[←hxe] at g0 g1 g2 HD;clear hxe;cases hff:freeAt xs used b k
   ·have HZ:aJ (∀ j,j<k+1→freeAt xs used b j=false):=fun j hj=>by
     by_cases e:j=k
     ·rw[e];exact hff
     ·exact HA.o j (by omega)
    rw[HD.o] at hff;cases hub:ub used k
    ·rw[hub] at qu hff;have he':(x.a == b)=false:=by simpa using hff
     clear hff hub;(go_wp2_with fail)
     go_round
     case rel=>exact ⟨k+1,by omega,by go_num,HZ⟩
     case measure=>simp[intOf];omega
    ·rw[hub] at qu;clear hff hub;(go_wp2_with fail)
     go_round
     case rel=>exact ⟨k+1,by omega,by go_num,HZ⟩
     case measure=>simp[intOf];omega
   ·have HZ:aJ (findU xs used b=some k):=range_find_some hlt hff HA.o;rw[HD.o,Bool.and_eq_true,decide_eq_true_eq] at hff;have he':(x.a == b)=true:=by simpa using hff.1
    have hub:ub used k=false:=by simpa using hff.2
    rw[hub] at qu;clear hff hub;(go_wp2_with fail);go_ret;exact ⟨by rw[HZ.o];rfl,rfl⟩
  ·obtain rfl:k=xs.length:=by omega
   have HZ:aJ (findU xs used b=none):=range_find_none HA.o;(go_wp2_with fail);go_ret;exact ⟨by rw[HZ.o];rfl,rfl⟩
theorem BoolsO.open_ {w:World} {base:Nat} {A:Option Addr} {n c k:Nat} {fs:List Bool} (h:BoolsO w base (.slice A n c) fs) (hk:k<fs.length):∃ g cur,n=fs.length∧A=some ⟨g,0,none⟩∧base≤g∧Blk w g tB cur∧cur[k]? = some (.bool fs[k])∧
  (∀ v:Bool,BoolsO (w.setCell ⟨g,k,none⟩ (.bool v)) base (.slice A n c) (fs.set k v)):=by
 obtain ⟨⟨hl,h2⟩,hL⟩:=h;rcases h2 with ⟨e,hn⟩|⟨g,cap,cur,e,hb,hh,hn,hm,hs,ht⟩
 ·omega
 ·injection e with e1 e2 e3;subst e1 e2 e3;have hK:Blk w g tB cur:=hh
  have hP:Pre cur (encB fs) (fs.length * 1):=by
   intro j hj;rw[←ht,List.getElem?_take,if_pos hj];simp
  refine ⟨g,cur,rfl,rfl,hb,hK,(hP _ (by omega)).trans (by simp[List.getElem?_eq_getElem hk]),?_⟩;intro v;refine ⟨?_,by rw[List.length_set];exact hL⟩;rw[show encB (fs.set k v)=(encB fs).set k (.bool v) from by simp[encB,List.map_set],List.length_set];exact own_of_blk (hK.set_ k (.bool v)) hb (by rw[List.length_set,hl]) (hP.setL k (.bool v) (by rw[hs];exact Nat.mul_le_mul hn (Nat.le_refl _)) (by rw[hl];exact Nat.le_refl _)) hn hm (by simpa using hs)
def chainG (xs:List Atm) (b:Int) (n:Nat) (used:List Bool) (c:Int):Option (List Bool):=if c=b then some used else chainF xs b n used c
def cutB (xs:List Atm) (y:Atm) (b:Int):Bool:=decide (y.kind=2) && !decide (y.b=b) && !decide (b=0) && !begB xs b
theorem cut_cases (xs:List Atm) (y:Atm) (b:Int):(cutB xs y b=true∧(y.kind == 2)=true∧(y.b != b)=true∧(b != 0)=true∧begB xs b=false)∨
  ((cutB xs y b=false∧(y.kind == 2)=false)∨(cutB xs y b=false∧(y.kind == 2)=true∧(y.b != b)=false)∨(cutB xs y b=false∧(y.kind == 2)=true∧(y.b != b)=true∧(b != 0)=false)∨(cutB xs y b=false∧(y.kind == 2)=true∧(y.b != b)=true∧(b != 0)=true∧begB xs b=true)):=by
 unfold cutB;by_cases h1:y.kind=2<;>by_cases h2:y.b=b<;>by_cases h3:b=0<;>cases h4:begB xs b<;>simp_all
theorem closed_beg (xs:List Atm) (b:Int):closedB xs b=(decide (b=0) || begB xs b):=rfl
theorem chainG_none {xs:List Atm} {b:Int} {n:Nat} {used:List Bool} {c:Int} (h:c≠b) (hf:findU xs used c=none):chainG xs b n used c=none:=by
 unfold chainG;rw[if_neg h]
 cases n with
 | zero=>rfl
 | succ n=>unfold chainF;rw[hf];rfl
theorem chainG_some {xs:List Atm} {b:Int} {n:Nat} {used:List Bool} {c:Int} {k:Nat} (h:c≠b) (hf:findU xs used c=some k) (hk:k<xs.length):chainG xs b (n+1) used c=if cutB xs xs[k] b then none else chainG xs b n (used.set k true) xs[k].b:=by
 unfold chainG;rw[if_neg h];rw[show chainF xs b (n+1) used c=(findU xs used c).bind (fun k=>if ((xs[k]?).getD default).b=b then some (used.set k true) else if ((xs[k]?).getD default).kind=2∧closedB xs b=false then none else chainF xs b n (used.set k true) ((xs[k]?).getD default).b) from rfl,hf];simp only[Option.bind_some,List.getElem?_eq_getElem hk,Option.getD_some];unfold cutB;rw[closed_beg];generalize chainF xs b n (used.set k true) xs[k].b=R;generalize xs[k]=y;generalize decide (b=0)=t;generalize begB xs b=s;by_cases h1:y.b=b<;>by_cases h2:y.kind=2<;>cases t<;>cases s<;>simp[h1,h2]
theorem AtomsV.hi_ {w:World} {lo hi b o k:Nat} {xs:List Atm} (h:AtomsV w lo hi (some ⟨b,o,none⟩) xs) (hk:k<xs.length):b<hi:=by
 obtain ⟨g,o',e,h1,h2,-⟩:=h.raw.2 (by omega);injection e with e;injection e with e1;omega
theorem c_spec_l6Chain {lo hi base:Nat} (A B:Option Addr) (d e:Nat) (xs:List Atm) (used:List Bool) (c b:Int) (w:World) (h:AtomsV w lo hi A xs) (h':BoolsO w base (.slice B xs.length e) used) (hu:used.length=xs.length) (hhi:hi≤base) (hbw:base≤w.heap.size) :
  Calls Tryz.prog 298 #[.slice A xs.length d,.slice B xs.length e,.int .i64 c,.int .i64 b] w fun e' w'=>e'=.returned (.bool (chainG xs b (xs.length+1) used c).isSome)∧(∀ u,chainG xs b (xs.length+1) used c=some u→BoolsO w' base (.slice B xs.length e) u∧u.length=xs.length)∧Mk (fun g=>(Value.slice B xs.length e).ownBlock=some g) w w':=by
 have hl:=h.le;have hown:∀ g,(Value.slice B xs.length e).ownBlock=some g→base≤g:=fun g hg=>(h'.1.lt g hg).1;have H:=ax h;have HO:=ax h';have HU:=ax hu;have HW:=ax hown;clear h h' hu hown;(go_enter Tryz.func298,Tryz.ntmps298);(go_wp2_with fail)
 go_loopg [2] (xs.length - used.count true) (fun gh s2 wr=>∃ (u:List Bool) (n:Nat) (at_:Int),s2=.int .i64 at_∧aJ (xs.length - u.count true≤gh)∧aJ (chainG xs b (xs.length+1) used c=chainG xs b n u at_)∧aJ (xs.length<n+u.count true)∧aJ (u.length=xs.length)∧aJ (BoolsO wr base (.slice B xs.length e) u)∧aJ (Mk (fun g=>(Value.slice B xs.length e).ownBlock=some g) w wr))
 case atStart=>exact ⟨used,xs.length+1,c,rfl,Nat.le_refl _,rfl,by show _<_;omega,HU.o,HO.o,Mk.refl _ _⟩
 case round=>
  obtain ⟨u,n,at_,rfl,HG,HC,HN,HL,HB,HM⟩:=hrel;have hA:aJ (AtomsV wr lo hi A xs):=H.o.keepB (HM.o.bz (lo:=base) (fun k e=>HW.o k e) hbw) hhi;by_cases hat:at_=b
  ·have E:aJ (chainG xs b (xs.length+1) used c=some u):=by show _=_;rw[HC.o];unfold chainG;rw[if_pos hat]
   have hne:(at_ != b)=false:=by simpa using hat
   clear hat;(go_wp2_with fail);go_ret;exact ⟨zjD (by rw[E.o];rfl),fun u' hu'=>(by rw[E.o] at hu';cases hu';exact ⟨HB.o,HL.o⟩),HM.o⟩
  ·have hne:(at_ != b)=true:=by simpa using hat
   obtain ⟨BB,eB,eqB,hBV⟩:=HB.o.rj;injection eqB with eB1 eB2 eB3;subst eB1;clear eB2 eB3;(go_wp2_with fail);refine (c_spec_l6Find A B d e xs u at_ _ hA.o (by simpa using hBV) HL.o).mono ?_;rintro e w1 ⟨rfl,rfl⟩;cases hf:findU xs u at_
   ·have E:aJ (chainG xs b (xs.length+1) used c=none):=by show _=_;rw[HC.o];exact chainG_none hat hf
    clear hf hat;simp only[fndI];(go_wp2_with fail);go_ret;exact ⟨zjD (by rw[E.o];rfl),fun u' hu'=>(by rw[E.o] at hu';cases hu'),HM.o⟩
   ·rename_i k;obtain ⟨hkl,hfr⟩:=findU_some hf;have hfu:=freeAt_used hfr;have hct:=count_take hfu.2;have hcl:=List.count_le_length (a:=true) (l:=u.set k true);rw[List.length_set,HL.o] at hcl;obtain ⟨m,rfl⟩:∃ m,n=m+1:=⟨n - 1,by have:=HN.o;omega⟩;have HS:=ax (chainG_some (n:=m) hat hf hkl);obtain ⟨g,cur,-,rfl,hgb,kg,hcm,hset⟩:=HB.o.open_ (k:=k) hfu.1;have qg:wr.cell? ⟨g,k,none⟩=some (.bool false):=(kg.cell k).trans (hcm.trans (by rw[(List.getElem?_eq_some_iff.1 hfu.2).2]));have rg:=kg.frozen;have HSET:=ax (hset true);obtain ⟨bb,off,rfl,hbl⟩:=hA.o.blt hkl;obtain ⟨g0,g1,g2⟩:=hA.o.cl hkl;have hbg:bb<g:=by have:=hA.o.hi_ hkl;omega
    have hbn:¬(bb=g):=by omega
    have hbn':¬(g=bb):=by omega
    obtain ⟨y,hy⟩:∃ y,y=xs[k]:=⟨_,rfl⟩;rw[←hy] at g0 g1 g2 HS;have HCT:=ax hct;have HCL:=ax hcl;have hkx:(k:Int)<(xs.length:Int):=by omega
    have hk0:¬(k:Int)<0:=by omega
    have HAK:=ax hA.o;clear hf hat hy hfr hfu hct hcl hset kg hcm;simp only[fndI];rcases cut_cases xs y b with ⟨hc,f1,f2,f3,f4⟩|hcc
    ·have E:aJ (chainG xs b (xs.length+1) used c=none):=by show _=_;rw[HC.o,HS.o,hc];rfl
     clear hc;(go_wp2_with (refine (c_spec_l5Begins _ _ xs b _ HAK.o).mono ?_;rintro e2 w2 ⟨rfl,rfl⟩));go_ret;exact ⟨zjD (by rw[E.o];rfl),fun u' hu'=>(by rw[E.o] at hu';cases hu'),HM.o⟩
    ·have E:aJ (cutB xs y b=false→chainG xs b (xs.length+1) used c=chainG xs b m (u.set k true) y.b):=fun hc=>by rw[HC.o,HS.o,hc];rfl
     rcases hcc with ⟨hc,f1⟩|⟨hc,f1,f2⟩|⟨hc,f1,f2,f3⟩|⟨hc,f1,f2,f3,f4⟩
     all_goals
      have E2:=ax (E.o hc);clear hc;(go_wp2_with (refine (c_spec_l5Begins _ _ xs b _ HAK.o).mono ?_;rintro e2 w2 ⟨rfl,rfl⟩))
      go_roundg (xs.length - (u.set k true).count true)
      case rel=>exact ⟨u.set k true,m,y.b,rfl,Nat.le_refl _,E2.o,by show _<_;have:=HN.o;have:=HCT.o;omega,by show _=_;rw[List.length_set];exact HL.o,HSET.o,HM.o.set (x:=⟨g,k,none⟩) rfl _⟩
      case measure=>have:=HG.o;have:=HCT.o;have:=HCL.o;omega
theorem Mk.thenB {p:Nat→Prop} {w a b:World} (h:Mk p w a) (hb:Below w.heap.size a b):Mk p w b:=⟨hb.os.trans h.os,hb.tape.trans h.tape,hb.output.trans h.output,Nat.le_trans h.size hb.size,fun k hk hp=>(hb.block k hk).trans (h.block k hk hp)⟩
theorem chainF_none {xs:List Atm} {b:Int} {n:Nat} {used:List Bool} {c:Int} (hf:findU xs used c=none):chainF xs b n used c=none:=by
 cases n with
 | zero=>rfl
 | succ n=>unfold chainF;rw[hf];rfl
theorem chainF_some {xs:List Atm} {b:Int} {n:Nat} {used:List Bool} {c:Int} {k:Nat} (hf:findU xs used c=some k) (hk:k<xs.length):chainF xs b (n+1) used c=if xs[k].b=b then some (used.set k true) else if xs[k].kind=2∧closedB xs b=false then none else chainF xs b n (used.set k true) xs[k].b:=by
 rw[show chainF xs b (n+1) used c=(findU xs used c).bind (fun k=>if ((xs[k]?).getD default).b=b then some (used.set k true) else if ((xs[k]?).getD default).kind=2∧closedB xs b=false then none else chainF xs b n (used.set k true) ((xs[k]?).getD default).b) from rfl,hf];simp only[Option.bind_some,List.getElem?_eq_getElem hk,Option.getD_some]
theorem c_impl_useChain {lo hi:Nat} (A:Option Addr) (d:Nat) (xs:List Atm) (used:List Bool) (x:Atm) (g:Nat) (w:World) (h:AtomsV w lo hi A xs) (hhi:hi≤g) (hk:Blk w g tMt (cmU (.slice A xs.length d) used)) (hl6:xs.length≤6) (hu:used.length=xs.length) :
  Calls Tryz.prog 206 #[.pointer (some ⟨g,0,none⟩),x.val] w fun e w'=>∃ r ys,e=.returned (.tuple #[r,.bool (chainF xs x.b (xs.length+1) used x.a).isSome])∧IntsO w' w.heap.size r ys∧Mk (fun h=>h=g) w w'∧(∀ u,chainF xs x.b (xs.length+1) used x.a=some u→Blk w' g tMt (cmU (.slice A xs.length d) u)):=by
 have hgl:=hk.lt;have H:=ax h;have HU:=ax hu;have HK:=ax hk;clear h hu hk;(go_enter Tryz.func206,Tryz.ntmps206);(go_wp2_with fail);have k0:=Blk.new w tA #[.int .i64 x.kind,.int .i64 x.a,.int .i64 x.b];have kg:=HK.o.alloc (.cells #[.int .i64 x.kind,.int .i64 x.a,.int .i64 x.b] tA);cases hb0:(x.b == 0)
 case' false=>
  refine wp_region_noPanic ?_;refine wp_region_held_drew (S:=(fun w'=>(∀ i,w'.cell? ⟨w.heap.size,i,none⟩=#[.int .i64 x.kind,.int .i64 x.a,.int .i64 x.b][i]?)∧w'.cell? ⟨g,0,none⟩=some (.slice A xs.length d))) (by kernel_rfl) (⟨Blk.cell blks,(show Blk _ g tMt (cmU (.slice A xs.length d) used) from blks).cell 0⟩) (fun aH=>?_);refine tk2 0 rfl aH (h:=tk2 1 rfl aH (h:=tk2 2 rfl aH (h:=?_)));(try simp only[zz]);refine tk2 3 rfl aH (h:=tk2 4 rfl aH (h:=tk2 5 rfl aH (h:=?_)));(try simp only[zz]);refine tk2 6 rfl aH (h:=tk2 7 rfl aH (h:=tk2 8 rfl aH (h:=?_)));(try simp only[zz]);refine tk2 9 rfl aH (h:=?_);refine rdc 10 rfl fun K hK=>?_;(try simp only[zz]);(go_simp;refine (c_impl_beginsAt A d xs x.b _ (H.o.bz bel)).mono ?_;rintro e w1 ⟨rfl,hB1⟩;have hB:=bgo (w:=w) bel hB1;replace k0:=Blk.nz (g:=w.heap.size) blks hB1;replace kg:=Blk.nz (g:=g) blks hB1);refine hK.out _ _ (⟨k0.cell,kg.cell 0⟩) ?_;clear aH hK K;intro aH;(try simp only[zz]);refine tk2 11 rfl aH (h:=tk2 12 rfl aH (h:=?_));(try simp only[zz]);refine dn1 ?_;have HCB:aJ (closedB xs x.b=begB xs x.b):=by show _=_;unfold closedB;rw[decide_eq_false (by simpa using hb0)];rfl
  obtain ⟨cb,hcb⟩:∃ t,t=begB xs x.b:=⟨_,rfl⟩;rw[←hcb] at HCB ⊢;clear hcb
 case' true=>
  refine wp_region_noPanic ?_;refine wp_region_held_drew (S:=(fun w'=>(∀ i,w'.cell? ⟨w.heap.size,i,none⟩=#[.int .i64 x.kind,.int .i64 x.a,.int .i64 x.b][i]?)∧w'.cell? ⟨g,0,none⟩=some (.slice A xs.length d))) (by kernel_rfl) (⟨Blk.cell blks,(show Blk _ g tMt (cmU (.slice A xs.length d) used) from blks).cell 0⟩) (fun aH=>?_);refine tk2 0 rfl aH (h:=tk2 1 rfl aH (h:=tk2 2 rfl aH (h:=?_)));(try simp only[zz]);refine tk2 3 rfl aH (h:=?_);(try simp only[zz]);refine tku 4 rfl aH ?_;(try simp only[zz]);refine tku 5 rfl aH ?_;(try simp only[zz]);refine tku 6 rfl aH ?_;(try simp only[zz]);refine tku 7 rfl aH ?_;(try simp only[zz]);refine tku 8 rfl aH ?_;(try simp only[zz]);refine tku 9 rfl aH ?_;(try simp only[zz]);refine tku 10 rfl aH ?_;(try simp only[zz]);refine tk2 11 rfl aH (h:=tk2 12 rfl aH (h:=?_));(try simp only[zz]);refine dn1 ?_;have HCB0:aJ (closedB xs x.b=true):=by show _=_;unfold closedB;rw[decide_eq_true (by simpa using hb0)];rfl
  obtain ⟨cb,hcb⟩:∃ t,t=true:=⟨_,rfl⟩;rw[←hcb] at HCB0;have HCB:=HCB0;clear HCB0;obtain ⟨w1,hw1⟩:∃ X,X=(w.alloc (.cells #[.int .i64 x.kind,.int .i64 x.a,.int .i64 x.b] tA)).drew:=⟨_,rfl⟩;have hB:Below w.heap.size w w1:=by rw[hw1];exact bel
  replace k0:Blk w1 w.heap.size tA #[.int .i64 x.kind,.int .i64 x.a,.int .i64 x.b]:=by rw[hw1];exact blks
  replace kg:Blk w1 g tMt (cmU (.slice A xs.length d) used):=by rw[hw1];exact blks
  rw[←hw1];clear hw1;(try rw[←hcb]);clear hcb
 all_goals
  have gl1:=kg.lt;have l0:=k0.lt;have q0:=k0.cell;have qg:=kg.cell 0;have hz1:=hB.size;(go_wp2_with fail)
  go_loopw [7,8] (fun s7 s8 wr=>∃ (u:List Bool) (n:Nat) (at_:Int) (U:Option Addr) (uc:Nat) (ys:List Int),s7=.slice U ys.length uc∧s8=.int .i64 at_∧aJ (chainF xs x.b (xs.length+1) used x.a=chainF xs x.b n u at_)∧aJ (xs.length<n+u.count true)∧aJ (u.length=xs.length)∧aJ (ys.length≤u.count true)∧aJ (IntsO wr w.heap.size (.slice U ys.length uc) ys)∧Blk wr w.heap.size tA #[.int .i64 x.kind,.int .i64 x.a,.int .i64 x.b]∧Blk wr g tMt (cmU (.slice A xs.length d) u)∧aJ (Mk (fun h=>h=g) w wr)) (fun s7 _ _=>match s7 with | .slice _ n _=>7 - n|_=>0)
  case atStart=>exact ⟨used,xs.length+1,x.a,none,0,[],rfl,rfl,rfl,by show _<_;omega,HU.o,Nat.zero_le _,IntsO.nil _ _,k0,kg,Mk.below_ hB⟩
  case round=>
   clear k0 kg hB gl1 l0 hz1 q0 qg;obtain ⟨u,n,at_,U,uc,ys,rfl,rfl,HC,HN,HL,HY,HO,k0,kg,HM⟩:=hrel;have hA:aJ (AtomsV wr lo hi A xs):=H.o.keepM HM.o hhi (by omega);have gl1:=kg.lt;have l0:=k0.lt;have qg:=kg.cell 0;have hzw:=HM.o.size;(go_wp2_with fail);refine (c_impl_unusedAt A d _ xs u at_ g _ (hA.o.bz bel) kg hl6 HL.o).mono ?_;rintro e w2 ⟨rfl,hB1⟩;replace k0:=k0.nz hB1;replace kg:=kg.nz hB1;have HM2:aJ (Mk (fun h=>h=g) w w2):=HM.o.trans (Mk.below_ hB1);have HO2:aJ (IntsO w2 w.heap.size (.slice U ys.length uc) ys):=HO.o.bz hB1;have hA2:aJ (AtomsV w2 lo hi A xs):=hA.o.bz hB1;have gl2:=kg.lt;have l2:=k0.lt;have hz2:=HM2.o.size;clear hB1 HO HM hA;cases hf:findU xs u at_
   ·have E:aJ (chainF xs x.b (xs.length+1) used x.a=none):=by show _=_;rw[HC.o];exact chainF_none hf
    clear hf;simp only[Option.getD_none,Option.isSome_none];(go_wp2_with fail);go_ret2;exact ⟨_,[],by rw[E.o];rfl,IntsO.nil _ _,HM2.o,fun u' hu'=>by rw[E.o] at hu';cases hu'⟩
   ·rename_i k;obtain ⟨hkl,hfr⟩:=findU_some hf;have hfu:=freeAt_used hfr;have hct:=count_take hfu.2;have hcl:=List.count_le_length (a:=true) (l:=u.set k true);rw[List.length_set,HL.o] at hcl;obtain ⟨m,rfl⟩:∃ m,n=m+1:=⟨n - 1,by have:=HN.o;omega⟩;have HS:=ax (chainF_some (n:=m) (b:=x.b) hf hkl);have HFU:=ax hfu;have HCT:=ax hct;have HCL:=ax hcl;have hkx:(k:Int)<(xs.length:Int):=by omega
    have hyl:ys.length≤5:=by have:=HY.o;omega
    clear hf hfr hfu hct hcl;simp only[Option.getD_some,Option.isSome_some];(go_wp2_with fail);refine (c_impl_take k g _ kg HFU.o.2 (by rw[HL.o];exact hl6)).mono ?_;rintro e w3 ⟨⟨v,rfl⟩,kg3,hM3⟩;have k3:=hM3.blk k0 (by omega);have HM3:aJ (Mk (fun h=>h=g) w w3):=HM2.o.trans hM3;have hA3:aJ (AtomsV w3 lo hi A xs):=hA2.o.keepM hM3 hhi (by omega);have HO3:aJ (IntsO w3 w.heap.size (.slice U ys.length uc) ys):=HO2.o.mk hM3 fun h e1 e2=>by have:=(HO2.o.1.lt h e1).1;omega
    have hz3:=HM3.o.size;clear k0 kg hM3 HM2 HO2 hA2;obtain ⟨bb,off,rfl,hbl⟩:=hA3.o.blt hkl;obtain ⟨g0,g1,g2⟩:=hA3.o.cl hkl;obtain ⟨y,hy⟩:∃ y,y=xs[k]:=⟨_,rfl⟩;rw[←hy] at g0 g1 g2 HS;have qg:=kg3.cell 0;have q3:=k3.cell;have lg3:=kg3.lt;have l3:=k3.lt;have HYE:=ax hy;clear hy g0 g1 g2;obtain f1|⟨f1,f2,rfl⟩|⟨f1,f2⟩|⟨f1,f2,rfl⟩:((y.b == x.b)=true)∨((y.b == x.b)=false∧(y.kind == 2)=true∧cb=false)∨((y.b == x.b)=false∧(y.kind == 2)=false)∨((y.b == x.b)=false∧(y.kind == 2)=true∧cb=true):=by cases (y.b == x.b)<;>cases (y.kind == 2)<;>cases cb<;>simp
    ·have E:aJ (chainF xs x.b (xs.length+1) used x.a=some (u.set k true)):=by show _=_;rw[HC.o,HS.o,if_pos (by simpa using f1)]
     (go_wp2_with (at_builtin;refine appI rfl _ _ rfl (v:=.slice U ys.length uc) rfl (IntsO.bz HO3.o bel) w3.heap.size k rfl (cell_box _ _ _) (by omega) (by simp;omega) ?_;intro A' c' w4 o4 hg4 hB4;have kg4:=Blk.zm (g:=g) (hg:=hg4) (kg3.alloc _) (IntsO.bz (w:=w3) HO3.o bel).1 (by decide);have k4:=Blk.zm (g:=w.heap.size) (hg:=hg4) (k3.alloc _) (IntsO.bz (w:=w3) HO3.o bel).1 (by decide);have qg4:=kg4.cell 0;have q4:=k4.cell;have lg4:=kg4.lt;have l4:=k4.lt;have hB34:Below w.heap.size w3 w4:=Below.trans (btoB (w:=w3) bel hz3) hB4;have hA4:aJ (AtomsV w4 lo hi (some ⟨bb,off,none⟩) xs):=hA3.o.keepB hB34 (by omega);obtain ⟨g0,g1,g2⟩:=hA4.o.cl hkl;rw[←HYE.o] at g0 g1 g2;clear qg q3));go_ret2;exact ⟨_,ys++[(k:Int)],by rw[E.o];rfl,o4,HM3.o.thenB hB34,fun u' hu'=>by rw[E.o] at hu';cases hu';exact kg4⟩
    ·have E:aJ (chainF xs x.b (xs.length+1) used x.a=none):=by show _=_;rw[HC.o,HS.o,if_neg (by simpa using f1),if_pos ⟨by simpa using f2,HCB.o⟩]
     (go_wp2_with (at_builtin;refine appI rfl _ _ rfl (v:=.slice U ys.length uc) rfl (IntsO.bz HO3.o bel) w3.heap.size k rfl (cell_box _ _ _) (by omega) (by simp;omega) ?_;intro A' c' w4 o4 hg4 hB4;have kg4:=Blk.zm (g:=g) (hg:=hg4) (kg3.alloc _) (IntsO.bz (w:=w3) HO3.o bel).1 (by decide);have k4:=Blk.zm (g:=w.heap.size) (hg:=hg4) (k3.alloc _) (IntsO.bz (w:=w3) HO3.o bel).1 (by decide);have qg4:=kg4.cell 0;have q4:=k4.cell;have lg4:=kg4.lt;have l4:=k4.lt;have hB34:Below w.heap.size w3 w4:=Below.trans (btoB (w:=w3) bel hz3) hB4;have hA4:aJ (AtomsV w4 lo hi (some ⟨bb,off,none⟩) xs):=hA3.o.keepB hB34 (by omega);obtain ⟨g0,g1,g2⟩:=hA4.o.cl hkl;rw[←HYE.o] at g0 g1 g2;clear qg q3));go_ret2;exact ⟨_,[],by rw[E.o];rfl,IntsO.nil _ _,HM3.o.thenB hB34,fun u' hu'=>by rw[E.o] at hu';cases hu'⟩
    ·have E:aJ (chainF xs x.b (xs.length+1) used x.a=chainF xs x.b m (u.set k true) y.b):=by show _=_;rw[HC.o,HS.o,if_neg (by simpa using f1),if_neg (fun h=>by simp[h.1] at f2)]
     go_wp2_with (at_builtin;refine appI rfl _ _ rfl (v:=.slice U ys.length uc) rfl (IntsO.bz HO3.o bel) w3.heap.size k rfl (cell_box _ _ _) (by omega) (by simp;omega) ?_;intro A' c' w4 o4 hg4 hB4;have kg4:=Blk.zm (g:=g) (hg:=hg4) (kg3.alloc _) (IntsO.bz (w:=w3) HO3.o bel).1 (by decide);have k4:=Blk.zm (g:=w.heap.size) (hg:=hg4) (k3.alloc _) (IntsO.bz (w:=w3) HO3.o bel).1 (by decide);have qg4:=kg4.cell 0;have q4:=k4.cell;have lg4:=kg4.lt;have l4:=k4.lt;have hB34:Below w.heap.size w3 w4:=Below.trans (btoB (w:=w3) bel hz3) hB4;have hA4:aJ (AtomsV w4 lo hi (some ⟨bb,off,none⟩) xs):=hA3.o.keepB hB34 (by omega);obtain ⟨g0,g1,g2⟩:=hA4.o.cl hkl;rw[←HYE.o] at g0 g1 g2;clear qg q3)
     go_round
     case rel=>exact ⟨u.set k true,m,y.b,some ⟨A',0,none⟩,c',ys++[(k:Int)],by simp,rfl,E,by show _<_;have:=HN.o;have:=HCT.o;omega,by show _=_;rw[List.length_set];exact HL.o,by show _≤_;have:=HY.o;have:=HCT.o;simp;omega,by show IntsO _ _ _ _;simpa using o4,k4,kg4,HM3.o.thenB hB34⟩
     case measure=>simp;omega
    ·have E:aJ (chainF xs x.b (xs.length+1) used x.a=chainF xs x.b m (u.set k true) y.b):=by show _=_;rw[HC.o,HS.o,if_neg (by simpa using f1),if_neg (fun h=>by have:=HCB.o;rw[this] at h;cases h.2)]
     go_wp2_with (at_builtin;refine appI rfl _ _ rfl (v:=.slice U ys.length uc) rfl (IntsO.bz HO3.o bel) w3.heap.size k rfl (cell_box _ _ _) (by omega) (by simp;omega) ?_;intro A' c' w4 o4 hg4 hB4;have kg4:=Blk.zm (g:=g) (hg:=hg4) (kg3.alloc _) (IntsO.bz (w:=w3) HO3.o bel).1 (by decide);have k4:=Blk.zm (g:=w.heap.size) (hg:=hg4) (k3.alloc _) (IntsO.bz (w:=w3) HO3.o bel).1 (by decide);have qg4:=kg4.cell 0;have q4:=k4.cell;have lg4:=kg4.lt;have l4:=k4.lt;have hB34:Below w.heap.size w3 w4:=Below.trans (btoB (w:=w3) bel hz3) hB4;have hA4:aJ (AtomsV w4 lo hi (some ⟨bb,off,none⟩) xs):=hA3.o.keepB hB34 (by omega);obtain ⟨g0,g1,g2⟩:=hA4.o.cl hkl;rw[←HYE.o] at g0 g1 g2;clear qg q3)
     go_round
     case rel=>exact ⟨u.set k true,m,y.b,some ⟨A',0,none⟩,c',ys++[(k:Int)],by simp,rfl,E,by show _<_;have:=HN.o;have:=HCT.o;omega,by show _=_;rw[List.length_set];exact HL.o,by show _≤_;have:=HY.o;have:=HCT.o;simp;omega,by show IntsO _ _ _ _;simpa using o4,k4,kg4,HM3.o.thenB hB34⟩
     case measure=>simp;omega
theorem useOne_eq (xs:List Atm) (u:List Bool) (x:Atm):useOne xs u x=if x.kind=1 then cellF xs u x else chainF xs x.b (xs.length+1) u x.a:=rfl
theorem cm_new (V:Value) (n:Nat) : #[V,.bool false,.bool false,.bool false,.bool false,.bool false,.bool false,.int .i64 0]=cmU V (List.replicate n false):=by
 have h:∀ j,ub (List.replicate n false) j=false:=by
  intro j;unfold ub;rw[List.getElem?_replicate]
  split<;>rfl
 unfold cmU cmC;simp only[h];simp[List.count_replicate]
theorem matchF_drop (xs:List Atm) (u:List Bool) (goal:List Atm) (k:Nat) (hk:k<goal.length):matchF xs u (goal.drop k)=(useOne xs u goal[k]).bind fun u'=>matchF xs u' (goal.drop (k+1)):=by
 rw[List.drop_eq_getElem_cons hk];rfl
theorem matchF_end (xs:List Atm) (u:List Bool) (goal:List Atm):matchF xs u (goal.drop goal.length)=some u:=by rw[List.drop_length];rfl
section
variable {ops:Array Oper} {rest:List Oper} {o:Oper} {a:Act} {Q:Exit→Act→World→Prop} {w:World} {base:Nat} {v:Value} {vs:List Value}
theorem appOwn (hgd:o.guard=none) (s x:Operand) (ho:o.op=.call { callee:=.builtin .append,args:=#[s,x],argTypes:=#[195,195] })
  (hs:a.eval s=v) (h0:w.ownsRow base tIS 1 v vs.length vs) (hbase:base≤w.heap.size) {g:Nat} {A:Option Addr} {n c:Nat} (hg:Blk w g tIS #[.slice A n c]) (hx:a.eval x=.slice (some ⟨g,0,none⟩) 1 1) (hl:vs.length+1≤1049600)
  (h:∀ A' c' w',w'.ownsRow base tIS 1 (.slice A' (vs.length+1) c') (vs.length+1) (vs++[.slice A n c])→w.grownBy w' v.ownBlock→Below base w w'→wpList Tryz.prog ops Q rest (a.put o.dst (.slice A' (vs.length+1) c')) w'):wpList Tryz.prog ops Q (o :: rest) a w:=by
 refine wpList_appL hgd s x 195 ho Tryz.underlying195 infoIS rfl (by decide) (by decide) hs h0 hx (rwS hg) (by intro u hu;simp at hu;subst hu;rfl) (by omega) hbase ?_;intro v' w' h1 h2 h3;obtain ⟨A',c',rfl,-⟩:=own_reads (by simpa using h1:w'.ownsRow base tIS 1 v' (vs++[Value.slice A n c]).length (vs++[Value.slice A n c])) (by simp[Lim];omega);simp only[List.length_append,List.length_cons,List.length_nil,Nat.zero_add] at h1 ⊢;exact h A' c' w' h1 h2 h3
end
theorem AtomsO.readsU {w:World} {base hi n c:Nat} {A:Option Addr} {xs:List Atm} (h:AtomsO w base (.slice A n c) xs) (hu:Und (.slice A n c) hi):AtomsV w base hi A xs:=by
 obtain ⟨A',c',e,h1⟩:=h.rj;injection e with e1 e2 e3;subst e1;refine ⟨⟨h1.raw.1,fun hn=>?_⟩,h1.lim⟩;obtain ⟨b,o,e,h2,-,h4⟩:=h1.raw.2 hn;subst e;exact ⟨b,o,rfl,h2,hu b rfl,h4⟩
theorem own_blk_ne {w:World} {base size n g:Nat} {e t:TypeId} {v:Value} {xs:List Value} {cs:Array Value} (h:w.ownsRow base e size v n xs) (hk:Blk w g t cs) (ht:t≠e):v.ownBlock≠some g:=by
 intro hg;rcases h.2 with ⟨rfl,-⟩|⟨k,cap,cur,rfl,-,hh,-⟩
 ·cases hg
 ·have e1:k=g:=by simpa[Value.ownBlock] using hg
  subst e1;exact (Blk.ne_ (g:=k) hk hh ht) rfl
theorem c_impl_matchCase {lo hi lo' hi':Nat} (v v':Value) (a b:Asn) (c:List Int) (w:World) (h:AsnV w lo hi v a) (h':AsnV w lo' hi' v' b) (ha:a.valid=true) (hb:b.valid=true) (hc:c.length=9) :
  Calls Tryz.prog 153 #[v,v',.agg (case9 c)] w fun e w'=>∃ r,e=.returned (.tuple #[r,.bool (entB a b c)])∧Below w.heap.size w w':=by
 have HA:=ax (Asn.valid_ok ha);have HBV:=ax (Asn.valid_ok hb);have HC:=ax hc
 have hal:a.atoms.length≤6:=by
  simp only[Asn.valid,Bool.and_eq_true,decide_eq_true_eq] at ha;exact ha.2.1
 have hbl:b.atoms.length≤6:=by
  simp only[Asn.valid,Bool.and_eq_true,decide_eq_true_eq] at hb;exact hb.2.1
 obtain ⟨A1,c1,A2,c2,rfl,h1,h2⟩:=h;obtain ⟨A3,c3,A4,c4,rfl,h3,h4⟩:=h';have H2:=ax h2;have H3:=ax h3;have H4:=ax h4;have HE:aJ (entB a b c=(b.facts.all (Fct.fits c)&&matchB (filledL a.atoms c) (filledL b.atoms c))):=rfl;clear h1 h2 h3 h4 ha hb hc;(go_enter Tryz.func153,Tryz.ntmps153);obtain ⟨k0,k1,k2⟩:=blk3 w tAs tAs tTc #[.slice A1 a.facts.length c1,.slice A2 a.atoms.length c2] #[.slice A3 b.facts.length c3,.slice A4 b.atoms.length c4] (case9 c);(go_wp2_with fail);refine (c_impl_factsHold A3 c3 b.facts c (w.heap.size+1+1) _ (H3.o.bz bel) (k2.case HC.o) HC.o HBV.o.1).mono ?_;rintro e w1 ⟨rfl,hB1⟩;have hB:Below w.heap.size w w1:=bgo (w:=w) bel hB1;replace k0:=k0.nz hB1;replace k1:=k1.nz hB1;replace k2:=k2.nz hB1;(replace qk0:=k0.z;replace qk1:=k1.z;replace qk2:=k2.z);clear hB1;cases hf:b.facts.all (Fct.fits c)
 ·have E:aJ (entB a b c=false):=by show _=_;rw[HE.o,hf];rfl
  clear hf;(go_wp2_with fail);go_ret2;exact ⟨_,by rw[E.o];rfl,hB⟩
 ·have E:aJ (entB a b c=matchB (filledL a.atoms c) (filledL b.atoms c)):=by show _=_;rw[HE.o,hf];rfl
  clear hf;(go_wp2_with fail);refine (c_impl_filled A2 c2 a.atoms c (w.heap.size+1+1) _ (H2.o.bz hB) (k2.case HC.o) HC.o HA.o.2).mono ?_;rintro e w2 ⟨r2,rfl,o2,hB2⟩;obtain ⟨X,xc,rfl,xV⟩:=o2.rj;have hxl:=filledL_len a.atoms c;obtain ⟨xs,hxs⟩:∃ xs,xs=filledL a.atoms c:=⟨_,rfl⟩;have HXS:=ax hxs;rw[←hxs] at o2 xV hxl ⊢;have XV:=ax xV;have hBB:=bgo hB hB2;replace k0:=k0.nz hB2;replace k1:=k1.nz hB2;replace k2:=k2.nz hB2;(replace qk0:=k0.z;replace qk1:=k1.z;replace qk2:=k2.z);have HUX:aJ (Und (.slice X xs.length xc) w2.heap.size):=fun h hh=>(o2.1.lt h hh).2;have hz1:=hB.size;have hz2:=hBB.size;have o2l:=o2.bq (base':=w.heap.size) hz1;clear hB2 hB xV hxs o2;(go_wp2_with fail);refine (c_impl_filled A4 c4 b.atoms c (w.heap.size+1+1) _ (H4.o.bz bel) (Blk.case (c:=c) blks HC.o) HC.o HBV.o.2).mono ?_;rintro e w3 ⟨r3,rfl,o3,hB3⟩;have km0:Blk w3 w2.heap.size tMt #[.slice X xs.length xc,.bool false,.bool false,.bool false,.bool false,.bool false,.bool false,.int .i64 0]:=Blk.nz blks hB3;have km:Blk w3 w2.heap.size tMt (cmU (.slice X xs.length xc) (List.replicate xs.length false)):=by rw[←cm_new];exact km0
  obtain ⟨G,gc,rfl,-⟩:=o3.rj;have hgl:=filledL_len b.atoms c;obtain ⟨goal,hgo⟩:∃ goal,goal=filledL b.atoms c:=⟨_,rfl⟩;have HGO:=ax hgo;rw[←hgo] at o3 hgl ⊢;have HXO:aJ (AtomsO w3 w.heap.size (.slice X xs.length xc) xs):=(o2l.bz (w':=w2.alloc (.cells #[.slice X xs.length xc,.bool false,.bool false,.bool false,.bool false,.bool false,.bool false,.int .i64 0] tMt)) bel).bz hB3;have HG:aJ (AtomsO w3 (w2.heap.size+1) (.slice G goal.length gc) goal):=o3.bq (by simp);have HB3:aJ (Below w.heap.size w w3):=bgo (w:=w) bel hB3;have E2:aJ (entB a b c=matchB xs goal):=by show _=_;rw[E.o,HXS.o,HGO.o]
  clear hB3 km0 o3 o2l hgo hBB k0 k1 k2 qk0 qk1 qk2 XV;obtain ⟨g,hge⟩:∃ g,g=w2.heap.size:=⟨_,rfl⟩;rw[←hge] at km HG HUX hz2 ⊢;clear hge;(go_wp2_with fail)
  go_loopw [9,26] (fun s9 s26 wr=>∃ (k:Nat) (u:List Bool) (U:Option Addr) (uc:Nat) (vs:List Value),k≤goal.length∧s26=.int .i64 k∧s9=.slice U vs.length uc∧vs.length=k∧aJ (matchF xs (List.replicate xs.length false) goal=matchF xs u (goal.drop k))∧aJ (u.length=xs.length)∧aJ (wr.ownsRow w.heap.size tIS 1 (.slice U vs.length uc) vs.length vs)∧Blk wr g tMt (cmU (.slice X xs.length xc) u)∧aJ (AtomsO wr (g+1) (.slice G goal.length gc) goal)∧aJ (AtomsO wr w.heap.size (.slice X xs.length xc) xs)∧aJ (Below w.heap.size w wr)) (fun _ i _=>goal.length - (intOf i).toNat)
  case atStart=>exact ⟨0,List.replicate xs.length false,none,0,[],Nat.zero_le _,rfl,rfl,rfl,rfl,by show _=_;simp,World.ownsRow_nil _ _ _ _,km,HG,HXO,HB3⟩
  case round=>
   clear km HG HXO HB3;obtain ⟨k,u,U,uc,vs,hk,rfl,rfl,hvk,HM,HL,HO,km,HG,HXO,HB⟩:=hrel;have hzr:=HB.o.size;have lm:=km.lt;by_cases hlt:k<goal.length
   ·obtain ⟨G',gc',eG,gV⟩:=HG.o.rj;injection eG with eG1 eG2 eG3;subst eG1;clear eG2 eG3;obtain ⟨gb,go_,rfl,lgb⟩:=gV.blt hlt;obtain ⟨g0,g1,g2⟩:=gV.cl hlt;have HMD:=ax (matchF_drop xs u goal k hlt);obtain ⟨x,hx⟩:∃ x,x=goal[k]:=⟨_,rfl⟩;rw[←hx] at g0 g1 g2 HMD;have HXV:aJ (AtomsV wr w.heap.size g X xs):=HXO.o.readsU HUX.o;clear hx gV;cases hkd:(x.kind == 1)
    case' false=>have e0:useOne xs u x=chainF xs x.b (xs.length+1) u x.a:=by rw[useOne_eq,if_neg (by simpa using hkd)]
    case' true=>have e0:useOne xs u x=cellF xs u x:=by rw[useOne_eq,if_pos (by simpa using hkd)]
    all_goals have HE0:=ax e0
    all_goals clear e0
    case' false=>
     (go_wp2_with fail);refine (c_impl_useChain X xc xs u x g _ (HXV.o.bz bel) (Nat.le_refl _) (km.alloc _) (by omega) HL.o).mono ?_;rintro e w4 ⟨r,ys,rfl,oy,hM,hu⟩
    case' true=>
     (go_wp2_with fail);refine (c_impl_useCell X xc xs u x g _ (HXV.o.bz bel) (Nat.le_refl _) (km.alloc _) (by omega) HL.o).mono ?_;rintro e w4 ⟨r,ys,rfl,oy,hM,hu⟩
    all_goals
     rw[←HE0.o] at hu ⊢;obtain ⟨R,rc,rfl,-⟩:=oy.rj;have HU1:=ax hu;have HO4:aJ (w4.ownsRow w.heap.size tIS 1 (.slice U vs.length uc) vs.length vs):=own_mk (own_below (w':=wr.alloc (.cells #[.int .i64 x.kind,.int .i64 x.a,.int .i64 x.b] tA)) HO.o bel) hM fun h e1 e2=>own_blk_ne HO.o km (by decide) (by rw[e1,e2]);have HG4:aJ (AtomsO w4 (g+1) (.slice (some ⟨gb,go_,none⟩) goal.length gc) goal):=(HG.o.bz (w':=wr.alloc (.cells #[.int .i64 x.kind,.int .i64 x.a,.int .i64 x.b] tA)) bel).mk hM fun h e1 e2=>by have:=(HG.o.1.lt h e1).1;omega
     have HX4:aJ (AtomsO w4 w.heap.size (.slice X xs.length xc) xs):=(HXO.o.bz (w':=wr.alloc (.cells #[.int .i64 x.kind,.int .i64 x.a,.int .i64 x.b] tA)) bel).mk hM fun h e1 e2=>by have:=HUX.o h e1;omega
     have HB4:aJ (Below w.heap.size w w4):=(bbox HB.o _).trans (hM.bz (lo:=w.heap.size) (fun h e=>by omega) (by simp;omega));have hz4:=HB4.o.size;clear hu hM oy HO HG HXO HB km HXV g0 g1 g2;cases hres:useOne xs u x
     ·have E3:aJ (entB a b c=false):=by show _=_;rw[E2.o];unfold matchB;rw[HM.o,HMD.o,hres];rfl
      clear hres;simp only[Option.isSome_none];(go_wp2_with fail);go_ret2;exact ⟨_,by rw[E3.o];rfl,HB4.o⟩
     ·rename_i u';have km4:=HU1.o u' hres;have lm4:=km4.lt;have HMS:aJ (matchF xs (List.replicate xs.length false) goal=matchF xs u' (goal.drop (k+1))):=by show _=_;rw[HM.o,HMD.o,hres];rfl
      have HL':aJ (u'.length=xs.length):=by show _=_;rw[useOne_len hres];exact HL.o
      clear hres;simp only[Option.isSome_some];have hvl:vs.length+1≤1049600:=by omega
      go_wp2_with (at_builtin;refine appOwn (v:=.slice U vs.length uc) (base:=w.heap.size) rfl _ _ rfl rfl (own_below HO4.o bel) (by simp;omega) (Blk.new w4 tIS _) rfl hvl ?_;intro A' c' w5 o5 hg5 hB5;have oo:=own_below (w':=w4.alloc (.cells #[.slice R ys.length rc] tIS)) HO4.o bel;have km5:=Blk.zm (g:=g) (hg:=hg5) (km4.alloc _) oo (by decide);have HG5:aJ (AtomsO w5 (g+1) (.slice (some ⟨gb,go_,none⟩) goal.length gc) goal):=⟨own_grownO (own_below (w':=w4.alloc (.cells #[.slice R ys.length rc] tIS)) HG4.o.1 bel) oo hg5 (by decide),HG4.o.2⟩;have HX5:aJ (AtomsO w5 w.heap.size (.slice X xs.length xc) xs):=⟨own_grownO (own_below (w':=w4.alloc (.cells #[.slice R ys.length rc] tIS)) HX4.o.1 bel) oo hg5 (by decide),HX4.o.2⟩;have HB5:aJ (Below w.heap.size w w5):=(bbox HB4.o _).trans hB5;have HO5:=ax o5;clear o5 oo hB5 hg5)
      go_round
      case rel=>exact ⟨k+1,u',A',c',vs++[.slice R ys.length rc],by omega,by go_num,by simp<;>omega,by simp;omega,HMS,HL',by show World.ownsRow _ _ _ _ _ _ _;simpa using HO5.o,km5,HG5,HX5,HB5⟩
      case measure=>simp[intOf];omega
   ·obtain rfl:k=goal.length:=by omega
    have E3:aJ (entB a b c=u.all id):=by show _=_;rw[E2.o];unfold matchB;rw[HM.o,matchF_end]
    have q0:wr.cell? ⟨g,0,none⟩=some (.slice X xs.length xc):=km.cell 0;have q7:wr.cell? ⟨g,7,none⟩=some (.int .i64 ((u.count true:Nat):Int)):=km.cell 7;by_cases hcc:u.count true=xs.length
    ·have E4:aJ (entB a b c=true):=by show _=_;rw[E3.o];exact count_all.1 (by rw[hcc,HL.o])
     rw[hcc] at q7;clear hcc km;(go_wp2_with fail);go_ret2;exact ⟨_,by rw[E4.o];rfl,HB.o⟩
    ·have E4:aJ (entB a b c=false):=by
      show _=_;rw[E3.o];cases hall:u.all id
      ·rfl
      ·exact absurd (by rw[count_all.2 hall];exact HL.o) hcc
     obtain ⟨cnt,hcn⟩:∃ n,n=u.count true:=⟨_,rfl⟩;rw[←hcn] at q7 hcc;have hne:((cnt:Int) != (xs.length:Int))=true:=by simp;omega
     clear hcc hcn km;(go_wp2_with fail);go_ret2;exact ⟨_,by rw[E4.o];rfl,HB.o⟩
theorem chainG_ne {xs:List Atm} {b:Int} {n:Nat} {used:List Bool} {c:Int} (h:c≠b):chainG xs b n used c=chainF xs b n used c:=by unfold chainG;rw[if_neg h]
theorem made6 (n:Nat) (h:n≤6):madeCells #[.bool false] (n * 1)=Array.replicate n (.bool false):=by
 obtain rfl|rfl|rfl|rfl|rfl|rfl|rfl:n=0∨n=1∨n=2∨n=3∨n=4∨n=5∨n=6:=by omega
 all_goals kernel_rfl
theorem mkBn (n:Nat) (h:n≤6) (w:World):(Instr.makeSlice 124 (.int .i64 (n:Int)) (.int .i64 (n:Int))).run Tryz.prog w=.ok (.slice (some ⟨w.heap.size,0,none⟩) n n) (w.alloc (.cells (Array.replicate n (.bool false)) tB)):=
 (mkB n (by simp[Lim];omega) w).trans (by rw[made6 n h])
theorem BoolsO.made {w:World} {n:Nat} (h:n≤6):BoolsO (w.alloc (.cells (Array.replicate n (.bool false)) tB)) w.heap.size (.slice (some ⟨w.heap.size,0,none⟩) n n) (List.replicate n false):=
 ⟨by simpa using own_of_blk (n:=n) (cap:=n) (size:=1) (L:=encB (List.replicate n false)) (Blk.new w tB (Array.replicate n (.bool false))) (Nat.le_refl _) (by simp[encB]) (by intro j hj;simp[encB,List.getElem?_replicate,Array.getElem?_replicate]) (Nat.le_refl _) (Nat.le_trans h (by decide)) (by simp),by simp[Lim];omega⟩
theorem all_step (u:List Bool) (j:Nat) (hj:j<u.length):(u.drop j).all id=(u[j]&&(u.drop (j+1)).all id):=by
 rw[List.drop_eq_getElem_cons hj];rfl
theorem c_spec_l6Match {lo hi lo' hi':Nat} (A B:Option Addr) (d e:Nat) (xs goal:List Atm) (w:World) (h:AtomsV w lo hi A xs) (h':AtomsV w lo' hi' B goal) (hhi:hi≤w.heap.size) (hhi':hi'≤w.heap.size) (hl6:xs.length≤6) (hg:∀ x∈goal,x.kind=1∨(x.kind=2∧x.a≠x.b)) :
  Calls Tryz.prog 281 #[.slice A xs.length d,.slice B goal.length e] w fun e w'=>e=.returned (.bool (matchB xs goal))∧Below w.heap.size w w':=by
 have hl:=h.le;have hl':=h'.le;have H:=ax h;have H':=ax h';have HG:=ax hg;have HM0:=ax (BoolsO.made (w:=w) hl6);have hmk:=mkBn xs.length hl6;clear h h' hg;(go_enter Tryz.func281,Tryz.ntmps281);go_wp2;clear hmk
 go_loopw [6] (fun i wr=>∃ (k:Nat) (u:List Bool),k≤goal.length∧i=.int .i64 k∧aJ (matchF xs (List.replicate xs.length false) goal=matchF xs u (goal.drop k))∧aJ (u.length=xs.length)∧aJ (BoolsO wr w.heap.size (.slice (some ⟨w.heap.size,0,none⟩) xs.length xs.length) u)∧aJ (Below w.heap.size w wr)) (fun i _=>goal.length - (intOf i).toNat)
 case atStart=>exact ⟨0,List.replicate xs.length false,Nat.zero_le _,rfl,rfl,by show _=_;simp,HM0.o,(show Below _ _ _ from bel)⟩
 case round=>
  obtain ⟨k,u,hk,rfl,HM,HL,HU,HB⟩:=hrel;have hzr:=HB.o.size;have HA:aJ (AtomsV wr lo hi A xs):=H.o.bz HB.o;have HGV:aJ (AtomsV wr lo' hi' B goal):=H'.o.bz HB.o;by_cases hlt:k<goal.length
  ·obtain ⟨gb,go_,rfl,lgb⟩:=HGV.o.blt hlt;obtain ⟨g0,g1,g2⟩:=HGV.o.cl hlt;have HMD:=ax (matchF_drop xs u goal k hlt);have hkind:=HG.o _ (List.getElem_mem hlt);have HX:=ax (fun (w':World) (hv:AtomsV w' lo' hi' (some ⟨gb,go_,none⟩) goal)=>hv.cl hlt);obtain ⟨x,hx⟩:∃ x,x=goal[k]:=⟨_,rfl⟩;rw[←hx] at g0 g1 g2 HMD hkind HX;clear hx;rcases hkind with h1|⟨h2,hne⟩
   ·have f1:(x.kind == 2)=false:=by rw[h1];rfl
    have HE0:aJ (useOne xs u x=cellF xs u x):=by show _=_;rw[useOne_eq,if_pos h1]
    clear h1;obtain ⟨BB,cB,eB,hBV⟩:=HU.o.rj;injection eB with eB1 eB2 eB3;subst eB1;clear eB2 eB3;(go_wp2_with fail);refine (c_spec_l6Find A (some ⟨w.heap.size,0,none⟩) d xs.length xs u x.a _ HA.o hBV HL.o).mono ?_;rintro e w1 ⟨rfl,rfl⟩;clear hBV;cases hf:findU xs u x.a
    ·have E:aJ (useOne xs u x=none):=by show _=_;rw[HE0.o];unfold cellF;rw[hf];rfl
     have E3:aJ (matchB xs goal=false):=by show _=_;unfold matchB;rw[HM.o,HMD.o,E.o];rfl
     clear hf;simp only[fndI];(go_wp2_with fail);(go_quiet (fail));(go_wp2_with fail);go_ret;exact ⟨zjD (by rw[E3.o]),HB.o.trans (btoB (w:=wr) bel hzr)⟩
    ·rename_i j;obtain ⟨hjl,hfr⟩:=findU_some hf;have hfu:=freeAt_used hfr;obtain ⟨yb,yo,rfl,lyb⟩:=HA.o.blt hjl;obtain ⟨y0,y1,y2⟩:=HA.o.cl hjl;rw[freeAt_of hjl HL.o,Bool.and_eq_true,decide_eq_true_eq] at hfr;have E:aJ (useOne xs u x=if xs[j]=x then some (u.set j true) else none):=by show _=_;rw[HE0.o];unfold cellF;rw[hf];simp only[Option.bind_some,List.getElem?_eq_getElem hjl,Option.getD_some]
     obtain ⟨y,hy⟩:∃ y,y=xs[j]:=⟨_,rfl⟩;rw[←hy] at y0 y1 y2 E hfr;have hya:=hfr.1;have hjx:(j:Int)<(xs.length:Int):=by omega
     have hj0:¬(j:Int)<0:=by omega
     have hkx:(k:Int)<(goal.length:Int):=by omega
     have HFU:=ax hfu;clear hf hy hfr hfu;rw[hya] at y1;simp only[fndI];by_cases e1:y.kind=x.kind
     ·by_cases e3:y.b=x.b
      ·have E2:aJ (useOne xs u x=some (u.set j true)):=by
        show _=_;rw[E.o,if_pos];cases y;cases x;simp_all
       have HMS:aJ (matchF xs (List.replicate xs.length false) goal=matchF xs (u.set j true) (goal.drop (k+1))):=by show _=_;rw[HM.o,HMD.o,E2.o];rfl
       rw[e1] at y0;rw[e3] at y2;clear e1 e3 hya;(go_wp2_with fail);(go_quiet (fail));obtain ⟨V,hV⟩:∃ V,V=wr.drewN nq:=⟨_,rfl⟩;have hWV:Below wr.heap.size wr V:=by rw[hV];exact bel
       rw[←hV];clear hV y0 y1 y2 g0 g1 g2;obtain ⟨g,cur,-,hgg,hgb,kg,hcm,hset⟩:=(HU.o.bz hWV).open_ (k:=j) HFU.o.1;injection hgg with hgg;injection hgg with hgg;subst hgg;have qg:V.cell? ⟨w.heap.size,j,none⟩=some (.bool false):=(kg.cell j).trans (hcm.trans (by rw[(List.getElem?_eq_some_iff.1 HFU.o.2).2]));have rg:=kg.frozen;have HSET:=ax (hset true);have HBV2:aJ (Below w.heap.size w V):=HB.o.trans (btoB hWV hzr);clear kg hcm hset;(go_wp2_with fail)
       go_round
       case rel=>exact ⟨k+1,u.set j true,by omega,by go_num,HMS,by show _=_;rw[List.length_set];exact HL.o,HSET.o,HBV2.o.setCell (p:=⟨w.heap.size,j,none⟩) (Nat.le_refl _) _⟩
       case measure=>simp[intOf];omega
      ·have e3':(y.b == x.b)=false:=by simpa using e3
       have E2:aJ (useOne xs u x=none):=by show _=_;rw[E.o,if_neg (fun e=>e3 (by rw[e]))]
       have E3:aJ (matchB xs goal=false):=by show _=_;unfold matchB;rw[HM.o,HMD.o,E2.o];rfl
       rw[e1] at y0;clear e1 e3 hya;(go_wp2_with fail);(go_quiet (fail));(go_wp2_with fail);go_ret;exact ⟨zjD (by rw[E3.o]),HB.o.trans (btoB (w:=wr) bel hzr)⟩
     ·have e1':(y.kind == x.kind)=false:=by simpa using e1
      have E2:aJ (useOne xs u x=none):=by show _=_;rw[E.o,if_neg (fun e=>e1 (by rw[e]))]
      have E3:aJ (matchB xs goal=false):=by show _=_;unfold matchB;rw[HM.o,HMD.o,E2.o];rfl
      clear e1 hya;(go_wp2_with fail);(go_quiet (fail));(go_wp2_with fail);go_ret;exact ⟨zjD (by rw[E3.o]),HB.o.trans (btoB (w:=wr) bel hzr)⟩
   ·have f1:(x.kind == 2)=true:=by rw[h2];rfl
    have HE0:aJ (useOne xs u x=chainG xs x.b (xs.length+1) u x.a):=by show _=_;rw[useOne_eq,if_neg (by omega),chainG_ne hne]
    clear h2 hne;(go_wp2_with fail);refine wp_region_noPanic ?_;refine wp_region_held_drew (S:=(fun w'=>w'.cell? ⟨gb,go_+k * 3+1,none⟩=some (.int .i64 x.a)∧w'.cell? ⟨gb,go_+k * 3+2,none⟩=some (.int .i64 x.b))) (by kernel_rfl) (⟨g1,g2⟩) (fun aH=>?_);refine tk2 0 rfl aH (h:=tk2 1 rfl aH (h:=tk2 2 rfl aH (h:=?_)));(try simp only[zz]);refine tk2 3 rfl aH (h:=tk2 4 rfl aH (h:=tk2 5 rfl aH (h:=?_)));(try simp only[zz]);refine tk2 6 rfl aH (h:=tk2 7 rfl aH (h:=tk2 8 rfl aH (h:=?_)));(try simp only[zz]);refine tk2 9 rfl aH (h:=tk2 10 rfl aH (h:=tk2 11 rfl aH (h:=?_)));refine rdc 12 rfl fun K hK=>?_;(try simp only[zz]);(go_simp;refine (c_spec_l6Chain A (some ⟨w.heap.size,0,none⟩) d xs.length xs u x.a x.b _ (HA.o.bz bel) (HU.o.bz bel) HL.o hhi (by simpa using hzr)).mono ?_;rintro e2 w2 ⟨rfl,hu,hM⟩;have hB2:Below w.heap.size w w2:=Below.trans (Below.trans HB.o (btoB (w:=wr) bel hzr)) (hM.bz (lo:=w.heap.size) (fun h e=>by cases e;exact Nat.le_refl _) (by simpa using hzr));have hG2:=HX.o w2 (H'.o.bz hB2));refine hK.out _ _ (⟨hG2.2.1,hG2.2.2⟩) ?_;clear aH hK K;intro aH;(try simp only[zz]);refine tk2 13 rfl aH (h:=?_);(try simp only[zz]);refine dn1 ?_;have HB2:=ax hB2;have HUU:=ax hu;rw[←HE0.o] at HUU ⊢;clear hB2 hu hM hG2 g0 g1 g2;cases hres:useOne xs u x
    ·have E3:aJ (matchB xs goal=false):=by show _=_;unfold matchB;rw[HM.o,HMD.o,hres];rfl
     clear hres;simp only[Option.isSome_none];(go_wp2_with fail);go_ret;exact ⟨zjD (by rw[E3.o]),HB2.o⟩
    ·rename_i u';have HR:=ax (HUU.o u' hres);have HMS:aJ (matchF xs (List.replicate xs.length false) goal=matchF xs u' (goal.drop (k+1))):=by show _=_;rw[HM.o,HMD.o,hres];rfl
     clear hres;simp only[Option.isSome_some];(go_wp2_with fail)
     go_round
     case rel=>exact ⟨k+1,u',by omega,by go_num,HMS,HR.o.2,HR.o.1,HB2⟩
     case measure=>simp[intOf];omega
  ·obtain rfl:k=goal.length:=by omega
   have E3:aJ (matchB xs goal=u.all id):=by show _=_;unfold matchB;rw[HM.o,matchF_end]
   obtain ⟨BB,cB,eB,hBV⟩:=HU.o.rj;injection eB with eB1 eB2 eB3;subst eB1;clear eB2 eB3;have HBV:=ax hBV;clear hBV;(go_wp2_with fail)
   go_loopw [8] (fun i w2=>∃ j:Nat,j≤xs.length∧i=.int .i64 j∧w2=wr∧aJ (u.all id=(u.drop j).all id)) (fun i _=>xs.length - (intOf i).toNat)
   case atStart=>exact ⟨0,Nat.zero_le _,rfl,rfl,rfl⟩
   case round=>
    obtain ⟨j,hj,rfl,rfl,HJ⟩:=hrel;by_cases hjl:j<xs.length
    ·have hju:j<u.length:=by rw[HL.o];exact hjl
     have qu:=HBV.o.cl (k:=j) hju;rw[Nat.zero_add] at qu;have HS:=ax (all_step u j hju);have hjx:(j:Int)<(xs.length:Int):=by omega
     cases huj:u[j]
     ·have E4:aJ (matchB xs goal=false):=by show _=_;rw[E3.o,HJ.o,HS.o,huj];rfl
      rw[huj] at qu;clear huj;(go_wp2_with fail);go_ret;exact ⟨zjD (by rw[E4.o]),HB.o⟩
     ·have HJ2:aJ (u.all id=(u.drop (j+1)).all id):=by show _=_;rw[HJ.o,HS.o,huj];rfl
      rw[huj] at qu;clear huj;(go_wp2_with fail)
      go_round
      case rel=>exact ⟨j+1,by omega,by go_num,trivial,HJ2⟩
      case measure=>simp[intOf];omega
    ·obtain rfl:j=xs.length:=by omega
     have E4:aJ (matchB xs goal=true):=by show _=_;rw[E3.o,HJ.o,←HL.o,List.drop_length];rfl
     (go_wp2_with fail);go_ret;exact ⟨zjD (by rw[E4.o]),HB.o⟩
end
end Go.Proofs.YtjaohekkmlkinaaGreat
