/- The model of a case, step by step. Plain; no program. -/
import Derived.Test.YtgdfdmjnadnlnaaGreatMModP
import Derived.IntWalk
set_option linter.unusedSimpArgs false
set_option linter.unusedVariables false
set_option maxRecDepth 100000
set_option maxHeartbeats 25600000
namespace Go.Proofs.YtgdfdmjnadnlnaaGreat
section
open Go Go.RowKit
def modT (c:List Int) (t:Nat):List Int:=(List.range' 1 8).map fun j:Nat=>if j<t then mval c (j:Int) else 0
theorem modT_len (c:List Int) (t:Nat):(modT c t).length=8:=by simp[modT]
theorem modT_start (c:List Int):modT c 1=List.replicate 8 0:=by
 unfold modT;rw[List.map_congr_left (g:=fun _=>0) (fun j hj=>by rw[List.mem_range'_1] at hj;rw[if_neg (by omega)])];rfl
theorem modT_end (c:List Int):modT c 9=modV c:=by
 unfold modT modV;exact List.map_congr_left fun j hj=>by rw[List.mem_range'_1] at hj;rw[if_pos (by omega)]
theorem modT_get (c:List Int) {t k:Nat} (hk:k<8):(modT c t)[k]? = some (if k+1<t then mval c ((k+1:Nat):Int) else 0):=by
 unfold modT;rw[List.getElem?_map,List.getElem?_range' (by omega)];simp only[Option.map_some,Nat.one_mul];rw[Nat.add_comm 1 k]
theorem modT_cl (c:List Int) {t k:Nat} (hk:k<8):cl (modT c t) k=if k+1<t then mval c ((k+1:Nat):Int) else 0:=by
 unfold cl;rw[Int.toNat_natCast,modT_get c hk];rfl
theorem modT_set (c:List Int) {t:Nat} (h1:1≤t) (h8:t≤8):(modT c t).set (t - 1) (mval c (t:Int))=modT c (t+1):=by
 apply List.ext_getElem?;intro j;by_cases hj:j<8
 ·rw[modT_get c hj];by_cases e:j=t - 1
  ·subst e;rw[List.getElem?_set_self (by rw[modT_len];omega),if_pos (by omega),show t - 1+1=t from by omega]
  ·rw[List.getElem?_set_ne (by omega),modT_get c hj];by_cases h:j+1<t
   ·rw[if_pos h,if_pos (by omega)]
   ·rw[if_neg h,if_neg (by omega)]
 ·rw[List.getElem?_eq_none (by rw[List.length_set,modT_len];omega),List.getElem?_eq_none (by rw[modT_len];omega)]
theorem modT_keep (c:List Int) {t:Nat} (h1:1≤t) (h8:t≤8) (hz:mval c (t:Int)=0):modT c (t+1)=modT c t:=by
 apply List.ext_getElem?;intro j;by_cases hj:j<8
 ·rw[modT_get c hj,modT_get c hj];by_cases e:j+1=t
  ·rw[if_pos (by omega),if_neg (by omega),e,hz]
  ·by_cases h:j+1<t
   ·rw[if_pos h,if_pos (by omega)]
   ·rw[if_neg h,if_neg (by omega)]
 ·rw[List.getElem?_eq_none (by rw[modT_len];omega),List.getElem?_eq_none (by rw[modT_len];omega)]
theorem rk_zero (c:List Int):rk c 0=0:=by
 unfold rk;rw[List.length_eq_zero_iff,List.filter_eq_nil_iff];intro j hj;rw[List.mem_range'_1] at hj;rw[decide_eq_false (by omega:¬(j:Int)≤0),Bool.false_and];decide
theorem rk_step (c:List Int) {t:Nat} (h1:1≤t) (h8:t≤8):rk c (t:Int)=rk c ((t:Int) - 1)+(if cl c (t:Int)=t then 1 else 0):=by
 unfold rk;rw[←List.countP_eq_length_filter,←List.countP_eq_length_filter]
 have e:(List.range' 1 8)=List.range' 1 (t - 1)++t :: List.range' (t+1) (8 - t):=by
  have h2:List.range' 1 8=List.range' 1 (t - 1)++List.range' t (8 - t+1):=by
   have:=List.range'_append_1 (s:=1) (m:=t - 1) (n:=8 - t+1);rw[show 1+(t - 1)=t from by omega,show t - 1+(8 - t+1)=8 from by omega] at this;exact this.symm
  rw[h2,List.range'_succ]
 rw[e,List.countP_append,List.countP_append,List.countP_cons,List.countP_cons];have f1:∀ (p q:Nat→Bool),(∀ j∈List.range' 1 (t - 1),p j=q j)→(List.range' 1 (t - 1)).countP p=(List.range' 1 (t - 1)).countP q:=fun p q h=>List.countP_congr fun j hj=>by rw[h j hj]
 have f2:∀ (p:Nat→Bool),(∀ j∈List.range' (t+1) (8 - t),p j=false)→(List.range' (t+1) (8 - t)).countP p=0:=fun p h=>List.countP_eq_zero.2 fun j hj=>by rw[h j hj];decide
 rw[f1 (fun j:Nat=>decide ((j:Int)≤(t:Int))&&decide (cl c (j:Int)=j)) (fun j:Nat=>decide ((j:Int)≤(t:Int) - 1)&&decide (cl c (j:Int)=j)) (fun j hj=>by
  rw[List.mem_range'_1] at hj
  rw[decide_eq_true (by omega:(j:Int)≤(t:Int)),decide_eq_true (by omega:(j:Int)≤(t:Int) - 1)])]
 rw[f2 _ (fun j hj=>by rw[List.mem_range'_1] at hj;rw[decide_eq_false (by omega:¬(j:Int)≤(t:Int))];rfl)];rw[f2 _ (fun j hj=>by rw[List.mem_range'_1] at hj;rw[decide_eq_false (by omega:¬(j:Int)≤(t:Int) - 1)];rfl)];rw[decide_eq_true (by omega:(t:Int)≤(t:Int)),decide_eq_false (by omega:¬(t:Int)≤(t:Int) - 1)];by_cases h:cl c (t:Int)=t
 ·rw[decide_eq_true h,if_pos h];simp
 ·rw[decide_eq_false h,if_neg h];simp
theorem mval_root {c:List Int} {t:Nat} (h1:1≤t) (h8:t≤8) (h:cl c (t:Int)=t):mval c (t:Int)=(rk c ((t:Int) - 1)+1:Nat)∧rk c (t:Int)=rk c ((t:Int) - 1)+1:=by
 have e:=rk_step c h1 h8;rw[if_pos h] at e;unfold mval;rw[h,if_pos (by omega),e];exact ⟨rfl,rfl⟩
theorem rk_same {c:List Int} {t:Nat} (h1:1≤t) (h8:t≤8) (h:cl c (t:Int)≠t):rk c (t:Int)=rk c ((t:Int) - 1):=by
 rw[rk_step c h1 h8,if_neg h];rfl
theorem mval_old {c:List Int} {t r:Nat} (hr:cl c (t:Int)=r) (hi:cl c (r:Int)=r):mval c (r:Int)=mval c (t:Int):=by
 unfold mval;rw[hr,hi]
theorem mval_none {c:List Int} {t:Nat} (h:cl c (t:Int)≤0):mval c (t:Int)=0:=by unfold mval;rw[if_neg (by omega)]
structure Csd (c:List Int):Prop where
 len:c.length=9
 zero:cl c 0=0
 le:∀ j:Nat,j<9→-1≤cl c j∧cl c j≤j
 idem:∀ j:Nat,j<9→0≤cl c j→cl c (cl c j)=cl c j
theorem csd_of {a:Asn} {S:Nat} (h0:S.testBit 0=true) {c:List Int} (hc:c∈cases a S):Csd c:=by
 obtain ⟨h9,hC,-⟩:=case_iff.1 hc;have hz:=(show Cls S c from hC).zero h0;refine ⟨h9,hz,fun j hj=>?_,fun j hj h=>?_⟩
 ·cases hb:S.testBit j
  ·have:=(hC j hj).2 hb;omega
  ·have:=((hC j hj).1 hb).1;omega
 ·cases hb:S.testBit j
  ·have:=(hC j hj).2 hb;omega
  ·exact ((hC j hj).1 hb).2
theorem filled_ok {a:Asn} (hv:a.valid=true) {S:Nat} (h0:S.testBit 0=true) (hS:∀ t∈termsL a,S.testBit t.toNat=true) {c:List Int} (hc:c∈cases a S) :
  ∀ x∈filledL a.atoms c,(0≤x.a∧x.a≤8)∧(0≤x.b∧x.b≤8)∧(1≤tval (modV c) x.a∧tval (modV c) x.a≤8)∧0≤tval (modV c) x.b∧tval (modV c) x.b≤8:=by
 intro x hx;obtain ⟨h9,hC,hfull⟩:=case_iff.1 hc;have hC:Cls S c:=hC;have hz:=hC.zero h0;have hM:=model_law hv h0 hS hc;unfold filledL at hx;obtain ⟨y,hy,rfl⟩:=List.mem_map.1 hx;rw[List.mem_filter] at hy
 have hX:y.a∈termsL a∧y.b∈termsL a:=by
  simp only[termsL,List.mem_append,List.mem_flatMap];exact ⟨Or.inr ⟨y,hy.1,by simp[atomT]⟩,Or.inr ⟨y,hy.1,by simp[atomT]⟩⟩
 have hcl:∀ t∈termsL a,(0≤cl c t∧cl c t≤8)∧cl c (cl c t)=cl c t:=fun t ht=>by
  have h1:=isTermB_iff.1 (termsL_ok hv t ht);have h2:=(hC t.toNat (by omega)).1 (hS t ht);rw[Int.toNat_of_nonneg h1.1] at h2;exact ⟨by omega,h2.2⟩
 have ha:=hcl _ hX.1;have hb:=hcl _ hX.2;have hva:=tval_le (modV_ok c).2 (cl c y.a);have hvb:=tval_le (modV_ok c).2 (cl c y.b);refine ⟨ha.1,hb.1,⟨?_,hva.2⟩,hvb⟩;show 1≤tval (modV c) (cl c y.a);rw[tval_mod hz ha.1.1 ha.1.2]
 have hne:cl c y.a≠0:=fun e=>by
  have hs:=case_sat hv h0 hc;refine hs.nil y hy.1 ?_ (by rw[e,hz]);exact hy.2
 unfold mval;rw[ha.2,if_pos (by omega)];have:=rk_pos (c:=c) (k:=cl c y.a) (by omega) ha.1.2 ha.2;omega
theorem heapS_take (vs h:List Int) (xs:List Atm) {k:Nat} (hk:k<xs.length):heapS vs h (xs.take (k+1))=(heapS vs h (xs.take k)).set (tval vs xs[k].a - 1).toNat (tval vs xs[k].b):=by
 unfold heapS;rw[List.take_succ_eq_append_getElem hk,List.foldl_append];rfl
theorem heapS_len (vs:List Int):∀ (xs:List Atm) (h:List Int),(heapS vs h xs).length=h.length:=by
 intro xs
 induction xs with
 | nil=>intro h;rfl
 | cons x xs ih=>intro h;show (heapS vs (h.set _ _) xs).length=_;rw[ih,List.length_set]
def blankTo (k:Nat):List Int:=List.replicate k (-1)++List.replicate (8 - k) 0
theorem blankTo_len {k:Nat} (h:k≤8):(blankTo k).length=8:=by simp[blankTo];omega
theorem blankTo_set {k:Nat} (h:k<8):(blankTo k).set k (-1)=blankTo (k+1):=by
 unfold blankTo;rw[List.set_append_right _ _ (by simp),List.length_replicate,Nat.sub_self,show 8 - k=(8 - (k+1))+1 from by omega,List.replicate_succ,List.set_cons_zero,List.replicate_succ',List.append_assoc];rfl
end
section
open Go Go.RowKit Go.Proofs
attribute [local go_sem ↓] Go.wp_at_zero Go.wp_at_succ
def RowI (w:World) (g:Nat) (vs:List Int):Prop:=Blk w g tI (encI vs).toArray
theorem RowI.cl {w:World} {g k:Nat} {vs:List Int} (h:RowI w g vs) (hk:k<vs.length):w.cell? ⟨g,k,none⟩=some (.int .i64 (cl vs k)):=case_cell h hk
theorem RowI.set_ {w:World} {g:Nat} {vs:List Int} (h:RowI w g vs) (k:Nat) (v:Int):RowI (w.setCell ⟨g,k,none⟩ (.int .i64 v)) g (vs.set k v):=by
 have:=Blk.set_ h k (.int .i64 v);unfold RowI;rw[List.setIfInBounds_toArray] at this;rw[show encI (vs.set k v)=(encI vs).set k (.int .i64 v) from List.map_set];exact this
theorem RowI.fr {w w':World} {g x:Nat} {vs:List Int} (h:RowI w x vs) (hf:Fr g w w') (hx:x≠g):RowI w' x vs:=Blk.fr h hf hx
theorem RowI.toO {w:World} {g base n:Nat} {vs:List Int} (h:RowI w g vs) (hb:base≤g) (hl:vs.length=n) (hn:n≤1000):IntsO w base (.slice (some ⟨g,0,none⟩) n n) vs:=by
 refine ⟨?_,by rw[hl];unfold Lim;omega⟩;rw[hl];exact own_of_blk (n:=n) (cap:=n) h hb (by simp[encI,hl]) (by intro j hj;simp) (Nat.le_refl _) (by unfold maxLen;omega) (by simp[encI,hl])
theorem RowI.toV {w:World} {g:Nat} {vs:List Int} (h:RowI w g vs) (hl:vs.length≤100):IntsV w g (g+1) (some ⟨g,0,none⟩) vs:=IntsV.lit h rfl hl
def zero8:List Int:=List.replicate 8 0
theorem mkI8 (w:World):(Instr.makeSlice 27 (.int .i64 8) (.int .i64 8)).run Tryz.prog w=.ok (.slice (some ⟨w.heap.size,0,none⟩) 8 8) (w.alloc (.cells (encI zero8).toArray tI)):=
 (mkI 8 (by decide) w).trans (by rw[show (madeCells #[.int .i64 0] (8 * 1))=(encI zero8).toArray from by kernel_rfl])
theorem c_termV8 {lo hi:Nat} (A:Option Addr) (c:Nat) (vs:List Int) (t:Int) (w:World) (h:IntsV w lo hi A vs) (hl:vs.length=8) (h0:0≤t) (h8:t≤8):Calls Tryz.prog 174 #[.slice A 8 c,.int .i64 t] w fun e w'=>e=.returned (.int .i64 (tval vs t))∧w=w':=by
 have:=c_impl_termValue A c vs t w h h0 (by rw[hl];exact h8)
 rwa [hl] at this
theorem c_impl_caseState {lo hi:Nat} (v:Value) (a:Asn) (S:Nat) (c:List Int) (w:World) (h:AsnV w lo hi v a) (hv:a.valid=true) (h0:S.testBit 0=true) (hS:∀ t∈termsL a,S.testBit t.toNat=true) (hc:c∈cases a S) :
  Calls Tryz.prog 106 #[v,.agg (case9 c)] w fun e w'=>∃ r,e=.returned r∧StateO w' w.heap.size r (modS a c)∧Below w.heap.size w w':=by
 have hV:=ax h;have HC:=ax (csd_of h0 hc);have HF:=ax (filled_ok hv h0 hS hc);have HOK:=ax (Asn.valid_ok hv);have HMV:=ax (modV_ok c);obtain ⟨A1,c1,A2,c2,rfl,-,h2⟩:=h;have H2:=ax h2;clear h2 hv h0 hS hc;(go_enter Tryz.func106,Tryz.ntmps106);have k0:Blk (((w.alloc (.cells #[.slice A1 a.facts.length c1,.slice A2 a.atoms.length c2] tAs)).alloc (.cells (case9 c) tTc)).alloc (.cells #[.slice none 0 0,.slice none 0 0] tSt)) w.heap.size tAs #[.slice A1 a.facts.length c1,.slice A2 a.atoms.length c2]:=blks;have k1:Blk (((w.alloc (.cells #[.slice A1 a.facts.length c1,.slice A2 a.atoms.length c2] tAs)).alloc (.cells (case9 c) tTc)).alloc (.cells #[.slice none 0 0,.slice none 0 0] tSt)) (w.heap.size+1) tTc (case9 c):=blks;have k2:Blk (((w.alloc (.cells #[.slice A1 a.facts.length c1,.slice A2 a.atoms.length c2] tAs)).alloc (.cells (case9 c) tTc)).alloc (.cells #[.slice none 0 0,.slice none 0 0] tSt)) (w.heap.size+1+1) tSt #[.slice none 0 0,.slice none 0 0]:=blks;have hB0:Below w.heap.size w (((w.alloc (.cells #[.slice A1 a.facts.length c1,.slice A2 a.atoms.length c2] tAs)).alloc (.cells (case9 c) tTc)).alloc (.cells #[.slice none 0 0,.slice none 0 0] tSt)):=bel;have hs0:w.heap.size+3≤(((w.alloc (.cells #[.slice A1 a.facts.length c1,.slice A2 a.atoms.length c2] tAs)).alloc (.cells (case9 c) tTc)).alloc (.cells #[.slice none 0 0,.slice none 0 0] tSt)).heap.size:=by simp
 have hmk:=mkI8;(go_wp2_with fail);generalize (((w.alloc (.cells #[.slice A1 a.facts.length c1,.slice A2 a.atoms.length c2] tAs)).alloc (.cells (case9 c) tTc)).alloc (.cells #[.slice none 0 0,.slice none 0 0] tSt))=W at k0 k1 k2 hB0 hs0 ⊢;refine wp_region_noPanic ?_;refine wp_region_held_drew (S:=(fun _=>True)) (by kernel_rfl) (trivial) (fun hHeld=>?_)
 refine wpAnyH_par [0,1,2,3,4] #[true,true,true,true,true] 5 (by kernel_rfl) hHeld
  (fun a0 D a1 w'=>aJ (Below W.heap.size W w')∧∃ v11 v12 v13 v5,a1=(((a0.put (some 11) v11).put (some 12) v12).put (some 13) v13).put (some 5) v5∧
   aJ (dn D 0=true→∃ x,v11=.slice (some ⟨x,0,none⟩) 8 8∧W.heap.size≤x∧RowI w' x zero8)∧
   aJ (dn D 1=true→∃ x,v12=.slice (some ⟨x,0,none⟩) 8 8∧W.heap.size≤x∧RowI w' x zero8)∧
   aJ (dn D 0=true→dn D 1=true→∀ x y,v11=.slice (some ⟨x,0,none⟩) 8 8→v12=.slice (some ⟨y,0,none⟩) 8 8→x≠y)∧
   aJ ((dn D 2=true→(dn D 0=true∧dn D 1=true)∧v13=.agg #[v11,v12])∧(dn D 4=true→dn D 2=true∧dn D 3=true))∧
   aJ (dn D 3=true→∃ x,v5=.pointer (some ⟨x,0,none⟩)∧W.heap.size≤x∧Blk w' x tSt (if dn D 4=true then #[v11,v12] else #[.slice none 0 0,.slice none 0 0]))) ?start ?steps ?fin
 case start=>exact ⟨(Below.refl _ _).drew,undef,undef,undef,undef,rfl,(fun h=>absurd h (by decide)),(fun h=>absurd h (by decide)),(fun h=>absurd h (by decide)),⟨(fun h=>absurd h (by decide)),(fun h=>absurd h (by decide))⟩,(fun h=>absurd h (by decide))⟩
 case steps=>
  refine ParSteps.cons rfl (fun D a1 w' hu hd hI hS K' hK G hG=>?_) (ParSteps.cons rfl (fun D a1 w' hu hd hI hS K' hK G hG=>?_) (ParSteps.cons rfl (fun D a1 w' hu hd hI hS K' hK G hG=>?_) (ParSteps.cons rfl (fun D a1 w' hu hd hI hS K' hK G hG=>?_) (ParSteps.cons rfl (fun D a1 w' hu hd hI hS K' hK G hG=>?_) ParSteps.nil))))
  ·obtain ⟨HW,v11,v12,v13,v5,ha,h0,h1,hx,h2,h3⟩:=hI;rw[ha] at hG;clear ha a1;have u0:=dn_un hu;have u2:dn D 2=false:=by cases e:dn D 2;rfl;have:=(h2.o.1 e).1.1;rw[u0] at this;cases this
   have u4:dn D 4=false:=by cases e:dn D 4;rfl;have:=(h2.o.2 e).1;rw[u2] at this;cases this
   have HU:=ax (And.intro u2 u4);clear u0 u2 u4;refine hG ?_;clear hG hd;(try simp only[zz]);go_simp;refine hK.out _ _ trivial ⟨HW.o.trans ((bbox (Below.refl _ _) _).mono HW.o.size),.slice (some ⟨w'.heap.size,0,none⟩) 8 8,v12,v13,v5,rfl,fun _=>⟨_,rfl,HW.o.size,Blk.new _ _ _⟩,fun h=>?_,fun _ h x y ex ey=>?_,⟨fun h=>?_,fun h=>?_⟩,fun h=>?_⟩
   ·rw[dn_ne (by decide)] at h;obtain ⟨x,ex,hx,kx⟩:=h1.o h;exact ⟨x,ex,hx,Blk.alloc kx _⟩
   ·rw[dn_ne (by decide)] at h;obtain ⟨z,ez,hz,kz⟩:=h1.o h;rw[ez] at ey;injection ex with ex;injection ex with ex;injection ex with ex;injection ey with ey;injection ey with ey;injection ey with ey;have:=Blk.lt kz;omega
   ·rw[dn_ne (by decide),HU.o.1] at h;cases h
   ·rw[dn_ne (by decide),HU.o.2] at h;cases h
   ·rw[dn_ne (by decide)] at h;obtain ⟨x,ex,hx,kx⟩:=h3.o h;refine ⟨x,ex,hx,?_⟩;rw[dn_ne (by decide)];rw[HU.o.2,if_neg (by decide)] at kx ⊢;exact kx.alloc _
  ·obtain ⟨HW,v11,v12,v13,v5,ha,h0,h1,hx,h2,h3⟩:=hI;rw[ha] at hG;clear ha a1;have u1:=dn_un hu;have u2:dn D 2=false:=by cases e:dn D 2;rfl;have:=(h2.o.1 e).1.2;rw[u1] at this;cases this
   have u4:dn D 4=false:=by cases e:dn D 4;rfl;have:=(h2.o.2 e).1;rw[u2] at this;cases this
   have HU:=ax (And.intro u2 u4);clear u1 u2 u4;refine hG ?_;clear hG hd;(try simp only[zz]);go_simp;refine hK.out _ _ trivial ⟨HW.o.trans ((bbox (Below.refl _ _) _).mono HW.o.size),v11,.slice (some ⟨w'.heap.size,0,none⟩) 8 8,v13,v5,rfl,fun h=>?_,fun _=>⟨_,rfl,HW.o.size,Blk.new _ _ _⟩,fun h _ x y ex ey=>?_,⟨fun h=>?_,fun h=>?_⟩,fun h=>?_⟩
   ·rw[dn_ne (by decide)] at h;obtain ⟨x,ex,hx,kx⟩:=h0.o h;exact ⟨x,ex,hx,Blk.alloc kx _⟩
   ·rw[dn_ne (by decide)] at h;obtain ⟨z,ez,hz,kz⟩:=h0.o h;rw[ez] at ex;injection ex with ex;injection ex with ex;injection ex with ex;injection ey with ey;injection ey with ey;injection ey with ey;have:=Blk.lt kz;omega
   ·rw[dn_ne (by decide),HU.o.1] at h;cases h
   ·rw[dn_ne (by decide),HU.o.2] at h;cases h
   ·rw[dn_ne (by decide)] at h;obtain ⟨x,ex,hx,kx⟩:=h3.o h;refine ⟨x,ex,hx,?_⟩;rw[dn_ne (by decide)];rw[HU.o.2,if_neg (by decide)] at kx ⊢;exact kx.alloc _
  ·obtain ⟨HW,v11,v12,v13,v5,ha,h0,h1,hx,h2,h3⟩:=hI;rw[ha] at hG;clear ha a1;have t0:dn D 0=true:=hd ⟨0,.data⟩ (by simp) (by decide);have t1:dn D 1=true:=hd ⟨1,.data⟩ (by simp) (by decide);have u2:=dn_un hu;have u4:dn D 4=false:=by cases e:dn D 4;rfl;have:=(h2.o.2 e).1;rw[u2] at this;cases this
   have HU:=ax (And.intro u4 (And.intro t0 t1));obtain ⟨x1,e1,hx1,kx1⟩:=h0.o t0;obtain ⟨x2,e2,hx2,kx2⟩:=h1.o t1;have HX:=ax (hx.o t0 t1);subst e1 e2;clear u2 u4 t0 t1 h0 h1 hx;refine hG ?_;clear hG hd;(try simp only[zz]);go_simp;refine hK.out _ _ trivial ⟨HW.o,.slice (some ⟨x1,0,none⟩) 8 8,.slice (some ⟨x2,0,none⟩) 8 8,.agg #[.slice (some ⟨x1,0,none⟩) 8 8,.slice (some ⟨x2,0,none⟩) 8 8],v5,rfl,fun _=>⟨x1,rfl,hx1,kx1⟩,fun _=>⟨x2,rfl,hx2,kx2⟩,fun _ _=>HX.o,⟨fun h=>⟨⟨?_,?_⟩,rfl⟩,fun h=>?_⟩,fun h=>?_⟩
   ·rw[dn_ne (by decide)];exact HU.o.2.1
   ·rw[dn_ne (by decide)];exact HU.o.2.2
   ·rw[dn_ne (by decide),HU.o.1] at h;cases h
   ·rw[dn_ne (by decide)] at h ⊢;exact h3.o h
  ·obtain ⟨HW,v11,v12,v13,v5,ha,h0,h1,hx,h2,h3⟩:=hI;rw[ha] at hG;clear ha a1;have u3:=dn_un hu;have u4:dn D 4=false:=by cases e:dn D 4;rfl;have:=(h2.o.2 e).2;rw[u3] at this;cases this
   have HU:=ax u4;clear u3 u4;refine hG ?_;clear hG hd;(try simp only[zz]);go_simp;refine hK.out _ _ trivial ⟨HW.o.trans ((bbox (Below.refl _ _) _).mono HW.o.size),v11,v12,v13,.pointer (some ⟨w'.heap.size,0,none⟩),rfl,fun h=>?_,fun h=>?_,fun h h'=>?_,⟨fun h=>?_,fun h=>?_⟩,fun _=>⟨_,rfl,HW.o.size,?_⟩⟩
   ·rw[dn_ne (by decide)] at h;obtain ⟨x,ex,hx,kx⟩:=h0.o h;exact ⟨x,ex,hx,Blk.alloc kx _⟩
   ·rw[dn_ne (by decide)] at h;obtain ⟨x,ex,hx,kx⟩:=h1.o h;exact ⟨x,ex,hx,Blk.alloc kx _⟩
   ·rw[dn_ne (by decide)] at h h';exact hx.o h h'
   ·rw[dn_ne (by decide)] at h;obtain ⟨⟨t0,t1⟩,e⟩:=h2.o.1 h;exact ⟨⟨by rw[dn_ne (by decide)];exact t0,by rw[dn_ne (by decide)];exact t1⟩,e⟩
   ·rw[dn_ne (by decide),HU.o] at h;cases h
   ·rw[dn_ne (by decide),HU.o,if_neg (by decide)];exact Blk.new _ _ _
  ·obtain ⟨HW,v11,v12,v13,v5,ha,h0,h1,hx,h2,h3⟩:=hI;rw[ha] at hG;clear ha a1;have t2:dn D 2=true:=hd ⟨2,.data⟩ (by simp) (by decide);have t3:dn D 3=true:=hd ⟨3,.data⟩ (by simp) (by decide);have u4:=dn_un hu;obtain ⟨⟨t0,t1⟩,e13⟩:=h2.o.1 t2;obtain ⟨x5,e5,hx5,kx5⟩:=h3.o t3;rw[u4,if_neg (by decide)] at kx5;obtain ⟨x1,e1,hx1,kx1⟩:=h0.o t0;obtain ⟨x2,e2,hx2,kx2⟩:=h1.o t1;have HX:=ax (hx.o t0 t1);have HT:=ax (And.intro (And.intro t0 t1) (And.intro t2 t3));have ne1:=Blk.ne_ kx5 kx1 (by decide);have ne2:=Blk.ne_ kx5 kx2 (by decide);have q5:=kx5.cell;have r5:=kx5.frozen;have l5:=kx5.lt;subst e1 e2 e13 e5;clear h0 h1 hx h2 h3 u4 t0 t1 t2 t3 hd;refine hG ?_;clear hG;(try simp only[zz]);go_simp;refine hK.out _ _ trivial ⟨(HW.o.setCell (p:=⟨x5,0,none⟩) (by simp only;omega) _).setCell (p:=⟨x5,1,none⟩) (by simp only;omega) _,.slice (some ⟨x1,0,none⟩) 8 8,.slice (some ⟨x2,0,none⟩) 8 8,.agg #[.slice (some ⟨x1,0,none⟩) 8 8,.slice (some ⟨x2,0,none⟩) 8 8],.pointer (some ⟨x5,0,none⟩),rfl,fun _=>⟨x1,rfl,hx1,?_⟩,fun _=>⟨x2,rfl,hx2,?_⟩,fun _ _=>HX.o,⟨fun _=>⟨⟨?_,?_⟩,rfl⟩,fun _=>⟨?_,?_⟩⟩,fun _=>⟨x5,rfl,hx5,?_⟩⟩
   ·exact (Blk.far kx1 (p:=⟨x5,0,none⟩) (by simp only;omega) _).far (p:=⟨x5,1,none⟩) (by simp only;omega) _
   ·exact (Blk.far kx2 (p:=⟨x5,0,none⟩) (by simp only;omega) _).far (p:=⟨x5,1,none⟩) (by simp only;omega) _
   ·rw[dn_ne (by decide)];exact HT.o.1.1
   ·rw[dn_ne (by decide)];exact HT.o.1.2
   ·rw[dn_ne (by decide)];exact HT.o.2.1
   ·rw[dn_ne (by decide)];exact HT.o.2.2
   ·rw[dn_self hu,if_pos rfl];exact (kx5.set_ 0 _).set_ 1 _
 case fin=>
  rintro a1 w1 hHeld ⟨HW,v11,v12,v13,v5,rfl,h0,h1,hx,h2,h3⟩;obtain ⟨x1,rfl,hx1,j1⟩:=h0.o (by decide);obtain ⟨x2,rfl,hx2,j2⟩:=h1.o (by decide);obtain rfl:=(h2.o.1 (by decide)).2;obtain ⟨x5,rfl,hx5,j5⟩:=h3.o (by decide);rw[if_pos (by decide)] at j5;have ne12:=hx.o (by decide) (by decide) x1 x2 rfl rfl;have ne15:=Blk.ne_ j5 j1 (by decide);have ne25:=Blk.ne_ j5 j2 (by decide);replace k0:=k0.nz HW.o;replace k1:=k1.nz HW.o;replace k2:=k2.nz HW.o;have HB1:aJ (Below w.heap.size w w1):=hB0.trans (HW.o.mono (by omega));have l1:=Blk.lt j1;have l2:=Blk.lt j2;have l5:=Blk.lt j5;have hw1:=HW.o.size;have J1:=ax j1;have J2:=ax j2;clear h0 h1 hx h2 h3 HW hB0 hmk j1 j2;(try simp only[zz]);refine dn1 ?_;clear hHeld;(replace qk0:=k0.z;replace qk1:=k1.z;replace qk2:=k2.z);have q5:=j5.cell;have r5:=j5.frozen;(go_wp2_with fail);clear q5 r5 qk0 qk1 qk2;have hw3:w.heap.size+3≤w1.heap.size:=by omega
  have HZ8:aJ (RowI w1 x2 (blankTo 0)):=J2.o
  go_loopw [17] (fun i wr=>∃ k:Nat,k≤8∧i=.int .i64 k∧aJ (RowI wr x2 (blankTo k))∧aJ (Fr x2 w1 wr)) (fun i _=>8 - (intOf i).toNat)
  case atStart=>exact ⟨0,by omega,rfl,HZ8.o,Fr.refl _ _⟩
  case round=>
   obtain ⟨k,hk,rfl,HRW,HFR⟩:=hrel;have i5:=j5.fr HFR.o (by omega);have q5:=i5.cell;have r5:=i5.frozen;by_cases hlt:k<8
   ·have hki:(k:Int)<8:=by omega
    have qx:=HRW.o.cl (k:=k) (by rw[blankTo_len (by omega)];exact hlt);have rx:=Blk.frozen HRW.o;have lx:=Blk.lt HRW.o;have HS:=ax (HRW.o.set_ k (-1));rw[blankTo_set hlt] at HS;have HF2:=ax (HFR.o.set_ (p:=⟨x2,k,none⟩) (Or.inl rfl) (.int .i64 (-1)));clear HRW HFR;(go_wp2_with fail)
    go_round
    case rel=>exact ⟨k+1,by omega,by go_num,HS.o,HF2.o⟩
    case measure=>simp[intOf];omega
   ·obtain rfl:k=8:=by omega
    rw[show ((8:Nat):Int)=8 from rfl];have HR2:aJ (RowI wr x2 blank8):=HRW.o;have HR1:aJ (RowI wr x1 (modT c 1)):=by show RowI _ _ _;rw[modT_start];exact J1.o.fr HFR.o ne12
    have HB2:aJ (Below w.heap.size w wr):=HB1.o.trans (HFR.o.bz (by omega) (by omega));have hz2:=HFR.o.size;replace k0:=k0.fr HFR.o (by omega);replace k1:=k1.fr HFR.o (by omega);replace k2:=k2.fr HFR.o (by omega);clear HRW HFR J1 J2 HZ8 HB1 j5;(go_wp2_with fail);clear q5 r5
    go_loopw [7,8] (fun nx i wy=>∃ n:Nat,n≤8∧i=.int .i64 ((n:Int)+1)∧nx=.int .i64 ((rk c n:Int)+1)∧aJ (RowI wy x1 (modT c (n+1)))∧aJ (Fr x1 wr wy)) (fun _ i _=>9 - (intOf i).toNat)
    case atStart=>exact ⟨0,by omega,rfl,by rw[show ((0:Nat):Int)=0 from rfl,rk_zero];rfl,HR1.o,Fr.refl _ _⟩
    case round=>
     clear HR1;obtain ⟨n,hn,rfl,rfl,HRW,HFR⟩:=hrel;have y5:=i5.fr HFR.o (by omega);have y1:=k1.fr HFR.o (by omega);have q5:=y5.cell;have r5:=y5.frozen;by_cases hlt:n<8
     ·have hni:(n:Int)+1≤8:=by omega
      have hni9:(n:Int)+1<9:=by omega
      have qc:wr.cell? ⟨w.heap.size+1,n+1,none⟩=some (.int .i64 (cl c ((n+1:Nat):Int))):=case_cell (y1.case HC.o.len) (by rw[HC.o.len];omega);have rc:=y1.frozen;have HLE:=ax (HC.o.le (n+1) (by omega));have HID:=ax (HC.o.idem (n+1) (by omega))
      have HROOT:aJ (cl c ((n+1:Nat):Int)=((n+1:Nat):Int)→mval c ((n+1:Nat):Int)=(rk c (n:Int):Int)+1∧rk c ((n+1:Nat):Int)=rk c (n:Int)+1):=fun h=>by
       have:=mval_root (c:=c) (t:=n+1) (by omega) (by omega) h;rw[show (((n+1:Nat):Int) - 1)=n from by omega] at this;exact ⟨by rw[this.1];rfl,this.2⟩
      have HSAME:aJ (cl c ((n+1:Nat):Int)≠((n+1:Nat):Int)→rk c ((n+1:Nat):Int)=rk c (n:Int)):=fun h=>by
       have:=rk_same (c:=c) (t:=n+1) (by omega) (by omega) h
       rwa [show (((n+1:Nat):Int) - 1)=n from by omega] at this
      have HNONE:aJ (cl c ((n+1:Nat):Int)≤0→modT c (n+1+1)=modT c (n+1)):=fun h=>modT_keep c (by omega) (by omega) (mval_none h);have HOLD:aJ (∀ r:Nat,cl c ((n+1:Nat):Int)=r→cl c (r:Int)=r→mval c (r:Int)=mval c ((n+1:Nat):Int)):=fun r h h'=>mval_old h h'
      have HST:aJ (RowI (wr.setCell ⟨x1,n,none⟩ (.int .i64 (mval c ((n+1:Nat):Int)))) x1 (modT c (n+1+1))):=by
       have:=HRW.o.set_ n (mval c ((n+1:Nat):Int))
       rwa [show (modT c (n+1)).set n (mval c ((n+1:Nat):Int))=modT c (n+1+1) from modT_set c (t:=n+1) (by omega) (by omega)] at this
      have HF2:aJ (∀ v,Fr x1 _ (wr.setCell ⟨x1,n,none⟩ v)):=fun v=>HFR.o.set_ (p:=⟨x1,n,none⟩) (Or.inl rfl) v;have qx:=HRW.o.cl (k:=n) (by rw[modT_len];exact hlt);have rx:=Blk.frozen HRW.o;have lx:=Blk.lt HRW.o;have hrk:rk c (n:Int)≤8:=rk_le _ _;obtain ⟨x,hx⟩:∃ x,x=cl c ((n+1:Nat):Int):=⟨_,rfl⟩;rw[←hx] at qc HLE HID HROOT HSAME HNONE HOLD;generalize (rk c (n:Int))=R at HROOT HSAME hrk ⊢;generalize (cl (modT c (n+1)) (n:Int))=y at qx;clear hx;by_cases hroot:x=(n:Int)+1
      ·have hb:(x == (n:Int)+1)=true:=by simpa using hroot
       have e1:=HROOT.o (by omega);rw[e1.1] at HST;have HRK:=ax e1.2;clear HROOT HSAME HNONE HOLD HID HLE e1 HRW HFR;rw[hroot] at qc;clear hroot hb;(go_wp2_with fail)
       go_round
       case rel=>exact ⟨n+1,by omega,by go_num,by rw[HRK.o];go_num,HST.o,HF2.o _⟩
       case measure=>simp[intOf];omega
      ·have hb:(x == (n:Int)+1)=false:=by simpa using hroot
       have HRK:=ax (HSAME.o (by omega));clear HSAME HROOT;by_cases hpos:0<x
       ·obtain ⟨r,rfl⟩:∃ r:Nat,x=(r:Int)+1:=⟨(x - 1).toNat,by omega⟩;have hle:=HLE.o.2;have hrn:r<n:=by omega
        have hid:=HID.o (by omega);have hold:=HOLD.o (r+1) (by omega) (by rw[show (((r+1:Nat):Int))=(r:Int)+1 from by omega];exact hid)
        have hcl:cl (modT c (n+1)) (r:Int)=mval c ((n+1:Nat):Int):=by
         rw[modT_cl c (by omega),if_pos (by omega)];exact hold
        have qv:=HRW.o.cl (k:=r) (by rw[modT_len];omega);rw[hcl] at qv;have qv2:=HST.o.cl (k:=r) (by rw[modT_len];omega);rw[show cl (modT c (n+1+1)) (r:Int)=mval c ((n+1:Nat):Int) from by rw[modT_cl c (by omega),if_pos (by omega)];exact hold] at qv2;have QV2:=ax qv2;clear qv2;have hr8:(r:Int)<8:=by omega
        have hn8:(n:Int)<8:=by omega
        have hrne:r≠n:=by omega
        have hn0:0≤(n:Int)+1:=by omega
        have hr0:0≤(r:Int)+1:=by omega
        have hn00:0≤(n:Int):=by omega
        have hr00:0≤(r:Int):=by omega
        have hwr:IntKind.i64.wrap (r:Int)=(r:Int):=IntWalk.i64_in _ (by omega);have hwn:IntKind.i64.wrap (n:Int)=(n:Int):=IntWalk.i64_in _ (by omega);generalize mval c ((n+1:Nat):Int)=m at HST qv QV2;clear hcl hold hid HOLD HID HLE HNONE hroot hle HRW;(go_wp2_with fail);refine wp_region_noPanic ?_;refine wp_region_held_drew (S:=(fun w'=>(∀ i,w'.cell? ⟨x5,i,none⟩=#[.slice (some ⟨x1,0,none⟩) 8 8,.slice (some ⟨x2,0,none⟩) 8 8][i]?)∧w'.cell? ⟨w.heap.size+1,n+1,none⟩=some (.int .i64 ((r:Int)+1))∧w'.cell? ⟨x1,r,none⟩=some (.int .i64 m))) (by kernel_rfl) (⟨y5.drew.cell,qc,qv⟩) (fun hHeld=>?_);refine tk2 0 rfl hHeld (h:=tk2 1 rfl hHeld (h:=tk2 2 rfl hHeld (h:=?_)));(try simp only[zz]);refine tk2 3 rfl hHeld (h:=tk2 4 rfl hHeld (h:=tk2 5 rfl hHeld (h:=?_)));(try simp only[zz]);refine tk2 6 rfl hHeld (h:=tk2 7 rfl hHeld (h:=tk2 8 rfl hHeld (h:=?_)));(try simp only[zz]);refine tk2 9 rfl hHeld (h:=tk2 10 rfl hHeld (h:=tk2 11 rfl hHeld (h:=?_)));(try simp only[zz]);refine tk2 12 rfl hHeld (h:=?_);refine rdc 13 rfl fun K hK=>?_;(try simp only[zz]);go_simp;refine hK.out _ _ (⟨(y5.drew.far (p:=⟨x1,n,none⟩) (by simp only;omega) _).cell,((y1.drew.far (p:=⟨x1,n,none⟩) (by simp only;omega) _).cell _).trans ((y1.cell _).symm.trans qc),QV2.o⟩) ?_;clear hHeld hK K;intro hHeld;(try simp only[zz]);refine dn1 ?_;clear hwr hwn;(go_wp2_with fail)
        go_round
        case rel=>exact ⟨n+1,by omega,by go_num,by rw[HRK.o],HST.o,(HF2.o _).drew⟩
        case measure=>simp[intOf];omega
       ·have e:=HNONE.o (by omega);have HN:aJ (RowI wr x1 (modT c (n+1+1))):=by show RowI _ _ _;rw[e];exact HRW.o
        clear e HNONE HOLD HID HLE hroot HRW;(go_wp2_with fail)
        go_round
        case rel=>exact ⟨n+1,by omega,by go_num,by rw[HRK.o],HN.o,HFR.o⟩
        case measure=>simp[intOf];omega
     ·obtain rfl:n=8:=by omega
      rw[show ((8:Nat):Int)=8 from rfl];have HRV:aJ (RowI wr x1 (modV c)):=by show RowI _ _ _;rw[←modT_end];exact HRW.o
      have HRH:=ax (HR2.o.fr HFR.o (by omega));have HB3:aJ (Below w.heap.size w wr):=HB2.o.trans (HFR.o.bz (by omega) (by omega));replace k0:=k0.fr HFR.o (by omega);replace k2:=k2.fr HFR.o (by omega);have hz3:=HFR.o.size;have K1:=ax (y1.case HC.o.len);have l1b:=y1.lt;clear HRW HFR HR2 HB2 i5 k1 y1;(replace qk0:=k0.z);(go_wp2_with fail);refine (c_impl_filled A2 c2 a.atoms c (w.heap.size+1) _ (H2.o.bz HB3.o) K1.o HC.o.len HOK.o.2).mono ?_;rintro e w4 ⟨r4,rfl,o4,hB4⟩;obtain ⟨A4,c4,rfl,f4⟩:=o4.reads;have HLV:=ax f4;replace HB3:=ax (bgo HB3.o hB4);replace HRV:=ax (Blk.nz HRV.o hB4);replace HRH:=ax (Blk.nz HRH.o hB4);replace k2:=k2.nz hB4;replace y5:=y5.nz hB4;have hz4:=hB4.size;have hL:=f4.le;clear o4 f4 hB4 k0 qk0 K1 q5 r5;obtain ⟨L,hLe⟩:∃ L,L=filledL a.atoms c:=⟨_,rfl⟩;have HLE:=ax hLe;rw[←hLe] at HLV HF hL ⊢;clear hLe;(go_wp2_with fail)
      go_loopw [65] (fun i wr=>∃ k:Nat,k≤L.length∧i=.int .i64 k∧aJ (RowI wr x2 (heapS (modV c) blank8 (L.take k)))∧aJ (Fr x2 w4 wr)) (fun i _=>L.length - (intOf i).toNat)
      case atStart=>exact ⟨0,Nat.zero_le _,rfl,HRH.o,Fr.refl _ _⟩
      case round=>
       clear HRH;obtain ⟨k,hk,rfl,HRW,HFR⟩:=hrel;have i5:=y5.fr HFR.o (by omega);have hzr:=HFR.o.size;by_cases hlt:k<L.length
       ·have hki:(k:Int)<(L.length:Int):=by omega
        have hlv:AtomsV wr _ _ A4 L:=⟨HLV.o.raw.fr HFR.o (Or.inl (by omega)),HLV.o.lim⟩;obtain ⟨b,o,rfl,g0,g1,g2⟩:=hlv.at hlt;have hbl:=block_lt_of_cell g0;have HXF:=ax (HF.o _ (List.getElem_mem hlt));have HST:=ax (heapS_take (modV c) blank8 L hlt);obtain ⟨x,hx⟩:∃ x,x=L[k]:=⟨_,rfl⟩;rw[←hx] at g0 g1 g2 HXF HST;have hxa:=HXF.o.1;have hxb:=HXF.o.2.1;obtain ⟨m,hm⟩:∃ m:Nat,tval (modV c) x.a=(m:Int)+1:=⟨(tval (modV c) x.a - 1).toNat,by have:=HXF.o.2.2.1;omega⟩;have hm8:m<8:=by have:=HXF.o.2.2.1;omega
        have hmi:(m:Int)<8:=by omega
        have hm0:0≤(m:Int):=by omega
        have hwm:IntKind.i64.wrap (m:Int)=(m:Int):=IntWalk.i64_in _ (by omega);have HM:=ax hm;rw[hm,show ((m:Int)+1 - 1).toNat=m from by omega] at HST;have HRV2:aJ (RowI (wr.alloc (.cells #[.int .i64 x.kind,.int .i64 x.a,.int .i64 x.b] tA)) x1 (modV c)):=Blk.alloc (HRV.o.fr HFR.o ne12) _;have HRW2:aJ (RowI (wr.alloc (.cells #[.int .i64 x.kind,.int .i64 x.a,.int .i64 x.b] tA)) x2 (heapS (modV c) blank8 (L.take k))):=Blk.alloc HRW.o _;have HF2:=ax (HFR.o.alloc (.cells #[.int .i64 x.kind,.int .i64 x.a,.int .i64 x.b] tA));have j5:=i5.alloc (.cells #[.int .i64 x.kind,.int .i64 x.a,.int .i64 x.b] tA);have kx:Blk (wr.alloc (.cells #[.int .i64 x.kind,.int .i64 x.a,.int .i64 x.b] tA)) wr.heap.size tA #[.int .i64 x.kind,.int .i64 x.a,.int .i64 x.b]:=Blk.new _ _ _;have lx5:=i5.lt;clear hx hm HXF HRW HFR;(go_wp2_with fail);have l2x:=Blk.lt HRW2.o;rw[World.size_alloc] at l2x;have hxw:x2<wr.heap.size:=by have:=HF2.o.size;omega
        have qw:=HRW2.o.cl (k:=m) (by rw[heapS_len];exact hm8);have rw_:=Blk.frozen HRW2.o;have lw:=Blk.lt HRW2.o;generalize hX:wr.heap.size=X at kx hxw lx5 hbl ⊢;clear hX;generalize (wr.alloc (.cells #[.int .i64 x.kind,.int .i64 x.a,.int .i64 x.b] tA))=W5 at kx j5 HRV2 HRW2 HF2 qw rw_ lw ⊢;refine wp_region_noPanic ?_;refine wp_region_held_drew (S:=(fun w'=>(∀ i,w'.cell? ⟨x5,i,none⟩=#[.slice (some ⟨x1,0,none⟩) 8 8,.slice (some ⟨x2,0,none⟩) 8 8][i]?)∧(∀ i,w'.cell? ⟨X,i,none⟩=#[.int .i64 x.kind,.int .i64 x.a,.int .i64 x.b][i]?))) (by kernel_rfl) (⟨j5.drew.cell,kx.drew.cell⟩) (fun hHeld=>?_);refine tk2 0 rfl hHeld (h:=tk2 1 rfl hHeld (h:=tk2 2 rfl hHeld (h:=?_)));(try simp only[zz]);refine tk2 3 rfl hHeld (h:=tk2 4 rfl hHeld (h:=tk2 5 rfl hHeld (h:=?_)));(try simp only[zz]);refine tk2 8 rfl hHeld (h:=tk2 9 rfl hHeld (h:=tk2 10 rfl hHeld (h:=?_)));(try simp only[zz]);refine tk2 11 rfl hHeld (h:=?_);refine rdc 6 rfl fun K hK=>?_;(try simp only[zz]);(go_simp;refine (c_termV8 _ 8 (modV c) x.a _ (IntsV.bz (RowI.toV HRV2.o (by rw[HMV.o.1];omega)) (Below.refl _ _).drew) HMV.o.1 hxa.1 hxa.2).mono ?_;rintro e w6 ⟨rfl,rfl⟩;rw[HM.o]);refine hK.out _ _ (⟨j5.drew.cell,kx.drew.cell⟩) ?_;clear hHeld hK K;intro hHeld;(try simp only[zz]);refine tk2 7 rfl hHeld (h:=?_);refine rdc 12 rfl fun K hK=>?_;(try simp only[zz]);(go_simp;refine (c_termV8 _ 8 (modV c) x.b _ (IntsV.bz (RowI.toV HRV2.o (by rw[HMV.o.1];omega)) (Below.refl _ _).drew) HMV.o.1 hxb.1 hxb.2).mono ?_;rintro e w6 ⟨rfl,rfl⟩);refine hK.out _ _ (⟨j5.drew.cell,kx.drew.cell⟩) ?_;clear hHeld hK K;intro hHeld;(try simp only[zz]);refine tk2 13 rfl hHeld (h:=?_);refine rdc 14 rfl fun K hK=>?_;(try simp only[zz]);go_simp;refine hK.out _ _ (⟨(j5.drew.far (p:=⟨x2,m,none⟩) (by simp only;omega) _).cell,(kx.drew.far (p:=⟨x2,m,none⟩) (by simp only;omega) _).cell⟩) ?_;clear hHeld hK K;intro hHeld;(try simp only[zz]);refine dn1 ?_
        have HN:aJ (RowI (W5.setCell ⟨x2,m,none⟩ (.int .i64 (tval (modV c) x.b))).drew x2 (heapS (modV c) blank8 (L.take (k+1)))):=by
         show RowI _ _ _;rw[HST.o];exact HRW2.o.set_ m _
        have HFN:=ax ((HF2.o.set_ (p:=⟨x2,m,none⟩) (Or.inl rfl) (.int .i64 (tval (modV c) x.b))).drew);clear qw rw_ lw hwm HRW2 HF2;(go_wp2_with fail)
        go_round
        case rel=>exact ⟨k+1,by omega,by go_num,HN.o,HFN.o⟩
        case measure=>simp[intOf];omega
       ·obtain rfl:k=L.length:=by omega
        rw[List.take_length] at HRW;have z2:=k2.fr HFR.o (by omega);have HRV3:=ax (HRV.o.fr HFR.o ne12);have HB5:aJ (Below w.heap.size w wr):=HB3.o.trans (HFR.o.bz (by omega) (by omega));have HH8:aJ ((heapS (modV c) blank8 L).length=8):=heapS_len _ _ _;have q5:=i5.cell;have r5:=i5.frozen;have q2:=z2.cell;have r2:=z2.frozen;have l2c:=z2.lt;clear HFR;(go_wp2_with fail);refine bodyPost_ret (v:=.agg #[.slice (some ⟨x1,0,none⟩) 8 8,.slice (some ⟨x2,0,none⟩) 8 8]) (by simp[results,Tryz.results106,go_sem,q2,l2c]) rfl ⟨_,rfl,⟨_,_,rfl,?_,?_,?_⟩,?_⟩
        ·exact RowI.toO (vs:=modV c) (Blk.far (Blk.far HRV3.o (p:=⟨w.heap.size+1+1,0,none⟩) (by simp only;omega) _) (p:=⟨w.heap.size+1+1,1,none⟩) (by simp only;omega) _) (by omega) HMV.o.1 (by omega)
        ·show IntsO _ _ _ (heapS (modV c) blank8 (filledL a.atoms c));rw[←HLE.o];exact RowI.toO (Blk.far (Blk.far HRW.o (p:=⟨w.heap.size+1+1,0,none⟩) (by simp only;omega) _) (p:=⟨w.heap.size+1+1,1,none⟩) (by simp only;omega) _) (by omega) HH8.o (by omega)
        ·intro g e1 e2;simp only[Value.ownBlock,Option.some.injEq] at e1 e2;omega
        ·exact (HB5.o.setCell (p:=⟨w.heap.size+1+1,0,none⟩) (by simp only;omega) _).setCell (p:=⟨w.heap.size+1+1,1,none⟩) (by simp only;omega) _
end
end Go.Proofs.YtgdfdmjnadnlnaaGreat
