/- The model of a case: values and heap; it holds and has that case. Plain; no program. -/
import Derived.Test.YtjjokmlmknllhaaMCaseP
import Derived.Test.YtjjokmlmknllhaaMDrawT
import Derived.Test.YtjjokmlmknllhaaMStSame
import Derived.IntWalk
import Derived.Test.YtjjokmlmknllhaaMRange
set_option linter.unusedSimpArgs false
set_option linter.unusedVariables false
namespace Go.Proofs.Ytjjokmlmknllhaa
open Go Go.RowKit
theorem cont_set8 {h:List Int} (hl:h.length=8) {m n:Int} (hm:addrB m=true) (hn:addrB n=true) (v:Int):cont (h.set (m - 1).toNat v) n=if n=m then v else cont h n:=by
  unfold cont
  rw [if_pos hn, if_pos hn]
  simp only [addrB, decide_eq_true_eq] at hm hn
  by_cases e : n = m
  · subst e
    rw [if_pos rfl, List.getElem?_set_self (by omega)]; rfl
  · rw [if_neg e, List.getElem?_set_ne (by omega)]
def heapS (vs:List Int) (h:List Int) (xs:List Atm):List Int:=xs.foldl (fun h x=>h.set (tval vs x.a - 1).toNat (tval vs x.b)) h
def blank8:List Int:=List.replicate 8 (-1)
theorem heapS_spec {vs:List Int}:∀ (xs:List Atm) (h:List Int),h.length=8→(xs.map fun x=>tval vs x.a).Nodup→(∀ x∈xs,addrB (tval vs x.a)=true)→
    (heapS vs h xs).length = 8 ∧ (∀ x ∈ xs, cont (heapS vs h xs) (tval vs x.a) = tval vs x.b) ∧ (∀ n, addrB n = true → (∀ x ∈ xs, tval vs x.a ≠ n) → cont (heapS vs h xs) n = cont h n) := by
  intro xs
  induction xs with
  | nil => intro h hl _ _; exact ⟨hl, fun x hx => (by cases hx), fun _ _ _ => rfl⟩
  | cons x xs ih =>
    intro h hl hn ha
    rw [List.map_cons, List.nodup_cons] at hn
    have hax := ha x List.mem_cons_self
    obtain ⟨g1, g2, g3⟩ := ih (h.set (tval vs x.a - 1).toNat (tval vs x.b)) (by simpa using hl) hn.2 fun y hy => ha y (List.mem_cons_of_mem _ hy)
    refine ⟨g1, fun y hy => ?_, fun n hn2 hne => ?_⟩
    · rcases List.mem_cons.1 hy with rfl | hy
      · show cont (heapS vs (h.set _ _) xs) _ = _
        rw [g3 _ hax fun z hz e => hn.1 (List.mem_map.2 ⟨z, hz, e⟩), cont_set8 hl hax hax, if_pos rfl]
      · exact g2 y hy
    · show cont (heapS vs (h.set _ _) xs) _ = _
      rw [g3 n hn2 fun z hz => hne z (List.mem_cons_of_mem _ hz), cont_set8 hl hax hn2, if_neg (fun e => hne x List.mem_cons_self e.symm)]
theorem heapS_cells {vs:List Int} (hv:vs.all valB=true):∀ (xs:List Atm) (h:List Int),h.all cellB=true→(heapS vs h xs).all cellB=true:=by
  intro xs
  induction xs with
  | nil => intro h hh; exact hh
  | cons x xs ih =>
    intro h hh
    refine ih _ (List.all_eq_true.2 fun y hy => ?_)
    rcases List.mem_or_eq_of_mem_set hy with hy | rfl
    · exact List.all_eq_true.1 hh y hy
    · have := tval_le hv x.b
      simp [cellB, valB]; omega
theorem cont_blank {n:Int}:cont blank8 n = -1:=by
  unfold cont
  split
  · rename_i h
    simp only [addrB, decide_eq_true_eq] at h
    unfold blank8
    rw [List.getElem?_replicate, if_pos (by omega)]; rfl
  · rfl
theorem one_cell {vs:List Int} (hl:vs.length=8) (hv:vs.all valB=true) {a:Asn} (ha:a.valid=true) (hs:Sat (tval vs) a) :
    holdsF ⟨vs, heapS vs blank8 (a.atoms.filter (fillM (tval vs)))⟩ a = true := by
  have hk : ∀ x ∈ a.atoms, x.kind = 1 ∨ x.kind = 2 := fun x hx => by
    have hv := ha
    simp only [Asn.valid, Bool.and_eq_true] at hv
    have := List.all_eq_true.1 hv.2.2 x hx
    simp [Atm.valid] at this
    exact this.1.1
  have hadd : ∀ x ∈ a.atoms.filter (fillM (tval vs)), addrB (tval vs x.a) = true := fun x hx => by
    rw [List.mem_filter] at hx
    have h1 := hs.nil x hx.1 hx.2
    have h2 := tval_le hv x.a
    have e0 : tval vs 0 = 0 := rfl
    rw [e0] at h1
    simp only [addrB, decide_eq_true_eq]
    omega
  obtain ⟨g1, g2, g3⟩ := heapS_spec _ blank8 rfl hs.apart hadd
  generalize hh : heapS vs blank8 (a.atoms.filter (fillM (tval vs))) = h at g1 g2 g3
  have hcell : h.all cellB = true := by rw [← hh]; exact heapS_cells hv _ _ (by decide)
  have hstep : ∀ x ∈ a.atoms, atomCells ⟨vs, h⟩ x = some (if fillM (tval vs) x then [tval vs x.a] else []) := fun x hx => by
    cases hf : fillM (tval vs) x
    · rw [if_neg (by decide)]
      unfold fillM at hf
      rw [Bool.or_eq_false_iff] at hf
      have h1 : x.kind = 2 := by rcases hk x hx with h | h; · rw [decide_eq_true h] at hf; cases hf.1
                                 · exact h
      have h2 : tval vs x.a = tval vs x.b := by simpa using hf.2
      unfold atomCells
      rw [if_pos h1]
      show walkF h 8 (tval vs x.a) (tval vs x.b) = some []
      rw [h2, walkF_here]
    · rw [if_pos rfl]
      have hm := List.mem_filter.2 ⟨hx, hf⟩
      have hc := g2 x hm
      unfold atomCells
      split
      · rename_i h1
        show walkF h 8 (tval vs x.a) (tval vs x.b) = _
        have hne : tval vs x.a ≠ tval vs x.b := fun e => by
          unfold fillM at hf
          rw [decide_eq_false (by omega : ¬ x.kind = 1), decide_eq_true e] at hf
          cases hf
        rw [walkF_on h 7 hne (by unfold allocB; rw [hc]; exact decide_eq_true (tval_le hv x.b).1), hc, walkF_here]; rfl
      · first | exact if_pos hc | rfl
  have hpart : ∀ (xs : List Atm) (seen : List Int), (∀ x ∈ xs, x ∈ a.atoms) → (seen ++ (xs.filter (fillM (tval vs))).map fun x => tval vs x.a).Nodup → partAtoms ⟨vs, h⟩ seen xs = some (seen ++ (xs.filter (fillM (tval vs))).map fun x => tval vs x.a) := by
    intro xs
    induction xs with
    | nil => intro seen _ _; simp [partAtoms]
    | cons x xs ih =>
      intro seen hm hn
      unfold partAtoms
      rw [hstep x (hm x List.mem_cons_self)]
      cases hf : fillM (tval vs) x
      · rw [List.filter_cons_of_neg (by simp [hf])] at hn ⊢
        simp only [Bool.false_eq_true, if_false, Option.bind_some, addAll]
        exact ih seen (fun y hy => hm y (List.mem_cons_of_mem _ hy)) hn
      · rw [List.filter_cons_of_pos hf, List.map_cons] at hn ⊢
        have e : seen ++ tval vs x.a :: ((xs.filter (fillM (tval vs))).map fun x => tval vs x.a) = (seen ++ [tval vs x.a]) ++ ((xs.filter (fillM (tval vs))).map fun x => tval vs x.a) := by simp
        rw [e] at hn ⊢
        simp only [if_true, Option.bind_some]
        rw [addAll_some _ _ (List.nodup_append.1 hn).1, Option.bind_some]
        exact ih _ (fun y hy => hm y (List.mem_cons_of_mem _ hy)) hn
  have hpo : partOf ⟨vs, h⟩ a = some ((a.atoms.filter (fillM (tval vs))).map fun x => tval vs x.a) := by
    rw [partOf_some]
    refine ⟨?_, ha, ?_, ?_⟩
    · simp only [Ste.valid, Bool.and_eq_true, decide_eq_true_eq]
      exact ⟨⟨hl, g1⟩, hv, hcell⟩
    · simp only [factsHold, Bool.and_eq_true, decide_eq_true_eq]
      refine ⟨⟨Asn.valid_facts ha, hl⟩, List.all_eq_true.2 fun f hf => ?_⟩
      unfold Fct.holds
      rw [hs.facts f hf]
      cases f.eq <;> rfl
    · have := hpart a.atoms [] (fun _ h => h) (by simpa using hs.apart)
      simpa using this
  rw [holds_iff]
  refine ⟨_, hpo, fun n hn => ?_⟩
  have hca := cont_alloc hn
  rw [List.mem_map]
  refine Classical.byContradiction fun hno => ?_
  have := g3 n hca.1 fun x hx e => hno ⟨x, hx, e⟩
  rw [cont_blank] at this
  have h2 : 0 ≤ cont h n := hca.2
  omega
theorem Sat.same {M N:Int→Int} {a:Asn} (h:Sat N a) (he:∀ s t,(s=0∨s∈termsL a)→(t=0∨t∈termsL a)→(M s=M t↔N s=N t)):Sat M a:=by
  have hX : ∀ x ∈ a.atoms, x.a ∈ termsL a ∧ x.b ∈ termsL a := fun x hx => by
    simp only [termsL, List.mem_append, List.mem_flatMap]
    exact ⟨Or.inr ⟨x, hx, by simp [atomT]⟩, Or.inr ⟨x, hx, by simp [atomT]⟩⟩
  have hF : ∀ x ∈ a.facts, x.a ∈ termsL a ∧ x.b ∈ termsL a := fun x hx => by
    simp only [termsL, List.mem_append, List.mem_flatMap]
    exact ⟨Or.inl ⟨x, hx, by simp [factT]⟩, Or.inl ⟨x, hx, by simp [factT]⟩⟩
  have hfill : ∀ x ∈ a.atoms, fillM M x = fillM N x := fun x hx => by
    unfold fillM
    congr 2
    rw [decide_eq_decide]
    exact he _ _ (Or.inr (hX x hx).1) (Or.inr (hX x hx).2)
  refine ⟨fun f hf => ?_, fun x hx hf e => ?_, ?_⟩
  · rw [← h.facts f hf, decide_eq_decide]
    exact he _ _ (Or.inr (hF f hf).1) (Or.inr (hF f hf).2)
  · rw [hfill x hx] at hf
    exact h.nil x hx hf ((he _ _ (Or.inr (hX x hx).1) (Or.inl rfl)).1 e)
  · rw [List.filter_congr hfill]
    have h1 := h.apart
    unfold List.Nodup at h1 ⊢
    rw [List.pairwise_map] at h1 ⊢
    exact h1.imp_of_mem fun {x y} hx hy hne e => hne ((he _ _ (Or.inr (hX x (List.mem_filter.1 hx).1).1) (Or.inr (hX y (List.mem_filter.1 hy).1).1)).1 e)
theorem nodupN_le:∀ {l m:List Nat},l.Nodup→(∀ x∈l,x∈m)→l.length≤m.length:=by
  intro l
  induction l with
  | nil => intro m _ _; simp
  | cons a l ih =>
    intro m hn hs
    rw [List.nodup_cons] at hn
    have hm := hs a List.mem_cons_self
    have := ih (m := m.erase a) hn.2 fun x hx => (List.mem_erase_of_ne (by rintro rfl; exact hn.1 hx)).2 (hs x (List.mem_cons_of_mem _ hx))
    rw [List.length_erase_of_mem hm] at this
    have hp := List.length_pos_of_mem hm
    rw [List.length_cons]; omega
def rk (c:List Int) (k:Int):Nat:=((List.range' 1 8).filter fun j:Nat=>decide ((j:Int)≤k)&&decide (cl c (j:Int)=j)).length
def mval (c:List Int) (t:Int):Int:=if 0<cl c t then (rk c (cl c t):Int) else 0
def modV (c:List Int):List Int:=(List.range' 1 8).map fun t:Nat=>mval c (t:Int)
theorem rk_le (c:List Int) (k:Int):rk c k≤8:=by
  unfold rk
  exact Nat.le_trans (List.length_filter_le _ _) (by simp)
theorem mval_le (c:List Int) (t:Int):0≤mval c t∧mval c t≤8:=by
  unfold mval
  have := rk_le c (cl c t)
  split <;> omega
theorem rk_pos {c:List Int} {k:Int} (h1:1≤k) (h8:k≤8) (hk:cl c k=k):1≤rk c k:=by
  obtain ⟨n, rfl⟩ := Int.eq_ofNat_of_zero_le (by omega : 0 ≤ k)
  unfold rk
  refine List.length_pos_of_mem (a := n) (List.mem_filter.2 ⟨List.mem_range'_1.2 (by omega), ?_⟩)
  simp [hk]
theorem rk_lt {c:List Int} {k k':Int} (h1:0≤k) (hlt:k<k') (h8:k'≤8) (hk:cl c k'=k'):rk c k<rk c k':=by
  obtain ⟨n, rfl⟩ := Int.eq_ofNat_of_zero_le h1
  obtain ⟨m, rfl⟩ := Int.eq_ofNat_of_zero_le (by omega : 0 ≤ k')
  unfold rk
  have hnd : (List.range' 1 8).Nodup := List.nodup_range'
  have hsub : ∀ j ∈ m :: (List.range' 1 8).filter (fun j : Nat => decide ((j : Int) ≤ n) && decide (cl c (j : Int) = j)), j ∈ (List.range' 1 8).filter (fun j : Nat => decide ((j : Int) ≤ m) && decide (cl c (j : Int) = j)) := fun j hj => by
    rcases List.mem_cons.1 hj with rfl | hj
    · exact List.mem_filter.2 ⟨List.mem_range'_1.2 (by omega), by simp [hk]⟩
    · rw [List.mem_filter] at hj ⊢
      refine ⟨hj.1, ?_⟩
      simp only [Bool.and_eq_true, decide_eq_true_eq] at hj ⊢
      exact ⟨by omega, hj.2.2⟩
  have hnd2 : (m :: (List.range' 1 8).filter (fun j : Nat => decide ((j : Int) ≤ n) && decide (cl c (j : Int) = j))).Nodup := by
    rw [List.nodup_cons]
    refine ⟨fun hm => ?_, hnd.filter _⟩
    rw [List.mem_filter] at hm
    simp only [Bool.and_eq_true, decide_eq_true_eq] at hm
    omega
  have := nodupN_le hnd2 hsub
  simpa [Nat.lt_iff_add_one_le] using this
theorem tval_mod {c:List Int} (h0:cl c 0=0) {t:Int} (ht:0≤t) (h8:t≤8):tval (modV c) t=mval c t:=by
  unfold tval
  split
  · rename_i e; subst e; unfold mval; rw [h0]; rfl
  · rename_i e
    obtain ⟨n, rfl⟩ := Int.eq_ofNat_of_zero_le ht
    unfold modV
    rw [List.getElem?_map, List.getElem?_range' (by omega)]
    simp only [Option.map_some, Option.getD_some]
    congr 1
    omega
theorem modV_ok (c:List Int):(modV c).length=8∧(modV c).all valB=true:=by
  refine ⟨by simp [modV], List.all_eq_true.2 fun x hx => ?_⟩
  obtain ⟨t, -, rfl⟩ := List.mem_map.1 hx
  have := mval_le c t
  simp [valB]; omega
def Cls (S:Nat) (c:List Int):Prop:=∀ j:Nat,j<9→(S.testBit j=true→(0≤cl c j∧cl c j≤j)∧cl c (cl c j)=cl c j)∧(S.testBit j=false→cl c j = -1)
theorem Cls.zero {S:Nat} {c:List Int} (h:Cls S c) (h0:S.testBit 0=true):cl c 0=0:=by
  have h1 := ((h 0 (by omega)).1 h0).1
  have e : ((0 : Nat) : Int) = 0 := rfl
  rw [e] at h1
  omega
theorem mval_eq {S:Nat} {c:List Int} (h:Cls S c) {i j:Nat} (hi:i<9) (hj:j<9) (bi:S.testBit i=true) (bj:S.testBit j=true):mval c i=mval c j↔cl c i=cl c j:=by
  have h1 := (h i hi).1 bi
  have h2 := (h j hj).1 bj
  constructor
  · intro e
    unfold mval at e
    by_cases p1 : 0 < cl c i
    · have q1 := rk_pos (c := c) (by omega) (by omega) h1.2
      rw [if_pos p1] at e
      by_cases p2 : 0 < cl c j
      · rw [if_pos p2] at e
        rcases Int.lt_trichotomy (cl c i) (cl c j) with h | h | h
        · have := rk_lt (c := c) h1.1.1 h (by omega) h2.2; omega
        · exact h
        · have := rk_lt (c := c) h2.1.1 h (by omega) h1.2; omega
      · rw [if_neg p2] at e; omega
    · rw [if_neg p1] at e
      by_cases p2 : 0 < cl c j
      · have q2 := rk_pos (c := c) (by omega) (by omega) h2.2
        rw [if_pos p2] at e; omega
      · omega
  · intro e; unfold mval; rw [e]
def modS (a:Asn) (c:List Int):Ste:=⟨modV c,heapS (modV c) blank8 (filledL a.atoms c)⟩
theorem heapS_map (vs:List Int) (f:Atm→Atm):∀ (xs:List Atm) (h:List Int),(∀ x∈xs,tval vs (f x).a=tval vs x.a∧tval vs (f x).b=tval vs x.b)→heapS vs h (xs.map f)=heapS vs h xs:=by
  intro xs
  induction xs with
  | nil => intro h _; rfl
  | cons x xs ih =>
    intro h hx
    have h1 := hx x List.mem_cons_self
    show heapS vs (h.set (tval vs (f x).a - 1).toNat (tval vs (f x).b)) (xs.map f) = heapS vs (h.set (tval vs x.a - 1).toNat (tval vs x.b)) xs
    rw [h1.1, h1.2]
    exact ih _ fun y hy => hx y (List.mem_cons_of_mem _ hy)
theorem model_law {a:Asn} (hv:a.valid=true) {S:Nat} (h0:S.testBit 0=true) (hS:∀ t∈termsL a,S.testBit t.toNat=true) {c:List Int} (hc:c∈cases a S):Sat (tval (modV c)) a∧holdsF (modS a c) a=true∧canon (tval (modV c)) S=c:=by
  obtain ⟨h9, hC, -⟩ := case_iff.1 hc
  have hC : Cls S c := hC
  have hz := hC.zero h0
  have hok := termsL_ok hv
  have hval : ∀ t : Int, (t = 0 ∨ t ∈ termsL a) → ∃ j : Nat, j < 9 ∧ S.testBit j = true ∧ t = j := fun t ht => by
    rcases ht with rfl | ht
    · exact ⟨0, by omega, h0, rfl⟩
    · have h1 := isTermB_iff.1 (hok t ht)
      exact ⟨t.toNat, by omega, hS t ht, (Int.toNat_of_nonneg h1.1).symm⟩
  have hM : ∀ i j : Nat, i < 9 → j < 9 → S.testBit i = true → S.testBit j = true → (tval (modV c) i = tval (modV c) j ↔ cl c i = cl c j) := fun i j hi hj bi bj => by
    rw [tval_mod hz (by omega) (by omega), tval_mod hz (by omega) (by omega)]
    exact mval_eq hC hi hj bi bj
  have hsat : Sat (tval (modV c)) a := (case_sat hv h0 hc).same fun s t hs ht => by
    obtain ⟨i, hi, bi, rfl⟩ := hval s hs
    obtain ⟨j, hj, bj, rfl⟩ := hval t ht
    exact hM i j hi hj bi bj
  have hcls : ∀ t ∈ termsL a, tval (modV c) (cl c t) = tval (modV c) t := fun t ht => by
    obtain ⟨j, hj, bj, rfl⟩ := hval t (Or.inr ht)
    have h1 := (hC j hj).1 bj
    rw [tval_mod hz (by omega) (by omega), tval_mod hz (by omega) (by omega)]
    unfold mval
    rw [h1.2]
  refine ⟨hsat, ?_, ?_⟩
  · have e : heapS (modV c) blank8 (filledL a.atoms c) = heapS (modV c) blank8 (a.atoms.filter (fillM (tval (modV c)))) := by
      unfold filledL
      have hfill : ∀ x ∈ a.atoms, Atm.fill c x = fillM (tval (modV c)) x := fun x hx => by
        have hX : x.a ∈ termsL a ∧ x.b ∈ termsL a := by
          simp only [termsL, List.mem_append, List.mem_flatMap]
          exact ⟨Or.inr ⟨x, hx, by simp [atomT]⟩, Or.inr ⟨x, hx, by simp [atomT]⟩⟩
        obtain ⟨i, hi, bi, ei⟩ := hval _ (Or.inr hX.1)
        obtain ⟨j, hj, bj, ej⟩ := hval _ (Or.inr hX.2)
        unfold Atm.fill fillM
        congr 2
        rw [decide_eq_decide, ei, ej]
        exact (hM i j hi hj bi bj).symm
      rw [List.filter_congr hfill]
      refine heapS_map _ _ _ _ fun x hx => ?_
      have hx := (List.mem_filter.1 hx).1
      have hX : x.a ∈ termsL a ∧ x.b ∈ termsL a := by
        simp only [termsL, List.mem_append, List.mem_flatMap]
        exact ⟨Or.inr ⟨x, hx, by simp [atomT]⟩, Or.inr ⟨x, hx, by simp [atomT]⟩⟩
      exact ⟨hcls _ hX.1, hcls _ hX.2⟩
    unfold modS
    rw [e]
    exact one_cell (modV_ok c).1 (modV_ok c).2 hv hsat
  · refine (canon_ext h9 fun j hj => ?_).symm
    unfold caseAt
    cases hb : S.testBit j
    · exact (hC j hj).2 hb
    · rw [if_pos rfl]
      have h1 := (hC j hj).1 hb
      obtain ⟨k, hk⟩ := Int.eq_ofNat_of_zero_le h1.1.1
      have hkb : S.testBit k = true := by
        cases e : S.testBit k
        · have h2 := (hC k (by omega)).2 e
          have h3 := h1.2
          rw [hk, h2] at h3
          omega
        · rfl
      rw [least_is (k := k) hkb hb ((hM k j (by omega) hj hkb hb).2 (by rw [← hk]; exact h1.2)) (fun i hi hib e => by
        have h2 := ((hC i (by omega)).1 hib).1.2
        have h3 := (hM i j (by omega) hj hib hb).1 e
        omega), hk]
def modelL (a:Asn):Ste:=modS a ((cases a (caseS a 0)).head?.getD zeros)
theorem modelL_law {a:Asn} (h:consB a=true):a.valid=true∧holdsF (modelL a) a=true∧∃ c cs,cases a (caseS a 0)=c :: cs∧caseOfF (modelL a) a=c:=by
  have hv : a.valid = true := (consB_iff.1 h).1
  unfold consB at h
  unfold modelL
  cases hc : cases a (caseS a 0) with
  | nil => rw [hc, hv] at h; cases h
  | cons c cs =>
    obtain ⟨-, h1, h2⟩ := model_law hv (caseS_zero a 0) (caseS_terms hv 0) (c := c) (by rw [hc]; exact List.mem_cons_self)
    exact ⟨hv, h1, c, cs, rfl, h2⟩
end Go.Proofs.Ytjjokmlmknllhaa

/- The model of a case, step by step. Plain; no program. -/
namespace Go.Proofs.Ytjjokmlmknllhaa
open Go Go.RowKit
def modT (c:List Int) (t:Nat):List Int:=(List.range' 1 8).map fun j:Nat=>if j<t then mval c (j:Int) else 0
theorem modT_len (c:List Int) (t:Nat):(modT c t).length=8:=by simp[modT]
theorem modT_start (c:List Int):modT c 1=List.replicate 8 0:=by
 unfold modT
 rw[List.map_congr_left (g:=fun _=>0) (fun j hj=>by rw[List.mem_range'_1] at hj;rw[if_neg (by omega)])]
 rfl
theorem modT_end (c:List Int):modT c 9=modV c:=by
 unfold modT modV
 exact List.map_congr_left fun j hj=>by rw[List.mem_range'_1] at hj;rw[if_pos (by omega)]
theorem modT_get (c:List Int) {t k:Nat} (hk:k<8):(modT c t)[k]? = some (if k+1<t then mval c ((k+1:Nat):Int) else 0):=by
 unfold modT
 rw[List.getElem?_map,List.getElem?_range' (by omega)]
 simp only[Option.map_some,Nat.one_mul]
 rw[Nat.add_comm 1 k]
theorem modT_cl (c:List Int) {t k:Nat} (hk:k<8):cl (modT c t) k=if k+1<t then mval c ((k+1:Nat):Int) else 0:=by
 unfold cl;rw[Int.toNat_natCast,modT_get c hk];rfl
theorem modT_set (c:List Int) {t:Nat} (h1:1≤t) (h8:t≤8):(modT c t).set (t - 1) (mval c (t:Int))=modT c (t+1):=by
 apply List.ext_getElem?
 intro j
 by_cases hj:j<8
 ·rw[modT_get c hj]
  by_cases e:j=t - 1
  ·subst e
   rw[List.getElem?_set_self (by rw[modT_len];omega),if_pos (by omega),show t - 1+1=t from by omega]
  ·rw[List.getElem?_set_ne (by omega),modT_get c hj]
   by_cases h:j+1<t
   ·rw[if_pos h,if_pos (by omega)]
   ·rw[if_neg h,if_neg (by omega)]
 ·rw[List.getElem?_eq_none (by rw[List.length_set,modT_len];omega),List.getElem?_eq_none (by rw[modT_len];omega)]
theorem modT_keep (c:List Int) {t:Nat} (h1:1≤t) (h8:t≤8) (hz:mval c (t:Int)=0):modT c (t+1)=modT c t:=by
 apply List.ext_getElem?
 intro j
 by_cases hj:j<8
 ·rw[modT_get c hj,modT_get c hj]
  by_cases e:j+1=t
  ·rw[if_pos (by omega),if_neg (by omega),e,hz]
  ·by_cases h:j+1<t
   ·rw[if_pos h,if_pos (by omega)]
   ·rw[if_neg h,if_neg (by omega)]
 ·rw[List.getElem?_eq_none (by rw[modT_len];omega),List.getElem?_eq_none (by rw[modT_len];omega)]
theorem rk_zero (c:List Int):rk c 0=0:=by
 unfold rk
 rw[List.length_eq_zero_iff,List.filter_eq_nil_iff]
 intro j hj
 rw[List.mem_range'_1] at hj
 rw[decide_eq_false (by omega:¬(j:Int)≤0),Bool.false_and]
 decide
theorem rk_step (c:List Int) {t:Nat} (h1:1≤t) (h8:t≤8):rk c (t:Int)=rk c ((t:Int) - 1)+(if cl c (t:Int)=t then 1 else 0):=by
 unfold rk
 rw[←List.countP_eq_length_filter,←List.countP_eq_length_filter]
 have e:(List.range' 1 8)=List.range' 1 (t - 1)++t :: List.range' (t+1) (8 - t):=by
  have h2:List.range' 1 8=List.range' 1 (t - 1)++List.range' t (8 - t+1):=by
   have:=List.range'_append_1 (s:=1) (m:=t - 1) (n:=8 - t+1)
   rw[show 1+(t - 1)=t from by omega,show t - 1+(8 - t+1)=8 from by omega] at this
   exact this.symm
  rw[h2,List.range'_succ]
 rw[e,List.countP_append,List.countP_append,List.countP_cons,List.countP_cons]
 have f1:∀ (p q:Nat→Bool),(∀ j∈List.range' 1 (t - 1),p j=q j)→(List.range' 1 (t - 1)).countP p=(List.range' 1 (t - 1)).countP q:=fun p q h=>List.countP_congr fun j hj=>by rw[h j hj]
 have f2:∀ (p:Nat→Bool),(∀ j∈List.range' (t+1) (8 - t),p j=false)→(List.range' (t+1) (8 - t)).countP p=0:=fun p h=>List.countP_eq_zero.2 fun j hj=>by rw[h j hj];decide
 rw[f1 (fun j:Nat=>decide ((j:Int)≤(t:Int))&&decide (cl c (j:Int)=j)) (fun j:Nat=>decide ((j:Int)≤(t:Int) - 1)&&decide (cl c (j:Int)=j)) (fun j hj=>by
  rw[List.mem_range'_1] at hj
  rw[decide_eq_true (by omega:(j:Int)≤(t:Int)),decide_eq_true (by omega:(j:Int)≤(t:Int) - 1)])]
 rw[f2 _ (fun j hj=>by rw[List.mem_range'_1] at hj;rw[decide_eq_false (by omega:¬(j:Int)≤(t:Int))];rfl)]
 rw[f2 _ (fun j hj=>by rw[List.mem_range'_1] at hj;rw[decide_eq_false (by omega:¬(j:Int)≤(t:Int) - 1)];rfl)]
 rw[decide_eq_true (by omega:(t:Int)≤(t:Int)),decide_eq_false (by omega:¬(t:Int)≤(t:Int) - 1)]
 by_cases h:cl c (t:Int)=t
 ·rw[decide_eq_true h,if_pos h];simp
 ·rw[decide_eq_false h,if_neg h];simp
theorem mval_root {c:List Int} {t:Nat} (h1:1≤t) (h8:t≤8) (h:cl c (t:Int)=t):mval c (t:Int)=(rk c ((t:Int) - 1)+1:Nat)∧rk c (t:Int)=rk c ((t:Int) - 1)+1:=by
 have e:=rk_step c h1 h8
 rw[if_pos h] at e
 unfold mval
 rw[h,if_pos (by omega),e]
 exact ⟨rfl,rfl⟩
theorem rk_same {c:List Int} {t:Nat} (h1:1≤t) (h8:t≤8) (h:cl c (t:Int)≠t):rk c (t:Int)=rk c ((t:Int) - 1):=by
 rw[rk_step c h1 h8,if_neg h];rfl
theorem mval_old {c:List Int} {t r:Nat} (hr:cl c (t:Int)=r) (hi:cl c (r:Int)=r):mval c (r:Int)=mval c (t:Int):=by
 unfold mval;rw[hr,hi]
theorem mval_none {c:List Int} {t:Nat} (h:cl c (t:Int)≤0):mval c (t:Int)=0:=by unfold mval;rw[if_neg (by omega)]
structure Csd (c:List Int):Prop where
 len:c.length=9
 zero:cl c 0=0
 le:∀ j:Nat,j<9→-1≤cl c j∧cl c j≤j
 idem:∀ j:Nat,j<9→0≤cl c j→cl c (cl c j)=cl c j
theorem csd_of {a:Asn} {S:Nat} (h0:S.testBit 0=true) {c:List Int} (hc:c∈cases a S):Csd c:=by
 obtain ⟨h9,hC,-⟩:=case_iff.1 hc
 have hz:=(show Cls S c from hC).zero h0
 refine ⟨h9,hz,fun j hj=>?_,fun j hj h=>?_⟩
 ·cases hb:S.testBit j
  ·have:=(hC j hj).2 hb;omega
  ·have:=((hC j hj).1 hb).1;omega
 ·cases hb:S.testBit j
  ·have:=(hC j hj).2 hb;omega
  ·exact ((hC j hj).1 hb).2
theorem filled_ok {a:Asn} (hv:a.valid=true) {S:Nat} (h0:S.testBit 0=true) (hS:∀ t∈termsL a,S.testBit t.toNat=true) {c:List Int} (hc:c∈cases a S) :
  ∀ x∈filledL a.atoms c,(0≤x.a∧x.a≤8)∧(0≤x.b∧x.b≤8)∧(1≤tval (modV c) x.a∧tval (modV c) x.a≤8)∧0≤tval (modV c) x.b∧tval (modV c) x.b≤8:=by
 intro x hx
 obtain ⟨h9,hC,hfull⟩:=case_iff.1 hc
 have hC:Cls S c:=hC
 have hz:=hC.zero h0
 have hM:=model_law hv h0 hS hc
 unfold filledL at hx
 obtain ⟨y,hy,rfl⟩:=List.mem_map.1 hx
 rw[List.mem_filter] at hy
 have hX:y.a∈termsL a∧y.b∈termsL a:=by
  simp only[termsL,List.mem_append,List.mem_flatMap]
  exact ⟨Or.inr ⟨y,hy.1,by simp[atomT]⟩,Or.inr ⟨y,hy.1,by simp[atomT]⟩⟩
 have hcl:∀ t∈termsL a,(0≤cl c t∧cl c t≤8)∧cl c (cl c t)=cl c t:=fun t ht=>by
  have h1:=isTermB_iff.1 (termsL_ok hv t ht)
  have h2:=(hC t.toNat (by omega)).1 (hS t ht)
  rw[Int.toNat_of_nonneg h1.1] at h2
  exact ⟨by omega,h2.2⟩
 have ha:=hcl _ hX.1
 have hb:=hcl _ hX.2
 have hva:=tval_le (modV_ok c).2 (cl c y.a)
 have hvb:=tval_le (modV_ok c).2 (cl c y.b)
 refine ⟨ha.1,hb.1,⟨?_,hva.2⟩,hvb⟩
 show 1≤tval (modV c) (cl c y.a)
 rw[tval_mod hz ha.1.1 ha.1.2]
 have hne:cl c y.a≠0:=fun e=>by
  have hs:=case_sat hv h0 hc
  refine hs.nil y hy.1 ?_ (by rw[e,hz])
  exact hy.2
 unfold mval
 rw[ha.2,if_pos (by omega)]
 have:=rk_pos (c:=c) (k:=cl c y.a) (by omega) ha.1.2 ha.2
 omega
theorem heapS_take (vs h:List Int) (xs:List Atm) {k:Nat} (hk:k<xs.length):heapS vs h (xs.take (k+1))=(heapS vs h (xs.take k)).set (tval vs xs[k].a - 1).toNat (tval vs xs[k].b):=by
 unfold heapS
 rw[List.take_succ_eq_append_getElem hk,List.foldl_append]
 rfl
theorem heapS_len (vs:List Int):∀ (xs:List Atm) (h:List Int),(heapS vs h xs).length=h.length:=by
 intro xs
 induction xs with
 | nil=>intro h;rfl
 | cons x xs ih=>intro h;show (heapS vs (h.set _ _) xs).length=_;rw[ih,List.length_set]
def blankTo (k:Nat):List Int:=List.replicate k (-1)++List.replicate (8 - k) 0
theorem blankTo_len {k:Nat} (h:k≤8):(blankTo k).length=8:=by simp[blankTo];omega
theorem blankTo_set {k:Nat} (h:k<8):(blankTo k).set k (-1)=blankTo (k+1):=by
 unfold blankTo
 rw[List.set_append_right _ _ (by simp),List.length_replicate,Nat.sub_self,show 8 - k=(8 - (k+1))+1 from by omega,List.replicate_succ,List.set_cons_zero,List.replicate_succ',List.append_assoc]
 rfl
end Go.Proofs.Ytjjokmlmknllhaa

/- Contracts: impl's model of a case. -/
namespace Go.Proofs.Ytjjokmlmknllhaa
open Go Go.RowKit Go.Proofs
attribute [local go_sem ↓] Go.wp_at_zero Go.wp_at_succ
def RowI (w:World) (g:Nat) (vs:List Int):Prop:=Blk w g tI (encI vs).toArray
theorem RowI.cl {w:World} {g k:Nat} {vs:List Int} (h:RowI w g vs) (hk:k<vs.length):w.cell? ⟨g,k,none⟩=some (.int .i64 (cl vs k)):=case_cell h hk
theorem RowI.set_ {w:World} {g:Nat} {vs:List Int} (h:RowI w g vs) (k:Nat) (v:Int):RowI (w.setCell ⟨g,k,none⟩ (.int .i64 v)) g (vs.set k v):=by
 have:=Blk.set_ h k (.int .i64 v)
 unfold RowI
 rw[List.setIfInBounds_toArray] at this
 rw[show encI (vs.set k v)=(encI vs).set k (.int .i64 v) from List.map_set]
 exact this
theorem RowI.fr {w w':World} {g x:Nat} {vs:List Int} (h:RowI w x vs) (hf:Fr g w w') (hx:x≠g):RowI w' x vs:=Blk.fr h hf hx
theorem RowI.toO {w:World} {g base n:Nat} {vs:List Int} (h:RowI w g vs) (hb:base≤g) (hl:vs.length=n) (hn:n≤1000):IntsO w base (.slice (some ⟨g,0,none⟩) n n) vs:=by
 refine ⟨?_,by rw[hl];unfold Lim;omega⟩
 rw[hl]
 exact own_of_blk (n:=n) (cap:=n) h hb (by simp[encI,hl]) (by intro j hj;simp) (Nat.le_refl _) (by unfold maxLen;omega) (by simp[encI,hl])
theorem RowI.toV {w:World} {g:Nat} {vs:List Int} (h:RowI w g vs) (hl:vs.length≤100):IntsV w g (g+1) (some ⟨g,0,none⟩) vs:=IntsV.lit h rfl hl
def zero8:List Int:=List.replicate 8 0
theorem mkI8 (w:World):(Instr.makeSlice 32 (.int .i64 8) (.int .i64 8)).run Try.prog w=.ok (.slice (some ⟨w.heap.size,0,none⟩) 8 8) (w.alloc (.cells (encI zero8).toArray tI)):=
 (mkI 8 (by decide) w).trans (by rw[show (madeCells #[.int .i64 0] (8 * 1))=(encI zero8).toArray from by kernel_rfl])
theorem c_termV8 {lo hi:Nat} (A:Option Addr) (c:Nat) (vs:List Int) (t:Int) (w:World) (h:IntsV w lo hi A vs) (hl:vs.length=8) (h0:0≤t) (h8:t≤8):Calls Try.prog 47 #[.slice A 8 c,.int .i64 t] w fun e w'=>e=.returned (.int .i64 (tval vs t))∧w=w':=by
 have:=c_impl_termValue A c vs t w h h0 (by rw[hl];exact h8)
 rwa [hl] at this
set_option maxRecDepth 100000 in
set_option maxHeartbeats 6400000 in
theorem c_impl_caseState {lo hi:Nat} (v:Value) (a:Asn) (S:Nat) (c:List Int) (w:World) (h:AsnV w lo hi v a) (hv:a.valid=true) (h0:S.testBit 0=true) (hS:∀ t∈termsL a,S.testBit t.toNat=true) (hc:c∈cases a S) :
  Calls Try.prog 27 #[v,.agg (case9 c)] w fun e w'=>∃ r,e=.returned r∧StateO w' w.heap.size r (modS a c)∧Below w.heap.size w w':=by
 have hV:=Lib.hid h
 have HC:=Lib.hid (csd_of h0 hc)
 have HF:=Lib.hid (filled_ok hv h0 hS hc)
 have HOK:=Lib.hid (Asn.valid_ok hv)
 have HMV:=Lib.hid (modV_ok c)
 obtain ⟨A1,c1,A2,c2,rfl,-,h2⟩:=h
 have H2:=Lib.hid h2
 clear h2 hv h0 hS hc
 go_enter Try.func27,Try.ntmps27
 have k0:Blk (((w.alloc (.cells #[.slice A1 a.facts.length c1,.slice A2 a.atoms.length c2] tAs)).alloc (.cells (case9 c) tTc)).alloc (.cells #[.slice none 0 0,.slice none 0 0] tSt)) w.heap.size tAs #[.slice A1 a.facts.length c1,.slice A2 a.atoms.length c2]:=blks
 have k1:Blk (((w.alloc (.cells #[.slice A1 a.facts.length c1,.slice A2 a.atoms.length c2] tAs)).alloc (.cells (case9 c) tTc)).alloc (.cells #[.slice none 0 0,.slice none 0 0] tSt)) (w.heap.size+1) tTc (case9 c):=blks
 have k2:Blk (((w.alloc (.cells #[.slice A1 a.facts.length c1,.slice A2 a.atoms.length c2] tAs)).alloc (.cells (case9 c) tTc)).alloc (.cells #[.slice none 0 0,.slice none 0 0] tSt)) (w.heap.size+1+1) tSt #[.slice none 0 0,.slice none 0 0]:=blks
 have hB0:Below w.heap.size w (((w.alloc (.cells #[.slice A1 a.facts.length c1,.slice A2 a.atoms.length c2] tAs)).alloc (.cells (case9 c) tTc)).alloc (.cells #[.slice none 0 0,.slice none 0 0] tSt)):=bel
 have hs0:w.heap.size+3≤(((w.alloc (.cells #[.slice A1 a.facts.length c1,.slice A2 a.atoms.length c2] tAs)).alloc (.cells (case9 c) tTc)).alloc (.cells #[.slice none 0 0,.slice none 0 0] tSt)).heap.size:=by simp
 have hmk:=mkI8
 go_wp2_with fail
 generalize (((w.alloc (.cells #[.slice A1 a.facts.length c1,.slice A2 a.atoms.length c2] tAs)).alloc (.cells (case9 c) tTc)).alloc (.cells #[.slice none 0 0,.slice none 0 0] tSt))=W at k0 k1 k2 hB0 hs0 ⊢
 refine wp_region_noPanic ?_
 refine wp_region_held_drew (S:=(fun _=>True)) (by kernel_rfl) (trivial) (fun hHeld=>?_)
 refine wpAnyH_par [0,1,2,3,4] #[true,true,true,true,true] 5 (by kernel_rfl) hHeld
  (fun a0 D a1 w'=>Hid (Below W.heap.size W w')∧∃ v11 v12 v13 v5,a1=(((a0.put (some 11) v11).put (some 12) v12).put (some 13) v13).put (some 5) v5∧
   Hid (dn D 0=true→∃ x,v11=.slice (some ⟨x,0,none⟩) 8 8∧W.heap.size≤x∧RowI w' x zero8)∧
   Hid (dn D 1=true→∃ x,v12=.slice (some ⟨x,0,none⟩) 8 8∧W.heap.size≤x∧RowI w' x zero8)∧
   Hid (dn D 0=true→dn D 1=true→∀ x y,v11=.slice (some ⟨x,0,none⟩) 8 8→v12=.slice (some ⟨y,0,none⟩) 8 8→x≠y)∧
   Hid ((dn D 2=true→(dn D 0=true∧dn D 1=true)∧v13=.agg #[v11,v12])∧(dn D 4=true→dn D 2=true∧dn D 3=true))∧
   Hid (dn D 3=true→∃ x,v5=.pointer (some ⟨x,0,none⟩)∧W.heap.size≤x∧Blk w' x tSt (if dn D 4=true then #[v11,v12] else #[.slice none 0 0,.slice none 0 0]))) ?start ?steps ?fin
 case start=>exact ⟨(Below.refl _ _).drew,undef,undef,undef,undef,rfl,(fun h=>absurd h (by decide)),(fun h=>absurd h (by decide)),(fun h=>absurd h (by decide)),⟨(fun h=>absurd h (by decide)),(fun h=>absurd h (by decide))⟩,(fun h=>absurd h (by decide))⟩
 case steps=>
  refine ParSteps.cons rfl (fun D a1 w' hu hd hI hS K' hK G hG=>?_) (ParSteps.cons rfl (fun D a1 w' hu hd hI hS K' hK G hG=>?_) (ParSteps.cons rfl (fun D a1 w' hu hd hI hS K' hK G hG=>?_) (ParSteps.cons rfl (fun D a1 w' hu hd hI hS K' hK G hG=>?_) (ParSteps.cons rfl (fun D a1 w' hu hd hI hS K' hK G hG=>?_) ParSteps.nil))))
  ·obtain ⟨HW,v11,v12,v13,v5,ha,h0,h1,hx,h2,h3⟩:=hI
   rw[ha] at hG
   clear ha a1
   have u0:=dn_un hu
   have u2:dn D 2=false:=by cases e:dn D 2;rfl;have:=(h2.out.1 e).1.1;rw[u0] at this;cases this
   have u4:dn D 4=false:=by cases e:dn D 4;rfl;have:=(h2.out.2 e).1;rw[u2] at this;cases this
   have HU:=Lib.hid (And.intro u2 u4)
   clear u0 u2 u4
   refine hG ?_
   clear hG hd
   try simp only[Act.put,List.setIfInBounds_toArray,List.set_cons_zero,List.set_cons_succ]
   go_simp
   refine hK.out _ _ trivial ⟨HW.out.trans ((bbox (Below.refl _ _) _).mono HW.out.size),.slice (some ⟨w'.heap.size,0,none⟩) 8 8,v12,v13,v5,rfl,fun _=>⟨_,rfl,HW.out.size,Blk.new _ _ _⟩,fun h=>?_,fun _ h x y ex ey=>?_,⟨fun h=>?_,fun h=>?_⟩,fun h=>?_⟩
   ·rw[dn_ne (by decide)] at h;obtain ⟨x,ex,hx,kx⟩:=h1.out h;exact ⟨x,ex,hx,Blk.alloc kx _⟩
   ·rw[dn_ne (by decide)] at h;obtain ⟨z,ez,hz,kz⟩:=h1.out h;rw[ez] at ey;injection ex with ex;injection ex with ex;injection ex with ex;injection ey with ey;injection ey with ey;injection ey with ey;have:=Blk.lt kz;omega
   ·rw[dn_ne (by decide),HU.out.1] at h;cases h
   ·rw[dn_ne (by decide),HU.out.2] at h;cases h
   ·rw[dn_ne (by decide)] at h;obtain ⟨x,ex,hx,kx⟩:=h3.out h;refine ⟨x,ex,hx,?_⟩;rw[dn_ne (by decide)];rw[HU.out.2,if_neg (by decide)] at kx ⊢;exact kx.alloc _
  ·obtain ⟨HW,v11,v12,v13,v5,ha,h0,h1,hx,h2,h3⟩:=hI
   rw[ha] at hG
   clear ha a1
   have u1:=dn_un hu
   have u2:dn D 2=false:=by cases e:dn D 2;rfl;have:=(h2.out.1 e).1.2;rw[u1] at this;cases this
   have u4:dn D 4=false:=by cases e:dn D 4;rfl;have:=(h2.out.2 e).1;rw[u2] at this;cases this
   have HU:=Lib.hid (And.intro u2 u4)
   clear u1 u2 u4
   refine hG ?_
   clear hG hd
   try simp only[Act.put,List.setIfInBounds_toArray,List.set_cons_zero,List.set_cons_succ]
   go_simp
   refine hK.out _ _ trivial ⟨HW.out.trans ((bbox (Below.refl _ _) _).mono HW.out.size),v11,.slice (some ⟨w'.heap.size,0,none⟩) 8 8,v13,v5,rfl,fun h=>?_,fun _=>⟨_,rfl,HW.out.size,Blk.new _ _ _⟩,fun h _ x y ex ey=>?_,⟨fun h=>?_,fun h=>?_⟩,fun h=>?_⟩
   ·rw[dn_ne (by decide)] at h;obtain ⟨x,ex,hx,kx⟩:=h0.out h;exact ⟨x,ex,hx,Blk.alloc kx _⟩
   ·rw[dn_ne (by decide)] at h;obtain ⟨z,ez,hz,kz⟩:=h0.out h;rw[ez] at ex;injection ex with ex;injection ex with ex;injection ex with ex;injection ey with ey;injection ey with ey;injection ey with ey;have:=Blk.lt kz;omega
   ·rw[dn_ne (by decide),HU.out.1] at h;cases h
   ·rw[dn_ne (by decide),HU.out.2] at h;cases h
   ·rw[dn_ne (by decide)] at h;obtain ⟨x,ex,hx,kx⟩:=h3.out h;refine ⟨x,ex,hx,?_⟩;rw[dn_ne (by decide)];rw[HU.out.2,if_neg (by decide)] at kx ⊢;exact kx.alloc _
  ·obtain ⟨HW,v11,v12,v13,v5,ha,h0,h1,hx,h2,h3⟩:=hI
   rw[ha] at hG
   clear ha a1
   have t0:dn D 0=true:=hd ⟨0,.data⟩ (by simp) (by decide)
   have t1:dn D 1=true:=hd ⟨1,.data⟩ (by simp) (by decide)
   have u2:=dn_un hu
   have u4:dn D 4=false:=by cases e:dn D 4;rfl;have:=(h2.out.2 e).1;rw[u2] at this;cases this
   have HU:=Lib.hid (And.intro u4 (And.intro t0 t1))
   obtain ⟨x1,e1,hx1,kx1⟩:=h0.out t0
   obtain ⟨x2,e2,hx2,kx2⟩:=h1.out t1
   have HX:=Lib.hid (hx.out t0 t1)
   subst e1 e2
   clear u2 u4 t0 t1 h0 h1 hx
   refine hG ?_
   clear hG hd
   try simp only[Act.put,List.setIfInBounds_toArray,List.set_cons_zero,List.set_cons_succ]
   go_simp
   refine hK.out _ _ trivial ⟨HW.out,.slice (some ⟨x1,0,none⟩) 8 8,.slice (some ⟨x2,0,none⟩) 8 8,.agg #[.slice (some ⟨x1,0,none⟩) 8 8,.slice (some ⟨x2,0,none⟩) 8 8],v5,rfl,fun _=>⟨x1,rfl,hx1,kx1⟩,fun _=>⟨x2,rfl,hx2,kx2⟩,fun _ _=>HX.out,⟨fun h=>⟨⟨?_,?_⟩,rfl⟩,fun h=>?_⟩,fun h=>?_⟩
   ·rw[dn_ne (by decide)];exact HU.out.2.1
   ·rw[dn_ne (by decide)];exact HU.out.2.2
   ·rw[dn_ne (by decide),HU.out.1] at h;cases h
   ·rw[dn_ne (by decide)] at h ⊢;exact h3.out h
  ·obtain ⟨HW,v11,v12,v13,v5,ha,h0,h1,hx,h2,h3⟩:=hI
   rw[ha] at hG
   clear ha a1
   have u3:=dn_un hu
   have u4:dn D 4=false:=by cases e:dn D 4;rfl;have:=(h2.out.2 e).2;rw[u3] at this;cases this
   have HU:=Lib.hid u4
   clear u3 u4
   refine hG ?_
   clear hG hd
   try simp only[Act.put,List.setIfInBounds_toArray,List.set_cons_zero,List.set_cons_succ]
   go_simp
   refine hK.out _ _ trivial ⟨HW.out.trans ((bbox (Below.refl _ _) _).mono HW.out.size),v11,v12,v13,.pointer (some ⟨w'.heap.size,0,none⟩),rfl,fun h=>?_,fun h=>?_,fun h h'=>?_,⟨fun h=>?_,fun h=>?_⟩,fun _=>⟨_,rfl,HW.out.size,?_⟩⟩
   ·rw[dn_ne (by decide)] at h;obtain ⟨x,ex,hx,kx⟩:=h0.out h;exact ⟨x,ex,hx,Blk.alloc kx _⟩
   ·rw[dn_ne (by decide)] at h;obtain ⟨x,ex,hx,kx⟩:=h1.out h;exact ⟨x,ex,hx,Blk.alloc kx _⟩
   ·rw[dn_ne (by decide)] at h h';exact hx.out h h'
   ·rw[dn_ne (by decide)] at h;obtain ⟨⟨t0,t1⟩,e⟩:=h2.out.1 h;exact ⟨⟨by rw[dn_ne (by decide)];exact t0,by rw[dn_ne (by decide)];exact t1⟩,e⟩
   ·rw[dn_ne (by decide),HU.out] at h;cases h
   ·rw[dn_ne (by decide),HU.out,if_neg (by decide)];exact Blk.new _ _ _
  ·obtain ⟨HW,v11,v12,v13,v5,ha,h0,h1,hx,h2,h3⟩:=hI
   rw[ha] at hG
   clear ha a1
   have t2:dn D 2=true:=hd ⟨2,.data⟩ (by simp) (by decide)
   have t3:dn D 3=true:=hd ⟨3,.data⟩ (by simp) (by decide)
   have u4:=dn_un hu
   obtain ⟨⟨t0,t1⟩,e13⟩:=h2.out.1 t2
   obtain ⟨x5,e5,hx5,kx5⟩:=h3.out t3
   rw[u4,if_neg (by decide)] at kx5
   obtain ⟨x1,e1,hx1,kx1⟩:=h0.out t0
   obtain ⟨x2,e2,hx2,kx2⟩:=h1.out t1
   have HX:=Lib.hid (hx.out t0 t1)
   have HT:=Lib.hid (And.intro (And.intro t0 t1) (And.intro t2 t3))
   have ne1:=Blk.ne_ kx5 kx1 (by decide)
   have ne2:=Blk.ne_ kx5 kx2 (by decide)
   have q5:=kx5.cell
   have r5:=kx5.frozen
   have l5:=kx5.lt
   subst e1 e2 e13 e5
   clear h0 h1 hx h2 h3 u4 t0 t1 t2 t3 hd
   refine hG ?_
   clear hG
   try simp only[Act.put,List.setIfInBounds_toArray,List.set_cons_zero,List.set_cons_succ]
   go_simp
   refine hK.out _ _ trivial ⟨(HW.out.setCell (p:=⟨x5,0,none⟩) (by simp only;omega) _).setCell (p:=⟨x5,1,none⟩) (by simp only;omega) _,.slice (some ⟨x1,0,none⟩) 8 8,.slice (some ⟨x2,0,none⟩) 8 8,.agg #[.slice (some ⟨x1,0,none⟩) 8 8,.slice (some ⟨x2,0,none⟩) 8 8],.pointer (some ⟨x5,0,none⟩),rfl,fun _=>⟨x1,rfl,hx1,?_⟩,fun _=>⟨x2,rfl,hx2,?_⟩,fun _ _=>HX.out,⟨fun _=>⟨⟨?_,?_⟩,rfl⟩,fun _=>⟨?_,?_⟩⟩,fun _=>⟨x5,rfl,hx5,?_⟩⟩
   ·exact (Blk.far kx1 (p:=⟨x5,0,none⟩) (by simp only;omega) _).far (p:=⟨x5,1,none⟩) (by simp only;omega) _
   ·exact (Blk.far kx2 (p:=⟨x5,0,none⟩) (by simp only;omega) _).far (p:=⟨x5,1,none⟩) (by simp only;omega) _
   ·rw[dn_ne (by decide)];exact HT.out.1.1
   ·rw[dn_ne (by decide)];exact HT.out.1.2
   ·rw[dn_ne (by decide)];exact HT.out.2.1
   ·rw[dn_ne (by decide)];exact HT.out.2.2
   ·rw[dn_self hu,if_pos rfl];exact (kx5.set_ 0 _).set_ 1 _
 case fin=>
  rintro a1 w1 hHeld ⟨HW,v11,v12,v13,v5,rfl,h0,h1,hx,h2,h3⟩
  obtain ⟨x1,rfl,hx1,j1⟩:=h0.out (by decide)
  obtain ⟨x2,rfl,hx2,j2⟩:=h1.out (by decide)
  obtain rfl:=(h2.out.1 (by decide)).2
  obtain ⟨x5,rfl,hx5,j5⟩:=h3.out (by decide)
  rw[if_pos (by decide)] at j5
  have ne12:=hx.out (by decide) (by decide) x1 x2 rfl rfl
  have ne15:=Blk.ne_ j5 j1 (by decide)
  have ne25:=Blk.ne_ j5 j2 (by decide)
  replace k0:=k0.next HW.out
  replace k1:=k1.next HW.out
  replace k2:=k2.next HW.out
  have HB1:Hid (Below w.heap.size w w1):=hB0.trans (HW.out.mono (by omega))
  have l1:=Blk.lt j1
  have l2:=Blk.lt j2
  have l5:=Blk.lt j5
  have hw1:=HW.out.size
  have J1:=Lib.hid j1
  have J2:=Lib.hid j2
  clear h0 h1 hx h2 h3 HW hB0 hmk j1 j2
  try simp only[Act.put,List.setIfInBounds_toArray,List.set_cons_zero,List.set_cons_succ]
  refine wpAnyH_done (by kernel_rfl) ?_ _
  refine NoPanic.normal ?_
  clear hHeld
  (replace qk0:=k0.cell;replace rk0:=k0.frozen;replace lk0:=k0.lt;replace qk1:=k1.cell;replace rk1:=k1.frozen;replace lk1:=k1.lt;replace qk2:=k2.cell;replace rk2:=k2.frozen;replace lk2:=k2.lt)
  have q5:=j5.cell
  have r5:=j5.frozen
  go_wp2_with fail
  clear q5 r5 qk0 rk0 lk0 qk1 rk1 lk1 qk2 rk2 lk2
  have hw3:w.heap.size+3≤w1.heap.size:=by omega
  have HZ8:Hid (RowI w1 x2 (blankTo 0)):=J2.out
  go_loopw [17] (fun i wr=>∃ k:Nat,k≤8∧i=.int .i64 k∧Hid (RowI wr x2 (blankTo k))∧Hid (Fr x2 w1 wr)) (fun i _=>8 - (intOf i).toNat)
  case atStart=>exact ⟨0,by omega,rfl,HZ8.out,Fr.refl _ _⟩
  case round=>
   obtain ⟨k,hk,rfl,HRW,HFR⟩:=hrel
   have i5:=j5.fr HFR.out (by omega)
   have q5:=i5.cell
   have r5:=i5.frozen
   by_cases hlt:k<8
   ·have hki:(k:Int)<8:=by omega
    have qx:=HRW.out.cl (k:=k) (by rw[blankTo_len (by omega)];exact hlt)
    have rx:=Blk.frozen HRW.out
    have lx:=Blk.lt HRW.out
    have HS:=Lib.hid (HRW.out.set_ k (-1))
    rw[blankTo_set hlt] at HS
    have HF2:=Lib.hid (HFR.out.set_ (p:=⟨x2,k,none⟩) (Or.inl rfl) (.int .i64 (-1)))
    clear HRW HFR
    go_wp2_with fail
    go_round
    case rel=>exact ⟨k+1,by omega,by go_num,HS.out,HF2.out⟩
    case measure=>simp[intOf];omega
   ·obtain rfl:k=8:=by omega
    rw[show ((8:Nat):Int)=8 from rfl]
    have HR2:Hid (RowI wr x2 blank8):=HRW.out
    have HR1:Hid (RowI wr x1 (modT c 1)):=by show RowI _ _ _;rw[modT_start];exact J1.out.fr HFR.out ne12
    have HB2:Hid (Below w.heap.size w wr):=HB1.out.trans (HFR.out.below (by omega) (by omega))
    have hz2:=HFR.out.size
    replace k0:=k0.fr HFR.out (by omega)
    replace k1:=k1.fr HFR.out (by omega)
    replace k2:=k2.fr HFR.out (by omega)
    clear HRW HFR J1 J2 HZ8 HB1 j5
    go_wp2_with fail
    clear q5 r5
    go_loopw [7,8] (fun nx i wy=>∃ n:Nat,n≤8∧i=.int .i64 ((n:Int)+1)∧nx=.int .i64 ((rk c n:Int)+1)∧Hid (RowI wy x1 (modT c (n+1)))∧Hid (Fr x1 wr wy)) (fun _ i _=>9 - (intOf i).toNat)
    case atStart=>exact ⟨0,by omega,rfl,by rw[show ((0:Nat):Int)=0 from rfl,rk_zero];rfl,HR1.out,Fr.refl _ _⟩
    case round=>
     clear HR1
     obtain ⟨n,hn,rfl,rfl,HRW,HFR⟩:=hrel
     have y5:=i5.fr HFR.out (by omega)
     have y1:=k1.fr HFR.out (by omega)
     have q5:=y5.cell
     have r5:=y5.frozen
     by_cases hlt:n<8
     ·have hni:(n:Int)+1≤8:=by omega
      have hni9:(n:Int)+1<9:=by omega
      have qc:wr.cell? ⟨w.heap.size+1,n+1,none⟩=some (.int .i64 (cl c ((n+1:Nat):Int))):=case_cell (y1.case HC.out.len) (by rw[HC.out.len];omega)
      have rc:=y1.frozen
      have HLE:=Lib.hid (HC.out.le (n+1) (by omega))
      have HID:=Lib.hid (HC.out.idem (n+1) (by omega))
      have HROOT:Hid (cl c ((n+1:Nat):Int)=((n+1:Nat):Int)→mval c ((n+1:Nat):Int)=(rk c (n:Int):Int)+1∧rk c ((n+1:Nat):Int)=rk c (n:Int)+1):=fun h=>by
       have:=mval_root (c:=c) (t:=n+1) (by omega) (by omega) h
       rw[show (((n+1:Nat):Int) - 1)=n from by omega] at this
       exact ⟨by rw[this.1];rfl,this.2⟩
      have HSAME:Hid (cl c ((n+1:Nat):Int)≠((n+1:Nat):Int)→rk c ((n+1:Nat):Int)=rk c (n:Int)):=fun h=>by
       have:=rk_same (c:=c) (t:=n+1) (by omega) (by omega) h
       rwa [show (((n+1:Nat):Int) - 1)=n from by omega] at this
      have HNONE:Hid (cl c ((n+1:Nat):Int)≤0→modT c (n+1+1)=modT c (n+1)):=fun h=>modT_keep c (by omega) (by omega) (mval_none h)
      have HOLD:Hid (∀ r:Nat,cl c ((n+1:Nat):Int)=r→cl c (r:Int)=r→mval c (r:Int)=mval c ((n+1:Nat):Int)):=fun r h h'=>mval_old h h'
      have HST:Hid (RowI (wr.setCell ⟨x1,n,none⟩ (.int .i64 (mval c ((n+1:Nat):Int)))) x1 (modT c (n+1+1))):=by
       have:=HRW.out.set_ n (mval c ((n+1:Nat):Int))
       rwa [show (modT c (n+1)).set n (mval c ((n+1:Nat):Int))=modT c (n+1+1) from modT_set c (t:=n+1) (by omega) (by omega)] at this
      have HF2:Hid (∀ v,Fr x1 _ (wr.setCell ⟨x1,n,none⟩ v)):=fun v=>HFR.out.set_ (p:=⟨x1,n,none⟩) (Or.inl rfl) v
      have qx:=HRW.out.cl (k:=n) (by rw[modT_len];exact hlt)
      have rx:=Blk.frozen HRW.out
      have lx:=Blk.lt HRW.out
      have hrk:rk c (n:Int)≤8:=rk_le _ _
      obtain ⟨x,hx⟩:∃ x,x=cl c ((n+1:Nat):Int):=⟨_,rfl⟩
      rw[←hx] at qc HLE HID HROOT HSAME HNONE HOLD
      generalize (rk c (n:Int))=R at HROOT HSAME hrk ⊢
      generalize (cl (modT c (n+1)) (n:Int))=y at qx
      clear hx
      by_cases hroot:x=(n:Int)+1
      ·have hb:(x == (n:Int)+1)=true:=by simpa using hroot
       have e1:=HROOT.out (by omega)
       rw[e1.1] at HST
       have HRK:=Lib.hid e1.2
       clear HROOT HSAME HNONE HOLD HID HLE e1 HRW HFR
       rw[hroot] at qc
       clear hroot hb
       go_wp2_with fail
       go_round
       case rel=>exact ⟨n+1,by omega,by go_num,by rw[HRK.out];go_num,HST.out,HF2.out _⟩
       case measure=>simp[intOf];omega
      ·have hb:(x == (n:Int)+1)=false:=by simpa using hroot
       have HRK:=Lib.hid (HSAME.out (by omega))
       clear HSAME HROOT
       by_cases hpos:0<x
       ·obtain ⟨r,rfl⟩:∃ r:Nat,x=(r:Int)+1:=⟨(x - 1).toNat,by omega⟩
        have hle:=HLE.out.2
        have hrn:r<n:=by omega
        have hid:=HID.out (by omega)
        have hold:=HOLD.out (r+1) (by omega) (by rw[show (((r+1:Nat):Int))=(r:Int)+1 from by omega];exact hid)
        have hcl:cl (modT c (n+1)) (r:Int)=mval c ((n+1:Nat):Int):=by
         rw[modT_cl c (by omega),if_pos (by omega)];exact hold
        have qv:=HRW.out.cl (k:=r) (by rw[modT_len];omega)
        rw[hcl] at qv
        have qv2:=HST.out.cl (k:=r) (by rw[modT_len];omega)
        rw[show cl (modT c (n+1+1)) (r:Int)=mval c ((n+1:Nat):Int) from by rw[modT_cl c (by omega),if_pos (by omega)];exact hold] at qv2
        have QV2:=Lib.hid qv2
        clear qv2
        have hr8:(r:Int)<8:=by omega
        have hn8:(n:Int)<8:=by omega
        have hrne:r≠n:=by omega
        have hn0:0≤(n:Int)+1:=by omega
        have hr0:0≤(r:Int)+1:=by omega
        have hn00:0≤(n:Int):=by omega
        have hr00:0≤(r:Int):=by omega
        have hwr:IntKind.i64.wrap (r:Int)=(r:Int):=IntWalk.i64_in _ (by omega)
        have hwn:IntKind.i64.wrap (n:Int)=(n:Int):=IntWalk.i64_in _ (by omega)
        generalize mval c ((n+1:Nat):Int)=m at HST qv QV2
        clear hcl hold hid HOLD HID HLE HNONE hroot hle HRW
        go_wp2_with fail
        refine wp_region_noPanic ?_
        refine wp_region_held_drew (S:=(fun w'=>(∀ i,w'.cell? ⟨x5,i,none⟩=#[.slice (some ⟨x1,0,none⟩) 8 8,.slice (some ⟨x2,0,none⟩) 8 8][i]?)∧w'.cell? ⟨w.heap.size+1,n+1,none⟩=some (.int .i64 ((r:Int)+1))∧w'.cell? ⟨x1,r,none⟩=some (.int .i64 m))) (by kernel_rfl) (⟨y5.drew.cell,qc,qv⟩) (fun hHeld=>?_)
        refine tk 0 ?_ rfl (fun w hSw=>?_) hHeld ?_
        rotate_left
        ·((try dsimp only at hSw);go_split_ands;go_simp;(try with_reducible rfl))
        try simp only[Act.put,zA,zB,zC,zD,zE,zF]
        refine tk 1 ?_ rfl (fun w hSw=>?_) hHeld ?_
        rotate_left
        ·((try dsimp only at hSw);go_split_ands;go_simp;(try with_reducible rfl))
        try simp only[Act.put,zA,zB,zC,zD,zE,zF]
        refine tk 2 ?_ rfl (fun w hSw=>?_) hHeld ?_
        rotate_left
        ·((try dsimp only at hSw);go_split_ands;go_simp;(try with_reducible rfl))
        try simp only[Act.put,zA,zB,zC,zD,zE,zF]
        refine tk 3 ?_ rfl (fun w hSw=>?_) hHeld ?_
        rotate_left
        ·((try dsimp only at hSw);go_split_ands;go_simp;(try with_reducible rfl))
        try simp only[Act.put,zA,zB,zC,zD,zE,zF]
        refine tk 4 ?_ rfl (fun w hSw=>?_) hHeld ?_
        rotate_left
        ·((try dsimp only at hSw);go_split_ands;go_simp;(try with_reducible rfl))
        try simp only[Act.put,zA,zB,zC,zD,zE,zF]
        refine tk 5 ?_ rfl (fun w hSw=>?_) hHeld ?_
        rotate_left
        ·((try dsimp only at hSw);go_split_ands;go_simp;(try with_reducible rfl))
        try simp only[Act.put,zA,zB,zC,zD,zE,zF]
        refine tk 6 ?_ rfl (fun w hSw=>?_) hHeld ?_
        rotate_left
        ·((try dsimp only at hSw);go_split_ands;go_simp;(try with_reducible rfl))
        try simp only[Act.put,zA,zB,zC,zD,zE,zF]
        refine tk 7 ?_ rfl (fun w hSw=>?_) hHeld ?_
        rotate_left
        ·((try dsimp only at hSw);go_split_ands;go_simp;(try with_reducible rfl))
        try simp only[Act.put,zA,zB,zC,zD,zE,zF]
        refine tk 8 ?_ rfl (fun w hSw=>?_) hHeld ?_
        rotate_left
        ·((try dsimp only at hSw);go_split_ands;go_simp;(try with_reducible rfl))
        try simp only[Act.put,zA,zB,zC,zD,zE,zF]
        refine tk 9 ?_ rfl (fun w hSw=>?_) hHeld ?_
        rotate_left
        ·((try dsimp only at hSw);go_split_ands;go_simp;(try with_reducible rfl))
        try simp only[Act.put,zA,zB,zC,zD,zE,zF]
        refine tk 10 ?_ rfl (fun w hSw=>?_) hHeld ?_
        rotate_left
        ·((try dsimp only at hSw);go_split_ands;go_simp;(try with_reducible rfl))
        try simp only[Act.put,zA,zB,zC,zD,zE,zF]
        refine tk 11 ?_ rfl (fun w hSw=>?_) hHeld ?_
        rotate_left
        ·((try dsimp only at hSw);go_split_ands;go_simp;(try with_reducible rfl))
        try simp only[Act.put,zA,zB,zC,zD,zE,zF]
        refine tk 12 ?_ rfl (fun w hSw=>?_) hHeld ?_
        rotate_left
        ·((try dsimp only at hSw);go_split_ands;go_simp;(try with_reducible rfl))
        try simp only[Act.put,zA,zB,zC,zD,zE,zF]
        refine rdc 13 rfl fun K hK=>?_
        try simp only[zA,zB,zC]
        go_simp
        refine hK.out _ _ (⟨(y5.drew.far (p:=⟨x1,n,none⟩) (by simp only;omega) _).cell,((y1.drew.far (p:=⟨x1,n,none⟩) (by simp only;omega) _).cell _).trans ((y1.cell _).symm.trans qc),QV2.out⟩) ?_
        clear hHeld hK K
        intro hHeld
        try simp only[Act.put,zA,zB,zC,zD,zE,zF]
        refine wpAnyH_done (by kernel_rfl) ?_ _
        refine NoPanic.normal ?_
        clear hwr hwn
        go_wp2_with fail
        go_round
        case rel=>exact ⟨n+1,by omega,by go_num,by rw[HRK.out],HST.out,(HF2.out _).drew⟩
        case measure=>simp[intOf];omega
       ·have e:=HNONE.out (by omega)
        have HN:Hid (RowI wr x1 (modT c (n+1+1))):=by show RowI _ _ _;rw[e];exact HRW.out
        clear e HNONE HOLD HID HLE hroot HRW
        go_wp2_with fail
        go_round
        case rel=>exact ⟨n+1,by omega,by go_num,by rw[HRK.out],HN.out,HFR.out⟩
        case measure=>simp[intOf];omega
     ·obtain rfl:n=8:=by omega
      rw[show ((8:Nat):Int)=8 from rfl]
      have HRV:Hid (RowI wr x1 (modV c)):=by show RowI _ _ _;rw[←modT_end];exact HRW.out
      have HRH:=Lib.hid (HR2.out.fr HFR.out (by omega))
      have HB3:Hid (Below w.heap.size w wr):=HB2.out.trans (HFR.out.below (by omega) (by omega))
      replace k0:=k0.fr HFR.out (by omega)
      replace k2:=k2.fr HFR.out (by omega)
      have hz3:=HFR.out.size
      have K1:=Lib.hid (y1.case HC.out.len)
      have l1b:=y1.lt
      clear HRW HFR HR2 HB2 i5 k1 y1
      (replace qk0:=k0.cell;replace rk0:=k0.frozen;replace lk0:=k0.lt)
      go_wp2_with fail
      refine (c_impl_filled A2 c2 a.atoms c (w.heap.size+1) _ (H2.out.below HB3.out) K1.out HC.out.len HOK.out.2).mono ?_
      rintro e w4 ⟨r4,rfl,o4,hB4⟩
      obtain ⟨A4,c4,rfl,f4⟩:=o4.reads
      have HLV:=Lib.hid f4
      replace HB3:=Lib.hid (bgo HB3.out hB4)
      replace HRV:=Lib.hid (Blk.next HRV.out hB4)
      replace HRH:=Lib.hid (Blk.next HRH.out hB4)
      replace k2:=k2.next hB4
      replace y5:=y5.next hB4
      have hz4:=hB4.size
      have hL:=f4.le
      clear o4 f4 hB4 k0 qk0 rk0 lk0 K1 q5 r5
      obtain ⟨L,hLe⟩:∃ L,L=filledL a.atoms c:=⟨_,rfl⟩
      have HLE:=Lib.hid hLe
      rw[←hLe] at HLV HF hL ⊢
      clear hLe
      go_wp2_with fail
      go_loopw [65] (fun i wr=>∃ k:Nat,k≤L.length∧i=.int .i64 k∧Hid (RowI wr x2 (heapS (modV c) blank8 (L.take k)))∧Hid (Fr x2 w4 wr)) (fun i _=>L.length - (intOf i).toNat)
      case atStart=>exact ⟨0,Nat.zero_le _,rfl,HRH.out,Fr.refl _ _⟩
      case round=>
       clear HRH
       obtain ⟨k,hk,rfl,HRW,HFR⟩:=hrel
       have i5:=y5.fr HFR.out (by omega)
       have hzr:=HFR.out.size
       by_cases hlt:k<L.length
       ·have hki:(k:Int)<(L.length:Int):=by omega
        have hlv:AtomsV wr _ _ A4 L:=⟨HLV.out.raw.fr HFR.out (Or.inl (by omega)),HLV.out.lim⟩
        obtain ⟨b,o,rfl,g0,g1,g2⟩:=hlv.at hlt
        have hbl:=block_lt_of_cell g0
        have HXF:=Lib.hid (HF.out _ (List.getElem_mem hlt))
        have HST:=Lib.hid (heapS_take (modV c) blank8 L hlt)
        obtain ⟨x,hx⟩:∃ x,x=L[k]:=⟨_,rfl⟩
        rw[←hx] at g0 g1 g2 HXF HST
        have hxa:=HXF.out.1
        have hxb:=HXF.out.2.1
        obtain ⟨m,hm⟩:∃ m:Nat,tval (modV c) x.a=(m:Int)+1:=⟨(tval (modV c) x.a - 1).toNat,by have:=HXF.out.2.2.1;omega⟩
        have hm8:m<8:=by have:=HXF.out.2.2.1;omega
        have hmi:(m:Int)<8:=by omega
        have hm0:0≤(m:Int):=by omega
        have hwm:IntKind.i64.wrap (m:Int)=(m:Int):=IntWalk.i64_in _ (by omega)
        have HM:=Lib.hid hm
        rw[hm,show ((m:Int)+1 - 1).toNat=m from by omega] at HST
        have HRV2:Hid (RowI (wr.alloc (.cells #[.int .i64 x.kind,.int .i64 x.a,.int .i64 x.b] tA)) x1 (modV c)):=Blk.alloc (HRV.out.fr HFR.out ne12) _
        have HRW2:Hid (RowI (wr.alloc (.cells #[.int .i64 x.kind,.int .i64 x.a,.int .i64 x.b] tA)) x2 (heapS (modV c) blank8 (L.take k))):=Blk.alloc HRW.out _
        have HF2:=Lib.hid (HFR.out.alloc (.cells #[.int .i64 x.kind,.int .i64 x.a,.int .i64 x.b] tA))
        have j5:=i5.alloc (.cells #[.int .i64 x.kind,.int .i64 x.a,.int .i64 x.b] tA)
        have kx:Blk (wr.alloc (.cells #[.int .i64 x.kind,.int .i64 x.a,.int .i64 x.b] tA)) wr.heap.size tA #[.int .i64 x.kind,.int .i64 x.a,.int .i64 x.b]:=Blk.new _ _ _
        have lx5:=i5.lt
        clear hx hm HXF HRW HFR
        go_wp2_with fail
        have l2x:=Blk.lt HRW2.out
        rw[World.size_alloc] at l2x
        have hxw:x2<wr.heap.size:=by have:=HF2.out.size;omega
        have qw:=HRW2.out.cl (k:=m) (by rw[heapS_len];exact hm8)
        have rw_:=Blk.frozen HRW2.out
        have lw:=Blk.lt HRW2.out
        generalize hX:wr.heap.size=X at kx hxw lx5 hbl ⊢
        clear hX
        generalize (wr.alloc (.cells #[.int .i64 x.kind,.int .i64 x.a,.int .i64 x.b] tA))=W5 at kx j5 HRV2 HRW2 HF2 qw rw_ lw ⊢
        refine wp_region_noPanic ?_
        refine wp_region_held_drew (S:=(fun w'=>(∀ i,w'.cell? ⟨x5,i,none⟩=#[.slice (some ⟨x1,0,none⟩) 8 8,.slice (some ⟨x2,0,none⟩) 8 8][i]?)∧(∀ i,w'.cell? ⟨X,i,none⟩=#[.int .i64 x.kind,.int .i64 x.a,.int .i64 x.b][i]?))) (by kernel_rfl) (⟨j5.drew.cell,kx.drew.cell⟩) (fun hHeld=>?_)
        refine tk 0 ?_ rfl (fun w hSw=>?_) hHeld ?_
        rotate_left
        ·((try dsimp only at hSw);go_split_ands;go_simp;(try with_reducible rfl))
        try simp only[Act.put,zA,zB,zC,zD,zE,zF]
        refine tk 1 ?_ rfl (fun w hSw=>?_) hHeld ?_
        rotate_left
        ·((try dsimp only at hSw);go_split_ands;go_simp;(try with_reducible rfl))
        try simp only[Act.put,zA,zB,zC,zD,zE,zF]
        refine tk 2 ?_ rfl (fun w hSw=>?_) hHeld ?_
        rotate_left
        ·((try dsimp only at hSw);go_split_ands;go_simp;(try with_reducible rfl))
        try simp only[Act.put,zA,zB,zC,zD,zE,zF]
        refine tk 3 ?_ rfl (fun w hSw=>?_) hHeld ?_
        rotate_left
        ·((try dsimp only at hSw);go_split_ands;go_simp;(try with_reducible rfl))
        try simp only[Act.put,zA,zB,zC,zD,zE,zF]
        refine tk 4 ?_ rfl (fun w hSw=>?_) hHeld ?_
        rotate_left
        ·((try dsimp only at hSw);go_split_ands;go_simp;(try with_reducible rfl))
        try simp only[Act.put,zA,zB,zC,zD,zE,zF]
        refine tk 5 ?_ rfl (fun w hSw=>?_) hHeld ?_
        rotate_left
        ·((try dsimp only at hSw);go_split_ands;go_simp;(try with_reducible rfl))
        try simp only[Act.put,zA,zB,zC,zD,zE,zF]
        refine tk 8 ?_ rfl (fun w hSw=>?_) hHeld ?_
        rotate_left
        ·((try dsimp only at hSw);go_split_ands;go_simp;(try with_reducible rfl))
        try simp only[Act.put,zA,zB,zC,zD,zE,zF]
        refine tk 9 ?_ rfl (fun w hSw=>?_) hHeld ?_
        rotate_left
        ·((try dsimp only at hSw);go_split_ands;go_simp;(try with_reducible rfl))
        try simp only[Act.put,zA,zB,zC,zD,zE,zF]
        refine tk 10 ?_ rfl (fun w hSw=>?_) hHeld ?_
        rotate_left
        ·((try dsimp only at hSw);go_split_ands;go_simp;(try with_reducible rfl))
        try simp only[Act.put,zA,zB,zC,zD,zE,zF]
        refine tk 11 ?_ rfl (fun w hSw=>?_) hHeld ?_
        rotate_left
        ·((try dsimp only at hSw);go_split_ands;go_simp;(try with_reducible rfl))
        try simp only[Act.put,zA,zB,zC,zD,zE,zF]
        refine rdc 6 rfl fun K hK=>?_
        try simp only[zA,zB,zC]
        (go_simp;refine (c_termV8 _ 8 (modV c) x.a _ (IntsV.below (RowI.toV HRV2.out (by rw[HMV.out.1];omega)) (Below.refl _ _).drew) HMV.out.1 hxa.1 hxa.2).mono ?_;rintro e w6 ⟨rfl,rfl⟩;rw[HM.out])
        refine hK.out _ _ (⟨j5.drew.cell,kx.drew.cell⟩) ?_
        clear hHeld hK K
        intro hHeld
        try simp only[Act.put,zA,zB,zC,zD,zE,zF]
        refine tk 7 ?_ rfl (fun w hSw=>?_) hHeld ?_
        rotate_left
        ·((try dsimp only at hSw);go_split_ands;go_simp;(try with_reducible rfl))
        try simp only[Act.put,zA,zB,zC,zD,zE,zF]
        refine rdc 12 rfl fun K hK=>?_
        try simp only[zA,zB,zC]
        (go_simp;refine (c_termV8 _ 8 (modV c) x.b _ (IntsV.below (RowI.toV HRV2.out (by rw[HMV.out.1];omega)) (Below.refl _ _).drew) HMV.out.1 hxb.1 hxb.2).mono ?_;rintro e w6 ⟨rfl,rfl⟩)
        refine hK.out _ _ (⟨j5.drew.cell,kx.drew.cell⟩) ?_
        clear hHeld hK K
        intro hHeld
        try simp only[Act.put,zA,zB,zC,zD,zE,zF]
        refine tk 13 ?_ rfl (fun w hSw=>?_) hHeld ?_
        rotate_left
        ·((try dsimp only at hSw);go_split_ands;go_simp;(try with_reducible rfl))
        try simp only[Act.put,zA,zB,zC,zD,zE,zF]
        refine rdc 14 rfl fun K hK=>?_
        try simp only[zA,zB,zC]
        go_simp
        refine hK.out _ _ (⟨(j5.drew.far (p:=⟨x2,m,none⟩) (by simp only;omega) _).cell,(kx.drew.far (p:=⟨x2,m,none⟩) (by simp only;omega) _).cell⟩) ?_
        clear hHeld hK K
        intro hHeld
        try simp only[Act.put,zA,zB,zC,zD,zE,zF]
        refine wpAnyH_done (by kernel_rfl) ?_ _
        refine NoPanic.normal ?_
        have HN:Hid (RowI (W5.setCell ⟨x2,m,none⟩ (.int .i64 (tval (modV c) x.b))).drew x2 (heapS (modV c) blank8 (L.take (k+1)))):=by
         show RowI _ _ _
         rw[HST.out]
         exact HRW2.out.set_ m _
        have HFN:=Lib.hid ((HF2.out.set_ (p:=⟨x2,m,none⟩) (Or.inl rfl) (.int .i64 (tval (modV c) x.b))).drew)
        clear qw rw_ lw hwm HRW2 HF2
        go_wp2_with fail
        go_round
        case rel=>exact ⟨k+1,by omega,by go_num,HN.out,HFN.out⟩
        case measure=>simp[intOf];omega
       ·obtain rfl:k=L.length:=by omega
        rw[List.take_length] at HRW
        have z2:=k2.fr HFR.out (by omega)
        have HRV3:=Lib.hid (HRV.out.fr HFR.out ne12)
        have HB5:Hid (Below w.heap.size w wr):=HB3.out.trans (HFR.out.below (by omega) (by omega))
        have HH8:Hid ((heapS (modV c) blank8 L).length=8):=heapS_len _ _ _
        have q5:=i5.cell
        have r5:=i5.frozen
        have q2:=z2.cell
        have r2:=z2.frozen
        have l2c:=z2.lt
        clear HFR
        go_wp2_with fail
        refine bodyPost_ret (v:=.agg #[.slice (some ⟨x1,0,none⟩) 8 8,.slice (some ⟨x2,0,none⟩) 8 8]) (by simp[results,Try.results27,go_sem,q2,l2c]) rfl ⟨_,rfl,⟨_,_,rfl,?_,?_,?_⟩,?_⟩
        ·exact RowI.toO (vs:=modV c) (Blk.far (Blk.far HRV3.out (p:=⟨w.heap.size+1+1,0,none⟩) (by simp only;omega) _) (p:=⟨w.heap.size+1+1,1,none⟩) (by simp only;omega) _) (by omega) HMV.out.1 (by omega)
        ·show IntsO _ _ _ (heapS (modV c) blank8 (filledL a.atoms c))
         rw[←HLE.out]
         exact RowI.toO (Blk.far (Blk.far HRW.out (p:=⟨w.heap.size+1+1,0,none⟩) (by simp only;omega) _) (p:=⟨w.heap.size+1+1,1,none⟩) (by simp only;omega) _) (by omega) HH8.out (by omega)
        ·intro g e1 e2
         simp only[Value.ownBlock,Option.some.injEq] at e1 e2
         omega
        ·exact (HB5.out.setCell (p:=⟨w.heap.size+1+1,0,none⟩) (by simp only;omega) _).setCell (p:=⟨w.heap.size+1+1,1,none⟩) (by simp only;omega) _
end Go.Proofs.Ytjjokmlmknllhaa

/- Matching filled atoms is covering: each atom of the goal by a chain of its own; coverings compose. Plain; no program. -/
namespace Go.Proofs.Ytjjokmlmknllhaa
open Go
def clsM (M:Int→Int) (x:Atm):Atm:=⟨x.kind,M x.a,M x.b⟩
def Clo (M:Int→Int) (F:List Atm) (q:Int):Prop:=q=M 0∨∃ y∈F,M y.a=q
def SegM (M:Int→Int) (F:List Atm) (q:Int):Int→List Atm→Prop
 | _,[]=>False
 | p,y :: ys=>M y.a=p∧((ys=[]∧M y.b=q)∨(ys≠[]∧M y.b≠q∧(y.kind=2→Clo M F q)∧SegM M F q (M y.b) ys))
def CovM (M:Int→Int) (F:List Atm) (x:Atm) (cs:List Atm):Prop:=if x.kind=1 then ∃ y,cs=[y]∧clsM M y=clsM M x else SegM M F (M x.b) (M x.a) cs
def Cover (M:Int→Int) (F G:List Atm):Prop:=∃ g:Atm→List Atm,(∀ x∈G,CovM M F x (g x))∧F.Perm (G.flatMap g)
def lft:List Atm→List Bool→List Atm
 | y :: F,u :: us=>if u then lft F us else y :: lft F us
 | _,_=>[]
theorem lft_take:∀ (F:List Atm) (used:List Bool) (k:Nat) (y:Atm),F[k]? = some y→used[k]? = some false→(lft F used).Perm (y :: lft F (used.set k true))
 | [],_,_,_,h,_=>by simp at h
 | _ :: _,[],_,_,_,h=>by simp at h
 | z :: F,u :: us,0,y,h1,h2=>by
  simp only[List.getElem?_cons_zero,Option.some.injEq] at h1 h2
  subst h1 h2
  simp[lft]
 | z :: F,u :: us,k+1,y,h1,h2=>by
  simp only[List.getElem?_cons_succ] at h1 h2
  have ih:=lft_take F us k y h1 h2
  rw[List.set_cons_succ]
  cases u
  ·simp only[lft,Bool.false_eq_true,if_false]
   exact (ih.cons z).trans (List.Perm.swap ..)
  ·simp only[lft,if_true]
   exact ih
theorem lft_rep:∀ (F:List Atm),lft F (List.replicate F.length false)=F
 | []=>rfl
 | y :: F=>by simp[lft,List.replicate_succ,lft_rep F]
theorem lft_nil:∀ (F:List Atm) (u:List Bool),u.length=F.length→(lft F u=[]↔u.all id=true)
 | [],[],_=>by simp[lft]
 | [],_ :: _,h=>by simp at h
 | _ :: _,[],h=>by simp at h
 | y :: F,u :: us,h=>by
  have:=lft_nil F us (by simpa using h)
  cases u
  ·simp[lft]
  ·simpa [lft] using this
theorem lft_mem:∀ (F:List Atm) (u:List Bool) (y:Atm),y∈lft F u→∃ k:Nat,F[k]? = some y∧u[k]? = some false
 | [],[],y,h=>by simp[lft] at h
 | [],_ :: _,y,h=>by simp[lft] at h
 | _ :: _,[],y,h=>by simp[lft] at h
 | z :: F,u :: us,y,h=>by
  have ih:=lft_mem F us y
  cases u
  ·simp only[lft,Bool.false_eq_true,if_false,List.mem_cons] at h
   rcases h with rfl|h
   ·exact ⟨0,by simp,by simp⟩
   ·obtain ⟨k,h1,h2⟩:=ih h
    exact ⟨k+1,by simpa using h1,by simpa using h2⟩
  ·simp only[lft,if_true] at h
   obtain ⟨k,h1,h2⟩:=ih h
   exact ⟨k+1,by simpa using h1,by simpa using h2⟩
section
variable {M:Int→Int} {F G H:List Atm}
theorem clo_iff (h0:M 0=0) (b:Int):closedB (F.map (clsM M)) b=true↔Clo M F b:=by
 unfold closedB Clo
 rw[Bool.or_eq_true,decide_eq_true_eq,List.any_eq_true,h0]
 constructor
 ·rintro (h|⟨x,hx,h⟩)
  ·exact .inl h
  ·obtain ⟨y,hy,rfl⟩:=List.mem_map.1 hx
   exact .inr ⟨y,hy,of_decide_eq_true h⟩
 ·rintro (h|⟨y,hy,h⟩)
  ·exact .inl h
  ·exact .inr ⟨_,List.mem_map.2 ⟨y,hy,rfl⟩,decide_eq_true h⟩
theorem find_at {used:List Bool} {c:Int} {k:Nat} (h:findU (F.map (clsM M)) used c=some k):∃ y,F[k]? = some y∧used[k]? = some false∧M y.a=c∧((F.map (clsM M))[k]?).getD default=clsM M y:=by
 obtain ⟨h1,h2⟩:=findU_some h
 have h3:=(freeAt_used h2).2
 rw[List.length_map] at h1
 refine ⟨F[k],List.getElem?_eq_getElem h1,h3,?_,by simp[List.getElem?_map,List.getElem?_eq_getElem h1]⟩
 unfold freeAt at h2
 rw[Bool.and_eq_true,decide_eq_true_eq] at h2
 have:=h2.1
 simpa [List.getElem?_map,List.getElem?_eq_getElem h1,clsM] using this
theorem chain_fwd (h0:M 0=0) {b:Int}:∀ (n:Nat) (used:List Bool) (c:Int) (u:List Bool),chainF (F.map (clsM M)) b n used c=some u→∃ cs,SegM M F b c cs∧(lft F used).Perm (cs++lft F u):=by
 intro n
 induction n with
 | zero=>intro used c u h;cases h
 | succ n ih=>
  intro used c u h
  unfold chainF at h
  rw[Option.bind_eq_some_iff] at h
  obtain ⟨k,hk,h⟩:=h
  obtain ⟨y,hy,hu,ha,e⟩:=find_at hk
  have hp:=lft_take F used k y hy hu
  rw[e] at h
  split at h
  ·rename_i hb
   obtain rfl:=Option.some.inj h
   exact ⟨[y],⟨ha,.inl ⟨rfl,hb⟩⟩,hp⟩
  ·rename_i hb
   split at h
   ·cases h
   ·rename_i hc
    obtain ⟨cs,h1,h2⟩:=ih _ _ _ h
    refine ⟨y :: cs,⟨ha,.inr ⟨fun e=>by rw[e] at h1;exact h1,hb,fun hk2=>?_,h1⟩⟩,hp.trans (h2.cons y)⟩
    rw[←clo_iff h0]
    cases hcb:closedB (F.map (clsM M)) b
    ·exact absurd ⟨hk2,hcb⟩ hc
    ·rfl
theorem nodup_at {α:Type} {l:List α} (h:l.Nodup) {i j:Nat} {x:α} (hi:l[i]? = some x) (hj:l[j]? = some x):i=j:=by
 obtain ⟨a1,a2⟩:=List.getElem?_eq_some_iff.1 hi
 obtain ⟨b1,b2⟩:=List.getElem?_eq_some_iff.1 hj
 have hp:=List.pairwise_iff_getElem.1 h
 rcases Nat.lt_trichotomy i j with h1|h1|h1
 ·exact absurd (a2.trans b2.symm) (hp i j a1 b1 h1)
 ·exact h1
 ·exact absurd (b2.trans a2.symm) (hp j i b1 a1 h1)
theorem find_free (hn:(F.map fun y=>M y.a).Nodup) {used:List Bool} {y:Atm} (hy:y∈lft F used):∃ k,findU (F.map (clsM M)) used (M y.a)=some k∧F[k]? = some y∧used[k]? = some false∧((F.map (clsM M))[k]?).getD default=clsM M y:=by
 obtain ⟨k,h1,h2⟩:=lft_mem F used y hy
 have hl:=(List.getElem?_eq_some_iff.1 h1).1
 refine ⟨k,?_,h1,h2,by simp[List.getElem?_map,h1]⟩
 unfold findU
 refine range_find_some (by simpa using hl) ?_ fun j hj=>?_
 ·unfold freeAt
  simp[List.getElem?_map,h1,h2,clsM]
 ·have hjl:j<F.length:=by omega
  unfold freeAt
  simp only[List.getElem?_map,List.getElem?_eq_getElem hjl,Option.map_some,Option.getD_some,clsM]
  rw[Bool.and_eq_false_iff]
  left
  rw[decide_eq_false_iff_not]
  intro e
  have:=nodup_at hn (i:=j) (j:=k) (x:=M y.a) (by simp[List.getElem?_map,List.getElem?_eq_getElem hjl,e]) (by simp[List.getElem?_map,h1])
  omega
theorem chain_bwd (h0:M 0=0) (hn:(F.map fun y=>M y.a).Nodup) {b:Int}:∀ (cs:List Atm) (n:Nat) (used:List Bool) (c:Int) (rest:List Atm),cs.length≤n→SegM M F b c cs→(lft F used).Perm (cs++rest)→∃ u,chainF (F.map (clsM M)) b n used c=some u∧(lft F u).Perm rest:=by
 intro cs
 induction cs with
 | nil=>intro n used c rest _ h;exact absurd h id
 | cons y cs ih=>
  intro n used c rest hl h hp
  obtain ⟨n,rfl⟩:∃ m,n=m+1:=⟨n - 1,by simp at hl;omega⟩
  obtain ⟨rfl,h⟩:=h
  obtain ⟨k,h1,h2,h3,h4⟩:=find_free (M:=M) hn (hp.mem_iff.2 (by simp:y∈y :: cs++rest))
  have hp2:(lft F (used.set k true)).Perm (cs++rest):=((lft_take F used k y h2 h3).symm.trans hp).cons_inv
  unfold chainF
  rw[h1,Option.bind_some,h4]
  rcases h with ⟨rfl,hb⟩|⟨hne,hb,hc,hs⟩
  ·rw[if_pos (show (clsM M y).b=b from hb)]
   exact ⟨_,rfl,hp2⟩
  ·rw[if_neg (show ¬(clsM M y).b=b from hb),if_neg]
   ·exact ih n _ _ rest (by simp at hl;omega) hs hp2
   ·rintro ⟨g1,g2⟩
    have:=(clo_iff h0 b).2 (hc g1)
    rw[g2] at this;cases this
def Covs (M:Int→Int) (F:List Atm):List Atm→List (List Atm)→Prop
 | [],[]=>True
 | x :: xs,cs :: css=>CovM M F x cs∧Covs M F xs css
 | _,_=>False
theorem cls_inj {y x:Atm} (h:clsM M y=clsM M x):y.kind=x.kind∧M y.a=M x.a∧M y.b=M x.b:=by
 simpa [clsM] using h
theorem match_fwd (h0:M 0=0):∀ (G:List Atm) (used u:List Bool),matchF (F.map (clsM M)) used (G.map (clsM M))=some u→∃ css,Covs M F G css∧(lft F used).Perm (css.flatten++lft F u)
 | [],used,u,h=>by
  obtain rfl:=Option.some.inj h
  exact ⟨[],trivial,by simp⟩
 | x :: G,used,u,h=>by
  simp only[List.map_cons,matchF,Option.bind_eq_some_iff] at h
  obtain ⟨u1,h1,h2⟩:=h
  obtain ⟨css,h3,h4⟩:=match_fwd h0 G u1 u h2
  have key:∃ cs,CovM M F x cs∧(lft F used).Perm (cs++lft F u1):=by
   unfold useOne at h1
   unfold CovM
   by_cases hk:x.kind=1
   ·rw[if_pos (show (clsM M x).kind=1 from hk)] at h1
    rw[Option.bind_eq_some_iff] at h1
    obtain ⟨k,hf,h1⟩:=h1
    obtain ⟨y,hy,hu,ha,e⟩:=find_at hf
    rw[e] at h1
    split at h1
    ·rename_i he
     obtain rfl:=Option.some.inj h1
     exact ⟨[y],by rw[if_pos hk];exact ⟨y,rfl,he⟩,lft_take F used k y hy hu⟩
    ·cases h1
   ·rw[if_neg (show ¬(clsM M x).kind=1 from hk)] at h1
    obtain ⟨cs,g1,g2⟩:=chain_fwd h0 _ _ _ _ h1
    exact ⟨cs,by rw[if_neg hk];exact g1,g2⟩
  obtain ⟨cs,g1,g2⟩:=key
  refine ⟨cs :: css,⟨g1,h3⟩,?_⟩
  rw[List.flatten_cons,List.append_assoc]
  exact g2.trans (h4.append_left cs)
theorem seg_head {q p:Int} {cs:List Atm} (h:SegM M F q p cs):∃ y ys,cs=y :: ys∧M y.a=p:=by
 cases cs with
 | nil=>exact absurd h id
 | cons y ys=>exact ⟨y,ys,rfl,h.1⟩
theorem cov_head {x:Atm} {cs:List Atm} (h:CovM M F x cs):∃ y ys,cs=y :: ys∧M y.a=M x.a:=by
 unfold CovM at h
 split at h
 ·obtain ⟨y,rfl,e⟩:=h
  exact ⟨y,[],rfl,(cls_inj e).2.1⟩
 ·exact seg_head h
theorem match_bwd (h0:M 0=0) (hn:(F.map fun y=>M y.a).Nodup):∀ (G:List Atm) (used:List Bool) (css:List (List Atm)) (rest:List Atm),Covs M F G css→(lft F used).Perm (css.flatten++rest)→css.flatten.length≤F.length→∃ u,matchF (F.map (clsM M)) used (G.map (clsM M))=some u∧(lft F u).Perm rest
 | [],used,[],rest,_,hp,_=>⟨used,rfl,by simpa using hp⟩
 | [],_,_ :: _,_,h,_,_=>absurd h id
 | _ :: _,_,[],_,h,_,_=>absurd h id
 | x :: G,used,cs :: css,rest,h,hp,hl=>by
  obtain ⟨h1,h2⟩:=h
  rw[List.flatten_cons,List.append_assoc] at hp
  rw[List.flatten_cons,List.length_append] at hl
  have key:∃ u1,useOne (F.map (clsM M)) used (clsM M x)=some u1∧(lft F u1).Perm (css.flatten++rest):=by
   unfold useOne
   unfold CovM at h1
   by_cases hk:x.kind=1
   ·rw[if_pos hk] at h1
    rw[if_pos (show (clsM M x).kind=1 from hk)]
    obtain ⟨y,rfl,e⟩:=h1
    obtain ⟨k,g1,g2,g3,g4⟩:=find_free (M:=M) hn (hp.mem_iff.2 (by simp:y∈[y]++(css.flatten++rest)))
    rw[show (clsM M x).a=M y.a from (cls_inj e).2.1.symm,g1,Option.bind_some,g4,if_pos e]
    exact ⟨_,rfl,((lft_take F used k y g2 g3).symm.trans hp).cons_inv⟩
   ·rw[if_neg hk] at h1
    rw[if_neg (show ¬(clsM M x).kind=1 from hk)]
    exact chain_bwd h0 hn cs _ used _ _ (by rw[List.length_map];omega) h1 hp
  obtain ⟨u1,g1,g2⟩:=key
  obtain ⟨u,g3,g4⟩:=match_bwd h0 hn G u1 css rest h2 g2 (by omega)
  refine ⟨u,?_,g4⟩
  simp only[List.map_cons,matchF]
  rw[g1,Option.bind_some]
  exact g3
theorem matchF_len:∀ (G:List Atm) (used u:List Bool),matchF F used G=some u→u.length=used.length
 | [],used,u,h=>by rw[←Option.some.inj h]
 | x :: G,used,u,h=>by
  simp only[matchF,Option.bind_eq_some_iff] at h
  obtain ⟨u1,h1,h2⟩:=h
  rw[matchF_len G u1 u h2,useOne_len h1]
theorem covs_starts:∀ (G:List Atm) (css:List (List Atm)),Covs M F G css→(G.map fun x=>M x.a).Sublist (css.flatten.map fun x=>M x.a)
 | [],[],_=>by simp
 | [],_ :: _,h=>absurd h id
 | _ :: _,[],h=>absurd h id
 | x :: G,cs :: css,h=>by
  have ih:=covs_starts G css h.2
  obtain ⟨y,ys,rfl,e⟩:=cov_head h.1
  simp only[List.map_cons,List.flatten_cons,List.cons_append,List.map_append]
  rw[e]
  exact List.Sublist.cons_cons _ (ih.trans (List.sublist_append_right _ _))
theorem covs_fun:∀ (G:List Atm) (css:List (List Atm)),Covs M F G css→(G.map fun x=>M x.a).Nodup→∃ g:Atm→List Atm,css.flatten=G.flatMap g∧∀ x∈G,CovM M F x (g x)
 | [],[],_,_=>⟨fun _=>[],by simp,by simp⟩
 | [],_ :: _,h,_=>absurd h id
 | _ :: _,[],h,_=>absurd h id
 | x :: G,cs :: css,h,hn=>by
  rw[List.map_cons,List.nodup_cons] at hn
  obtain ⟨g,h1,h2⟩:=covs_fun G css h.2 hn.2
  have hx:∀ y∈G,y≠x:=fun y hy e=>hn.1 (List.mem_map.2 ⟨y,hy,by rw[e]⟩)
  refine ⟨fun y=>if y=x then cs else g y,?_,fun y hy=>?_⟩
  ·rw[List.flatten_cons,List.flatMap_cons,if_pos rfl,h1]
   congr 1
   unfold List.flatMap
   congr 1
   exact List.map_congr_left fun y hy=>(if_neg (hx y hy)).symm
  ·show CovM M F y (if y=x then cs else g y)
   rcases List.mem_cons.1 hy with rfl|hy
   ·rw[if_pos rfl];exact h.1
   ·rw[if_neg (hx y hy)];exact h2 y hy
theorem covs_of_fun {g:Atm→List Atm}:∀ (G:List Atm),(∀ x∈G,CovM M F x (g x))→Covs M F G (G.map g)
 | [],_=>trivial
 | x :: G,h=>⟨h x List.mem_cons_self,covs_of_fun G fun y hy=>h y (List.mem_cons_of_mem _ hy)⟩
theorem match_iff (h0:M 0=0) (hn:(F.map fun y=>M y.a).Nodup):matchB (F.map (clsM M)) (G.map (clsM M))=true↔Cover M F G:=by
 unfold matchB
 rw[List.length_map]
 constructor
 ·intro h
  cases e:matchF (F.map (clsM M)) (List.replicate F.length false) (G.map (clsM M)) with
  | none=>rw[e] at h;cases h
  | some u=>
   rw[e] at h
   obtain ⟨css,h1,h2⟩:=match_fwd h0 G _ u e
   rw[lft_rep,(lft_nil F u (by rw[matchF_len _ _ _ e];simp)).2 h,List.append_nil] at h2
   have hs:=covs_starts G css h1
   obtain ⟨g,g1,g2⟩:=covs_fun G css h1 (((h2.map fun y=>M y.a).nodup_iff.1 hn).sublist hs)
   exact ⟨g,g2,by rw[←g1];exact h2⟩
 ·rintro ⟨g,h1,h2⟩
  obtain ⟨u,h3,h4⟩:=match_bwd h0 hn G (List.replicate F.length false) (G.map g) [] (covs_of_fun G h1) (by rw[lft_rep,List.append_nil,←List.flatMap_def];exact h2) (by rw[←List.flatMap_def,h2.length_eq];exact Nat.le_refl _)
  rw[h3]
  exact (lft_nil F u (by rw[matchF_len _ _ _ h3];simp)).1 (List.Perm.eq_nil h4)
/-! coverings compose -/
theorem cov_seg {x:Atm} {cs:List Atm} (h:CovM M F x cs):SegM M F (M x.b) (M x.a) cs:=by
 unfold CovM at h
 split at h
 ·obtain ⟨y,rfl,e⟩:=h
  exact ⟨(cls_inj e).2.1,.inl ⟨rfl,(cls_inj e).2.2⟩⟩
 ·exact h
theorem seg_append {q r:Int}:∀ (cs rest:List Atm) (p:Int),SegM M F r p cs→(∀ y∈cs,M y.b≠q)→(∀ y∈cs,y.kind=2→Clo M F q)→SegM M F q r rest→SegM M F q p (cs++rest)
 | [],_,_,h,_,_,_=>absurd h id
 | y :: cs,rest,p,h,h1,h2,h3=>by
  refine ⟨h.1,.inr ⟨?_,h1 y List.mem_cons_self,h2 y List.mem_cons_self,?_⟩⟩
  ·cases cs
   ·intro e
    have e:rest=[]:=e
    rw[e] at h3;exact h3
   ·simp
  ·rcases h.2 with ⟨rfl,e⟩|⟨-,-,-,hs⟩
   ·rw[e];exact h3
   ·exact seg_append cs rest _ hs (fun z hz=>h1 z (List.mem_cons_of_mem _ hz)) (fun z hz=>h2 z (List.mem_cons_of_mem _ hz)) h3
theorem seg_ends {r:Int}:∀ (cs:List Atm) (p:Int),SegM M F r p cs→∀ y∈cs,M y.b=r∨∃ z∈cs.tail,M z.a=M y.b
 | [],_,h,_,_=>absurd h id
 | y :: cs,p,h,z,hz=>by
  rcases List.mem_cons.1 hz with rfl|hz
  ·rcases h.2 with ⟨rfl,e⟩|⟨-,-,-,hs⟩
   ·exact .inl e
   ·obtain ⟨w,ws,rfl,e⟩:=seg_head hs
    exact .inr ⟨w,by simp,e⟩
  ·rcases h.2 with ⟨rfl,e⟩|⟨-,-,-,hs⟩
   ·cases hz
   ·rcases seg_ends cs _ hs z hz with h1|⟨w,hw,e⟩
    ·exact .inl h1
    ·exact .inr ⟨w,List.mem_of_mem_tail hw,e⟩
theorem flat_sublist {α β:Type} (g:α→List β):∀ (L:List α) (z:α),z∈L→(g z).Sublist (L.flatMap g)
 | [],_,h=>by cases h
 | y :: L,z,h=>by
  rw[List.flatMap_cons]
  rcases List.mem_cons.1 h with rfl|h
  ·exact List.sublist_append_left _ _
  ·exact (flat_sublist g L z h).trans (List.sublist_append_right _ _)
theorem flat_apart {α β γ:Type} (g:α→List β) (f:β→γ):∀ (L:List α),((L.flatMap g).map f).Nodup→∀ z∈L,∀ w∈L,z≠w→∀ x∈g z,∀ y∈g w,f x≠f y
 | [],_,_,h,_,_,_,_,_,_,_=>by cases h
 | v :: L,hn,z,hz,w,hw,hne,x,hx,y,hy=>by
  rw[List.flatMap_cons,List.map_append,List.nodup_append] at hn
  have hin:∀ (u:α) (t:β),u∈L→t∈g u→f t∈(L.flatMap g).map f:=fun u t hu ht=>List.mem_map.2 ⟨t,List.mem_flatMap.2 ⟨u,hu,ht⟩,rfl⟩
  rcases List.mem_cons.1 hz with rfl|hz1
  ·rcases List.mem_cons.1 hw with rfl|hw1
   ·exact absurd rfl hne
   ·exact hn.2.2 _ (List.mem_map.2 ⟨x,hx,rfl⟩) _ (hin w y hw1 hy)
  ·rcases List.mem_cons.1 hw with rfl|hw1
   ·exact fun e=>hn.2.2 _ (List.mem_map.2 ⟨y,hy,rfl⟩) _ (hin z x hz1 hx) e.symm
   ·exact flat_apart g f L hn.2.1 z hz1 w hw1 hne x hx y hy
theorem Cover.trans (h1:Cover M F G) (h2:Cover M G H) (hn:(F.map fun y=>M y.a).Nodup) (h0:∀ y∈F,M y.a≠M 0) (hG:∀ z∈G,z.kind=1∨z.kind=2):Cover M F H:=by
 obtain ⟨g,g1,g2⟩:=h1
 obtain ⟨d,d1,d2⟩:=h2
 have hgn:((G.flatMap g).map fun y=>M y.a).Nodup:=(g2.map fun y=>M y.a).nodup_iff.1 hn
 have hmem:∀ z∈G,∀ y∈g z,y∈F:=fun z hz y hy=>g2.mem_iff.2 (List.mem_flatMap.2 ⟨z,hz,hy⟩)
 have hclo:∀ q,Clo M G q→Clo M F q:=fun q h=>by
  rcases h with h|⟨w,hw,e⟩
  ·exact .inl h
  ·obtain ⟨y,ys,e1,e2⟩:=cov_head (g1 w hw)
   exact .inr ⟨y,hmem w hw y (by rw[e1];simp),e2.trans e⟩
 have hin:∀ x∈H,∀ z∈d x,z∈G:=fun x hx z hz=>d2.mem_iff.2 (List.mem_flatMap.2 ⟨x,hx,hz⟩)
 have hnot:∀ z∈G,∀ y∈(g z).tail,¬Clo M G (M y.a):=fun z hz y hy h=>by
  have hyz:=List.mem_of_mem_tail hy
  rcases h with h|⟨w,hw,e⟩
  ·exact h0 y (hmem z hz y hyz) h
  ·obtain ⟨y',ys,e1,e2⟩:=cov_head (g1 w hw)
   by_cases hzw:z=w
   ·subst hzw
    have:=hgn.sublist ((flat_sublist g G z hz).map fun y=>M y.a)
    rw[e1] at this hy
    rw[List.map_cons,List.nodup_cons] at this
    exact this.1 (List.mem_map.2 ⟨y,hy,by rw[e2,e]⟩)
   ·exact flat_apart g (fun y=>M y.a) G hgn z hz w hw hzw y hyz y' (by rw[e1];simp) (by rw[e2,e])
 have comp:∀ (q:Int) (ds:List Atm) (p:Int),SegM M G q p ds→(∀ z∈ds,z∈G)→SegM M F q p (ds.flatMap g):=by
  intro q ds
  induction ds with
  | nil=>intro p h;exact absurd h id
  | cons z ds ih=>
   intro p h hD
   have hz:=hD z List.mem_cons_self
   have hs:=cov_seg (g1 z hz)
   rw[List.flatMap_cons]
   obtain ⟨rfl,h⟩:=h
   rcases h with ⟨rfl,e⟩|⟨-,hb,hc,hr⟩
   ·rw[List.flatMap_nil,List.append_nil,←e];exact hs
   ·have hkind:∀ y∈g z,(g z).tail≠[]∨y.kind=2→Clo M G q:=fun y hy hor=>by
     have hcov:=g1 z hz
     unfold CovM at hcov
     by_cases hk:z.kind=1
     ·rw[if_pos hk] at hcov
      obtain ⟨y',e1,e2⟩:=hcov
      rw[e1] at hor hy
      rcases hor with h|h
      ·exact absurd rfl h
      ·rw[List.mem_singleton.1 hy] at h
       rw[(cls_inj e2).1,hk] at h
       exact absurd h (by decide)
     ·exact hc ((hG z hz).resolve_left hk)
    refine seg_append (g z) _ _ hs (fun y hy e=>?_) (fun y hy hk=>hclo _ (hkind y hy (.inr hk))) (ih _ hr fun w hw=>hD w (List.mem_cons_of_mem _ hw))
    rcases seg_ends _ _ hs y hy with e2|⟨y',hy',e2⟩
    ·exact hb (e2.symm.trans e)
    ·have:=hkind y hy (.inl fun h=>by rw[h] at hy';cases hy')
     rw[←e,←e2] at this
     exact hnot z hz y' hy' this
 refine ⟨fun x=>(d x).flatMap g,fun x hx=>?_,?_⟩
 ·have hd:=d1 x hx
  unfold CovM at hd ⊢
  by_cases hk:x.kind=1
  ·rw[if_pos hk] at hd ⊢
   obtain ⟨z,e1,e2⟩:=hd
   have hz:=hin x hx z (by rw[e1];simp)
   have hg:=g1 z hz
   unfold CovM at hg
   rw[if_pos ((cls_inj e2).1.trans hk)] at hg
   obtain ⟨y,e3,e4⟩:=hg
   exact ⟨y,by show List.flatMap g (d x)=_;rw[e1];simp[e3],e4.trans e2⟩
  ·rw[if_neg hk] at hd ⊢
   exact comp _ _ _ hd (hin x hx)
 ·refine g2.trans ?_
  have:=d2.flatMap_right g
  rw[List.flatMap_assoc] at this
  exact this
end
end Go.Proofs.Ytjjokmlmknllhaa
