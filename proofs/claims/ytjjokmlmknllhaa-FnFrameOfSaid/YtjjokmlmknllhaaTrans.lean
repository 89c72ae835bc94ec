/- Entailment in a valuation: what it means, that it composes, and that it preserves truth. Plain; no program. -/
import Derived.Test.YtjjokmlmknllhaaMCov
import Derived.Test.YtjjokmlmknllhaaMCaseP
set_option linter.unusedSimpArgs false
set_option linter.unusedVariables false
namespace Go.Proofs.Ytjjokmlmknllhaa
open Go Go.RowKit
def EntM (M:Int→Int) (a b:Asn):Prop:=(∀ f∈b.facts,decide (M f.a=M f.b)=f.eq)∧Cover M (a.atoms.filter (fillM M)) (b.atoms.filter (fillM M))
theorem entB_iff {a b:Asn} {c:List Int} (h0:cl c 0=0) (hs:Sat (cl c) a):entB a b c=true↔EntM (cl c) a b:=by
 unfold entB EntM
 have e:∀ xs:List Atm,filledL xs c=(xs.filter (fillM (cl c))).map (clsM (cl c)):=fun _=>rfl
 rw[Bool.and_eq_true,List.all_eq_true,e,e,match_iff h0 hs.apart]
 exact and_congr_left fun _=>forall_congr' fun f=>forall_congr' fun _=>by unfold Fct.fits;exact beq_iff_eq
section
variable {M N:Int→Int} {T:Int→Prop} {F G:List Atm}
theorem Clo.same (h0:T 0) (he:∀ s t,T s→T t→(M s=M t↔N s=N t)) {q:Int} (hF:∀ y∈F,T y.a∧T y.b) (hq:T q) (h:Clo M F (M q)):Clo N F (N q):=by
 rcases h with h|⟨y,hy,e⟩
 ·exact .inl ((he _ _ hq h0).1 h)
 ·exact .inr ⟨y,hy,(he _ _ (hF y hy).1 hq).1 e⟩
theorem SegM.same (h0:T 0) (he:∀ s t,T s→T t→(M s=M t↔N s=N t)) (hF:∀ y∈F,T y.a∧T y.b) {q:Int} (hq:T q):∀ (cs:List Atm) (p:Int),T p→(∀ y∈cs,y∈F)→SegM M F (M q) (M p) cs→SegM N F (N q) (N p) cs
 | [],_,_,_,h=>absurd h id
 | y :: cs,p,hp,hm,h=>by
  have hy:=hF y (hm y List.mem_cons_self)
  refine ⟨(he _ _ hy.1 hp).1 h.1,?_⟩
  rcases h.2 with ⟨e,hb⟩|⟨hne,hb,hc,hs⟩
  ·exact .inl ⟨e,(he _ _ hy.2 hq).1 hb⟩
  ·exact .inr ⟨hne,fun e=>hb ((he _ _ hy.2 hq).2 e),fun hk=>(hc hk).same h0 he hF hq,SegM.same h0 he hF hq cs y.b hy.2 (fun z hz=>hm z (List.mem_cons_of_mem _ hz)) hs⟩
theorem Cover.same (h0:T 0) (he:∀ s t,T s→T t→(M s=M t↔N s=N t)) (hF:∀ y∈F,T y.a∧T y.b) (hG:∀ y∈G,T y.a∧T y.b) (h:Cover M F G):Cover N F G:=by
 obtain ⟨g,h1,h2⟩:=h
 refine ⟨g,fun x hx=>?_,h2⟩
 have hm:∀ y∈g x,y∈F:=fun y hy=>h2.mem_iff.2 (List.mem_flatMap.2 ⟨x,hx,hy⟩)
 have hc:=h1 x hx
 unfold CovM at hc ⊢
 split
 ·rename_i hk
  rw[if_pos hk] at hc
  obtain ⟨y,e,e2⟩:=hc
  have hy:=hF y (hm y (by rw[e];simp))
  obtain ⟨e3,e4,e5⟩:=cls_inj e2
  refine ⟨y,e,?_⟩
  unfold clsM
  rw[e3,(he _ _ hy.1 (hG x hx).1).1 e4,(he _ _ hy.2 (hG x hx).2).1 e5]
 ·rename_i hk
  rw[if_neg hk] at hc
  exact SegM.same h0 he hF (hG x hx).2 _ _ (hG x hx).1 hm hc
theorem fill_same (he:∀ s t,T s→T t→(M s=M t↔N s=N t)) {xs:List Atm} (hx:∀ y∈xs,T y.a∧T y.b):xs.filter (fillM M)=xs.filter (fillM N):=by
 refine List.filter_congr fun y hy=>?_
 unfold fillM
 rw[decide_eq_decide.2 (he _ _ (hx y hy).1 (hx y hy).2)]
theorem EntM.same {a b:Asn} (h0:T 0) (he:∀ s t,T s→T t→(M s=M t↔N s=N t)) (ha:∀ y∈a.atoms,T y.a∧T y.b) (hb:∀ y∈b.atoms,T y.a∧T y.b) (hf:∀ f∈b.facts,T f.a∧T f.b) (h:EntM M a b):EntM N a b:=by
 refine ⟨fun f hm=>?_,?_⟩
 ·rw[←h.1 f hm,decide_eq_decide]
  exact (he _ _ (hf f hm).1 (hf f hm).2).symm
 ·rw[←fill_same he ha,←fill_same he hb]
  exact h.2.same h0 he (fun y hy=>ha y (List.mem_filter.1 hy).1) (fun y hy=>hb y (List.mem_filter.1 hy).1)
end
theorem termsL_atm {a:Asn} {x:Atm} (hx:x∈a.atoms):x.a∈termsL a∧x.b∈termsL a:=by
 simp only[termsL,List.mem_append,List.mem_flatMap]
 exact ⟨.inr ⟨x,hx,by simp[atomT]⟩,.inr ⟨x,hx,by simp[atomT]⟩⟩
theorem ent_all {a b:Asn} (ha:a.valid=true) (hb:b.valid=true):(∀ c∈cases a (caseS a (tset (termsL b))),entB a b c=true)↔∀ M,Sat M a→EntM M a b:=by
 have h0:=caseS_zero a (tset (termsL b))
 constructor
 ·intro h M hM
  have hc:=sat_case ha h0 (caseS_terms ha _) hM
  have h1:=(entB_iff (case_zero h0 hc) (case_sat ha h0 hc)).1 (h _ hc)
  have hTa:∀ t∈termsL a,(0≤t∧t≤8)∧(caseS a (tset (termsL b))).testBit t.toNat=true:=fun t ht=>⟨isTermB_iff.1 (termsL_ok ha t ht),caseS_terms ha _ t ht⟩
  have hTb:∀ t∈termsL b,(0≤t∧t≤8)∧(caseS a (tset (termsL b))).testBit t.toNat=true:=fun t ht=>by
   have h8:=isTermB_iff.1 (termsL_ok hb t ht)
   refine ⟨h8,?_⟩
   have:(tset (termsL b)).testBit t.toNat=true:=by
    rw[tset_bit,Int.toNat_of_nonneg h8.1]
    simp only[decide_eq_true_eq]
    exact ⟨termsL_ok hb t ht,ht⟩
   rw[caseS_bit,this];simp
  exact h1.same (T:=fun t=>(0≤t∧t≤8)∧(caseS a (tset (termsL b))).testBit t.toNat=true) ⟨⟨by omega,by omega⟩,h0⟩ (fun s t hs ht=>cl_canon_eq hs ht)
   (fun y hy=>⟨hTa _ (termsL_atm hy).1,hTa _ (termsL_atm hy).2⟩) (fun y hy=>⟨hTb _ (termsL_atm hy).1,hTb _ (termsL_atm hy).2⟩) (fun f hf=>⟨hTb _ (termsL_facts hf).1,hTb _ (termsL_facts hf).2⟩)
 ·intro h c hc
  have hs:=case_sat ha h0 hc
  exact (entB_iff (case_zero h0 hc) hs).2 (h _ hs)
theorem valid_kind {a:Asn} (h:a.valid=true) {x:Atm} (hx:x∈a.atoms):x.kind=1∨x.kind=2:=by
 simp only[Asn.valid,Bool.and_eq_true] at h
 have:=List.all_eq_true.1 h.2.2 x hx
 simp[Atm.valid] at this
 exact this.1.1
section
variable {M:Int→Int} {a b c:Asn}
theorem EntM.trans (h1:EntM M a b) (h2:EntM M b c) (ha:Sat M a) (hb:b.valid=true):EntM M a c:=
 ⟨h2.1,h1.2.trans h2.2 ha.apart (fun y hy=>ha.nil y (List.mem_filter.1 hy).1 (List.mem_filter.1 hy).2) fun z hz=>valid_kind hb (List.mem_filter.1 hz).1⟩
theorem Cover.perm {F G:List Atm} (h:F.Perm G):Cover M F G:=by
 refine ⟨fun x=>[x],fun x hx=>?_,by simpa using h⟩
 unfold CovM
 split
 ·exact ⟨x,rfl,rfl⟩
 ·exact ⟨rfl,.inl ⟨rfl,rfl⟩⟩
theorem EntM.refl (ha:Sat M a):EntM M a a:=⟨ha.facts,Cover.perm (List.Perm.refl _)⟩
end
/-! truth in states -/
def cellsOf (s:Ste) (x:Atm):List Int:=(atomCells s x).getD []
theorem parts_iff {s:Ste}:∀ (xs:List Atm) (seen out:List Int),seen.Nodup→(partAtoms s seen xs=some out↔(∀ x∈xs,atomCells s x=some (cellsOf s x))∧out=seen++xs.flatMap (cellsOf s)∧out.Nodup)
 | [],seen,out,hn=>by
  simp only[partAtoms,Option.some.injEq,List.not_mem_nil,false_implies,implies_true,List.flatMap_nil,List.append_nil,true_and]
  exact ⟨fun h=>⟨h.symm,h▸hn⟩,fun h=>h.1.symm⟩
 | x :: xs,seen,out,hn=>by
  simp only[partAtoms,Option.bind_eq_some_iff,List.forall_mem_cons,List.flatMap_cons]
  constructor
  ·rintro ⟨cs,h1,seen',h2,h3⟩
   have e:=addAll_mem _ _ _ h2
   have hn':=addAll_spec _ _ _ h2 hn
   obtain ⟨g1,g2,g3⟩:=(parts_iff xs seen' out hn').1 h3
   have hc:cellsOf s x=cs:=by unfold cellsOf;rw[h1];rfl
   exact ⟨⟨by rw[hc];exact h1,g1⟩,by rw[g2,e,hc,List.append_assoc],g3⟩
  ·rintro ⟨⟨h1,g1⟩,g2,g3⟩
   rw[g2,←List.append_assoc] at g3
   have hn':(seen++cellsOf s x).Nodup:=(List.nodup_append.1 g3).1
   exact ⟨_,h1,_,addAll_some _ _ hn',(parts_iff xs _ out hn').2 ⟨g1,by rw[g2,List.append_assoc],by rw[g2,←List.append_assoc];exact g3⟩⟩
theorem walk_fuel {h:List Int}:∀ (n:Nat) (x tz0:Int) (cs:List Int),walkF h n x tz0=some cs→cs.length≤n∧∀ m,cs.length≤m→walkF h m x tz0=some cs
 | 0,x,tz0,cs,hw=>by
  rw[walkF] at hw
  split at hw
  ·rename_i e
   obtain rfl:=Option.some.inj hw
   subst e
   exact ⟨Nat.le_refl _,fun m _=>walkF_here h m x⟩
  ·cases hw
 | n+1,x,tz0,cs,hw=>by
  rw[walkF] at hw
  split at hw
  ·rename_i e
   obtain rfl:=Option.some.inj hw
   subst e
   exact ⟨by simp,fun m _=>walkF_here h m x⟩
  ·rename_i hne
   split at hw
   ·rename_i ha
    obtain ⟨ds,hd,rfl⟩:=Option.map_eq_some_iff.1 hw
    obtain ⟨g1,g2⟩:=walk_fuel n _ _ _ hd
    refine ⟨by simpa using g1,fun m hm=>?_⟩
    obtain ⟨m,rfl⟩:∃ k,m=k+1:=⟨m - 1,by simp at hm;omega⟩
    rw[walkF,if_neg hne,if_pos ha,g2 m (by simpa using hm)];rfl
   ·cases hw
theorem walk_append {h:List Int} {r q:Int} {ds:List Int} {m:Nat} (h2:walkF h m r q=some ds):∀ (n:Nat) (p:Int) (cs:List Int),walkF h n p r=some cs→q∉cs→walkF h (n+m) p q=some (cs++ds)
 | 0,p,cs,h1,hq=>by
  rw[walkF] at h1
  split at h1
  ·rename_i e
   obtain rfl:=Option.some.inj h1
   rw[e,Nat.zero_add];exact h2
  ·cases h1
 | n+1,p,cs,h1,hq=>by
  rw[walkF] at h1
  split at h1
  ·rename_i e
   obtain rfl:=Option.some.inj h1
   rw[e]
   have:=walk_fuel _ _ _ _ h2
   exact this.2 _ (by omega)
  ·split at h1
   ·rename_i ha
    obtain ⟨es,he,rfl⟩:=Option.map_eq_some_iff.1 h1
    rw[show n+1+m=(n+m)+1 by omega,walkF,if_neg (fun e=>hq (by rw[←e];exact List.mem_cons_self)),if_pos ha,walk_append h2 n _ es he fun hm=>hq (List.mem_cons_of_mem _ hm)]
    rfl
   ·cases h1
theorem unfilled {s:Ste} {x:Atm} (hk:x.kind=1∨x.kind=2) (hf:fillM (tval s.values) x=false):atomCells s x=some []:=by
 unfold fillM at hf
 rw[Bool.or_eq_false_iff] at hf
 have h1:x.kind=2:=hk.resolve_left (of_decide_eq_false hf.1)
 have h2:tval s.values x.a=tval s.values x.b:=by simpa using hf.2
 unfold atomCells
 rw[if_pos h1,h2,walkF_here]
theorem flat_fill {s:Ste}:∀ (xs:List Atm),(∀ x∈xs,x.kind=1∨x.kind=2)→xs.flatMap (cellsOf s)=(xs.filter (fillM (tval s.values))).flatMap (cellsOf s)
 | [],_=>rfl
 | x :: xs,h=>by
  have ih:=flat_fill (s:=s) xs fun y hy=>h y (List.mem_cons_of_mem _ hy)
  rw[List.flatMap_cons,ih]
  cases hf:fillM (tval s.values) x
  ·rw[List.filter_cons_of_neg (by simp[hf])]
   have:cellsOf s x=[]:=by unfold cellsOf;rw[unfilled (h x List.mem_cons_self) hf];rfl
   rw[this];rfl
  ·rw[List.filter_cons_of_pos hf,List.flatMap_cons]
theorem addr_len {out:List Int} (hn:out.Nodup) (h:∀ c∈out,addrB c=true):out.length≤8:=by
 have:=nodup_le (m:=[1,2,3,4,5,6,7,8]) hn fun x hx=>by
  have:=h x hx
  simp only[addrB,decide_eq_true_eq] at this
  obtain h|h|h|h|h|h|h|h:x=1∨x=2∨x=3∨x=4∨x=5∨x=6∨x=7∨x=8:=by omega
  all_goals simp[h]
 simpa using this
theorem seg_walk {s:Ste} (hs:s.valid=true) {F:List Atm} (hc:∀ y∈F,atomCells s y=some (cellsOf s y)) (hn:(F.flatMap (cellsOf s)).Nodup) (hk:∀ y∈F,y.kind=1∨y.kind=2) (hfl:∀ y∈F,fillM (tval s.values) y=true) {q:Int} :
  ∀ (cs:List Atm) (p:Int),SegM (tval s.values) F q p cs→p≠q→(∀ y∈cs,y∈F)→∃ n,walkF s.heap n p q=some (cs.flatMap (cellsOf s))
 | [],_,h,_,_=>absurd h id
 | y :: cs,p,h,hne,hm=>by
  have hy:=hm y List.mem_cons_self
  have hcy:=hc y hy
  obtain ⟨rfl,h⟩:=h
  have hone:∃ n,walkF s.heap n (tval s.values y.a) (tval s.values y.b)=some (cellsOf s y)∨(y.kind=1∧cellsOf s y=[tval s.values y.a]∧cont s.heap (tval s.values y.a)=tval s.values y.b):=by
   unfold atomCells at hcy
   split at hcy
   ·exact ⟨8,.inl hcy⟩
   ·rename_i h2
    split at hcy
    ·rename_i h3
     exact ⟨0,.inr ⟨(hk y hy).resolve_right h2,(Option.some.inj hcy).symm,h3⟩⟩
    ·cases hcy
  have hal:∀ c∈cellsOf s y,addrB c=true∧allocB s.heap c=true:=(atomCells_addr hs hcy).2
  have hstep:∀ (e:tval s.values y.b≠q∨tval s.values y.b=q) (ds:List Int) (m:Nat),walkF s.heap m (tval s.values y.b) q=some ds→(q∉cellsOf s y)→∃ n,walkF s.heap n (tval s.values y.a) q=some (cellsOf s y++ds):=fun _ ds m hw hq=>by
   obtain ⟨n,h1|⟨hk1,e1,e2⟩⟩:=hone
   ·exact ⟨_,walk_append hw n _ _ h1 hq⟩
   ·refine ⟨m+1,?_⟩
    have ha:allocB s.heap (tval s.values y.a)=true:=(hal _ (by rw[e1];simp)).2
    rw[walkF,if_neg hne,if_pos ha,e2,hw,e1];rfl
  rcases h with ⟨rfl,e⟩|⟨-,hb,hclo,hr⟩
  ·rw[List.flatMap_cons,List.flatMap_nil]
   obtain ⟨n,h1|⟨hk1,e1,e2⟩⟩:=hone
   ·exact ⟨n,by rw[List.append_nil,←e];exact h1⟩
   ·refine ⟨1,?_⟩
    have ha:allocB s.heap (tval s.values y.a)=true:=(hal _ (by rw[e1];simp)).2
    rw[walkF,if_neg hne,if_pos ha,e2,e,walkF_here,e1];rfl
  ·obtain ⟨m,hw⟩:=seg_walk hs hc hn hk hfl cs _ hr hb fun z hz=>hm z (List.mem_cons_of_mem _ hz)
   rw[List.flatMap_cons]
   refine hstep (.inl hb) _ m hw fun hq=>?_
   rcases hk y hy with hk1|hk2
   ·obtain ⟨n,h1|⟨-,e1,-⟩⟩:=hone
    ·have:cellsOf s y=[tval s.values y.a]:=by
      unfold atomCells at hcy
      rw[if_neg (by omega)] at hcy
      split at hcy
      ·exact (Option.some.inj hcy).symm
      ·cases hcy
     rw[this,List.mem_singleton] at hq
     exact hne hq.symm
    ·rw[e1,List.mem_singleton] at hq
     exact hne hq.symm
   ·rcases hclo hk2 with h|⟨w,hw,e⟩
    ·have:=(hal q hq).1
     have e0:tval s.values 0=0:=rfl
     rw[h,e0] at this
     simp[addrB] at this
    ·by_cases hyw:y=w
     ·exact hne (by rw[hyw];exact e)
     ·have hqw:q∈cellsOf s w:=by rw[←e];exact head_cells hs (hk w hw) (hc w hw) (hfl w hw)
      have hn':((F.flatMap (cellsOf s)).map fun x=>x).Nodup:=by simpa using hn
      exact flat_apart (cellsOf s) (fun x=>x) F hn' y hy w hw hyw q hq q hqw rfl
theorem snd_part {s:Ste} {a b:Asn} {out:List Int} (h:partOf s a=some out) (he:EntM (tval s.values) a b) (hb:b.valid=true):∃ out',partOf s b=some out'∧out'.Perm out:=by
 obtain ⟨h1,h2,h3,h4⟩:=partOf_some.1 h
 obtain ⟨g1,g2,g3⟩:=(parts_iff _ _ _ List.nodup_nil).1 h4
 rw[List.nil_append] at g2
 have hka:∀ x∈a.atoms,x.kind=1∨x.kind=2:=fun x hx=>valid_kind h2 hx
 have hkb:∀ x∈b.atoms,x.kind=1∨x.kind=2:=fun x hx=>valid_kind hb hx
 rw[flat_fill _ hka] at g2
 obtain ⟨hf,g,hg,hp⟩:=he
 have hFc:∀ y∈a.atoms.filter (fillM (tval s.values)),atomCells s y=some (cellsOf s y):=fun y hy=>g1 y (List.mem_filter.1 hy).1
 have hFk:∀ y∈a.atoms.filter (fillM (tval s.values)),y.kind=1∨y.kind=2:=fun y hy=>hka y (List.mem_filter.1 hy).1
 have hFn:((a.atoms.filter (fillM (tval s.values))).flatMap (cellsOf s)).Nodup:=by rw[←g2];exact g3
 have hadd:∀ c∈out,addrB c=true:=fun c hc=>((partOf_spec h).2 c hc).1
 have hfilled:∀ x∈b.atoms.filter (fillM (tval s.values)),atomCells s x=some ((g x).flatMap (cellsOf s)):=fun x hx=>by
  have hx':=List.mem_filter.1 hx
  have hsub:∀ y∈g x,y∈a.atoms.filter (fillM (tval s.values)):=fun y hy=>hp.mem_iff.2 (List.mem_flatMap.2 ⟨x,hx,hy⟩)
  have hc:=hg x hx
  unfold CovM at hc
  split at hc
  ·rename_i hk
   obtain ⟨y,e1,e2⟩:=hc
   obtain ⟨e3,e4,e5⟩:=cls_inj e2
   rw[e1]
   simp only[List.flatMap_cons,List.flatMap_nil,List.append_nil]
   rw[←hFc y (hsub y (by rw[e1];simp))]
   unfold atomCells
   rw[e3,e4,e5]
  ·rename_i hk
   have hk2:x.kind=2:=(hkb x hx'.1).resolve_left hk
   have hne:tval s.values x.a≠tval s.values x.b:=fun e=>by
    have:=hx'.2
    unfold fillM at this
    rw[decide_eq_false hk,decide_eq_true e] at this
    cases this
   obtain ⟨n,hw⟩:=seg_walk h1 hFc hFn hFk (fun y hy=>(List.mem_filter.1 hy).2) _ _ hc hne hsub
   unfold atomCells
   rw[if_pos hk2]
   refine (walk_fuel _ _ _ _ hw).2 8 ?_
   have hsl:=flat_sublist (fun x=>(g x).flatMap (cellsOf s)) _ x hx
   rw[←List.flatMap_assoc] at hsl
   have hpp:=(hp.flatMap_right (cellsOf s))
   refine addr_len ((hpp.nodup_iff.1 hFn).sublist hsl) fun c hcm=>hadd c ?_
   rw[g2]
   exact hpp.mem_iff.2 (hsl.subset hcm)
 have hall:∀ x∈b.atoms,atomCells s x=some (cellsOf s x):=fun x hx=>by
  unfold cellsOf
  cases hfx:fillM (tval s.values) x
  ·rw[unfilled (hkb x hx) hfx];rfl
  ·rw[hfilled x (List.mem_filter.2 ⟨hx,hfx⟩)];rfl
 have e:b.atoms.flatMap (cellsOf s)=((b.atoms.filter (fillM (tval s.values))).flatMap g).flatMap (cellsOf s):=by
  rw[flat_fill _ hkb,List.flatMap_assoc]
  unfold List.flatMap
  congr 1
  refine List.map_congr_left fun x hx=>?_
  show cellsOf s x=(g x).flatMap (cellsOf s)
  unfold cellsOf
  rw[hfilled x hx];rfl
 have hpp:=(hp.flatMap_right (cellsOf s)).symm
 rw[←e,←g2] at hpp
 refine ⟨b.atoms.flatMap (cellsOf s),partOf_some.2 ⟨h1,hb,?_,(parts_iff _ _ _ List.nodup_nil).2 ⟨hall,by simp,hpp.nodup_iff.2 g3⟩⟩,hpp⟩
 simp only[factsHold,Bool.and_eq_true] at h3 ⊢
 refine ⟨⟨Asn.valid_facts hb,h3.1.2⟩,List.all_eq_true.2 fun f hm=>?_⟩
 unfold Fct.holds
 rw[beq_iff_eq]
 exact hf f hm
theorem snd_holds {s:Ste} {a b:Asn} (h:holdsF s a=true) (he:EntM (tval s.values) a b) (hb:b.valid=true):holdsF s b=true:=by
 obtain ⟨out,h1,h2⟩:=holds_iff.1 h
 obtain ⟨out',h3,h4⟩:=snd_part h1 he hb
 exact holds_iff.2 ⟨out',h3,fun c hc=>h4.mem_iff.2 (h2 c hc)⟩
theorem ent_holds {s:Ste} {a b:Asn} (ha:a.valid=true) (hb:b.valid=true) (he:∀ x∈cases a (caseS a (tset (termsL b))),entB a b x=true) (h:holdsF s a=true):holdsF s b=true:=by
 obtain ⟨out,h1,-⟩:=holds_iff.1 h
 exact snd_holds h ((ent_all ha hb).1 he _ (part_sat h1)) hb
end Go.Proofs.Ytjjokmlmknllhaa
