/- Entailment in a valuation: what it means, that it composes, and that it preserves truth. Plain; no program. -/
import Derived.Test.YtmcgbeladjlcpaaGreatMCaseP
import Derived.IntWalk
set_option linter.unusedSimpArgs false
set_option linter.unusedVariables false
set_option maxRecDepth 100000
set_option maxHeartbeats 25600000
namespace Go.Proofs.YtmcgbeladjlcpaaGreat
section
open Go Go.RowKit
def EntM (M:Int→Int) (a b:Asn):Prop:=(∀ f∈b.facts,decide (M f.a=M f.b)=f.eq)∧Cover M (a.atoms.filter (fillM M)) (b.atoms.filter (fillM M))
section
variable {M N:Int→Int} {T:Int→Prop} {F G:List Atm}
theorem Clo.same (h0:T 0) (he:∀ s t,T s→T t→(M s=M t↔N s=N t)) {q:Int} (hF:∀ y∈F,T y.a∧T y.b) (hq:T q) (h:Clo M F (M q)):Clo N F (N q):=by
 rcases h with h|⟨y,hy,e⟩
 ·exact .inl ((he _ _ hq h0).1 h)
 ·exact .inr ⟨y,hy,(he _ _ (hF y hy).1 hq).1 e⟩
theorem SegM.same (h0:T 0) (he:∀ s t,T s→T t→(M s=M t↔N s=N t)) (hF:∀ y∈F,T y.a∧T y.b) {q:Int} (hq:T q):∀ (cs:List Atm) (p:Int),T p→(∀ y∈cs,y∈F)→SegM M F (M q) (M p) cs→SegM N F (N q) (N p) cs
 | [],_,_,_,h=>absurd h id
 | y :: cs,p,hp,hm,h=>by
  have hy:=hF y (hm y List.mem_cons_self)
  refine ⟨(he _ _ hy.1 hp).1 h.1,?_⟩
  rcases h.2 with ⟨e,hb⟩|⟨hne,hb,hc,hs⟩
  ·exact .inl ⟨e,(he _ _ hy.2 hq).1 hb⟩
  ·exact .inr ⟨hne,fun e=>hb ((he _ _ hy.2 hq).2 e),fun hk=>(hc hk).same h0 he hF hq,SegM.same h0 he hF hq cs y.b hy.2 (fun z hz=>hm z (List.mem_cons_of_mem _ hz)) hs⟩
theorem Cover.same (h0:T 0) (he:∀ s t,T s→T t→(M s=M t↔N s=N t)) (hF:∀ y∈F,T y.a∧T y.b) (hG:∀ y∈G,T y.a∧T y.b) (h:Cover M F G):Cover N F G:=by
 obtain ⟨g,h1,h2⟩:=h
 refine ⟨g,fun x hx=>?_,h2⟩
 have hm:∀ y∈g x,y∈F:=fun y hy=>h2.mem_iff.2 (List.mem_flatMap.2 ⟨x,hx,hy⟩)
 have hc:=h1 x hx
 unfold CovM at hc ⊢
 split
 ·rename_i hk
  rw[if_pos hk] at hc
  obtain ⟨y,e,e2⟩:=hc
  have hy:=hF y (hm y (by rw[e];simp))
  obtain ⟨e3,e4,e5⟩:=cls_inj e2
  refine ⟨y,e,?_⟩
  unfold clsM
  rw[e3,(he _ _ hy.1 (hG x hx).1).1 e4,(he _ _ hy.2 (hG x hx).2).1 e5]
 ·rename_i hk
  rw[if_neg hk] at hc
  exact SegM.same h0 he hF (hG x hx).2 _ _ (hG x hx).1 hm hc
theorem fill_same (he:∀ s t,T s→T t→(M s=M t↔N s=N t)) {xs:List Atm} (hx:∀ y∈xs,T y.a∧T y.b):xs.filter (fillM M)=xs.filter (fillM N):=by
 refine List.filter_congr fun y hy=>?_
 unfold fillM
 rw[decide_eq_decide.2 (he _ _ (hx y hy).1 (hx y hy).2)]
theorem EntM.same {a b:Asn} (h0:T 0) (he:∀ s t,T s→T t→(M s=M t↔N s=N t)) (ha:∀ y∈a.atoms,T y.a∧T y.b) (hb:∀ y∈b.atoms,T y.a∧T y.b) (hf:∀ f∈b.facts,T f.a∧T f.b) (h:EntM M a b):EntM N a b:=by
 refine ⟨fun f hm=>?_,?_⟩
 ·rw[←h.1 f hm,decide_eq_decide]
  exact (he _ _ (hf f hm).1 (hf f hm).2).symm
 ·rw[←fill_same he ha,←fill_same he hb]
  exact h.2.same h0 he (fun y hy=>ha y (List.mem_filter.1 hy).1) (fun y hy=>hb y (List.mem_filter.1 hy).1)
end
theorem termsL_atm {a:Asn} {x:Atm} (hx:x∈a.atoms):x.a∈termsL a∧x.b∈termsL a:=by
 simp only[termsL,List.mem_append,List.mem_flatMap]
 exact ⟨.inr ⟨x,hx,by simp[atomT]⟩,.inr ⟨x,hx,by simp[atomT]⟩⟩
theorem valid_kind {a:Asn} (h:a.valid=true) {x:Atm} (hx:x∈a.atoms):x.kind=1∨x.kind=2:=by
 simp only[Asn.valid,Bool.and_eq_true] at h
 have:=List.all_eq_true.1 h.2.2 x hx
 simp[Atm.valid] at this
 exact this.1.1
section
variable {M:Int→Int} {a b c:Asn}
theorem EntM.sat (h:EntM M a b) (ha:Sat M a):Sat M b:=by
 refine ⟨h.1,fun x hx hf=>?_,h.2.starts ha.apart⟩
 obtain ⟨g,h1,h2⟩:=h.2
 have hx':x∈b.atoms.filter (fillM M):=List.mem_filter.2 ⟨hx,hf⟩
 obtain ⟨y,ys,e1,e2⟩:=cov_head (h1 x hx')
 have hy:y∈a.atoms.filter (fillM M):=h2.mem_iff.2 (List.mem_flatMap.2 ⟨x,hx',by rw[e1];simp⟩)
 rw[List.mem_filter] at hy
 rw[←e2]
 exact ha.nil y hy.1 hy.2
theorem EntM.trans (h1:EntM M a b) (h2:EntM M b c) (ha:Sat M a) (hb:b.valid=true):EntM M a c:=
 ⟨h2.1,h1.2.trans h2.2 ha.apart (fun y hy=>ha.nil y (List.mem_filter.1 hy).1 (List.mem_filter.1 hy).2) fun z hz=>valid_kind hb (List.mem_filter.1 hz).1⟩
theorem Cover.perm {F G:List Atm} (h:F.Perm G):Cover M F G:=by
 refine ⟨fun x=>[x],fun x hx=>?_,by simpa using h⟩
 unfold CovM
 split
 ·exact ⟨x,rfl,rfl⟩
 ·exact ⟨rfl,.inl ⟨rfl,rfl⟩⟩
theorem EntM.refl (ha:Sat M a):EntM M a a:=⟨ha.facts,Cover.perm (List.Perm.refl _)⟩
end
/-! truth in states -/
def cellsOf (s:Ste) (x:Atm):List Int:=(atomCells s x).getD []
theorem parts_iff {s:Ste}:∀ (xs:List Atm) (seen out:List Int),seen.Nodup→(partAtoms s seen xs=some out↔(∀ x∈xs,atomCells s x=some (cellsOf s x))∧out=seen++xs.flatMap (cellsOf s)∧out.Nodup)
 | [],seen,out,hn=>by
  simp only[partAtoms,Option.some.injEq,List.not_mem_nil,false_implies,implies_true,List.flatMap_nil,List.append_nil,true_and]
  exact ⟨fun h=>⟨h.symm,h▸hn⟩,fun h=>h.1.symm⟩
 | x :: xs,seen,out,hn=>by
  simp only[partAtoms,Option.bind_eq_some_iff,List.forall_mem_cons,List.flatMap_cons]
  constructor
  ·rintro ⟨cs,h1,seen',h2,h3⟩
   have e:=addAll_mem _ _ _ h2
   have hn':=addAll_spec _ _ _ h2 hn
   obtain ⟨g1,g2,g3⟩:=(parts_iff xs seen' out hn').1 h3
   have hc:cellsOf s x=cs:=by unfold cellsOf;rw[h1];rfl
   exact ⟨⟨by rw[hc];exact h1,g1⟩,by rw[g2,e,hc,List.append_assoc],g3⟩
  ·rintro ⟨⟨h1,g1⟩,g2,g3⟩
   rw[g2,←List.append_assoc] at g3
   have hn':(seen++cellsOf s x).Nodup:=(List.nodup_append.1 g3).1
   exact ⟨_,h1,_,addAll_some _ _ hn',(parts_iff xs _ out hn').2 ⟨g1,by rw[g2,List.append_assoc],by rw[g2,←List.append_assoc];exact g3⟩⟩
theorem walk_fuel {h:List Int}:∀ (n:Nat) (x tz0:Int) (cs:List Int),walkF h n x tz0=some cs→cs.length≤n∧∀ m,cs.length≤m→walkF h m x tz0=some cs
 | 0,x,tz0,cs,hw=>by
  rw[walkF] at hw
  split at hw
  ·rename_i e
   obtain rfl:=Option.some.inj hw
   subst e
   exact ⟨Nat.le_refl _,fun m _=>walkF_here h m x⟩
  ·cases hw
 | n+1,x,tz0,cs,hw=>by
  rw[walkF] at hw
  split at hw
  ·rename_i e
   obtain rfl:=Option.some.inj hw
   subst e
   exact ⟨by simp,fun m _=>walkF_here h m x⟩
  ·rename_i hne
   split at hw
   ·rename_i ha
    obtain ⟨ds,hd,rfl⟩:=Option.map_eq_some_iff.1 hw
    obtain ⟨g1,g2⟩:=walk_fuel n _ _ _ hd
    refine ⟨by simpa using g1,fun m hm=>?_⟩
    obtain ⟨m,rfl⟩:∃ k,m=k+1:=⟨m - 1,by simp at hm;omega⟩
    rw[walkF,if_neg hne,if_pos ha,g2 m (by simpa using hm)];rfl
   ·cases hw
theorem walk_append {h:List Int} {r q:Int} {ds:List Int} {m:Nat} (h2:walkF h m r q=some ds):∀ (n:Nat) (p:Int) (cs:List Int),walkF h n p r=some cs→q∉cs→walkF h (n+m) p q=some (cs++ds)
 | 0,p,cs,h1,hq=>by
  rw[walkF] at h1
  split at h1
  ·rename_i e
   obtain rfl:=Option.some.inj h1
   rw[e,Nat.zero_add];exact h2
  ·cases h1
 | n+1,p,cs,h1,hq=>by
  rw[walkF] at h1
  split at h1
  ·rename_i e
   obtain rfl:=Option.some.inj h1
   rw[e]
   have:=walk_fuel _ _ _ _ h2
   exact this.2 _ (by omega)
  ·split at h1
   ·rename_i ha
    obtain ⟨es,he,rfl⟩:=Option.map_eq_some_iff.1 h1
    rw[show n+1+m=(n+m)+1 by omega,walkF,if_neg (fun e=>hq (by rw[←e];exact List.mem_cons_self)),if_pos ha,walk_append h2 n _ es he fun hm=>hq (List.mem_cons_of_mem _ hm)]
    rfl
   ·cases h1
theorem unfilled {s:Ste} {x:Atm} (hk:x.kind=1∨x.kind=2) (hf:fillM (tval s.values) x=false):atomCells s x=some []:=by
 unfold fillM at hf
 rw[Bool.or_eq_false_iff] at hf
 have h1:x.kind=2:=hk.resolve_left (of_decide_eq_false hf.1)
 have h2:tval s.values x.a=tval s.values x.b:=by simpa using hf.2
 unfold atomCells
 rw[if_pos h1,h2,walkF_here]
theorem flat_fill {s:Ste}:∀ (xs:List Atm),(∀ x∈xs,x.kind=1∨x.kind=2)→xs.flatMap (cellsOf s)=(xs.filter (fillM (tval s.values))).flatMap (cellsOf s)
 | [],_=>rfl
 | x :: xs,h=>by
  have ih:=flat_fill (s:=s) xs fun y hy=>h y (List.mem_cons_of_mem _ hy)
  rw[List.flatMap_cons,ih]
  cases hf:fillM (tval s.values) x
  ·rw[List.filter_cons_of_neg (by simp[hf])]
   have:cellsOf s x=[]:=by unfold cellsOf;rw[unfilled (h x List.mem_cons_self) hf];rfl
   rw[this];rfl
  ·rw[List.filter_cons_of_pos hf,List.flatMap_cons]
theorem addr_len {out:List Int} (hn:out.Nodup) (h:∀ c∈out,addrB c=true):out.length≤8:=by
 have:=nodup_le (m:=[1,2,3,4,5,6,7,8]) hn fun x hx=>by
  have:=h x hx
  simp only[addrB,decide_eq_true_eq] at this
  obtain h|h|h|h|h|h|h|h:x=1∨x=2∨x=3∨x=4∨x=5∨x=6∨x=7∨x=8:=by omega
  all_goals simp[h]
 simpa using this
theorem seg_walk {s:Ste} (hs:s.valid=true) {F:List Atm} (hc:∀ y∈F,atomCells s y=some (cellsOf s y)) (hn:(F.flatMap (cellsOf s)).Nodup) (hk:∀ y∈F,y.kind=1∨y.kind=2) (hfl:∀ y∈F,fillM (tval s.values) y=true) {q:Int} :
  ∀ (cs:List Atm) (p:Int),SegM (tval s.values) F q p cs→p≠q→(∀ y∈cs,y∈F)→∃ n,walkF s.heap n p q=some (cs.flatMap (cellsOf s))
 | [],_,h,_,_=>absurd h id
 | y :: cs,p,h,hne,hm=>by
  have hy:=hm y List.mem_cons_self
  have hcy:=hc y hy
  obtain ⟨rfl,h⟩:=h
  have hone:∃ n,walkF s.heap n (tval s.values y.a) (tval s.values y.b)=some (cellsOf s y)∨(y.kind=1∧cellsOf s y=[tval s.values y.a]∧cont s.heap (tval s.values y.a)=tval s.values y.b):=by
   unfold atomCells at hcy
   split at hcy
   ·exact ⟨8,.inl hcy⟩
   ·rename_i h2
    split at hcy
    ·rename_i h3
     exact ⟨0,.inr ⟨(hk y hy).resolve_right h2,(Option.some.inj hcy).symm,h3⟩⟩
    ·cases hcy
  have hal:∀ c∈cellsOf s y,addrB c=true∧allocB s.heap c=true:=(atomCells_addr hs hcy).2
  have hstep:∀ (e:tval s.values y.b≠q∨tval s.values y.b=q) (ds:List Int) (m:Nat),walkF s.heap m (tval s.values y.b) q=some ds→(q∉cellsOf s y)→∃ n,walkF s.heap n (tval s.values y.a) q=some (cellsOf s y++ds):=fun _ ds m hw hq=>by
   obtain ⟨n,h1|⟨hk1,e1,e2⟩⟩:=hone
   ·exact ⟨_,walk_append hw n _ _ h1 hq⟩
   ·refine ⟨m+1,?_⟩
    have ha:allocB s.heap (tval s.values y.a)=true:=(hal _ (by rw[e1];simp)).2
    rw[walkF,if_neg hne,if_pos ha,e2,hw,e1];rfl
  rcases h with ⟨rfl,e⟩|⟨-,hb,hclo,hr⟩
  ·rw[List.flatMap_cons,List.flatMap_nil]
   obtain ⟨n,h1|⟨hk1,e1,e2⟩⟩:=hone
   ·exact ⟨n,by rw[List.append_nil,←e];exact h1⟩
   ·refine ⟨1,?_⟩
    have ha:allocB s.heap (tval s.values y.a)=true:=(hal _ (by rw[e1];simp)).2
    rw[walkF,if_neg hne,if_pos ha,e2,e,walkF_here,e1];rfl
  ·obtain ⟨m,hw⟩:=seg_walk hs hc hn hk hfl cs _ hr hb fun z hz=>hm z (List.mem_cons_of_mem _ hz)
   rw[List.flatMap_cons]
   refine hstep (.inl hb) _ m hw fun hq=>?_
   rcases hk y hy with hk1|hk2
   ·obtain ⟨n,h1|⟨-,e1,-⟩⟩:=hone
    ·have:cellsOf s y=[tval s.values y.a]:=by
      unfold atomCells at hcy
      rw[if_neg (by omega)] at hcy
      split at hcy
      ·exact (Option.some.inj hcy).symm
      ·cases hcy
     rw[this,List.mem_singleton] at hq
     exact hne hq.symm
    ·rw[e1,List.mem_singleton] at hq
     exact hne hq.symm
   ·rcases hclo hk2 with h|⟨w,hw,e⟩
    ·have:=(hal q hq).1
     have e0:tval s.values 0=0:=rfl
     rw[h,e0] at this
     simp[addrB] at this
    ·by_cases hyw:y=w
     ·exact hne (by rw[hyw];exact e)
     ·have hqw:q∈cellsOf s w:=by rw[←e];exact head_cells hs (hk w hw) (hc w hw) (hfl w hw)
      have hn':((F.flatMap (cellsOf s)).map fun x=>x).Nodup:=by simpa using hn
      exact flat_apart (cellsOf s) (fun x=>x) F hn' y hy w hw hyw q hq q hqw rfl
theorem snd_part {s:Ste} {a b:Asn} {out:List Int} (h:partOf s a=some out) (he:EntM (tval s.values) a b) (hb:b.valid=true):∃ out',partOf s b=some out'∧out'.Perm out:=by
 obtain ⟨h1,h2,h3,h4⟩:=partOf_some.1 h
 obtain ⟨g1,g2,g3⟩:=(parts_iff _ _ _ List.nodup_nil).1 h4
 rw[List.nil_append] at g2
 have hka:∀ x∈a.atoms,x.kind=1∨x.kind=2:=fun x hx=>valid_kind h2 hx
 have hkb:∀ x∈b.atoms,x.kind=1∨x.kind=2:=fun x hx=>valid_kind hb hx
 rw[flat_fill _ hka] at g2
 obtain ⟨hf,g,hg,hp⟩:=he
 have hFc:∀ y∈a.atoms.filter (fillM (tval s.values)),atomCells s y=some (cellsOf s y):=fun y hy=>g1 y (List.mem_filter.1 hy).1
 have hFk:∀ y∈a.atoms.filter (fillM (tval s.values)),y.kind=1∨y.kind=2:=fun y hy=>hka y (List.mem_filter.1 hy).1
 have hFn:((a.atoms.filter (fillM (tval s.values))).flatMap (cellsOf s)).Nodup:=by rw[←g2];exact g3
 have hadd:∀ c∈out,addrB c=true:=fun c hc=>((partOf_spec h).2 c hc).1
 have hfilled:∀ x∈b.atoms.filter (fillM (tval s.values)),atomCells s x=some ((g x).flatMap (cellsOf s)):=fun x hx=>by
  have hx':=List.mem_filter.1 hx
  have hsub:∀ y∈g x,y∈a.atoms.filter (fillM (tval s.values)):=fun y hy=>hp.mem_iff.2 (List.mem_flatMap.2 ⟨x,hx,hy⟩)
  have hc:=hg x hx
  unfold CovM at hc
  split at hc
  ·rename_i hk
   obtain ⟨y,e1,e2⟩:=hc
   obtain ⟨e3,e4,e5⟩:=cls_inj e2
   rw[e1]
   simp only[List.flatMap_cons,List.flatMap_nil,List.append_nil]
   rw[←hFc y (hsub y (by rw[e1];simp))]
   unfold atomCells
   rw[e3,e4,e5]
  ·rename_i hk
   have hk2:x.kind=2:=(hkb x hx'.1).resolve_left hk
   have hne:tval s.values x.a≠tval s.values x.b:=fun e=>by
    have:=hx'.2
    unfold fillM at this
    rw[decide_eq_false hk,decide_eq_true e] at this
    cases this
   obtain ⟨n,hw⟩:=seg_walk h1 hFc hFn hFk (fun y hy=>(List.mem_filter.1 hy).2) _ _ hc hne hsub
   unfold atomCells
   rw[if_pos hk2]
   refine (walk_fuel _ _ _ _ hw).2 8 ?_
   have hsl:=flat_sublist (fun x=>(g x).flatMap (cellsOf s)) _ x hx
   rw[←List.flatMap_assoc] at hsl
   have hpp:=(hp.flatMap_right (cellsOf s))
   refine addr_len ((hpp.nodup_iff.1 hFn).sublist hsl) fun c hcm=>hadd c ?_
   rw[g2]
   exact hpp.mem_iff.2 (hsl.subset hcm)
 have hall:∀ x∈b.atoms,atomCells s x=some (cellsOf s x):=fun x hx=>by
  unfold cellsOf
  cases hfx:fillM (tval s.values) x
  ·rw[unfilled (hkb x hx) hfx];rfl
  ·rw[hfilled x (List.mem_filter.2 ⟨hx,hfx⟩)];rfl
 have e:b.atoms.flatMap (cellsOf s)=((b.atoms.filter (fillM (tval s.values))).flatMap g).flatMap (cellsOf s):=by
  rw[flat_fill _ hkb,List.flatMap_assoc]
  unfold List.flatMap
  congr 1
  refine List.map_congr_left fun x hx=>?_
  show cellsOf s x=(g x).flatMap (cellsOf s)
  unfold cellsOf
  rw[hfilled x hx];rfl
 have hpp:=(hp.flatMap_right (cellsOf s)).symm
 rw[←e,←g2] at hpp
 refine ⟨b.atoms.flatMap (cellsOf s),partOf_some.2 ⟨h1,hb,?_,(parts_iff _ _ _ List.nodup_nil).2 ⟨hall,by simp,hpp.nodup_iff.2 g3⟩⟩,hpp⟩
 simp only[factsHold,Bool.and_eq_true] at h3 ⊢
 refine ⟨⟨Asn.valid_facts hb,h3.1.2⟩,List.all_eq_true.2 fun f hm=>?_⟩
 unfold Fct.holds
 rw[beq_iff_eq]
 exact hf f hm
theorem snd_holds {s:Ste} {a b:Asn} (h:holdsF s a=true) (he:EntM (tval s.values) a b) (hb:b.valid=true):holdsF s b=true:=by
 obtain ⟨out,h1,h2⟩:=holds_iff.1 h
 obtain ⟨out',h3,h4⟩:=snd_part h1 he hb
 exact holds_iff.2 ⟨out',h3,fun c hc=>h4.mem_iff.2 (h2 c hc)⟩
end

/- The model of a case: values and heap; it holds and has that case. Plain; no program. -/
section
open Go Go.RowKit

theorem cont_set8 {h : List Int} (hl : h.length = 8) {m n : Int} (hm : addrB m = true) (hn : addrB n = true) (v : Int) : cont (h.set (m - 1).toNat v) n = if n = m then v else cont h n := by
  unfold cont
  rw [if_pos hn, if_pos hn]
  simp only [addrB, decide_eq_true_eq] at hm hn
  by_cases e : n = m
  · subst e
    rw [if_pos rfl, List.getElem?_set_self (by omega)]; rfl
  · rw [if_neg e, List.getElem?_set_ne (by omega)]
def heapS (vs : List Int) (h : List Int) (xs : List Atm) : List Int := xs.foldl (fun h x => h.set (tval vs x.a - 1).toNat (tval vs x.b)) h
def blank8 : List Int := List.replicate 8 (-1)
theorem heapS_spec {vs : List Int} : ∀ (xs : List Atm) (h : List Int), h.length = 8 → (xs.map fun x => tval vs x.a).Nodup → (∀ x ∈ xs, addrB (tval vs x.a) = true) →
    (heapS vs h xs).length = 8 ∧ (∀ x ∈ xs, cont (heapS vs h xs) (tval vs x.a) = tval vs x.b) ∧ (∀ n, addrB n = true → (∀ x ∈ xs, tval vs x.a ≠ n) → cont (heapS vs h xs) n = cont h n) := by
  intro xs
  induction xs with
  | nil => intro h hl _ _; exact ⟨hl, fun x hx => (by cases hx), fun _ _ _ => rfl⟩
  | cons x xs ih =>
    intro h hl hn ha
    rw [List.map_cons, List.nodup_cons] at hn
    have hax := ha x List.mem_cons_self
    obtain ⟨g1, g2, g3⟩ := ih (h.set (tval vs x.a - 1).toNat (tval vs x.b)) (by simpa using hl) hn.2 fun y hy => ha y (List.mem_cons_of_mem _ hy)
    refine ⟨g1, fun y hy => ?_, fun n hn2 hne => ?_⟩
    · rcases List.mem_cons.1 hy with rfl | hy
      · show cont (heapS vs (h.set _ _) xs) _ = _
        rw [g3 _ hax fun z hz e => hn.1 (List.mem_map.2 ⟨z, hz, e⟩), cont_set8 hl hax hax, if_pos rfl]
      · exact g2 y hy
    · show cont (heapS vs (h.set _ _) xs) _ = _
      rw [g3 n hn2 fun z hz => hne z (List.mem_cons_of_mem _ hz), cont_set8 hl hax hn2, if_neg (fun e => hne x List.mem_cons_self e.symm)]
theorem heapS_cells {vs : List Int} (hv : vs.all valB = true) : ∀ (xs : List Atm) (h : List Int), h.all cellB = true → (heapS vs h xs).all cellB = true := by
  intro xs
  induction xs with
  | nil => intro h hh; exact hh
  | cons x xs ih =>
    intro h hh
    refine ih _ (List.all_eq_true.2 fun y hy => ?_)
    rcases List.mem_or_eq_of_mem_set hy with hy | rfl
    · exact List.all_eq_true.1 hh y hy
    · have := tval_le hv x.b
      simp [cellB, valB]; omega
theorem cont_blank {n : Int} : cont blank8 n = -1 := by
  unfold cont
  split
  · rename_i h
    simp only [addrB, decide_eq_true_eq] at h
    unfold blank8
    rw [List.getElem?_replicate, if_pos (by omega)]; rfl
  · rfl
theorem one_cell {vs : List Int} (hl : vs.length = 8) (hv : vs.all valB = true) {a : Asn} (ha : a.valid = true) (hs : Sat (tval vs) a) :
    holdsF ⟨vs, heapS vs blank8 (a.atoms.filter (fillM (tval vs)))⟩ a = true := by
  have hk : ∀ x ∈ a.atoms, x.kind = 1 ∨ x.kind = 2 := fun x hx => by
    have hv := ha
    simp only [Asn.valid, Bool.and_eq_true] at hv
    have := List.all_eq_true.1 hv.2.2 x hx
    simp [Atm.valid] at this
    exact this.1.1
  have hadd : ∀ x ∈ a.atoms.filter (fillM (tval vs)), addrB (tval vs x.a) = true := fun x hx => by
    rw [List.mem_filter] at hx
    have h1 := hs.nil x hx.1 hx.2
    have h2 := tval_le hv x.a
    have e0 : tval vs 0 = 0 := rfl
    rw [e0] at h1
    simp only [addrB, decide_eq_true_eq]
    omega
  obtain ⟨g1, g2, g3⟩ := heapS_spec _ blank8 rfl hs.apart hadd
  generalize hh : heapS vs blank8 (a.atoms.filter (fillM (tval vs))) = h at g1 g2 g3
  have hcell : h.all cellB = true := by rw [← hh]; exact heapS_cells hv _ _ (by decide)
  have hstep : ∀ x ∈ a.atoms, atomCells ⟨vs, h⟩ x = some (if fillM (tval vs) x then [tval vs x.a] else []) := fun x hx => by
    cases hf : fillM (tval vs) x
    · rw [if_neg (by decide)]
      unfold fillM at hf
      rw [Bool.or_eq_false_iff] at hf
      have h1 : x.kind = 2 := by rcases hk x hx with h | h; · rw [decide_eq_true h] at hf; cases hf.1
                                 · exact h
      have h2 : tval vs x.a = tval vs x.b := by simpa using hf.2
      unfold atomCells
      rw [if_pos h1]
      show walkF h 8 (tval vs x.a) (tval vs x.b) = some []
      rw [h2, walkF_here]
    · rw [if_pos rfl]
      have hm := List.mem_filter.2 ⟨hx, hf⟩
      have hc := g2 x hm
      unfold atomCells
      split
      · rename_i h1
        show walkF h 8 (tval vs x.a) (tval vs x.b) = _
        have hne : tval vs x.a ≠ tval vs x.b := fun e => by
          unfold fillM at hf
          rw [decide_eq_false (by omega : ¬ x.kind = 1), decide_eq_true e] at hf
          cases hf
        rw [walkF_on h 7 hne (by unfold allocB; rw [hc]; exact decide_eq_true (tval_le hv x.b).1), hc, walkF_here]; rfl
      · first | exact if_pos hc | rfl
  have hpart : ∀ (xs : List Atm) (seen : List Int), (∀ x ∈ xs, x ∈ a.atoms) → (seen ++ (xs.filter (fillM (tval vs))).map fun x => tval vs x.a).Nodup → partAtoms ⟨vs, h⟩ seen xs = some (seen ++ (xs.filter (fillM (tval vs))).map fun x => tval vs x.a) := by
    intro xs
    induction xs with
    | nil => intro seen _ _; simp [partAtoms]
    | cons x xs ih =>
      intro seen hm hn
      unfold partAtoms
      rw [hstep x (hm x List.mem_cons_self)]
      cases hf : fillM (tval vs) x
      · rw [List.filter_cons_of_neg (by simp [hf])] at hn ⊢
        simp only [Bool.false_eq_true, if_false, Option.bind_some, addAll]
        exact ih seen (fun y hy => hm y (List.mem_cons_of_mem _ hy)) hn
      · rw [List.filter_cons_of_pos hf, List.map_cons] at hn ⊢
        have e : seen ++ tval vs x.a :: ((xs.filter (fillM (tval vs))).map fun x => tval vs x.a) = (seen ++ [tval vs x.a]) ++ ((xs.filter (fillM (tval vs))).map fun x => tval vs x.a) := by simp
        rw [e] at hn ⊢
        simp only [if_true, Option.bind_some]
        rw [addAll_some _ _ (List.nodup_append.1 hn).1, Option.bind_some]
        exact ih _ (fun y hy => hm y (List.mem_cons_of_mem _ hy)) hn
  have hpo : partOf ⟨vs, h⟩ a = some ((a.atoms.filter (fillM (tval vs))).map fun x => tval vs x.a) := by
    rw [partOf_some]
    refine ⟨?_, ha, ?_, ?_⟩
    · simp only [Ste.valid, Bool.and_eq_true, decide_eq_true_eq]
      exact ⟨⟨hl, g1⟩, hv, hcell⟩
    · simp only [factsHold, Bool.and_eq_true, decide_eq_true_eq]
      refine ⟨⟨Asn.valid_facts ha, hl⟩, List.all_eq_true.2 fun f hf => ?_⟩
      unfold Fct.holds
      rw [hs.facts f hf]
      cases f.eq <;> rfl
    · have := hpart a.atoms [] (fun _ h => h) (by simpa using hs.apart)
      simpa using this
  rw [holds_iff]
  refine ⟨_, hpo, fun n hn => ?_⟩
  have hca := cont_alloc hn
  rw [List.mem_map]
  refine Classical.byContradiction fun hno => ?_
  have := g3 n hca.1 fun x hx e => hno ⟨x, hx, e⟩
  rw [cont_blank] at this
  have h2 : 0 ≤ cont h n := hca.2
  omega

theorem Sat.same {M N : Int → Int} {a : Asn} (h : Sat N a) (he : ∀ s t, (s = 0 ∨ s ∈ termsL a) → (t = 0 ∨ t ∈ termsL a) → (M s = M t ↔ N s = N t)) : Sat M a := by
  have hX : ∀ x ∈ a.atoms, x.a ∈ termsL a ∧ x.b ∈ termsL a := fun x hx => by
    simp only [termsL, List.mem_append, List.mem_flatMap]
    exact ⟨Or.inr ⟨x, hx, by simp [atomT]⟩, Or.inr ⟨x, hx, by simp [atomT]⟩⟩
  have hF : ∀ x ∈ a.facts, x.a ∈ termsL a ∧ x.b ∈ termsL a := fun x hx => by
    simp only [termsL, List.mem_append, List.mem_flatMap]
    exact ⟨Or.inl ⟨x, hx, by simp [factT]⟩, Or.inl ⟨x, hx, by simp [factT]⟩⟩
  have hfill : ∀ x ∈ a.atoms, fillM M x = fillM N x := fun x hx => by
    unfold fillM
    congr 2
    rw [decide_eq_decide]
    exact he _ _ (Or.inr (hX x hx).1) (Or.inr (hX x hx).2)
  refine ⟨fun f hf => ?_, fun x hx hf e => ?_, ?_⟩
  · rw [← h.facts f hf, decide_eq_decide]
    exact he _ _ (Or.inr (hF f hf).1) (Or.inr (hF f hf).2)
  · rw [hfill x hx] at hf
    exact h.nil x hx hf ((he _ _ (Or.inr (hX x hx).1) (Or.inl rfl)).1 e)
  · rw [List.filter_congr hfill]
    have h1 := h.apart
    unfold List.Nodup at h1 ⊢
    rw [List.pairwise_map] at h1 ⊢
    exact h1.imp_of_mem fun {x y} hx hy hne e => hne ((he _ _ (Or.inr (hX x (List.mem_filter.1 hx).1).1) (Or.inr (hX y (List.mem_filter.1 hy).1).1)).1 e)

theorem nodupN_le : ∀ {l m : List Nat}, l.Nodup → (∀ x ∈ l, x ∈ m) → l.length ≤ m.length := by
  intro l
  induction l with
  | nil => intro m _ _; simp
  | cons a l ih =>
    intro m hn hs
    rw [List.nodup_cons] at hn
    have hm := hs a List.mem_cons_self
    have := ih (m := m.erase a) hn.2 fun x hx => (List.mem_erase_of_ne (by rintro rfl; exact hn.1 hx)).2 (hs x (List.mem_cons_of_mem _ hx))
    rw [List.length_erase_of_mem hm] at this
    have hp := List.length_pos_of_mem hm
    rw [List.length_cons]; omega
def rk (c : List Int) (k : Int) : Nat := ((List.range' 1 8).filter fun j : Nat => decide ((j : Int) ≤ k) && decide (cl c (j : Int) = j)).length
def mval (c : List Int) (t : Int) : Int := if 0 < cl c t then (rk c (cl c t) : Int) else 0
def modV (c : List Int) : List Int := (List.range' 1 8).map fun t : Nat => mval c (t : Int)
theorem rk_le (c : List Int) (k : Int) : rk c k ≤ 8 := by
  unfold rk
  exact Nat.le_trans (List.length_filter_le _ _) (by simp)
theorem mval_le (c : List Int) (t : Int) : 0 ≤ mval c t ∧ mval c t ≤ 8 := by
  unfold mval
  have := rk_le c (cl c t)
  split <;> omega
theorem rk_pos {c : List Int} {k : Int} (h1 : 1 ≤ k) (h8 : k ≤ 8) (hk : cl c k = k) : 1 ≤ rk c k := by
  obtain ⟨n, rfl⟩ := Int.eq_ofNat_of_zero_le (by omega : 0 ≤ k)
  unfold rk
  refine List.length_pos_of_mem (a := n) (List.mem_filter.2 ⟨List.mem_range'_1.2 (by omega), ?_⟩)
  simp [hk]
theorem rk_lt {c : List Int} {k k' : Int} (h1 : 0 ≤ k) (hlt : k < k') (h8 : k' ≤ 8) (hk : cl c k' = k') : rk c k < rk c k' := by
  obtain ⟨n, rfl⟩ := Int.eq_ofNat_of_zero_le h1
  obtain ⟨m, rfl⟩ := Int.eq_ofNat_of_zero_le (by omega : 0 ≤ k')
  unfold rk
  have hnd : (List.range' 1 8).Nodup := List.nodup_range'
  have hsub : ∀ j ∈ m :: (List.range' 1 8).filter (fun j : Nat => decide ((j : Int) ≤ n) && decide (cl c (j : Int) = j)), j ∈ (List.range' 1 8).filter (fun j : Nat => decide ((j : Int) ≤ m) && decide (cl c (j : Int) = j)) := fun j hj => by
    rcases List.mem_cons.1 hj with rfl | hj
    · exact List.mem_filter.2 ⟨List.mem_range'_1.2 (by omega), by simp [hk]⟩
    · rw [List.mem_filter] at hj ⊢
      refine ⟨hj.1, ?_⟩
      simp only [Bool.and_eq_true, decide_eq_true_eq] at hj ⊢
      exact ⟨by omega, hj.2.2⟩
  have hnd2 : (m :: (List.range' 1 8).filter (fun j : Nat => decide ((j : Int) ≤ n) && decide (cl c (j : Int) = j))).Nodup := by
    rw [List.nodup_cons]
    refine ⟨fun hm => ?_, hnd.filter _⟩
    rw [List.mem_filter] at hm
    simp only [Bool.and_eq_true, decide_eq_true_eq] at hm
    omega
  have := nodupN_le hnd2 hsub
  simpa [Nat.lt_iff_add_one_le] using this
theorem tval_mod {c : List Int} (h0 : cl c 0 = 0) {t : Int} (ht : 0 ≤ t) (h8 : t ≤ 8) : tval (modV c) t = mval c t := by
  unfold tval
  split
  · rename_i e; subst e; unfold mval; rw [h0]; rfl
  · rename_i e
    obtain ⟨n, rfl⟩ := Int.eq_ofNat_of_zero_le ht
    unfold modV
    rw [List.getElem?_map, List.getElem?_range' (by omega)]
    simp only [Option.map_some, Option.getD_some]
    congr 1
    omega
theorem modV_ok (c : List Int) : (modV c).length = 8 ∧ (modV c).all valB = true := by
  refine ⟨by simp [modV], List.all_eq_true.2 fun x hx => ?_⟩
  obtain ⟨t, -, rfl⟩ := List.mem_map.1 hx
  have := mval_le c t
  simp [valB]; omega
def Cls (S : Nat) (c : List Int) : Prop := ∀ j : Nat, j < 9 → (S.testBit j = true → (0 ≤ cl c j ∧ cl c j ≤ j) ∧ cl c (cl c j) = cl c j) ∧ (S.testBit j = false → cl c j = -1)
theorem Cls.zero {S : Nat} {c : List Int} (h : Cls S c) (h0 : S.testBit 0 = true) : cl c 0 = 0 := by
  have h1 := ((h 0 (by omega)).1 h0).1
  have e : ((0 : Nat) : Int) = 0 := rfl
  rw [e] at h1
  omega
theorem mval_eq {S : Nat} {c : List Int} (h : Cls S c) {i j : Nat} (hi : i < 9) (hj : j < 9) (bi : S.testBit i = true) (bj : S.testBit j = true) : mval c i = mval c j ↔ cl c i = cl c j := by
  have h1 := (h i hi).1 bi
  have h2 := (h j hj).1 bj
  constructor
  · intro e
    unfold mval at e
    by_cases p1 : 0 < cl c i
    · have q1 := rk_pos (c := c) (by omega) (by omega) h1.2
      rw [if_pos p1] at e
      by_cases p2 : 0 < cl c j
      · rw [if_pos p2] at e
        rcases Int.lt_trichotomy (cl c i) (cl c j) with h | h | h
        · have := rk_lt (c := c) h1.1.1 h (by omega) h2.2; omega
        · exact h
        · have := rk_lt (c := c) h2.1.1 h (by omega) h1.2; omega
      · rw [if_neg p2] at e; omega
    · rw [if_neg p1] at e
      by_cases p2 : 0 < cl c j
      · have q2 := rk_pos (c := c) (by omega) (by omega) h2.2
        rw [if_pos p2] at e; omega
      · omega
  · intro e; unfold mval; rw [e]
def modS (a : Asn) (c : List Int) : Ste := ⟨modV c, heapS (modV c) blank8 (filledL a.atoms c)⟩
theorem heapS_map (vs : List Int) (f : Atm → Atm) : ∀ (xs : List Atm) (h : List Int), (∀ x ∈ xs, tval vs (f x).a = tval vs x.a ∧ tval vs (f x).b = tval vs x.b) → heapS vs h (xs.map f) = heapS vs h xs := by
  intro xs
  induction xs with
  | nil => intro h _; rfl
  | cons x xs ih =>
    intro h hx
    have h1 := hx x List.mem_cons_self
    show heapS vs (h.set (tval vs (f x).a - 1).toNat (tval vs (f x).b)) (xs.map f) = heapS vs (h.set (tval vs x.a - 1).toNat (tval vs x.b)) xs
    rw [h1.1, h1.2]
    exact ih _ fun y hy => hx y (List.mem_cons_of_mem _ hy)
theorem model_law {a : Asn} (hv : a.valid = true) {S : Nat} (h0 : S.testBit 0 = true) (hS : ∀ t ∈ termsL a, S.testBit t.toNat = true) {c : List Int} (hc : c ∈ cases a S) : Sat (tval (modV c)) a ∧ holdsF (modS a c) a = true ∧ canon (tval (modV c)) S = c := by
  obtain ⟨h9, hC, -⟩ := case_iff.1 hc
  have hC : Cls S c := hC
  have hz := hC.zero h0
  have hok := termsL_ok hv
  have hval : ∀ t : Int, (t = 0 ∨ t ∈ termsL a) → ∃ j : Nat, j < 9 ∧ S.testBit j = true ∧ t = j := fun t ht => by
    rcases ht with rfl | ht
    · exact ⟨0, by omega, h0, rfl⟩
    · have h1 := isTermB_iff.1 (hok t ht)
      exact ⟨t.toNat, by omega, hS t ht, (Int.toNat_of_nonneg h1.1).symm⟩
  have hM : ∀ i j : Nat, i < 9 → j < 9 → S.testBit i = true → S.testBit j = true → (tval (modV c) i = tval (modV c) j ↔ cl c i = cl c j) := fun i j hi hj bi bj => by
    rw [tval_mod hz (by omega) (by omega), tval_mod hz (by omega) (by omega)]
    exact mval_eq hC hi hj bi bj
  have hsat : Sat (tval (modV c)) a := (case_sat hv h0 hc).same fun s t hs ht => by
    obtain ⟨i, hi, bi, rfl⟩ := hval s hs
    obtain ⟨j, hj, bj, rfl⟩ := hval t ht
    exact hM i j hi hj bi bj
  have hcls : ∀ t ∈ termsL a, tval (modV c) (cl c t) = tval (modV c) t := fun t ht => by
    obtain ⟨j, hj, bj, rfl⟩ := hval t (Or.inr ht)
    have h1 := (hC j hj).1 bj
    rw [tval_mod hz (by omega) (by omega), tval_mod hz (by omega) (by omega)]
    unfold mval
    rw [h1.2]
  refine ⟨hsat, ?_, ?_⟩
  · have e : heapS (modV c) blank8 (filledL a.atoms c) = heapS (modV c) blank8 (a.atoms.filter (fillM (tval (modV c)))) := by
      unfold filledL
      have hfill : ∀ x ∈ a.atoms, Atm.fill c x = fillM (tval (modV c)) x := fun x hx => by
        have hX : x.a ∈ termsL a ∧ x.b ∈ termsL a := by
          simp only [termsL, List.mem_append, List.mem_flatMap]
          exact ⟨Or.inr ⟨x, hx, by simp [atomT]⟩, Or.inr ⟨x, hx, by simp [atomT]⟩⟩
        obtain ⟨i, hi, bi, ei⟩ := hval _ (Or.inr hX.1)
        obtain ⟨j, hj, bj, ej⟩ := hval _ (Or.inr hX.2)
        unfold Atm.fill fillM
        congr 2
        rw [decide_eq_decide, ei, ej]
        exact (hM i j hi hj bi bj).symm
      rw [List.filter_congr hfill]
      refine heapS_map _ _ _ _ fun x hx => ?_
      have hx := (List.mem_filter.1 hx).1
      have hX : x.a ∈ termsL a ∧ x.b ∈ termsL a := by
        simp only [termsL, List.mem_append, List.mem_flatMap]
        exact ⟨Or.inr ⟨x, hx, by simp [atomT]⟩, Or.inr ⟨x, hx, by simp [atomT]⟩⟩
      exact ⟨hcls _ hX.1, hcls _ hX.2⟩
    unfold modS
    rw [e]
    exact one_cell (modV_ok c).1 (modV_ok c).2 hv hsat
  · refine (canon_ext h9 fun j hj => ?_).symm
    unfold caseAt
    cases hb : S.testBit j
    · exact (hC j hj).2 hb
    · rw [if_pos rfl]
      have h1 := (hC j hj).1 hb
      obtain ⟨k, hk⟩ := Int.eq_ofNat_of_zero_le h1.1.1
      have hkb : S.testBit k = true := by
        cases e : S.testBit k
        · have h2 := (hC k (by omega)).2 e
          have h3 := h1.2
          rw [hk, h2] at h3
          omega
        · rfl
      rw [least_is (k := k) hkb hb ((hM k j (by omega) hj hkb hb).2 (by rw [← hk]; exact h1.2)) (fun i hi hib e => by
        have h2 := ((hC i (by omega)).1 hib).1.2
        have h3 := (hM i j (by omega) hj hib hb).1 e
        omega), hk]
def modelL (a : Asn) : Ste := modS a ((cases a (caseS a 0)).head?.getD zeros)
theorem modelL_law {a : Asn} (h : consB a = true) : a.valid = true ∧ holdsF (modelL a) a = true ∧ ∃ c cs, cases a (caseS a 0) = c :: cs ∧ caseOfF (modelL a) a = c := by
  have hv : a.valid = true := (consB_iff.1 h).1
  unfold consB at h
  unfold modelL
  cases hc : cases a (caseS a 0) with
  | nil => rw [hc, hv] at h; cases h
  | cons c cs =>
    obtain ⟨-, h1, h2⟩ := model_law hv (caseS_zero a 0) (caseS_terms hv 0) (c := c) (by rw [hc]; exact List.mem_cons_self)
    exact ⟨hv, h1, c, cs, rfl, h2⟩
end


/- The model of a case, step by step. Plain; no program. -/
section
open Go Go.RowKit
def modT (c:List Int) (t:Nat):List Int:=(List.range' 1 8).map fun j:Nat=>if j<t then mval c (j:Int) else 0
theorem modT_len (c:List Int) (t:Nat):(modT c t).length=8:=by simp[modT]
theorem modT_start (c:List Int):modT c 1=List.replicate 8 0:=by
 unfold modT
 rw[List.map_congr_left (g:=fun _=>0) (fun j hj=>by rw[List.mem_range'_1] at hj;rw[if_neg (by omega)])]
 rfl
theorem modT_end (c:List Int):modT c 9=modV c:=by
 unfold modT modV
 exact List.map_congr_left fun j hj=>by rw[List.mem_range'_1] at hj;rw[if_pos (by omega)]
theorem modT_get (c:List Int) {t k:Nat} (hk:k<8):(modT c t)[k]? = some (if k+1<t then mval c ((k+1:Nat):Int) else 0):=by
 unfold modT
 rw[List.getElem?_map,List.getElem?_range' (by omega)]
 simp only[Option.map_some,Nat.one_mul]
 rw[Nat.add_comm 1 k]
theorem modT_cl (c:List Int) {t k:Nat} (hk:k<8):cl (modT c t) k=if k+1<t then mval c ((k+1:Nat):Int) else 0:=by
 unfold cl;rw[Int.toNat_natCast,modT_get c hk];rfl
theorem modT_set (c:List Int) {t:Nat} (h1:1≤t) (h8:t≤8):(modT c t).set (t - 1) (mval c (t:Int))=modT c (t+1):=by
 apply List.ext_getElem?
 intro j
 by_cases hj:j<8
 ·rw[modT_get c hj]
  by_cases e:j=t - 1
  ·subst e
   rw[List.getElem?_set_self (by rw[modT_len];omega),if_pos (by omega),show t - 1+1=t from by omega]
  ·rw[List.getElem?_set_ne (by omega),modT_get c hj]
   by_cases h:j+1<t
   ·rw[if_pos h,if_pos (by omega)]
   ·rw[if_neg h,if_neg (by omega)]
 ·rw[List.getElem?_eq_none (by rw[List.length_set,modT_len];omega),List.getElem?_eq_none (by rw[modT_len];omega)]
theorem modT_keep (c:List Int) {t:Nat} (h1:1≤t) (h8:t≤8) (hz:mval c (t:Int)=0):modT c (t+1)=modT c t:=by
 apply List.ext_getElem?
 intro j
 by_cases hj:j<8
 ·rw[modT_get c hj,modT_get c hj]
  by_cases e:j+1=t
  ·rw[if_pos (by omega),if_neg (by omega),e,hz]
  ·by_cases h:j+1<t
   ·rw[if_pos h,if_pos (by omega)]
   ·rw[if_neg h,if_neg (by omega)]
 ·rw[List.getElem?_eq_none (by rw[modT_len];omega),List.getElem?_eq_none (by rw[modT_len];omega)]
theorem rk_zero (c:List Int):rk c 0=0:=by
 unfold rk
 rw[List.length_eq_zero_iff,List.filter_eq_nil_iff]
 intro j hj
 rw[List.mem_range'_1] at hj
 rw[decide_eq_false (by omega:¬(j:Int)≤0),Bool.false_and]
 decide
theorem rk_step (c:List Int) {t:Nat} (h1:1≤t) (h8:t≤8):rk c (t:Int)=rk c ((t:Int) - 1)+(if cl c (t:Int)=t then 1 else 0):=by
 unfold rk
 rw[←List.countP_eq_length_filter,←List.countP_eq_length_filter]
 have e:(List.range' 1 8)=List.range' 1 (t - 1)++t :: List.range' (t+1) (8 - t):=by
  have h2:List.range' 1 8=List.range' 1 (t - 1)++List.range' t (8 - t+1):=by
   have:=List.range'_append_1 (s:=1) (m:=t - 1) (n:=8 - t+1)
   rw[show 1+(t - 1)=t from by omega,show t - 1+(8 - t+1)=8 from by omega] at this
   exact this.symm
  rw[h2,List.range'_succ]
 rw[e,List.countP_append,List.countP_append,List.countP_cons,List.countP_cons]
 have f1:∀ (p q:Nat→Bool),(∀ j∈List.range' 1 (t - 1),p j=q j)→(List.range' 1 (t - 1)).countP p=(List.range' 1 (t - 1)).countP q:=fun p q h=>List.countP_congr fun j hj=>by rw[h j hj]
 have f2:∀ (p:Nat→Bool),(∀ j∈List.range' (t+1) (8 - t),p j=false)→(List.range' (t+1) (8 - t)).countP p=0:=fun p h=>List.countP_eq_zero.2 fun j hj=>by rw[h j hj];decide
 rw[f1 (fun j:Nat=>decide ((j:Int)≤(t:Int))&&decide (cl c (j:Int)=j)) (fun j:Nat=>decide ((j:Int)≤(t:Int) - 1)&&decide (cl c (j:Int)=j)) (fun j hj=>by
  rw[List.mem_range'_1] at hj
  rw[decide_eq_true (by omega:(j:Int)≤(t:Int)),decide_eq_true (by omega:(j:Int)≤(t:Int) - 1)])]
 rw[f2 _ (fun j hj=>by rw[List.mem_range'_1] at hj;rw[decide_eq_false (by omega:¬(j:Int)≤(t:Int))];rfl)]
 rw[f2 _ (fun j hj=>by rw[List.mem_range'_1] at hj;rw[decide_eq_false (by omega:¬(j:Int)≤(t:Int) - 1)];rfl)]
 rw[decide_eq_true (by omega:(t:Int)≤(t:Int)),decide_eq_false (by omega:¬(t:Int)≤(t:Int) - 1)]
 by_cases h:cl c (t:Int)=t
 ·rw[decide_eq_true h,if_pos h];simp
 ·rw[decide_eq_false h,if_neg h];simp
theorem mval_root {c:List Int} {t:Nat} (h1:1≤t) (h8:t≤8) (h:cl c (t:Int)=t):mval c (t:Int)=(rk c ((t:Int) - 1)+1:Nat)∧rk c (t:Int)=rk c ((t:Int) - 1)+1:=by
 have e:=rk_step c h1 h8
 rw[if_pos h] at e
 unfold mval
 rw[h,if_pos (by omega),e]
 exact ⟨rfl,rfl⟩
theorem rk_same {c:List Int} {t:Nat} (h1:1≤t) (h8:t≤8) (h:cl c (t:Int)≠t):rk c (t:Int)=rk c ((t:Int) - 1):=by
 rw[rk_step c h1 h8,if_neg h];rfl
theorem mval_old {c:List Int} {t r:Nat} (hr:cl c (t:Int)=r) (hi:cl c (r:Int)=r):mval c (r:Int)=mval c (t:Int):=by
 unfold mval;rw[hr,hi]
theorem mval_none {c:List Int} {t:Nat} (h:cl c (t:Int)≤0):mval c (t:Int)=0:=by unfold mval;rw[if_neg (by omega)]
structure Csd (c:List Int):Prop where
 len:c.length=9
 zero:cl c 0=0
 le:∀ j:Nat,j<9→-1≤cl c j∧cl c j≤j
 idem:∀ j:Nat,j<9→0≤cl c j→cl c (cl c j)=cl c j
theorem csd_of {a:Asn} {S:Nat} (h0:S.testBit 0=true) {c:List Int} (hc:c∈cases a S):Csd c:=by
 obtain ⟨h9,hC,-⟩:=case_iff.1 hc
 have hz:=(show Cls S c from hC).zero h0
 refine ⟨h9,hz,fun j hj=>?_,fun j hj h=>?_⟩
 ·cases hb:S.testBit j
  ·have:=(hC j hj).2 hb;omega
  ·have:=((hC j hj).1 hb).1;omega
 ·cases hb:S.testBit j
  ·have:=(hC j hj).2 hb;omega
  ·exact ((hC j hj).1 hb).2
theorem filled_ok {a:Asn} (hv:a.valid=true) {S:Nat} (h0:S.testBit 0=true) (hS:∀ t∈termsL a,S.testBit t.toNat=true) {c:List Int} (hc:c∈cases a S) :
  ∀ x∈filledL a.atoms c,(0≤x.a∧x.a≤8)∧(0≤x.b∧x.b≤8)∧(1≤tval (modV c) x.a∧tval (modV c) x.a≤8)∧0≤tval (modV c) x.b∧tval (modV c) x.b≤8:=by
 intro x hx
 obtain ⟨h9,hC,hfull⟩:=case_iff.1 hc
 have hC:Cls S c:=hC
 have hz:=hC.zero h0
 have hM:=model_law hv h0 hS hc
 unfold filledL at hx
 obtain ⟨y,hy,rfl⟩:=List.mem_map.1 hx
 rw[List.mem_filter] at hy
 have hX:y.a∈termsL a∧y.b∈termsL a:=by
  simp only[termsL,List.mem_append,List.mem_flatMap]
  exact ⟨Or.inr ⟨y,hy.1,by simp[atomT]⟩,Or.inr ⟨y,hy.1,by simp[atomT]⟩⟩
 have hcl:∀ t∈termsL a,(0≤cl c t∧cl c t≤8)∧cl c (cl c t)=cl c t:=fun t ht=>by
  have h1:=isTermB_iff.1 (termsL_ok hv t ht)
  have h2:=(hC t.toNat (by omega)).1 (hS t ht)
  rw[Int.toNat_of_nonneg h1.1] at h2
  exact ⟨by omega,h2.2⟩
 have ha:=hcl _ hX.1
 have hb:=hcl _ hX.2
 have hva:=tval_le (modV_ok c).2 (cl c y.a)
 have hvb:=tval_le (modV_ok c).2 (cl c y.b)
 refine ⟨ha.1,hb.1,⟨?_,hva.2⟩,hvb⟩
 show 1≤tval (modV c) (cl c y.a)
 rw[tval_mod hz ha.1.1 ha.1.2]
 have hne:cl c y.a≠0:=fun e=>by
  have hs:=case_sat hv h0 hc
  refine hs.nil y hy.1 ?_ (by rw[e,hz])
  exact hy.2
 unfold mval
 rw[ha.2,if_pos (by omega)]
 have:=rk_pos (c:=c) (k:=cl c y.a) (by omega) ha.1.2 ha.2
 omega
theorem heapS_take (vs h:List Int) (xs:List Atm) {k:Nat} (hk:k<xs.length):heapS vs h (xs.take (k+1))=(heapS vs h (xs.take k)).set (tval vs xs[k].a - 1).toNat (tval vs xs[k].b):=by
 unfold heapS
 rw[List.take_succ_eq_append_getElem hk,List.foldl_append]
 rfl
theorem heapS_len (vs:List Int):∀ (xs:List Atm) (h:List Int),(heapS vs h xs).length=h.length:=by
 intro xs
 induction xs with
 | nil=>intro h;rfl
 | cons x xs ih=>intro h;show (heapS vs (h.set _ _) xs).length=_;rw[ih,List.length_set]
def blankTo (k:Nat):List Int:=List.replicate k (-1)++List.replicate (8 - k) 0
theorem blankTo_len {k:Nat} (h:k≤8):(blankTo k).length=8:=by simp[blankTo];omega
theorem blankTo_set {k:Nat} (h:k<8):(blankTo k).set k (-1)=blankTo (k+1):=by
 unfold blankTo
 rw[List.set_append_right _ _ (by simp),List.length_replicate,Nat.sub_self,show 8 - k=(8 - (k+1))+1 from by omega,List.replicate_succ,List.set_cons_zero,List.replicate_succ',List.append_assoc]
 rfl
end

/- Contracts: impl's model of a case. -/
section
open Go Go.RowKit Go.Proofs
attribute [local go_sem ↓] Go.wp_at_zero Go.wp_at_succ
def RowI (w:World) (g:Nat) (vs:List Int):Prop:=Blk w g tI (encI vs).toArray
theorem RowI.cl {w:World} {g k:Nat} {vs:List Int} (h:RowI w g vs) (hk:k<vs.length):w.cell? ⟨g,k,none⟩=some (.int .i64 (cl vs k)):=case_cell h hk
theorem RowI.set_ {w:World} {g:Nat} {vs:List Int} (h:RowI w g vs) (k:Nat) (v:Int):RowI (w.setCell ⟨g,k,none⟩ (.int .i64 v)) g (vs.set k v):=by
 have:=Blk.set_ h k (.int .i64 v)
 unfold RowI
 rw[List.setIfInBounds_toArray] at this
 rw[show encI (vs.set k v)=(encI vs).set k (.int .i64 v) from List.map_set]
 exact this
theorem RowI.fr {w w':World} {g x:Nat} {vs:List Int} (h:RowI w x vs) (hf:Fr g w w') (hx:x≠g):RowI w' x vs:=Blk.fr h hf hx
theorem RowI.toO {w:World} {g base n:Nat} {vs:List Int} (h:RowI w g vs) (hb:base≤g) (hl:vs.length=n) (hn:n≤1000):IntsO w base (.slice (some ⟨g,0,none⟩) n n) vs:=by
 refine ⟨?_,by rw[hl];unfold Lim;omega⟩
 rw[hl]
 exact own_of_blk (n:=n) (cap:=n) h hb (by simp[encI,hl]) (by intro j hj;simp) (Nat.le_refl _) (by unfold maxLen;omega) (by simp[encI,hl])
theorem RowI.toV {w:World} {g:Nat} {vs:List Int} (h:RowI w g vs) (hl:vs.length≤100):IntsV w g (g+1) (some ⟨g,0,none⟩) vs:=IntsV.lit h rfl hl
def zero8:List Int:=List.replicate 8 0
theorem mkI8 (w:World):(Instr.makeSlice 32 (.int .i64 8) (.int .i64 8)).run Tryz.prog w=.ok (.slice (some ⟨w.heap.size,0,none⟩) 8 8) (w.alloc (.cells (encI zero8).toArray tI)):=
 (mkI 8 (by decide) w).trans (by rw[show (madeCells #[.int .i64 0] (8 * 1))=(encI zero8).toArray from by kernel_rfl])
theorem c_termV8 {lo hi:Nat} (A:Option Addr) (c:Nat) (vs:List Int) (t:Int) (w:World) (h:IntsV w lo hi A vs) (hl:vs.length=8) (h0:0≤t) (h8:t≤8):Calls Tryz.prog 160 #[.slice A 8 c,.int .i64 t] w fun e w'=>e=.returned (.int .i64 (tval vs t))∧w=w':=by
 have:=c_impl_termValue A c vs t w h h0 (by rw[hl];exact h8)
 rwa [hl] at this
theorem c_impl_caseState {lo hi:Nat} (v:Value) (a:Asn) (S:Nat) (c:List Int) (w:World) (h:AsnV w lo hi v a) (hv:a.valid=true) (h0:S.testBit 0=true) (hS:∀ t∈termsL a,S.testBit t.toNat=true) (hc:c∈cases a S) :
  Calls Tryz.prog 75 #[v,.agg (case9 c)] w fun e w'=>∃ r,e=.returned r∧StateO w' w.heap.size r (modS a c)∧Below w.heap.size w w':=by
 have hV:=Lib.hid h
 have HC:=Lib.hid (csd_of h0 hc)
 have HF:=Lib.hid (filled_ok hv h0 hS hc)
 have HOK:=Lib.hid (Asn.valid_ok hv)
 have HMV:=Lib.hid (modV_ok c)
 obtain ⟨A1,c1,A2,c2,rfl,-,h2⟩:=h
 have H2:=Lib.hid h2
 clear h2 hv h0 hS hc
 go_enter Tryz.func75,Tryz.ntmps75
 have k0:Blk (((w.alloc (.cells #[.slice A1 a.facts.length c1,.slice A2 a.atoms.length c2] tAs)).alloc (.cells (case9 c) tTc)).alloc (.cells #[.slice none 0 0,.slice none 0 0] tSt)) w.heap.size tAs #[.slice A1 a.facts.length c1,.slice A2 a.atoms.length c2]:=blks
 have k1:Blk (((w.alloc (.cells #[.slice A1 a.facts.length c1,.slice A2 a.atoms.length c2] tAs)).alloc (.cells (case9 c) tTc)).alloc (.cells #[.slice none 0 0,.slice none 0 0] tSt)) (w.heap.size+1) tTc (case9 c):=blks
 have k2:Blk (((w.alloc (.cells #[.slice A1 a.facts.length c1,.slice A2 a.atoms.length c2] tAs)).alloc (.cells (case9 c) tTc)).alloc (.cells #[.slice none 0 0,.slice none 0 0] tSt)) (w.heap.size+1+1) tSt #[.slice none 0 0,.slice none 0 0]:=blks
 have hB0:Below w.heap.size w (((w.alloc (.cells #[.slice A1 a.facts.length c1,.slice A2 a.atoms.length c2] tAs)).alloc (.cells (case9 c) tTc)).alloc (.cells #[.slice none 0 0,.slice none 0 0] tSt)):=bel
 have hs0:w.heap.size+3≤(((w.alloc (.cells #[.slice A1 a.facts.length c1,.slice A2 a.atoms.length c2] tAs)).alloc (.cells (case9 c) tTc)).alloc (.cells #[.slice none 0 0,.slice none 0 0] tSt)).heap.size:=by simp
 have hmk:=mkI8
 go_wp2_with fail
 generalize (((w.alloc (.cells #[.slice A1 a.facts.length c1,.slice A2 a.atoms.length c2] tAs)).alloc (.cells (case9 c) tTc)).alloc (.cells #[.slice none 0 0,.slice none 0 0] tSt))=W at k0 k1 k2 hB0 hs0 ⊢
 refine wp_region_noPanic ?_
 refine wp_region_held_drew (S:=(fun _=>True)) (by kernel_rfl) (trivial) (fun hHeld=>?_)
 refine wpAnyH_par [0,1,2,3,4] #[true,true,true,true,true] 5 (by kernel_rfl) hHeld
  (fun a0 D a1 w'=>Hid (Below W.heap.size W w')∧∃ v11 v12 v13 v5,a1=(((a0.put (some 11) v11).put (some 12) v12).put (some 13) v13).put (some 5) v5∧
   Hid (dn D 0=true→∃ x,v11=.slice (some ⟨x,0,none⟩) 8 8∧W.heap.size≤x∧RowI w' x zero8)∧
   Hid (dn D 1=true→∃ x,v12=.slice (some ⟨x,0,none⟩) 8 8∧W.heap.size≤x∧RowI w' x zero8)∧
   Hid (dn D 0=true→dn D 1=true→∀ x y,v11=.slice (some ⟨x,0,none⟩) 8 8→v12=.slice (some ⟨y,0,none⟩) 8 8→x≠y)∧
   Hid ((dn D 2=true→(dn D 0=true∧dn D 1=true)∧v13=.agg #[v11,v12])∧(dn D 4=true→dn D 2=true∧dn D 3=true))∧
   Hid (dn D 3=true→∃ x,v5=.pointer (some ⟨x,0,none⟩)∧W.heap.size≤x∧Blk w' x tSt (if dn D 4=true then #[v11,v12] else #[.slice none 0 0,.slice none 0 0]))) ?start ?steps ?fin
 case start=>exact ⟨(Below.refl _ _).drew,undef,undef,undef,undef,rfl,(fun h=>absurd h (by decide)),(fun h=>absurd h (by decide)),(fun h=>absurd h (by decide)),⟨(fun h=>absurd h (by decide)),(fun h=>absurd h (by decide))⟩,(fun h=>absurd h (by decide))⟩
 case steps=>
  refine ParSteps.cons rfl (fun D a1 w' hu hd hI hS K' hK G hG=>?_) (ParSteps.cons rfl (fun D a1 w' hu hd hI hS K' hK G hG=>?_) (ParSteps.cons rfl (fun D a1 w' hu hd hI hS K' hK G hG=>?_) (ParSteps.cons rfl (fun D a1 w' hu hd hI hS K' hK G hG=>?_) (ParSteps.cons rfl (fun D a1 w' hu hd hI hS K' hK G hG=>?_) ParSteps.nil))))
  ·obtain ⟨HW,v11,v12,v13,v5,ha,h0,h1,hx,h2,h3⟩:=hI
   rw[ha] at hG
   clear ha a1
   have u0:=dn_un hu
   have u2:dn D 2=false:=by cases e:dn D 2;rfl;have:=(h2.out.1 e).1.1;rw[u0] at this;cases this
   have u4:dn D 4=false:=by cases e:dn D 4;rfl;have:=(h2.out.2 e).1;rw[u2] at this;cases this
   have HU:=Lib.hid (And.intro u2 u4)
   clear u0 u2 u4
   refine hG ?_
   clear hG hd
   try simp only[zz]
   go_simp
   refine hK.out _ _ trivial ⟨HW.out.trans ((bbox (Below.refl _ _) _).mono HW.out.size),.slice (some ⟨w'.heap.size,0,none⟩) 8 8,v12,v13,v5,rfl,fun _=>⟨_,rfl,HW.out.size,Blk.new _ _ _⟩,fun h=>?_,fun _ h x y ex ey=>?_,⟨fun h=>?_,fun h=>?_⟩,fun h=>?_⟩
   ·rw[dn_ne (by decide)] at h;obtain ⟨x,ex,hx,kx⟩:=h1.out h;exact ⟨x,ex,hx,Blk.alloc kx _⟩
   ·rw[dn_ne (by decide)] at h;obtain ⟨z,ez,hz,kz⟩:=h1.out h;rw[ez] at ey;injection ex with ex;injection ex with ex;injection ex with ex;injection ey with ey;injection ey with ey;injection ey with ey;have:=Blk.lt kz;omega
   ·rw[dn_ne (by decide),HU.out.1] at h;cases h
   ·rw[dn_ne (by decide),HU.out.2] at h;cases h
   ·rw[dn_ne (by decide)] at h;obtain ⟨x,ex,hx,kx⟩:=h3.out h;refine ⟨x,ex,hx,?_⟩;rw[dn_ne (by decide)];rw[HU.out.2,if_neg (by decide)] at kx ⊢;exact kx.alloc _
  ·obtain ⟨HW,v11,v12,v13,v5,ha,h0,h1,hx,h2,h3⟩:=hI
   rw[ha] at hG
   clear ha a1
   have u1:=dn_un hu
   have u2:dn D 2=false:=by cases e:dn D 2;rfl;have:=(h2.out.1 e).1.2;rw[u1] at this;cases this
   have u4:dn D 4=false:=by cases e:dn D 4;rfl;have:=(h2.out.2 e).1;rw[u2] at this;cases this
   have HU:=Lib.hid (And.intro u2 u4)
   clear u1 u2 u4
   refine hG ?_
   clear hG hd
   try simp only[zz]
   go_simp
   refine hK.out _ _ trivial ⟨HW.out.trans ((bbox (Below.refl _ _) _).mono HW.out.size),v11,.slice (some ⟨w'.heap.size,0,none⟩) 8 8,v13,v5,rfl,fun h=>?_,fun _=>⟨_,rfl,HW.out.size,Blk.new _ _ _⟩,fun h _ x y ex ey=>?_,⟨fun h=>?_,fun h=>?_⟩,fun h=>?_⟩
   ·rw[dn_ne (by decide)] at h;obtain ⟨x,ex,hx,kx⟩:=h0.out h;exact ⟨x,ex,hx,Blk.alloc kx _⟩
   ·rw[dn_ne (by decide)] at h;obtain ⟨z,ez,hz,kz⟩:=h0.out h;rw[ez] at ex;injection ex with ex;injection ex with ex;injection ex with ex;injection ey with ey;injection ey with ey;injection ey with ey;have:=Blk.lt kz;omega
   ·rw[dn_ne (by decide),HU.out.1] at h;cases h
   ·rw[dn_ne (by decide),HU.out.2] at h;cases h
   ·rw[dn_ne (by decide)] at h;obtain ⟨x,ex,hx,kx⟩:=h3.out h;refine ⟨x,ex,hx,?_⟩;rw[dn_ne (by decide)];rw[HU.out.2,if_neg (by decide)] at kx ⊢;exact kx.alloc _
  ·obtain ⟨HW,v11,v12,v13,v5,ha,h0,h1,hx,h2,h3⟩:=hI
   rw[ha] at hG
   clear ha a1
   have t0:dn D 0=true:=hd ⟨0,.data⟩ (by simp) (by decide)
   have t1:dn D 1=true:=hd ⟨1,.data⟩ (by simp) (by decide)
   have u2:=dn_un hu
   have u4:dn D 4=false:=by cases e:dn D 4;rfl;have:=(h2.out.2 e).1;rw[u2] at this;cases this
   have HU:=Lib.hid (And.intro u4 (And.intro t0 t1))
   obtain ⟨x1,e1,hx1,kx1⟩:=h0.out t0
   obtain ⟨x2,e2,hx2,kx2⟩:=h1.out t1
   have HX:=Lib.hid (hx.out t0 t1)
   subst e1 e2
   clear u2 u4 t0 t1 h0 h1 hx
   refine hG ?_
   clear hG hd
   try simp only[zz]
   go_simp
   refine hK.out _ _ trivial ⟨HW.out,.slice (some ⟨x1,0,none⟩) 8 8,.slice (some ⟨x2,0,none⟩) 8 8,.agg #[.slice (some ⟨x1,0,none⟩) 8 8,.slice (some ⟨x2,0,none⟩) 8 8],v5,rfl,fun _=>⟨x1,rfl,hx1,kx1⟩,fun _=>⟨x2,rfl,hx2,kx2⟩,fun _ _=>HX.out,⟨fun h=>⟨⟨?_,?_⟩,rfl⟩,fun h=>?_⟩,fun h=>?_⟩
   ·rw[dn_ne (by decide)];exact HU.out.2.1
   ·rw[dn_ne (by decide)];exact HU.out.2.2
   ·rw[dn_ne (by decide),HU.out.1] at h;cases h
   ·rw[dn_ne (by decide)] at h ⊢;exact h3.out h
  ·obtain ⟨HW,v11,v12,v13,v5,ha,h0,h1,hx,h2,h3⟩:=hI
   rw[ha] at hG
   clear ha a1
   have u3:=dn_un hu
   have u4:dn D 4=false:=by cases e:dn D 4;rfl;have:=(h2.out.2 e).2;rw[u3] at this;cases this
   have HU:=Lib.hid u4
   clear u3 u4
   refine hG ?_
   clear hG hd
   try simp only[zz]
   go_simp
   refine hK.out _ _ trivial ⟨HW.out.trans ((bbox (Below.refl _ _) _).mono HW.out.size),v11,v12,v13,.pointer (some ⟨w'.heap.size,0,none⟩),rfl,fun h=>?_,fun h=>?_,fun h h'=>?_,⟨fun h=>?_,fun h=>?_⟩,fun _=>⟨_,rfl,HW.out.size,?_⟩⟩
   ·rw[dn_ne (by decide)] at h;obtain ⟨x,ex,hx,kx⟩:=h0.out h;exact ⟨x,ex,hx,Blk.alloc kx _⟩
   ·rw[dn_ne (by decide)] at h;obtain ⟨x,ex,hx,kx⟩:=h1.out h;exact ⟨x,ex,hx,Blk.alloc kx _⟩
   ·rw[dn_ne (by decide)] at h h';exact hx.out h h'
   ·rw[dn_ne (by decide)] at h;obtain ⟨⟨t0,t1⟩,e⟩:=h2.out.1 h;exact ⟨⟨by rw[dn_ne (by decide)];exact t0,by rw[dn_ne (by decide)];exact t1⟩,e⟩
   ·rw[dn_ne (by decide),HU.out] at h;cases h
   ·rw[dn_ne (by decide),HU.out,if_neg (by decide)];exact Blk.new _ _ _
  ·obtain ⟨HW,v11,v12,v13,v5,ha,h0,h1,hx,h2,h3⟩:=hI
   rw[ha] at hG
   clear ha a1
   have t2:dn D 2=true:=hd ⟨2,.data⟩ (by simp) (by decide)
   have t3:dn D 3=true:=hd ⟨3,.data⟩ (by simp) (by decide)
   have u4:=dn_un hu
   obtain ⟨⟨t0,t1⟩,e13⟩:=h2.out.1 t2
   obtain ⟨x5,e5,hx5,kx5⟩:=h3.out t3
   rw[u4,if_neg (by decide)] at kx5
   obtain ⟨x1,e1,hx1,kx1⟩:=h0.out t0
   obtain ⟨x2,e2,hx2,kx2⟩:=h1.out t1
   have HX:=Lib.hid (hx.out t0 t1)
   have HT:=Lib.hid (And.intro (And.intro t0 t1) (And.intro t2 t3))
   have ne1:=Blk.ne_ kx5 kx1 (by decide)
   have ne2:=Blk.ne_ kx5 kx2 (by decide)
   have q5:=kx5.cell
   have r5:=kx5.frozen
   have l5:=kx5.lt
   subst e1 e2 e13 e5
   clear h0 h1 hx h2 h3 u4 t0 t1 t2 t3 hd
   refine hG ?_
   clear hG
   try simp only[zz]
   go_simp
   refine hK.out _ _ trivial ⟨(HW.out.setCell (p:=⟨x5,0,none⟩) (by simp only;omega) _).setCell (p:=⟨x5,1,none⟩) (by simp only;omega) _,.slice (some ⟨x1,0,none⟩) 8 8,.slice (some ⟨x2,0,none⟩) 8 8,.agg #[.slice (some ⟨x1,0,none⟩) 8 8,.slice (some ⟨x2,0,none⟩) 8 8],.pointer (some ⟨x5,0,none⟩),rfl,fun _=>⟨x1,rfl,hx1,?_⟩,fun _=>⟨x2,rfl,hx2,?_⟩,fun _ _=>HX.out,⟨fun _=>⟨⟨?_,?_⟩,rfl⟩,fun _=>⟨?_,?_⟩⟩,fun _=>⟨x5,rfl,hx5,?_⟩⟩
   ·exact (Blk.far kx1 (p:=⟨x5,0,none⟩) (by simp only;omega) _).far (p:=⟨x5,1,none⟩) (by simp only;omega) _
   ·exact (Blk.far kx2 (p:=⟨x5,0,none⟩) (by simp only;omega) _).far (p:=⟨x5,1,none⟩) (by simp only;omega) _
   ·rw[dn_ne (by decide)];exact HT.out.1.1
   ·rw[dn_ne (by decide)];exact HT.out.1.2
   ·rw[dn_ne (by decide)];exact HT.out.2.1
   ·rw[dn_ne (by decide)];exact HT.out.2.2
   ·rw[dn_self hu,if_pos rfl];exact (kx5.set_ 0 _).set_ 1 _
 case fin=>
  rintro a1 w1 hHeld ⟨HW,v11,v12,v13,v5,rfl,h0,h1,hx,h2,h3⟩
  obtain ⟨x1,rfl,hx1,j1⟩:=h0.out (by decide)
  obtain ⟨x2,rfl,hx2,j2⟩:=h1.out (by decide)
  obtain rfl:=(h2.out.1 (by decide)).2
  obtain ⟨x5,rfl,hx5,j5⟩:=h3.out (by decide)
  rw[if_pos (by decide)] at j5
  have ne12:=hx.out (by decide) (by decide) x1 x2 rfl rfl
  have ne15:=Blk.ne_ j5 j1 (by decide)
  have ne25:=Blk.ne_ j5 j2 (by decide)
  replace k0:=k0.next HW.out
  replace k1:=k1.next HW.out
  replace k2:=k2.next HW.out
  have HB1:Hid (Below w.heap.size w w1):=hB0.trans (HW.out.mono (by omega))
  have l1:=Blk.lt j1
  have l2:=Blk.lt j2
  have l5:=Blk.lt j5
  have hw1:=HW.out.size
  have J1:=Lib.hid j1
  have J2:=Lib.hid j2
  clear h0 h1 hx h2 h3 HW hB0 hmk j1 j2
  try simp only[zz]
  refine wpAnyH_done (by kernel_rfl) ?_ _
  refine NoPanic.normal ?_
  clear hHeld
  (replace qk0:=k0.cell;replace rk0:=k0.frozen;replace lk0:=k0.lt;replace qk1:=k1.cell;replace rk1:=k1.frozen;replace lk1:=k1.lt;replace qk2:=k2.cell;replace rk2:=k2.frozen;replace lk2:=k2.lt)
  have q5:=j5.cell
  have r5:=j5.frozen
  go_wp2_with fail
  clear q5 r5 qk0 rk0 lk0 qk1 rk1 lk1 qk2 rk2 lk2
  have hw3:w.heap.size+3≤w1.heap.size:=by omega
  have HZ8:Hid (RowI w1 x2 (blankTo 0)):=J2.out
  go_loopw [17] (fun i wr=>∃ k:Nat,k≤8∧i=.int .i64 k∧Hid (RowI wr x2 (blankTo k))∧Hid (Fr x2 w1 wr)) (fun i _=>8 - (intOf i).toNat)
  case atStart=>exact ⟨0,by omega,rfl,HZ8.out,Fr.refl _ _⟩
  case round=>
   obtain ⟨k,hk,rfl,HRW,HFR⟩:=hrel
   have i5:=j5.fr HFR.out (by omega)
   have q5:=i5.cell
   have r5:=i5.frozen
   by_cases hlt:k<8
   ·have hki:(k:Int)<8:=by omega
    have qx:=HRW.out.cl (k:=k) (by rw[blankTo_len (by omega)];exact hlt)
    have rx:=Blk.frozen HRW.out
    have lx:=Blk.lt HRW.out
    have HS:=Lib.hid (HRW.out.set_ k (-1))
    rw[blankTo_set hlt] at HS
    have HF2:=Lib.hid (HFR.out.set_ (p:=⟨x2,k,none⟩) (Or.inl rfl) (.int .i64 (-1)))
    clear HRW HFR
    go_wp2_with fail
    go_round
    case rel=>exact ⟨k+1,by omega,by go_num,HS.out,HF2.out⟩
    case measure=>simp[intOf];omega
   ·obtain rfl:k=8:=by omega
    rw[show ((8:Nat):Int)=8 from rfl]
    have HR2:Hid (RowI wr x2 blank8):=HRW.out
    have HR1:Hid (RowI wr x1 (modT c 1)):=by show RowI _ _ _;rw[modT_start];exact J1.out.fr HFR.out ne12
    have HB2:Hid (Below w.heap.size w wr):=HB1.out.trans (HFR.out.below (by omega) (by omega))
    have hz2:=HFR.out.size
    replace k0:=k0.fr HFR.out (by omega)
    replace k1:=k1.fr HFR.out (by omega)
    replace k2:=k2.fr HFR.out (by omega)
    clear HRW HFR J1 J2 HZ8 HB1 j5
    go_wp2_with fail
    clear q5 r5
    go_loopw [7,8] (fun nx i wy=>∃ n:Nat,n≤8∧i=.int .i64 ((n:Int)+1)∧nx=.int .i64 ((rk c n:Int)+1)∧Hid (RowI wy x1 (modT c (n+1)))∧Hid (Fr x1 wr wy)) (fun _ i _=>9 - (intOf i).toNat)
    case atStart=>exact ⟨0,by omega,rfl,by rw[show ((0:Nat):Int)=0 from rfl,rk_zero];rfl,HR1.out,Fr.refl _ _⟩
    case round=>
     clear HR1
     obtain ⟨n,hn,rfl,rfl,HRW,HFR⟩:=hrel
     have y5:=i5.fr HFR.out (by omega)
     have y1:=k1.fr HFR.out (by omega)
     have q5:=y5.cell
     have r5:=y5.frozen
     by_cases hlt:n<8
     ·have hni:(n:Int)+1≤8:=by omega
      have hni9:(n:Int)+1<9:=by omega
      have qc:wr.cell? ⟨w.heap.size+1,n+1,none⟩=some (.int .i64 (cl c ((n+1:Nat):Int))):=case_cell (y1.case HC.out.len) (by rw[HC.out.len];omega)
      have rc:=y1.frozen
      have HLE:=Lib.hid (HC.out.le (n+1) (by omega))
      have HID:=Lib.hid (HC.out.idem (n+1) (by omega))
      have HROOT:Hid (cl c ((n+1:Nat):Int)=((n+1:Nat):Int)→mval c ((n+1:Nat):Int)=(rk c (n:Int):Int)+1∧rk c ((n+1:Nat):Int)=rk c (n:Int)+1):=fun h=>by
       have:=mval_root (c:=c) (t:=n+1) (by omega) (by omega) h
       rw[show (((n+1:Nat):Int) - 1)=n from by omega] at this
       exact ⟨by rw[this.1];rfl,this.2⟩
      have HSAME:Hid (cl c ((n+1:Nat):Int)≠((n+1:Nat):Int)→rk c ((n+1:Nat):Int)=rk c (n:Int)):=fun h=>by
       have:=rk_same (c:=c) (t:=n+1) (by omega) (by omega) h
       rwa [show (((n+1:Nat):Int) - 1)=n from by omega] at this
      have HNONE:Hid (cl c ((n+1:Nat):Int)≤0→modT c (n+1+1)=modT c (n+1)):=fun h=>modT_keep c (by omega) (by omega) (mval_none h)
      have HOLD:Hid (∀ r:Nat,cl c ((n+1:Nat):Int)=r→cl c (r:Int)=r→mval c (r:Int)=mval c ((n+1:Nat):Int)):=fun r h h'=>mval_old h h'
      have HST:Hid (RowI (wr.setCell ⟨x1,n,none⟩ (.int .i64 (mval c ((n+1:Nat):Int)))) x1 (modT c (n+1+1))):=by
       have:=HRW.out.set_ n (mval c ((n+1:Nat):Int))
       rwa [show (modT c (n+1)).set n (mval c ((n+1:Nat):Int))=modT c (n+1+1) from modT_set c (t:=n+1) (by omega) (by omega)] at this
      have HF2:Hid (∀ v,Fr x1 _ (wr.setCell ⟨x1,n,none⟩ v)):=fun v=>HFR.out.set_ (p:=⟨x1,n,none⟩) (Or.inl rfl) v
      have qx:=HRW.out.cl (k:=n) (by rw[modT_len];exact hlt)
      have rx:=Blk.frozen HRW.out
      have lx:=Blk.lt HRW.out
      have hrk:rk c (n:Int)≤8:=rk_le _ _
      obtain ⟨x,hx⟩:∃ x,x=cl c ((n+1:Nat):Int):=⟨_,rfl⟩
      rw[←hx] at qc HLE HID HROOT HSAME HNONE HOLD
      generalize (rk c (n:Int))=R at HROOT HSAME hrk ⊢
      generalize (cl (modT c (n+1)) (n:Int))=y at qx
      clear hx
      by_cases hroot:x=(n:Int)+1
      ·have hb:(x == (n:Int)+1)=true:=by simpa using hroot
       have e1:=HROOT.out (by omega)
       rw[e1.1] at HST
       have HRK:=Lib.hid e1.2
       clear HROOT HSAME HNONE HOLD HID HLE e1 HRW HFR
       rw[hroot] at qc
       clear hroot hb
       go_wp2_with fail
       go_round
       case rel=>exact ⟨n+1,by omega,by go_num,by rw[HRK.out];go_num,HST.out,HF2.out _⟩
       case measure=>simp[intOf];omega
      ·have hb:(x == (n:Int)+1)=false:=by simpa using hroot
       have HRK:=Lib.hid (HSAME.out (by omega))
       clear HSAME HROOT
       by_cases hpos:0<x
       ·obtain ⟨r,rfl⟩:∃ r:Nat,x=(r:Int)+1:=⟨(x - 1).toNat,by omega⟩
        have hle:=HLE.out.2
        have hrn:r<n:=by omega
        have hid:=HID.out (by omega)
        have hold:=HOLD.out (r+1) (by omega) (by rw[show (((r+1:Nat):Int))=(r:Int)+1 from by omega];exact hid)
        have hcl:cl (modT c (n+1)) (r:Int)=mval c ((n+1:Nat):Int):=by
         rw[modT_cl c (by omega),if_pos (by omega)];exact hold
        have qv:=HRW.out.cl (k:=r) (by rw[modT_len];omega)
        rw[hcl] at qv
        have qv2:=HST.out.cl (k:=r) (by rw[modT_len];omega)
        rw[show cl (modT c (n+1+1)) (r:Int)=mval c ((n+1:Nat):Int) from by rw[modT_cl c (by omega),if_pos (by omega)];exact hold] at qv2
        have QV2:=Lib.hid qv2
        clear qv2
        have hr8:(r:Int)<8:=by omega
        have hn8:(n:Int)<8:=by omega
        have hrne:r≠n:=by omega
        have hn0:0≤(n:Int)+1:=by omega
        have hr0:0≤(r:Int)+1:=by omega
        have hn00:0≤(n:Int):=by omega
        have hr00:0≤(r:Int):=by omega
        have hwr:IntKind.i64.wrap (r:Int)=(r:Int):=IntWalk.i64_in _ (by omega)
        have hwn:IntKind.i64.wrap (n:Int)=(n:Int):=IntWalk.i64_in _ (by omega)
        generalize mval c ((n+1:Nat):Int)=m at HST qv QV2
        clear hcl hold hid HOLD HID HLE HNONE hroot hle HRW
        go_wp2_with fail
        refine wp_region_noPanic ?_
        refine wp_region_held_drew (S:=(fun w'=>(∀ i,w'.cell? ⟨x5,i,none⟩=#[.slice (some ⟨x1,0,none⟩) 8 8,.slice (some ⟨x2,0,none⟩) 8 8][i]?)∧w'.cell? ⟨w.heap.size+1,n+1,none⟩=some (.int .i64 ((r:Int)+1))∧w'.cell? ⟨x1,r,none⟩=some (.int .i64 m))) (by kernel_rfl) (⟨y5.drew.cell,qc,qv⟩) (fun hHeld=>?_)
        refine tk2 0 rfl hHeld ?_
        try simp only[zz]
        refine tk2 1 rfl hHeld ?_
        try simp only[zz]
        refine tk2 2 rfl hHeld ?_
        try simp only[zz]
        refine tk2 3 rfl hHeld ?_
        try simp only[zz]
        refine tk2 4 rfl hHeld ?_
        try simp only[zz]
        refine tk2 5 rfl hHeld ?_
        try simp only[zz]
        refine tk2 6 rfl hHeld ?_
        try simp only[zz]
        refine tk2 7 rfl hHeld ?_
        try simp only[zz]
        refine tk2 8 rfl hHeld ?_
        try simp only[zz]
        refine tk2 9 rfl hHeld ?_
        try simp only[zz]
        refine tk2 10 rfl hHeld ?_
        try simp only[zz]
        refine tk2 11 rfl hHeld ?_
        try simp only[zz]
        refine tk2 12 rfl hHeld ?_
        try simp only[zz]
        refine rdc 13 rfl fun K hK=>?_
        try simp only[zz]
        go_simp
        refine hK.out _ _ (⟨(y5.drew.far (p:=⟨x1,n,none⟩) (by simp only;omega) _).cell,((y1.drew.far (p:=⟨x1,n,none⟩) (by simp only;omega) _).cell _).trans ((y1.cell _).symm.trans qc),QV2.out⟩) ?_
        clear hHeld hK K
        intro hHeld
        try simp only[zz]
        refine wpAnyH_done (by kernel_rfl) ?_ _
        refine NoPanic.normal ?_
        clear hwr hwn
        go_wp2_with fail
        go_round
        case rel=>exact ⟨n+1,by omega,by go_num,by rw[HRK.out],HST.out,(HF2.out _).drew⟩
        case measure=>simp[intOf];omega
       ·have e:=HNONE.out (by omega)
        have HN:Hid (RowI wr x1 (modT c (n+1+1))):=by show RowI _ _ _;rw[e];exact HRW.out
        clear e HNONE HOLD HID HLE hroot HRW
        go_wp2_with fail
        go_round
        case rel=>exact ⟨n+1,by omega,by go_num,by rw[HRK.out],HN.out,HFR.out⟩
        case measure=>simp[intOf];omega
     ·obtain rfl:n=8:=by omega
      rw[show ((8:Nat):Int)=8 from rfl]
      have HRV:Hid (RowI wr x1 (modV c)):=by show RowI _ _ _;rw[←modT_end];exact HRW.out
      have HRH:=Lib.hid (HR2.out.fr HFR.out (by omega))
      have HB3:Hid (Below w.heap.size w wr):=HB2.out.trans (HFR.out.below (by omega) (by omega))
      replace k0:=k0.fr HFR.out (by omega)
      replace k2:=k2.fr HFR.out (by omega)
      have hz3:=HFR.out.size
      have K1:=Lib.hid (y1.case HC.out.len)
      have l1b:=y1.lt
      clear HRW HFR HR2 HB2 i5 k1 y1
      (replace qk0:=k0.cell;replace rk0:=k0.frozen;replace lk0:=k0.lt)
      go_wp2_with fail
      refine (c_impl_filled A2 c2 a.atoms c (w.heap.size+1) _ (H2.out.below HB3.out) K1.out HC.out.len HOK.out.2).mono ?_
      rintro e w4 ⟨r4,rfl,o4,hB4⟩
      obtain ⟨A4,c4,rfl,f4⟩:=o4.reads
      have HLV:=Lib.hid f4
      replace HB3:=Lib.hid (bgo HB3.out hB4)
      replace HRV:=Lib.hid (Blk.next HRV.out hB4)
      replace HRH:=Lib.hid (Blk.next HRH.out hB4)
      replace k2:=k2.next hB4
      replace y5:=y5.next hB4
      have hz4:=hB4.size
      have hL:=f4.le
      clear o4 f4 hB4 k0 qk0 rk0 lk0 K1 q5 r5
      obtain ⟨L,hLe⟩:∃ L,L=filledL a.atoms c:=⟨_,rfl⟩
      have HLE:=Lib.hid hLe
      rw[←hLe] at HLV HF hL ⊢
      clear hLe
      go_wp2_with fail
      go_loopw [65] (fun i wr=>∃ k:Nat,k≤L.length∧i=.int .i64 k∧Hid (RowI wr x2 (heapS (modV c) blank8 (L.take k)))∧Hid (Fr x2 w4 wr)) (fun i _=>L.length - (intOf i).toNat)
      case atStart=>exact ⟨0,Nat.zero_le _,rfl,HRH.out,Fr.refl _ _⟩
      case round=>
       clear HRH
       obtain ⟨k,hk,rfl,HRW,HFR⟩:=hrel
       have i5:=y5.fr HFR.out (by omega)
       have hzr:=HFR.out.size
       by_cases hlt:k<L.length
       ·have hki:(k:Int)<(L.length:Int):=by omega
        have hlv:AtomsV wr _ _ A4 L:=⟨HLV.out.raw.fr HFR.out (Or.inl (by omega)),HLV.out.lim⟩
        obtain ⟨b,o,rfl,g0,g1,g2⟩:=hlv.at hlt
        have hbl:=block_lt_of_cell g0
        have HXF:=Lib.hid (HF.out _ (List.getElem_mem hlt))
        have HST:=Lib.hid (heapS_take (modV c) blank8 L hlt)
        obtain ⟨x,hx⟩:∃ x,x=L[k]:=⟨_,rfl⟩
        rw[←hx] at g0 g1 g2 HXF HST
        have hxa:=HXF.out.1
        have hxb:=HXF.out.2.1
        obtain ⟨m,hm⟩:∃ m:Nat,tval (modV c) x.a=(m:Int)+1:=⟨(tval (modV c) x.a - 1).toNat,by have:=HXF.out.2.2.1;omega⟩
        have hm8:m<8:=by have:=HXF.out.2.2.1;omega
        have hmi:(m:Int)<8:=by omega
        have hm0:0≤(m:Int):=by omega
        have hwm:IntKind.i64.wrap (m:Int)=(m:Int):=IntWalk.i64_in _ (by omega)
        have HM:=Lib.hid hm
        rw[hm,show ((m:Int)+1 - 1).toNat=m from by omega] at HST
        have HRV2:Hid (RowI (wr.alloc (.cells #[.int .i64 x.kind,.int .i64 x.a,.int .i64 x.b] tA)) x1 (modV c)):=Blk.alloc (HRV.out.fr HFR.out ne12) _
        have HRW2:Hid (RowI (wr.alloc (.cells #[.int .i64 x.kind,.int .i64 x.a,.int .i64 x.b] tA)) x2 (heapS (modV c) blank8 (L.take k))):=Blk.alloc HRW.out _
        have HF2:=Lib.hid (HFR.out.alloc (.cells #[.int .i64 x.kind,.int .i64 x.a,.int .i64 x.b] tA))
        have j5:=i5.alloc (.cells #[.int .i64 x.kind,.int .i64 x.a,.int .i64 x.b] tA)
        have kx:Blk (wr.alloc (.cells #[.int .i64 x.kind,.int .i64 x.a,.int .i64 x.b] tA)) wr.heap.size tA #[.int .i64 x.kind,.int .i64 x.a,.int .i64 x.b]:=Blk.new _ _ _
        have lx5:=i5.lt
        clear hx hm HXF HRW HFR
        go_wp2_with fail
        have l2x:=Blk.lt HRW2.out
        rw[World.size_alloc] at l2x
        have hxw:x2<wr.heap.size:=by have:=HF2.out.size;omega
        have qw:=HRW2.out.cl (k:=m) (by rw[heapS_len];exact hm8)
        have rw_:=Blk.frozen HRW2.out
        have lw:=Blk.lt HRW2.out
        generalize hX:wr.heap.size=X at kx hxw lx5 hbl ⊢
        clear hX
        generalize (wr.alloc (.cells #[.int .i64 x.kind,.int .i64 x.a,.int .i64 x.b] tA))=W5 at kx j5 HRV2 HRW2 HF2 qw rw_ lw ⊢
        refine wp_region_noPanic ?_
        refine wp_region_held_drew (S:=(fun w'=>(∀ i,w'.cell? ⟨x5,i,none⟩=#[.slice (some ⟨x1,0,none⟩) 8 8,.slice (some ⟨x2,0,none⟩) 8 8][i]?)∧(∀ i,w'.cell? ⟨X,i,none⟩=#[.int .i64 x.kind,.int .i64 x.a,.int .i64 x.b][i]?))) (by kernel_rfl) (⟨j5.drew.cell,kx.drew.cell⟩) (fun hHeld=>?_)
        refine tk2 0 rfl hHeld ?_
        try simp only[zz]
        refine tk2 1 rfl hHeld ?_
        try simp only[zz]
        refine tk2 2 rfl hHeld ?_
        try simp only[zz]
        refine tk2 3 rfl hHeld ?_
        try simp only[zz]
        refine tk2 4 rfl hHeld ?_
        try simp only[zz]
        refine tk2 5 rfl hHeld ?_
        try simp only[zz]
        refine tk2 8 rfl hHeld ?_
        try simp only[zz]
        refine tk2 9 rfl hHeld ?_
        try simp only[zz]
        refine tk2 10 rfl hHeld ?_
        try simp only[zz]
        refine tk2 11 rfl hHeld ?_
        try simp only[zz]
        refine rdc 6 rfl fun K hK=>?_
        try simp only[zz]
        (go_simp;refine (c_termV8 _ 8 (modV c) x.a _ (IntsV.below (RowI.toV HRV2.out (by rw[HMV.out.1];omega)) (Below.refl _ _).drew) HMV.out.1 hxa.1 hxa.2).mono ?_;rintro e w6 ⟨rfl,rfl⟩;rw[HM.out])
        refine hK.out _ _ (⟨j5.drew.cell,kx.drew.cell⟩) ?_
        clear hHeld hK K
        intro hHeld
        try simp only[zz]
        refine tk2 7 rfl hHeld ?_
        try simp only[zz]
        refine rdc 12 rfl fun K hK=>?_
        try simp only[zz]
        (go_simp;refine (c_termV8 _ 8 (modV c) x.b _ (IntsV.below (RowI.toV HRV2.out (by rw[HMV.out.1];omega)) (Below.refl _ _).drew) HMV.out.1 hxb.1 hxb.2).mono ?_;rintro e w6 ⟨rfl,rfl⟩)
        refine hK.out _ _ (⟨j5.drew.cell,kx.drew.cell⟩) ?_
        clear hHeld hK K
        intro hHeld
        try simp only[zz]
        refine tk2 13 rfl hHeld ?_
        try simp only[zz]
        refine rdc 14 rfl fun K hK=>?_
        try simp only[zz]
        go_simp
        refine hK.out _ _ (⟨(j5.drew.far (p:=⟨x2,m,none⟩) (by simp only;omega) _).cell,(kx.drew.far (p:=⟨x2,m,none⟩) (by simp only;omega) _).cell⟩) ?_
        clear hHeld hK K
        intro hHeld
        try simp only[zz]
        refine wpAnyH_done (by kernel_rfl) ?_ _
        refine NoPanic.normal ?_
        have HN:Hid (RowI (W5.setCell ⟨x2,m,none⟩ (.int .i64 (tval (modV c) x.b))).drew x2 (heapS (modV c) blank8 (L.take (k+1)))):=by
         show RowI _ _ _
         rw[HST.out]
         exact HRW2.out.set_ m _
        have HFN:=Lib.hid ((HF2.out.set_ (p:=⟨x2,m,none⟩) (Or.inl rfl) (.int .i64 (tval (modV c) x.b))).drew)
        clear qw rw_ lw hwm HRW2 HF2
        go_wp2_with fail
        go_round
        case rel=>exact ⟨k+1,by omega,by go_num,HN.out,HFN.out⟩
        case measure=>simp[intOf];omega
       ·obtain rfl:k=L.length:=by omega
        rw[List.take_length] at HRW
        have z2:=k2.fr HFR.out (by omega)
        have HRV3:=Lib.hid (HRV.out.fr HFR.out ne12)
        have HB5:Hid (Below w.heap.size w wr):=HB3.out.trans (HFR.out.below (by omega) (by omega))
        have HH8:Hid ((heapS (modV c) blank8 L).length=8):=heapS_len _ _ _
        have q5:=i5.cell
        have r5:=i5.frozen
        have q2:=z2.cell
        have r2:=z2.frozen
        have l2c:=z2.lt
        clear HFR
        go_wp2_with fail
        refine bodyPost_ret (v:=.agg #[.slice (some ⟨x1,0,none⟩) 8 8,.slice (some ⟨x2,0,none⟩) 8 8]) (by simp[results,Tryz.results75,go_sem,q2,l2c]) rfl ⟨_,rfl,⟨_,_,rfl,?_,?_,?_⟩,?_⟩
        ·exact RowI.toO (vs:=modV c) (Blk.far (Blk.far HRV3.out (p:=⟨w.heap.size+1+1,0,none⟩) (by simp only;omega) _) (p:=⟨w.heap.size+1+1,1,none⟩) (by simp only;omega) _) (by omega) HMV.out.1 (by omega)
        ·show IntsO _ _ _ (heapS (modV c) blank8 (filledL a.atoms c))
         rw[←HLE.out]
         exact RowI.toO (Blk.far (Blk.far HRW.out (p:=⟨w.heap.size+1+1,0,none⟩) (by simp only;omega) _) (p:=⟨w.heap.size+1+1,1,none⟩) (by simp only;omega) _) (by omega) HH8.out (by omega)
        ·intro g e1 e2
         simp only[Value.ownBlock,Option.some.injEq] at e1 e2
         omega
        ·exact (HB5.out.setCell (p:=⟨w.heap.size+1+1,0,none⟩) (by simp only;omega) _).setCell (p:=⟨w.heap.size+1+1,1,none⟩) (by simp only;omega) _
end

end Go.Proofs.YtmcgbeladjlcpaaGreat
