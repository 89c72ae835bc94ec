/- Entailment in a valuation: what it means, that it composes, and that it preserves truth. Plain; no program. -/
import Derived.Test.YtjaohekkmlkinaaGreatMaCaseP
import Derived.Test.YtjaohekkmlkinaaGreatMaSymK
import Derived.Deep.DeepCutAuto
import Derived.BigQuiet
import Derived.Deep.QuietTactic
import Derived.IntWalk
set_option linter.unusedSimpArgs false
set_option linter.unusedVariables false
set_option maxRecDepth 100000
set_option maxHeartbeats 25600000
namespace Go.Proofs.YtjaohekkmlkinaaGreat
section
open Go Go.RowKit
def EntM (M:Int→Int) (a b:Asn):Prop:=(∀ f∈b.facts,decide (M f.a=M f.b)=f.eq)∧Cover M (a.atoms.filter (fillM M)) (b.atoms.filter (fillM M))
section
variable {M N:Int→Int} {T:Int→Prop} {F G:List Atm}
theorem Clo.same (h0:T 0) (he:∀ s t,T s→T t→(M s=M t↔N s=N t)) {q:Int} (hF:∀ y∈F,T y.a∧T y.b) (hq:T q) (h:Clo M F (M q)):Clo N F (N q):=by
 rcases h with h|⟨y,hy,e⟩
 ·exact .inl ((he _ _ hq h0).1 h)
 ·exact .inr ⟨y,hy,(he _ _ (hF y hy).1 hq).1 e⟩
theorem SegM.same (h0:T 0) (he:∀ s t,T s→T t→(M s=M t↔N s=N t)) (hF:∀ y∈F,T y.a∧T y.b) {q:Int} (hq:T q):∀ (cs:List Atm) (p:Int),T p→(∀ y∈cs,y∈F)→SegM M F (M q) (M p) cs→SegM N F (N q) (N p) cs
 | [],_,_,_,h=>absurd h id
 | y :: cs,p,hp,hm,h=>by
  have hy:=hF y (hm y List.mem_cons_self);refine ⟨(he _ _ hy.1 hp).1 h.1,?_⟩;rcases h.2 with ⟨e,hb⟩|⟨hne,hb,hc,hs⟩
  ·exact .inl ⟨e,(he _ _ hy.2 hq).1 hb⟩
  ·exact .inr ⟨hne,fun e=>hb ((he _ _ hy.2 hq).2 e),fun hk=>(hc hk).same h0 he hF hq,SegM.same h0 he hF hq cs y.b hy.2 (fun z hz=>hm z (List.mem_cons_of_mem _ hz)) hs⟩
theorem Cover.same (h0:T 0) (he:∀ s t,T s→T t→(M s=M t↔N s=N t)) (hF:∀ y∈F,T y.a∧T y.b) (hG:∀ y∈G,T y.a∧T y.b) (h:Cover M F G):Cover N F G:=by
 obtain ⟨g,h1,h2⟩:=h;refine ⟨g,fun x hx=>?_,h2⟩;have hm:∀ y∈g x,y∈F:=fun y hy=>h2.mem_iff.2 (List.mem_flatMap.2 ⟨x,hx,hy⟩);have hc:=h1 x hx;unfold CovM at hc ⊢
 split
 ·rename_i hk;rw[if_pos hk] at hc;obtain ⟨y,e,e2⟩:=hc;have hy:=hF y (hm y (by rw[e];simp));obtain ⟨e3,e4,e5⟩:=cls_inj e2;refine ⟨y,e,?_⟩;unfold clsM;rw[e3,(he _ _ hy.1 (hG x hx).1).1 e4,(he _ _ hy.2 (hG x hx).2).1 e5]
 ·rename_i hk;rw[if_neg hk] at hc;exact SegM.same h0 he hF (hG x hx).2 _ _ (hG x hx).1 hm hc
theorem fill_same (he:∀ s t,T s→T t→(M s=M t↔N s=N t)) {xs:List Atm} (hx:∀ y∈xs,T y.a∧T y.b):xs.filter (fillM M)=xs.filter (fillM N):=by
 refine List.filter_congr fun y hy=>?_;unfold fillM;rw[decide_eq_decide.2 (he _ _ (hx y hy).1 (hx y hy).2)]
theorem EntM.same {a b:Asn} (h0:T 0) (he:∀ s t,T s→T t→(M s=M t↔N s=N t)) (ha:∀ y∈a.atoms,T y.a∧T y.b) (hb:∀ y∈b.atoms,T y.a∧T y.b) (hf:∀ f∈b.facts,T f.a∧T f.b) (h:EntM M a b):EntM N a b:=by
 refine ⟨fun f hm=>?_,?_⟩
 ·rw[←h.1 f hm,decide_eq_decide];exact (he _ _ (hf f hm).1 (hf f hm).2).symm
 ·rw[←fill_same he ha,←fill_same he hb];exact h.2.same h0 he (fun y hy=>ha y (List.mem_filter.1 hy).1) (fun y hy=>hb y (List.mem_filter.1 hy).1)
end
theorem valid_kind {a:Asn} (h:a.valid=true) {x:Atm} (hx:x∈a.atoms):x.kind=1∨x.kind=2:=by
 simp only[Asn.valid,Bool.and_eq_true] at h;have:=List.all_eq_true.1 h.2.2 x hx;simp[Atm.valid] at this;exact this.1.1
section
variable {M:Int→Int} {a b c:Asn}
theorem EntM.sat (h:EntM M a b) (ha:Sat M a):Sat M b:=by
 refine ⟨h.1,fun x hx hf=>?_,h.2.starts ha.apart⟩;obtain ⟨g,h1,h2⟩:=h.2;have hx':x∈b.atoms.filter (fillM M):=List.mem_filter.2 ⟨hx,hf⟩;obtain ⟨y,ys,e1,e2⟩:=cov_head (h1 x hx');have hy:y∈a.atoms.filter (fillM M):=h2.mem_iff.2 (List.mem_flatMap.2 ⟨x,hx',by rw[e1];simp⟩);rw[List.mem_filter] at hy;rw[←e2];exact ha.nil y hy.1 hy.2
theorem EntM.trans (h1:EntM M a b) (h2:EntM M b c) (ha:Sat M a) (hb:b.valid=true):EntM M a c:=
 ⟨h2.1,h1.2.trans h2.2 ha.apart (fun y hy=>ha.nil y (List.mem_filter.1 hy).1 (List.mem_filter.1 hy).2) fun z hz=>valid_kind hb (List.mem_filter.1 hz).1⟩
theorem Cover.perm {F G:List Atm} (h:F.Perm G):Cover M F G:=by
 refine ⟨fun x=>[x],fun x hx=>?_,by simpa using h⟩;unfold CovM
 split
 ·exact ⟨x,rfl,rfl⟩
 ·exact ⟨rfl,.inl ⟨rfl,rfl⟩⟩
theorem EntM.refl (ha:Sat M a):EntM M a a:=⟨ha.facts,Cover.perm (List.Perm.refl _)⟩
end
/-! truth in states -/
def cellsOf (s:Ste) (x:Atm):List Int:=(atomCells s x).getD []
section
variable {M:Int→Int} {F G G':List Atm} {a:Asn} {x:Atm} {i:Nat} {t m:Int}
theorem Cover.mk {css:List (List Atm)} (h:Covs M F G css) (hp:F.Perm css.flatten) (hn:(F.map fun y=>M y.a).Nodup):Cover M F G:=by
 have hs:=covs_starts G css h;obtain ⟨g,g1,g2⟩:=covs_fun G css h (((hp.map fun y=>M y.a).nodup_iff.1 hn).sublist hs);exact ⟨g,g2,by rw[←g1];exact hp⟩
theorem cov_self (y:Atm):CovM M F y [y]:=by
 unfold CovM
 split
 ·exact ⟨y,rfl,rfl⟩
 ·exact ⟨rfl,.inl ⟨rfl,rfl⟩⟩
theorem covs_self:∀ (G:List Atm),Covs M F G (G.map fun y=>[y])
 | []=>trivial
 | y :: G=>⟨cov_self y,covs_self G⟩
theorem flat_self:∀ (G:List Atm),(G.map fun y=>[y]).flatten=G
 | []=>rfl
 | y :: G=>by simp[flat_self G]
theorem Cover.permG (h:Cover M F G) (hp:G.Perm G'):Cover M F G':=by
 obtain ⟨g,h1,h2⟩:=h;exact ⟨g,fun x hx=>h1 x (hp.mem_iff.2 hx),h2.trans (hp.flatMap_right g)⟩
theorem fill_perm (hx:a.atoms[i]? = some x):(a.atoms.filter (fillM M)).Perm ((x :: zv a.atoms i).filter (fillM M)):=(without_perm hx).filter _
theorem cell_fill {p q:Int}:fillM M ⟨1,p,q⟩=true:=rfl
theorem ent_ofCell (hx:a.atoms[i]? = some x) (hk:x.kind=1) (hs:Sat M (cellX a x i t)):M x.a=M t∧EntM M (cellX a x i t) a:=by
 have hfx:fillM M x=true:=by unfold fillM;rw[decide_eq_true hk];rfl
 have ht:M x.a=M t:=by
  by_cases e:x.a=t
  ·rw[e]
  ·exact of_decide_eq_true (hs.facts ⟨true,x.a,t⟩ (by simp[cellX,e]))
 refine ⟨ht,fun f hf=>hs.facts f (by simp[cellX,hf]),?_⟩;have hp:=fill_perm (M:=M) hx;rw[List.filter_cons_of_pos hfx] at hp;have hn:=hs.apart;simp only[cellX] at hn ⊢;rw[List.filter_cons_of_pos cell_fill] at hn ⊢;refine (Cover.mk (G:=x :: (zv a.atoms i).filter (fillM M)) (css:=[⟨1,t,x.b⟩] :: ((zv a.atoms i).filter (fillM M)).map fun y=>[y]) ⟨?_,covs_self _⟩ (by rw[List.flatten_cons,flat_self];exact List.Perm.refl _) hn).permG hp.symm;unfold CovM;rw[if_pos hk];exact ⟨_,rfl,by simp[clsM,hk,ht]⟩
theorem unfill (hk:x.kind=2) (he:M x.a=M x.b):fillM M x=false:=by
 unfold fillM;rw[decide_eq_false (by omega),decide_eq_true he];rfl
theorem ent_ofEmpty (hx:a.atoms[i]? = some x) (hk:x.kind=2) (hs:Sat M (emptyX a x i)):EntM M (emptyX a x i) a:=by
 have he:M x.a=M x.b:=of_decide_eq_true (hs.facts ⟨true,x.a,x.b⟩ (by simp[emptyX]));refine ⟨fun f hf=>hs.facts f (by simp[emptyX,hf]),?_⟩;have hp:=fill_perm (M:=M) hx;rw[List.filter_cons_of_neg (by simp[unfill hk he])] at hp;exact Cover.perm hp.symm
theorem ent_ofFull (hx:a.atoms[i]? = some x) (hk:x.kind=2) (hs:Sat M (fullX a x i m)):EntM M (fullX a x i m) a:=by
 have hne:decide (M x.a=M x.b)=false:=hs.facts ⟨false,x.a,x.b⟩ (by simp[fullX]);have hfx:fillM M x=true:=by unfold fillM;rw[hne];simp
 have hn:=hs.apart;refine ⟨fun f hf=>hs.facts f (by simp[fullX,hf]),?_⟩;have hp:=fill_perm (M:=M) hx;rw[List.filter_cons_of_pos hfx] at hp;simp only[fullX] at hn ⊢;rw[List.filter_append,List.filter_append,List.filter_cons_of_pos cell_fill,List.filter_nil] at hn ⊢;refine Cover.permG ?_ hp.symm;cases hfl:fillM M ⟨2,m,x.b⟩
 ·have hmb:M m=M x.b:=by simpa[fillM] using hfl
  rw[List.filter_cons_of_neg (by simp[hfl]),List.filter_nil,List.append_nil] at hn ⊢;refine Cover.mk (css:=[⟨1,x.a,m⟩] :: ((zv a.atoms i).filter (fillM M)).map fun y=>[y]) ⟨?_,covs_self _⟩ (by rw[List.flatten_cons,flat_self];done) hn;unfold CovM;rw[if_neg (by omega)];exact ⟨rfl,.inl ⟨rfl,hmb⟩⟩
 ·have hmb:M m≠M x.b:=by simpa[fillM] using hfl
  rw[List.filter_cons_of_pos hfl,List.filter_nil] at hn ⊢;refine Cover.mk (css:=[⟨1,x.a,m⟩,⟨2,m,x.b⟩] :: ((zv a.atoms i).filter (fillM M)).map fun y=>[y]) ⟨?_,covs_self _⟩ ?_ hn
  ·unfold CovM;rw[if_neg (by omega)];exact ⟨rfl,.inr ⟨by simp,hmb,fun (h:(1:Int)=2)=>absurd h (by decide),rfl,.inl ⟨rfl,rfl⟩⟩⟩
  ·rw[List.flatten_cons,flat_self];simp only[List.singleton_append,List.cons_append,List.nil_append];exact (List.perm_append_singleton _ _).cons _
end
theorem expose_valid {n:Nat} {a:Asn} {t:Int} {K:Nat} {l:List Asn} (h:exposeF n a t K=some l):a.valid=true:=by
 cases hv:a.valid
 ·rw[expose_bad hv] at h;cases h
 ·rfl
theorem expose_ent:∀ (n:Nat) (a:Asn) (t:Int) (K:Nat) (l:List Asn),exposeF n a t K=some l→∀ e∈l,e.valid=true∧(∀ M,Sat M e→EntM M e a)∧∃ b rest,e.atoms=⟨1,t,b⟩ :: rest
 | 0,_,_,_,_,h=>by cases h
 | n+1,a,t,K,l,h=>by
  intro e he;have hv:=expose_valid h;cases hc:consB a
  ·rw[expose_no hv hc] at h;obtain rfl:=Option.some.inj h;cases he
  cases hf:findK a 1 t with
  | some i=>
   obtain ⟨x,hx,hk,-,-⟩:=find_some hf;rw[expose_cell hv hc hf hx] at h
   split at h
   ·rename_i hcv;obtain rfl:=Option.some.inj h;obtain rfl:=List.mem_singleton.1 he;exact ⟨hcv,fun M hM=>(ent_ofCell hx hk hM).2,_,_,rfl⟩
   ·cases h
  | none=>
   cases hg:findK a 2 t with
   | none=>rw[expose_none hv hc hf hg] at h;cases h
   | some i=>
    obtain ⟨x,hx,hk,-,-⟩:=find_some hg;rw[expose_list hv hc hf hg hx] at h;unfold listF at h
    split at h
    ·cases h
    ·rename_i m hm
     split at h
     ·cases h
     ·rename_i l1 h1
      split at h
      ·cases h
      ·rename_i l2 h2;obtain rfl:=Option.some.inj h;rcases List.mem_append.1 he with he|he
       ·obtain ⟨g1,g2,g3⟩:=expose_ent n _ _ _ _ h1 e he;exact ⟨g1,fun M hM=>(g2 M hM).trans (ent_ofEmpty hx hk ((g2 M hM).sat hM)) hM (expose_valid h1),g3⟩
       ·obtain ⟨g1,g2,g3⟩:=expose_ent n _ _ _ _ h2 e he;exact ⟨g1,fun M hM=>(g2 M hM).trans (ent_ofFull hx hk ((g2 M hM).sat hM)) hM (expose_valid h2),g3⟩
end
section
open Go Go.RowKit Go.Proofs
attribute [local go_sem ↓] Go.wp_at_zero Go.wp_at_succ
theorem symB_eq {a:Asn} {A:Int} {K:Nat}:symB a 1 A A K=some [a]:=by unfold symB;rw[if_pos rfl,if_pos rfl]
theorem symB_set {a:Asn} {A B:Int} {K:Nat} (h:¬A=B):symB a 1 A B K=(assignF a A B K).map fun x=>[x]:=by unfold symB;rw[if_pos rfl,if_neg h]
theorem symB_new {a:Asn} {A B:Int} {K:Nat}:symB a 4 A B K=(cellNF a A K).map fun x=>[x]:=rfl
theorem symB_acc {a:Asn} {k A B:Int} {K:Nat} (h1:¬k=1) (h4:¬k=4):symB a k A B K=(exposeF 7 a (symT k A B) K).bind fun l=>mapF (fun x=>accF k A B x K) l:=by unfold symB;rw[if_neg h1,if_neg h4]
theorem c_symB1 {lo hi:Nat} (v:Value) (a:Asn) (A B:Int) (t:Fct) (X1 X2 X3 X4:Option Addr) (n1 n2 n3 n4 d1 d2 d3 d4 K0:Nat) (w:World) (h:AsnC w lo hi v a) (hhi:hi≤w.heap.size) (hv:a.valid=true) (hK0:K0<512) (hA:jq A=true) :
  Calls Tryz.prog 231 #[v,.agg #[.int .i64 1,.int .i64 A,.int .i64 B,.bool t.eq,.int .i64 t.a,.int .i64 t.b,.slice X1 n1 d1,.slice X2 n2 d2,.slice X3 n3 d3,.slice X4 n4 d4],.int .u16 K0] w fun e w'=>∃ r vs,e=.returned (.tuple #[r,.bool (symB a 1 A B (keepK K0 A B)).isSome])∧A2O w' w.heap.size r vs ((symB a 1 A B (keepK K0 A B)).getD [])∧Below w.heap.size w w':=by
 have hV:=ax h;obtain ⟨A1,c1,A2,c2,rfl,-⟩:=h;have hvl:=zjC hv;have HV:=ax hv;obtain ⟨K1,hK1⟩:∃ x,x=tins K0 A:=⟨_,rfl⟩;have l1:K1<512:=by rw[hK1];exact tins_lt hK0 _
 obtain ⟨K2,hK2⟩:∃ x,x=tins K1 B:=⟨_,rfl⟩;have l2:K2<512:=by rw[hK2];exact tins_lt l1 _
 have EK:aJ (keepK K0 A B=K2):=ax (by rw[hK2,hK1];rfl);rw[EK.o];replace hK1:=ax hK1;replace hK2:=ax hK2;clear hv EK;(go_enter Tryz.func231,Tryz.ntmps231);(go_upto_region 1 with fail);refine bx2 (w:=w) (F:=Code.wp _ _ _ _) ?_;rintro W k3 k4 HB hz;replace HB:=ax HB;refine wp_region_noPanic ?_;refine wp_region_held_drew (S:=(fun w'=>(∀ i,w'.cell? ⟨w.heap.size,i,none⟩=#[.slice A1 a.facts.length c1,.slice A2 a.atoms.length c2][i]?)∧(∀ i,w'.cell? ⟨w.heap.size+1,i,none⟩=#[.int .i64 1,.int .i64 A,.int .i64 B,.bool t.eq,.int .i64 t.a,.int .i64 t.b,.slice X1 n1 d1,.slice X2 n2 d2,.slice X3 n3 d3,.slice X4 n4 d4][i]?))) (by kernel_rfl) (⟨k3.drew.cell,k4.drew.cell⟩) (fun aH=>?_);refine tk2 0 rfl aH (h:=tk2 1 rfl aH (h:=tk2 2 rfl aH (h:=?_)));(try simp only[zz]);refine tk2 4 rfl aH (h:=tk2 5 rfl aH (h:=?_));refine rdc 3 rfl fun K hK=>?_;(try simp only[zz]);(go_simp;refine (c_impl_with K0 A _ hK0).mono ?_;rintro e w1 ⟨rfl,rfl⟩;rw[←hK1.o]);refine hK.out _ _ (⟨k3.drew.cell,k4.drew.cell⟩) ?_;clear aH hK K;intro aH;refine rdc 6 rfl fun K hK=>?_;(try simp only[zz]);(go_simp;refine (c_impl_with K1 B _ l1).mono ?_;rintro e w1 ⟨rfl,rfl⟩;rw[←hK2.o]);refine hK.out _ _ (⟨k3.drew.cell,k4.drew.cell⟩) ?_;clear aH hK K;intro aH;(try simp only[zz]);refine tk2 7 rfl aH (h:=?_);(try simp only[zz]);refine dn1 ?_;replace k3:=k3.drew;replace k4:=k4.drew;replace HB:=ax HB.o.drew;have hzd:W.drew.heap.size=W.heap.size:=rfl;clear aH hK1 hK2 l1;generalize W.drew=V at k3 k4 HB hzd ⊢;by_cases hAB:A=B
 ·subst hAB;have E:aJ (symB a 1 A A K2=some [a]):=ax symB_eq;(replace qk3:=k3.z;replace qk4:=k4.z);(go_wp2_with fail);refine (c_impl_copyAssertion _ a _ (hV.o.V.bz HB.o)).mono ?_;rintro e w1 ⟨r,rfl,oC,hB1⟩;obtain ⟨F,f,G,g,rfl⟩:=oC.I.form;have OC:=ax oC;have HB1:=ax (bgo HB.o hB1);have hz1:=hB1.size;clear hB1 oC qk3 qk4 k3 k4;(go_wp2_with fail);go_ret2;refine ⟨.slice (some ⟨w1.heap.size,0,none⟩) 1 1,[.slice F a.facts.length f,.slice G a.atoms.length g],by rw[E.o];rfl,?_,bbox HB1.o _⟩;rw[E.o];refine A2O.one (Blk.newE rfl) ?_ (AsnO.bz (AsnO.bq OC.o (by omega)) bel);omega
 have E:=ax (symB_set (a:=a) (K:=K2) hAB);have hb:(A == B)=false:=beq_false_of_ne hAB;(replace qk3:=k3.z;replace qk4:=k4.z);(go_wp2_with fail);refine (c_impl_assigned _ a A B K2 _ (hV.o.V.bz HB.o) l2 hA (by omega)).mono ?_;rintro e w1 ⟨r,rfl,oX,hB1⟩;obtain ⟨⟨F,n,f,G,m,g,rfl⟩,oX⟩:=oX;have HB1:=ax (bgo HB.o hB1);have hz1:=hB1.size;have OX:=ax oX;clear hB1 oX qk3 qk4 k3 k4
 cases hx:assignF a A B K2 with
 | none=>
  have E2:aJ (symB a 1 A B K2=none):=ax (by rw[E.o,hx];rfl);clear hx;(go_wp2_with fail);go_ret2;exact ⟨_,_,by rw[E2.o];rfl,by rw[E2.o];exact A2O.nil _ _,bbox HB1.o _⟩
 | some y=>
  have E2:aJ (symB a 1 A B K2=some [y]):=ax (by rw[E.o,hx];rfl);have OY:=ax (OX.o y hx);clear hx OX;(go_wp2_with fail);go_ret2;refine ⟨.slice (some ⟨w1.heap.size+1,0,none⟩) 1 1,[.slice F n f,.slice G m g],by rw[E2.o];rfl,?_,bbox (bbox HB1.o _) _⟩;rw[E2.o];refine A2O.one (Blk.newE ?_) ?_ (AsnO.bz (AsnO.bq OY.o (by omega)) bel)
  ·simp
  ·omega
theorem c_symB4 {lo hi:Nat} (v:Value) (a:Asn) (A B:Int) (t:Fct) (X1 X2 X3 X4:Option Addr) (n1 n2 n3 n4 d1 d2 d3 d4 K0:Nat) (w:World) (h:AsnC w lo hi v a) (hhi:hi≤w.heap.size) (hv:a.valid=true) (hK0:K0<512) (hA:jq A=true) :
  Calls Tryz.prog 231 #[v,.agg #[.int .i64 4,.int .i64 A,.int .i64 B,.bool t.eq,.int .i64 t.a,.int .i64 t.b,.slice X1 n1 d1,.slice X2 n2 d2,.slice X3 n3 d3,.slice X4 n4 d4],.int .u16 K0] w fun e w'=>∃ r vs,e=.returned (.tuple #[r,.bool (symB a 4 A B (keepK K0 A B)).isSome])∧A2O w' w.heap.size r vs ((symB a 4 A B (keepK K0 A B)).getD [])∧Below w.heap.size w w':=by
 have hV:=ax h;obtain ⟨A1,c1,A2,c2,rfl,-⟩:=h;have hvl:=zjC hv;have HV:=ax hv;obtain ⟨K1,hK1⟩:∃ x,x=tins K0 A:=⟨_,rfl⟩;have l1:K1<512:=by rw[hK1];exact tins_lt hK0 _
 obtain ⟨K2,hK2⟩:∃ x,x=tins K1 B:=⟨_,rfl⟩;have l2:K2<512:=by rw[hK2];exact tins_lt l1 _
 have EK:aJ (keepK K0 A B=K2):=ax (by rw[hK2,hK1];rfl);rw[EK.o];replace hK1:=ax hK1;replace hK2:=ax hK2;clear hv EK;(go_enter Tryz.func231,Tryz.ntmps231);(go_upto_region 1 with fail);refine bx2 (w:=w) (F:=Code.wp _ _ _ _) ?_;rintro W k3 k4 HB hz;replace HB:=ax HB;refine wp_region_noPanic ?_;refine wp_region_held_drew (S:=(fun w'=>(∀ i,w'.cell? ⟨w.heap.size,i,none⟩=#[.slice A1 a.facts.length c1,.slice A2 a.atoms.length c2][i]?)∧(∀ i,w'.cell? ⟨w.heap.size+1,i,none⟩=#[.int .i64 4,.int .i64 A,.int .i64 B,.bool t.eq,.int .i64 t.a,.int .i64 t.b,.slice X1 n1 d1,.slice X2 n2 d2,.slice X3 n3 d3,.slice X4 n4 d4][i]?))) (by kernel_rfl) (⟨k3.drew.cell,k4.drew.cell⟩) (fun aH=>?_);refine tk2 0 rfl aH (h:=tk2 1 rfl aH (h:=tk2 2 rfl aH (h:=?_)));(try simp only[zz]);refine tk2 4 rfl aH (h:=tk2 5 rfl aH (h:=?_));refine rdc 3 rfl fun K hK=>?_;(try simp only[zz]);(go_simp;refine (c_impl_with K0 A _ hK0).mono ?_;rintro e w1 ⟨rfl,rfl⟩;rw[←hK1.o]);refine hK.out _ _ (⟨k3.drew.cell,k4.drew.cell⟩) ?_;clear aH hK K;intro aH;refine rdc 6 rfl fun K hK=>?_;(try simp only[zz]);(go_simp;refine (c_impl_with K1 B _ l1).mono ?_;rintro e w1 ⟨rfl,rfl⟩;rw[←hK2.o]);refine hK.out _ _ (⟨k3.drew.cell,k4.drew.cell⟩) ?_;clear aH hK K;intro aH;(try simp only[zz]);refine tk2 7 rfl aH (h:=?_);(try simp only[zz]);refine dn1 ?_;replace k3:=k3.drew;replace k4:=k4.drew;replace HB:=ax HB.o.drew;have hzd:W.drew.heap.size=W.heap.size:=rfl;clear aH hK1 hK2 l1;generalize W.drew=V at k3 k4 HB hzd ⊢;have E:aJ (symB a 4 A B K2=(cellNF a A K2).map fun x=>[x]):=ax symB_new;(replace qk3:=k3.z;replace qk4:=k4.z);(go_wp2_with fail);refine (c_impl_allocatedFor _ a A K2 _ (hV.o.V.bz HB.o) l2 hA (by omega)).mono ?_;rintro e w1 ⟨r,rfl,oX,hB1⟩;obtain ⟨⟨F,n,f,G,m,g,rfl⟩,oX⟩:=oX;have HB1:=ax (bgo HB.o hB1);have hz1:=hB1.size;have OX:=ax oX;clear hB1 oX qk3 qk4 k3 k4
 cases hx:cellNF a A K2 with
 | none=>
  have E2:aJ (symB a 4 A B K2=none):=ax (by rw[E.o,hx];rfl);clear hx;(go_wp2_with fail);go_ret2;exact ⟨_,_,by rw[E2.o];rfl,by rw[E2.o];exact A2O.nil _ _,bbox HB1.o _⟩
 | some y=>
  have E2:aJ (symB a 4 A B K2=some [y]):=ax (by rw[E.o,hx];rfl);have OY:=ax (OX.o y hx);clear hx OX;(go_wp2_with fail);go_ret2;refine ⟨.slice (some ⟨w1.heap.size+1,0,none⟩) 1 1,[.slice F n f,.slice G m g],by rw[E2.o];rfl,?_,bbox (bbox HB1.o _) _⟩;rw[E2.o];refine A2O.one (Blk.newE ?_) ?_ (AsnO.bz (AsnO.bq OY.o (by omega)) bel)
  ·simp
  ·omega
theorem c_symBc {lo hi:Nat} (v:Value) (a:Asn) (k A B:Int) (t:Fct) (X1 X2 X3 X4:Option Addr) (n1 n2 n3 n4 d1 d2 d3 d4 K0:Nat) (w:World) (h:AsnC w lo hi v a) (hhi:hi≤w.heap.size) (hv:a.valid=true) (hK0:K0<512) (hA:jq A=true) (hk1:¬k=1) (hk4:¬k=4) :
  Calls Tryz.prog 231 #[v,.agg #[.int .i64 k,.int .i64 A,.int .i64 B,.bool t.eq,.int .i64 t.a,.int .i64 t.b,.slice X1 n1 d1,.slice X2 n2 d2,.slice X3 n3 d3,.slice X4 n4 d4],.int .u16 K0] w fun e w'=>∃ r vs,e=.returned (.tuple #[r,.bool (symB a k A B (keepK K0 A B)).isSome])∧A2O w' w.heap.size r vs ((symB a k A B (keepK K0 A B)).getD [])∧Below w.heap.size w w':=by
 have hV:=ax h;obtain ⟨A1,c1,A2,c2,rfl,-⟩:=h;have hvl:=zjC hv;have HV:=ax hv;obtain ⟨K1,hK1⟩:∃ x,x=tins K0 A:=⟨_,rfl⟩;have l1:K1<512:=by rw[hK1];exact tins_lt hK0 _
 obtain ⟨K2,hK2⟩:∃ x,x=tins K1 B:=⟨_,rfl⟩;have l2:K2<512:=by rw[hK2];exact tins_lt l1 _
 have EK:aJ (keepK K0 A B=K2):=ax (by rw[hK2,hK1];rfl);rw[EK.o];replace hK1:=ax hK1;replace hK2:=ax hK2;clear hv EK;(go_enter Tryz.func231,Tryz.ntmps231);(go_upto_region 1 with fail);refine bx2 (w:=w) (F:=Code.wp _ _ _ _) ?_;rintro W k3 k4 HB hz;replace HB:=ax HB;refine wp_region_noPanic ?_;refine wp_region_held_drew (S:=(fun w'=>(∀ i,w'.cell? ⟨w.heap.size,i,none⟩=#[.slice A1 a.facts.length c1,.slice A2 a.atoms.length c2][i]?)∧(∀ i,w'.cell? ⟨w.heap.size+1,i,none⟩=#[.int .i64 k,.int .i64 A,.int .i64 B,.bool t.eq,.int .i64 t.a,.int .i64 t.b,.slice X1 n1 d1,.slice X2 n2 d2,.slice X3 n3 d3,.slice X4 n4 d4][i]?))) (by kernel_rfl) (⟨k3.drew.cell,k4.drew.cell⟩) (fun aH=>?_);refine tk2 0 rfl aH (h:=tk2 1 rfl aH (h:=tk2 2 rfl aH (h:=?_)));(try simp only[zz]);refine tk2 4 rfl aH (h:=tk2 5 rfl aH (h:=?_));refine rdc 3 rfl fun K hK=>?_;(try simp only[zz]);(go_simp;refine (c_impl_with K0 A _ hK0).mono ?_;rintro e w1 ⟨rfl,rfl⟩;rw[←hK1.o]);refine hK.out _ _ (⟨k3.drew.cell,k4.drew.cell⟩) ?_;clear aH hK K;intro aH;refine rdc 6 rfl fun K hK=>?_;(try simp only[zz]);(go_simp;refine (c_impl_with K1 B _ l1).mono ?_;rintro e w1 ⟨rfl,rfl⟩;rw[←hK2.o]);refine hK.out _ _ (⟨k3.drew.cell,k4.drew.cell⟩) ?_;clear aH hK K;intro aH;(try simp only[zz]);refine tk2 7 rfl aH (h:=?_);(try simp only[zz]);refine dn1 ?_;replace k3:=k3.drew;replace k4:=k4.drew;replace HB:=ax HB.o.drew;have hzd:W.drew.heap.size=W.heap.size:=rfl;clear aH hK1 hK2 l1;generalize W.drew=V at k3 k4 HB hzd ⊢;have E:=ax (symB_acc (a:=a) (A:=A) (B:=B) (K:=K2) hk1 hk4);have b1:(k == 1)=false:=beq_false_of_ne hk1;have b4:(k == 4)=false:=beq_false_of_ne hk4;obtain ⟨T,hT⟩:∃ x,x=symT k A B:=⟨_,rfl⟩;rw[←hT] at E;replace hT:=ax hT;clear hk1 hk4;(replace qk3:=k3.z;replace qk4:=k4.z);(go_upto_if 71 with fail)
 go_cut [12] (fun s12 wc=>s12=.int .i64 T∧wc=V)
 case first=>
  by_cases hk2:k=2
  ·have eT:aJ (T=B):=ax (by rw[hT.o,symT,if_pos hk2]);subst hk2;clear hT;(go_wp2_with fail);go_meet
   case rel=>exact ⟨by rw[eT.o],rfl⟩
  ·have eT:aJ (T=A):=ax (by rw[hT.o,symT,if_neg hk2]);have b2:(k == 2)=false:=beq_false_of_ne hk2;clear hT hk2;(go_wp2_with fail);go_meet
   case rel=>exact ⟨by rw[eT.o],rfl⟩
 case rest=>
  obtain ⟨rfl,rfl⟩:=hcut;clear hT;(go_wp2_with fail);refine (c_impl_expose 7 (Nat.le_refl _) a T K2 l2 (by omega) lo hi _ _ (hV.o.bz HB.o) (by omega) HV.o).mono ?_;rintro e w1 ⟨r,vs,rfl,oR,hB1⟩;have HB1:=ax (bgo HB.o hB1);have k41:=k4.nz hB1;have hz1:=hB1.size
  cases he:exposeF 7 a T K2 with
  | none=>
   rw[he] at oR;obtain ⟨R,c,rfl⟩:=oR.form;have E2:aJ (symB a k A B K2=none):=ax (by rw[E.o,he];rfl);clear he oR;(go_wp2_with fail);go_ret2;exact ⟨_,_,by rw[E2.o];rfl,by rw[E2.o];exact A2O.nil _ _,HB1.o⟩
  | some l=>
   rw[he] at oR;simp only[Option.getD_some] at oR;obtain ⟨R,c,rfl⟩:=oR.form;have E2:aJ (symB a k A B K2=mapF (fun x=>accF k A B x K2) l):=ax (by rw[E.o,he];rfl);have hll:l.length≤128:=(expose_ok he).1;have HE:=ax (expose_ent _ _ _ _ _ he);have OR:=ax oR;clear he oR E hB1 k3 k4 qk3 qk4 HB hV HV;(go_wp2_with fail)
   go_loopw [15,85] (fun rs i wr=>∃ (j:Nat) (R2:Option Addr) (r2:Nat) (ys:List Asn) (us:List Value),j≤l.length∧ys.length=j∧i=.int .i64 j∧rs=.slice R2 j r2∧aJ (∀ (q:Nat) (h1:q<ys.length) (h2:q<l.length),accF k A B l[q] K2=some ys[q])∧aJ (A2O wr w1.heap.size (.slice R2 j r2) us ys)∧aJ (Below w1.heap.size w1 wr)) (fun _ i _=>l.length - (intOf i).toNat)
   case atStart=>exact ⟨0,none,0,[],[],Nat.zero_le _,rfl,rfl,rfl,fun q h1=>absurd h1 (by simp),A2O.nil _ _,Below.refl _ _⟩
   case round=>
    obtain ⟨j,R2,r2,ys,us,hj,hyl,rfl,rfl,HY,OY,HBl⟩:=hrel;have HL:aJ (ys.length=j):=ax hyl;clear hyl;have hzr:=HBl.o.size;have k4r:=k41.nz HBl.o;by_cases hlt:j<l.length
    ·obtain ⟨gb,go,P,p,Q,q,rfl,hgl,q0,q1,hC⟩:=OR.o.atC hlt;obtain ⟨x,hx⟩:∃ x,x=l[j]:=⟨_,rfl⟩;rw[←hx] at q0 q1 hC;obtain ⟨hxv,-,xb,xr,hxa⟩:=HE.o x (by rw[hx];exact List.getElem_mem hlt);have hx0:0<x.atoms.length:=by rw[hxa];simp
     have hxl:=zjC hxv;have HC:=ax hC;have hji:(j:Int)<(l.length:Int):=by omega
     have p0:wr.cell? ⟨gb,go+j*2,none⟩=some (.slice P x.facts.length p):=(HBl.o.cell (p:=⟨gb,go+j*2,none⟩) hgl).trans q0;have p1:wr.cell? ⟨gb,go+j*2+1,none⟩=some (.slice Q x.atoms.length q):=(HBl.o.cell (p:=⟨gb,go+j*2+1,none⟩) hgl).trans q1;have hgr:gb<wr.heap.size:=by omega
     replace hx:=ax hx;clear q0 q1 hC hxa hxv;(replace qk4r:=k4r.z);(go_wp2_with fail);refine (c_impl_accessed _ x k A B t X1 X2 X3 X4 n1 n2 n3 n4 d1 d2 d3 d4 K2 _ (HC.o.bz (bbox HBl.o _)) hx0 (by omega) l2 (fun _=>hA)).mono ?_;rintro e w2 ⟨r,rfl,oX,hB2⟩;obtain ⟨⟨F,n,f,G,m,g,rfl⟩,oX⟩:=oX;have OX:=ax oX;have hbx:Below wr.heap.size wr (wr.alloc (.cells #[.slice P x.facts.length p,.slice Q x.atoms.length q] tAs)):=bbox (Below.refl _ _) _;have HB2:=ax ((hbx.trans (hB2.mono hbx.size)));have hz2:=HB2.o.size;have OY2:=ax (OY.o.bz HB2.o);clear oX hB2 hbx p0 p1 qk4r
     cases hy:accF k A B x K2 with
     | none=>
      have E3:aJ (symB a k A B K2=none):=ax (by rw[E2.o];exact mapF_none hlt (by rw[←hx.o];exact hy));clear hy;(go_wp2_with fail);go_ret2;exact ⟨_,_,by rw[E3.o];rfl,by rw[E3.o];exact A2O.nil _ _,bbox (HB1.o.trans ((HBl.o.trans (HB2.o.mono hzr)).mono (by omega))) _⟩
     | some y=>
      have OX2:=ax (OX.o y hy)
      have HY2:aJ (∀ (q:Nat) (h1:q<(ys++[y]).length) (h2:q<l.length),accF k A B l[q] K2=some (ys++[y])[q]):=ax fun q h1 h2=>by
       have hl:=HL.o;by_cases e:q<ys.length
       ·rw[List.getElem_append_left e];exact HY.o q e h2
       ·have eq:q=j:=by simp at h1;omega
        subst eq;rw[List.getElem_append_right (by omega)];simp only[hl,Nat.sub_self,List.getElem_cons_zero];rw[←hx.o];exact hy
      have hjl:aJ (ys.length+1≤1049600):=ax (by have:=HL.o;omega);have OY3:aJ (A2O wr w1.heap.size (.slice R2 j r2) us ys):=OY;clear hy OX HY OY;(go_wp2_with (at_builtin;refine appA2 (w0:=wr) (base:=w1.heap.size) (mid:=wr.heap.size) (ss2:=[y]) rfl _ _ rfl rfl OY3.o (bbox (bbox HB2.o _) _) hzr (A2O.one (g:=w2.heap.size+1) (Blk.newE (by simp)) (by omega) (AsnO.bz (AsnO.bq OX2.o (by simp)) (bbox (bbox (Below.refl _ _) _) _))) (Nat.le_refl _) rfl hjl.o ?_;intro A3 c3 w3 hO3 hg3 hB3;have O3:=ax hO3;have HB3:=ax (((HBl.o.trans (HB2.o.mono hzr)).trans (Below.mono (bbox (bbox (Below.refl _ _) (.cells #[.slice F n f,.slice G m g] tAs)) (.cells #[.slice F n f,.slice G m g] tAs)) (by omega))).trans hB3);clear hO3 hg3 hB3;simp only[List.length_cons,List.length_nil,Nat.zero_add] at O3 ⊢;rw[HL.o] at O3 ⊢))
      go_round
      case rel=>exact ⟨j+1,A3,c3,ys++[y],_,by omega,by simp[HL.o],by go_num,rfl,HY2.o,O3.o,HB3.o⟩
      case measure=>simp[intOf];omega
    ·obtain rfl:j=l.length:=by omega
     have E3:aJ (symB a k A B K2=some ys):=ax (by rw[E2.o];exact mapF_some HL.o fun q h1 h2=>HY.o q h2 h1);(go_wp2_with fail);go_ret2;exact ⟨_,us,by rw[E3.o];rfl,by rw[E3.o];exact OY.o.bq (by omega),HB1.o.trans (HBl.o.mono (by omega))⟩
def okC (k A B:Int) (t:Fct) (i:Asn) (body els:Cms):Bool:=plainB t i body els&&fieldsB k A B
theorem okC_term {k A B:Int} {t:Fct} {i:Asn} {body els:Cms} (h:okC k A B t i body els=true):jq A=true∧jq B=true∧(1≤k∧k≤5):=by
 unfold okC fieldsB at h;rw[Bool.and_eq_true] at h;have hp:∀ x,isProgB x=true→jq x=true:=fun x hx=>by simp[isProgB] at hx;simp[jq];omega
 have h0:jq 0=true:=by decide
 have h2:=h.2
 split at h2
 ·rw[Bool.and_eq_true] at h2;exact ⟨hp _ h2.1,h2.2,by omega⟩
 ·split at h2
  ·rw[Bool.and_eq_true] at h2;exact ⟨h2.1,h2.2,by omega⟩
  ·split at h2
   ·rw[Bool.and_eq_true,decide_eq_true_eq] at h2;exact ⟨hp _ h2.1,by rw[h2.2];exact h0,by omega⟩
   ·split at h2
    ·rw[Bool.and_eq_true,decide_eq_true_eq] at h2;exact ⟨h2.1,by rw[h2.2];exact h0,by omega⟩
    ·cases h2
end
section
open Go Go.RowKit Go.Proofs
def Fct.neg (f:Fct):Fct:=⟨!f.eq,f.a,f.b⟩
def stepX (C:Asn→Int×List Asn):List Asn→List Asn→Int×List Asn
 | [],acc=>(0,acc)
 | a :: xs,acc=>if (C a).1≠0 then ((C a).1,[]) else if 24<acc.length+(C a).2.length then (1,[]) else stepX C xs (acc++(C a).2)
def wayX (a:Asn) (f:Fct) (B:List Asn→Int×List Asn) (acc:List Asn):Int×List Asn:=
 if (addF a f).valid then (if consB (addF a f) then (if (B [addF a f]).1≠0 then ((B [addF a f]).1,[]) else (0,acc++(B [addF a f]).2)) else (0,acc)) else (1,[])
def ifX (a:Asn) (t:Fct) (B E:List Asn→Int×List Asn):Int×List Asn:=if (wayX a t B []).1≠0 then wayX a t B [] else wayX a t.neg E (wayX a t B []).2
def keepsX (i:Asn) (t:Fct) (B:List Asn→Int×List Asn):Bool:=
 (addF i t).valid&&(!consB (addF i t) || (decide ((B [addF i t]).1=0)&&(B [addF i t]).2.all fun p=>entF p i))
def freeX2 (C:Nat) (g:Fct):Bool:=!C.testBit g.a.toNat && !C.testBit g.b.toNat
def outX (a i:Asn) (t:Fct) (C:Nat) (f:Asn):Asn:=⟨(a.facts.filter (freeX2 C)++i.facts)++[t.neg],i.atoms++f.atoms⟩
def loopX (a i:Asn) (t:Fct) (C:Nat) (B:List Asn→Int×List Asn):Int×Asn:=
 match frameF a i with
 | none=>(3,⟨[],[]⟩)
 | some f=>if tset (mz f) &&& C≠0 then (3,⟨[],[]⟩) else if keepsX i t B then (if (outX a i t C f).valid then (0,outX a i t C f) else (1,⟨[],[]⟩)) else (4,⟨[],[]⟩)
def basX (K:Nat) (k A B:Int) (a:Asn):Int×List Asn:=
 match symB a k A B (keepK K A B) with
 | none=>(1,[])
 | some l=>(0,l.map (tidyF K))
def whileX (lp:Bool) (K:Nat) (a i:Asn) (t:Fct) (C:Nat) (B:List Asn→Int×List Asn):Int×List Asn:=
 if lp then (if (loopX a i t C B).1≠0 then ((loopX a i t C B).1,[]) else (0,[tidyF K (loopX a i t C B).2])) else (1,[])
def cmdX (lp:Bool) (K:Nat) (k A B:Int) (t:Fct) (i:Asn) (C:Nat) (BX EX:List Asn→Int×List Asn) (a:Asn):Int×List Asn:=
 if k=6 then ifX a t BX EX else if k=7 then whileX lp K a i t C BX else basX K k A B a
def Cms.exe (lp:Bool) (K:Nat):Cms→List Asn→Int×List Asn
 | .nil,now=>(0,now)
 | .cons k a b t i body els r,now=>
  if (stepX (cmdX lp K k a b t i (body.fold chF 0) (body.exe lp K) (els.exe lp K)) now []).1≠0 then (stepX (cmdX lp K k a b t i (body.fold chF 0) (body.exe lp K) (els.exe lp K)) now [])
  else r.exe lp K (stepX (cmdX lp K k a b t i (body.fold chF 0) (body.exe lp K) (els.exe lp K)) now []).2
structure ResX (n:Nat) (q:Int×List Asn):Prop where
 code:0≤q.1∧q.1≤4
 nil:q.1≠0→q.2=[]
 len:q.2.length≤n
 ok:∀ b∈q.2,b.valid=true
theorem ResX.err {n:Nat} {c:Int} (h:0≤c∧c≤4):ResX n (c,[]):=⟨h,fun _=>rfl,Nat.zero_le _,fun _ h=>by cases h⟩
theorem ResX.mono {n m:Nat} {q:Int×List Asn} (h:ResX n q) (e:n≤m):ResX m q:=⟨h.code,h.nil,Nat.le_trans h.len e,h.ok⟩
theorem stepX_ok {C:Asn→Int×List Asn} (hC:∀ a:Asn,a.valid=true→ResX 128 (C a)):∀ (xs acc:List Asn),(∀ a∈xs,a.valid=true)→(∀ a∈acc,a.valid=true)→acc.length≤24→ResX 24 (stepX C xs acc)
 | [],acc,_,h2,h3=>⟨by simp[stepX],fun _=>by simp[stepX] at *,h3,h2⟩
 | a :: xs,acc,h1,h2,h3=>by
  have hc:=hC a (h1 a List.mem_cons_self);unfold stepX
  split
  ·exact ResX.err hc.code
  split
  ·exact ResX.err (by decide)
  ·refine stepX_ok hC xs _ (fun b hb=>h1 b (List.mem_cons_of_mem _ hb)) (fun b hb=>?_) (by simp;omega);rcases List.mem_append.1 hb with hb|hb
   ·exact h2 b hb
   ·exact hc.ok b hb
theorem wayX_ok {a:Asn} {f:Fct} {B:List Asn→Int×List Asn} {acc:List Asn} {n:Nat} (hB:∀ x:Asn,x.valid=true→ResX 24 (B [x])) (h2:∀ b∈acc,b.valid=true) (hl:acc.length≤n):ResX (n+24) (wayX a f B acc):=by
 unfold wayX
 split
 ·rename_i hv;have hb:=hB _ hv
  split
  ·split
   ·exact ResX.err hb.code
   ·refine ⟨by simp,fun h=>absurd rfl h,by simp;have:=hb.len;omega,fun x hx=>?_⟩;rcases List.mem_append.1 hx with hx|hx
    ·exact h2 x hx
    ·exact hb.ok x hx
  ·exact ⟨by simp,fun h=>absurd rfl h,by simp;omega,h2⟩
 ·exact ResX.err (by decide)
theorem ifX_ok {a:Asn} {t:Fct} {B E:List Asn→Int×List Asn} (hB:∀ x:Asn,x.valid=true→ResX 24 (B [x])) (hE:∀ x:Asn,x.valid=true→ResX 24 (E [x])):ResX 48 (ifX a t B E):=by
 have h1:=wayX_ok (a:=a) (f:=t) (acc:=[]) (n:=0) hB (fun _ h=>by cases h) (Nat.le_refl _);unfold ifX
 split
 ·exact h1.mono (by omega)
 ·exact wayX_ok (n:=24) hE h1.ok (by have:=h1.len;omega)
theorem loopX_ok {a i:Asn} {t:Fct} {C:Nat} {B:List Asn→Int×List Asn}:(0≤(loopX a i t C B).1∧(loopX a i t C B).1≤4)∧((loopX a i t C B).1=0→(loopX a i t C B).2.valid=true)∧((loopX a i t C B).1≠0→(loopX a i t C B).2=⟨[],[]⟩):=by
 unfold loopX
 split
 ·exact ⟨by simp,by simp,by simp⟩
 ·split
  ·exact ⟨by simp,by simp,by simp⟩
  ·split
   ·split
    ·rename_i h;exact ⟨by simp,fun _=>h,by simp⟩
    ·exact ⟨by simp,by simp,by simp⟩
   ·exact ⟨by simp,by simp,by simp⟩
theorem basX_ok {K:Nat} {k A B:Int} {a:Asn} (hv:a.valid=true) (hB:k=3→jq B=true):ResX 128 (basX K k A B a):=by
 unfold basX
 split
 ·exact ResX.err (by decide)
 ·rename_i l h;obtain ⟨h1,h2⟩:=symB_ok hv hB h;refine ⟨by simp,fun h=>absurd rfl h,by simpa using h1,fun b hb=>?_⟩;obtain ⟨c,hc,rfl⟩:=List.mem_map.1 hb;exact tidy_valid (h2 c hc)
theorem cmdX_ok {lp:Bool} {K:Nat} {k A B:Int} {t:Fct} {i:Asn} {C:Nat} {BX EX:List Asn→Int×List Asn} (hB:∀ x:Asn,x.valid=true→ResX 24 (BX [x])) (hE:∀ x:Asn,x.valid=true→ResX 24 (EX [x])) (hk:k=3→jq B=true) {a:Asn} (hv:a.valid=true):ResX 128 (cmdX lp K k A B t i C BX EX a):=by
 unfold cmdX
 split
 ·exact (ifX_ok hB hE).mono (by omega)
 split
 ·unfold whileX;obtain ⟨h1,h2,-⟩:=loopX_ok (a:=a) (i:=i) (t:=t) (C:=C) (B:=BX)
  split
  ·split
   ·exact ResX.err h1
   ·rename_i hq;refine ⟨by simp,fun h=>absurd rfl h,by simp,fun b hb=>?_⟩;obtain rfl:=List.mem_singleton.1 hb;exact tidy_valid (h2 (by omega))
  ·exact ResX.err (by decide)
 ·exact basX_ok hv hk
theorem fvalB_store {k a b:Int} {t:Fct} {i:Asn} {body els:Cms} (h:fvalB k a b t i body els=true) (hk:k=3):jq b=true:=by
 subst hk;rw[fvalB_basic (by decide) (by decide)] at h;have hok:okC 3 a b t i body els=true:=h;exact (okC_term hok).2.1
theorem Cms.exe_ok {lp:Bool} {K:Nat}:∀ (L:Cms) (d:Nat) (now:List Asn),L.shape d=true→(∀ a∈now,a.valid=true)→now.length≤24→ResX 24 (L.exe lp K now)
 | .nil,_,now,_,h1,h2=>⟨by simp[Cms.exe],fun h=>by simp[Cms.exe] at h,h2,h1⟩
 | .cons k a b t i body els r,d,now,hs,h1,h2=>by
  simp only[Cms.shape,Bool.and_eq_true,decide_eq_true_eq] at hs;obtain ⟨-,hf,hb,he,hr⟩:=hs;have hB:∀ x:Asn,x.valid=true→ResX 24 (body.exe lp K [x]):=fun x hx=>Cms.exe_ok body _ [x] hb (fun y hy=>by obtain rfl:=List.mem_singleton.1 hy;exact hx) (by simp);have hE:∀ x:Asn,x.valid=true→ResX 24 (els.exe lp K [x]):=fun x hx=>Cms.exe_ok els _ [x] he (fun y hy=>by obtain rfl:=List.mem_singleton.1 hy;exact hx) (by simp);have h3:=stepX_ok (C:=cmdX lp K k a b t i (body.fold chF 0) (body.exe lp K) (els.exe lp K)) (fun x hx=>cmdX_ok hB hE (fvalB_store hf) hx) now [] h1 (fun _ h=>by cases h) (by simp);simp only[Cms.exe]
  split
  ·exact h3
  ·exact Cms.exe_ok r d _ hr h3.ok h3.len
theorem Cms.exe_one {lp:Bool} {K:Nat} {L:Cms} {d:Nat} (hs:L.shape d=true) {x:Asn} (hx:x.valid=true):ResX 24 (L.exe lp K [x]):=Cms.exe_ok L d [x] hs (fun y hy=>by obtain rfl:=List.mem_singleton.1 hy;exact hx) (by simp)
end
section
open Go Go.RowKit
/-! the filled atoms stay the same -/
/-! separated atoms describe themselves -/
/-! no further terms -/
end
section
open Go Go.RowKit Go.Proofs
end
section
open Go Go.RowKit Go.Proofs
attribute [local go_sem ↓] Go.wp_at_zero Go.wp_at_succ
end
section
open Go Go.RowKit Go.Proofs
def keepE (a:Asn) (L:Cms) (ks:List Int):Nat:=(tset ks|||logS (tset (mz a)))|||logS (L.fold loF 0)
def Cm1.one (x:Cm1):Cms:=.cons x.k x.a x.b x.t x.i x.body x.els .nil
def loopB (x:Cm1):Bool:=decide (x.k=7)&&x.one.prog
def loopP (a:Asn) (x:Cm1) (ks:List Int):Int×Asn:=if a.valid&&loopB x then loopX a x.i x.t (x.body.fold chF 0) (x.body.exe true (keepE a x.one ks)) else (5,⟨[],[]⟩)
theorem keepE_lt (a:Asn) (L:Cms) (ks:List Int):keepE a L ks<512:=
 Nat.or_lt_two_pow (n:=9) (Nat.or_lt_two_pow (n:=9) (tset_lt _) (logS_lt (tset_lt _))) (logS_lt (Cms.fold_lt (fun S k a b t i h=>loF_lt h k a b t i) L (by decide)))
theorem prog_sh {L:Cms} (h:L.prog=true):L.shape 4=true∧L.sz≤16:=by
 unfold Cms.prog at h;rw[Bool.and_eq_true,decide_eq_true_eq] at h;exact h
end
section
open Go Go.RowKit Go.Proofs
attribute [local go_sem ↓] Go.wp_at_zero Go.wp_at_succ
def NowV (w:World) (A:Option Addr) (ss:List Asn):Prop:=∀ (k:Nat) (_:k<ss.length),∃ b o B c D d,A=some ⟨b,o,none⟩∧b<w.heap.size∧w.cell? ⟨b,o+k*2,none⟩=some (.slice B ss[k].facts.length c)∧w.cell? ⟨b,o+k*2+1,none⟩=some (.slice D ss[k].atoms.length d)∧AsnC w 0 w.heap.size (.agg #[.slice B ss[k].facts.length c,.slice D ss[k].atoms.length d]) ss[k]
theorem AsnC.mono0 {w:World} {lo hi:Nat} {v:Value} {a:Asn} (h:AsnC w lo hi v a) (hh:hi≤w.heap.size):AsnC w 0 w.heap.size v a:=by
 obtain ⟨A1,c1,A2,c2,e,h1,h2,h3⟩:=h;exact ⟨A1,c1,A2,c2,e,h1.mono (Nat.zero_le _) hh,h2.mono (Nat.zero_le _) hh,h3⟩
theorem NowV.bz {w w':World} {A:Option Addr} {ss:List Asn} (h:NowV w A ss) (hb:Below w.heap.size w w'):NowV w' A ss:=fun k hk=>by
 obtain ⟨b,o,B,c,D,d,e,lb,g0,g1,hC⟩:=h k hk;exact ⟨b,o,B,c,D,d,e,Nat.lt_of_lt_of_le lb hb.size,(hb.cell (p:=⟨b,_,none⟩) lb).trans g0,(hb.cell (p:=⟨b,_,none⟩) lb).trans g1,(hC.bz hb).mono0 hb.size⟩
theorem A2O.now {w:World} {base n c:Nat} {A:Option Addr} {vs:List Value} {ss:List Asn} (h:A2O w base (.slice A n c) vs ss):NowV w A ss:=fun k hk=>by
 obtain ⟨b,o,B,c,D,d,e,lb,g0,g1,hC⟩:=h.atC hk;exact ⟨b,o,B,c,D,d,e,lb,g0,g1,hC.mono0 (Nat.le_refl _)⟩
theorem NowV.one {w:World} {g:Nat} {s1 s2:Value} {s:Asn} (hk:Blk w g tAs #[s1,s2]) (h:AsnC w 0 w.heap.size (.agg #[s1,s2]) s):NowV w (some ⟨g,0,none⟩) [s]:=fun k hk1=>by
 have e:k=0:=by simp at hk1;exact hk1
 subst e;have h':=h;obtain ⟨A1,c1,A2,c2,ev,-⟩:=h';injection ev with ev;injection ev with ev;injection ev with ev1 ev2;injection ev2 with ev2;subst ev1;subst ev2;exact ⟨g,0,A1,c1,A2,c2,rfl,hk.lt,by rw[hk.cell];rfl,by rw[hk.cell];rfl,h⟩
theorem rowsA_set:∀ (ss:List Asn) (j:Nat) (s:Asn),j<ss.length→rowsA (ss.set j s)=((rowsA ss).set (j*2) (.inl s.facts)).set (j*2+1) (.inr s.atoms)
 | x :: ss,0,s,_=>by simp[rowsA]
 | x :: ss,j+1,s,h=>by
  have ih:=rowsA_set ss j s (by simpa using h);have e1:rowsA (x :: ss)=.inl x.facts :: .inr x.atoms :: rowsA ss:=rfl;have e2:rowsA ((x :: ss).set (j+1) s)=.inl x.facts :: .inr x.atoms :: rowsA (ss.set j s):=rfl;rw[e1,e2,ih,show (j+1)*2=j*2+1+1 by omega];rfl
theorem A2O.put {w:World} {base n c j:Nat} {A:Option Addr} {vs:List Value} {ss:List Asn} (h:A2O w base (.slice A n c) vs ss) (hj:j<ss.length):∃ g,A=some ⟨g,0,none⟩∧base≤g∧(∃ cur,Blk w g tAs cur∧j*2+1<cur.size)∧
  ∀ (s1 s2:Value) (s:Asn) (mid:Nat),AsnO w mid (.agg #[s1,s2]) s→base≤mid→(∀ (k:Nat) (hk:k<vs.length),Und vs[k] mid)→A2O ((w.setCell ⟨g,j*2,none⟩ s1).setCell ⟨g,j*2+1,none⟩ s2) base (.slice A n c) ((vs.set (j*2) s1).set (j*2+1) s2) (ss.set j s):=by
 have hlen:=h.els.len;have hrl:=rowsA_len ss;obtain ⟨hl,h2⟩:=h.row;rcases h2 with ⟨e,hn⟩|⟨g,cap,cur,e,hb,hh,hn,hm,hs,ht⟩
 ·omega
 ·injection e with e1 e2 e3;subst e1 e2 e3;have hK:Blk w g tAs cur:=hh
  have hP:Pre cur vs (ss.length * 2):=by
   intro i hi;rw[←ht,List.getElem?_take,if_pos hi];simp
  have hsz:ss.length * 2≤cur.size:=by rw[hs];exact Nat.mul_le_mul hn (Nat.le_refl _)
  refine ⟨g,rfl,hb,⟨cur,hK,by omega⟩,fun s1 s2 s mid hS hbm hU=>?_⟩;have ers:=rowsA_set ss j s hj;have hK1:=hK.set_ (j*2) s1;refine ⟨?_,by rw[List.length_set];exact h.lim,⟨?_,fun k k1 k2=>?_,fun i k hi hk hik x hx1 hx2=>?_⟩⟩
  ·rw[List.length_set];refine own_of_blk (hK1.set_ (j*2+1) s2) hb (by simp[hl]) ?_ hn hm (by simpa using hs);have hP1:=hP.setL (j*2) s1 hsz (by omega);exact hP1.setL (j*2+1) s2 (by simpa using hsz) (by simp;omega)
  ·rw[ers];simp[hlen]
  ·obtain ⟨_,_,e,n1,n2⟩:=hS;injection e with e;injection e with e;injection e with e1 e2;injection e2 with e2 e3;subst e1 e2;have n1':RowO w base s1 (.inl s.facts):=RowO.bq (show RowO w mid s1 (.inl s.facts) from n1) hbm;have n2':RowO w base s2 (.inr s.atoms):=RowO.bq (show RowO w mid s2 (.inr s.atoms) from n2) hbm;have up:∀ {u:Value} {r:RowT},RowO w base u r→RowO ((w.setCell ⟨g,j*2,none⟩ s1).setCell ⟨g,j*2+1,none⟩ s2) base u r:=fun hu=>(hu.setT hK (by decide) (by decide) _ _).setT hK1 (by decide) (by decide) _ _;simp only[List.length_set] at k1;have k2':k<(rowsA ss).length:=by omega
   generalize (w.setCell ⟨g,j*2,none⟩ s1).setCell ⟨g,j*2+1,none⟩ s2=W' at up ⊢
   have key:∀ (r:RowT),(rowsA (ss.set j s))[k]? = some r→RowO W' base (((vs.set (j*2) s1).set (j*2+1) s2)[k]'(by simpa using k1)) r:=fun r hr=>by
    rw[ers] at hr;by_cases c2:k=j*2+1
    ·subst c2;rw[List.getElem?_set_self (by simpa using k2')] at hr;obtain rfl:=Option.some.inj hr;rw[List.getElem_set_self];exact up n2'
    ·rw[List.getElem?_set_ne (by omega)] at hr;rw[List.getElem_set_ne (by omega)];by_cases c1:k=j*2
     ·subst c1;rw[List.getElem?_set_self (by simpa using k2')] at hr;obtain rfl:=Option.some.inj hr;rw[List.getElem_set_self];exact up n1'
     ·rw[List.getElem?_set_ne (by omega),List.getElem?_eq_getElem k2'] at hr;rw[List.getElem_set_ne (by omega)];obtain rfl:=Option.some.inj hr;exact up (h.els.at_ k k1 k2')
   exact key _ (List.getElem?_eq_getElem k2)
  ·obtain ⟨_,_,e,n1,n2⟩:=hS;injection e with e;injection e with e;injection e with e1 e2;injection e2 with e2 e3;subst e1 e2;have t1:∀ y,s1.ownBlock=some y→mid≤y:=fun y hy=>(n1.1.lt y hy).1;have t2:∀ y,s2.ownBlock=some y→mid≤y:=fun y hy=>(n2.1.lt y hy).1;simp only[List.length_set] at hi hk;rw[List.getElem_set,List.getElem_set] at hx1 hx2
   have cl:∀ (q:Nat) (hq:q<vs.length),(if j*2+1=q then s2 else if j*2=q then s1 else vs[q]).ownBlock=some x→(q=j*2+1∧s2.ownBlock=some x)∨(q=j*2∧s1.ownBlock=some x)∨((q≠j*2+1∧q≠j*2)∧vs[q].ownBlock=some x):=fun q hq hh=>by
    by_cases d2:j*2+1=q
    ·rw[if_pos d2] at hh;exact .inl ⟨d2.symm,hh⟩
    ·rw[if_neg d2] at hh;by_cases d1:j*2=q
     ·rw[if_pos d1] at hh;exact .inr (.inl ⟨d1.symm,hh⟩)
     ·rw[if_neg d1] at hh;exact .inr (.inr ⟨⟨fun e=>d2 e.symm,fun e=>d1 e.symm⟩,hh⟩)
   rcases cl i hi (by simpa only[List.getElem_set] using hx1) with ⟨a1,b1⟩|⟨a1,b1⟩|⟨a1,b1⟩<;>rcases cl k hk (by simpa only[List.getElem_set] using hx2) with ⟨a2,b2⟩|⟨a2,b2⟩|⟨a2,b2⟩
   ·omega
   ·omega
   ·have:=hU k hk x b2;have:=t2 x b1;omega
   ·exact own_ne n1.1 n2.1 (by decide) x b1 b2
   ·omega
   ·have:=hU k hk x b2;have:=t1 x b1;omega
   ·have:=hU i hi x b1;have:=t2 x b2;omega
   ·have:=hU i hi x b1;have:=t1 x b2;omega
   ·exact h.els.apart i k hi hk hik x b1 b2
theorem c_copyAsns (A:Option Addr) (c:Nat) (ss:List Asn) (w:World) (h:NowV w A ss) (hl:ss.length≤1000) :
  Calls Tryz.prog 179 #[.slice A ss.length c] w fun e w'=>∃ r vs,e=.returned r∧A2O w' w.heap.size r vs ss∧Below w.heap.size w w':=by
 have hmk:=mkAs0 ss.length (by unfold Lim;omega);have hO0:=madeAs w ss.length (by omega);have HO0:aJ (A2O (w.alloc (.cells (madeCells #[.slice none 0 0,.slice none 0 0] (ss.length * 2)) tAs)) w.heap.size (.slice (some ⟨w.heap.size,0,none⟩) 0 ss.length) [] []):=ax ⟨hO0,by simp[Lim],AEls.nil _ _⟩;have H:=ax h;clear h hO0;(go_enter Tryz.func179,Tryz.ntmps179);(go_wp2_with fail)
 go_loopw [3,11] (fun rs i wr=>∃ (j:Nat) (R:Option Addr) (r:Nat) (us:List Value),j≤ss.length∧i=.int .i64 j∧rs=.slice R j r∧aJ (A2O wr w.heap.size (.slice R j r) us (ss.take j))∧aJ (Below w.heap.size w wr)) (fun _ i _=>ss.length - (intOf i).toNat)
 case atStart=>exact ⟨0,some ⟨w.heap.size,0,none⟩,ss.length,[],Nat.zero_le _,rfl,rfl,by rw[List.take_zero];exact HO0,bbox (Below.refl _ _) _⟩
 case round=>
  obtain ⟨j,R,r,us,hj,rfl,rfl,HO,HB⟩:=hrel;have hzr:=HB.o.size;by_cases hlt:j<ss.length
  ·obtain ⟨b,o,P,p,Q,q,rfl,lb,g0,g1,hC⟩:=H.o.bz HB.o j hlt;have HT:aJ (ss.take (j+1)=ss.take j++[ss[j]]):=ax (List.take_succ_eq_append_getElem hlt);obtain ⟨s,hs⟩:∃ s,s=ss[j]:=⟨_,rfl⟩;rw[←hs] at g0 g1 hC HT;have HC:=ax hC;have hji:(j:Int)<(ss.length:Int):=by omega
   have HL:aJ ((ss.take j).length=j):=ax (by rw[List.length_take];omega);clear hs hC;(go_wp2_with fail);refine (c_impl_copyAssertion _ s _ (HC.o.V.bz (bbox (Below.refl _ _) _))).mono ?_;rintro e w2 ⟨r2,rfl,oS,hB2⟩;obtain ⟨F,f,G,g,rfl⟩:=oS.I.form;have OS:=ax oS;have hbx:Below wr.heap.size wr (wr.alloc (.cells #[.slice P s.facts.length p,.slice Q s.atoms.length q] tAs)):=bbox (Below.refl _ _) _;have HB2:=ax (hbx.trans (hB2.mono hbx.size));have hz2:=HB2.o.size;have HO2:aJ (A2O wr w.heap.size (.slice R j r) us (ss.take j)):=HO;have hjl:aJ ((ss.take j).length+1≤1049600):=ax (by rw[HL.o];omega);clear oS hB2 hbx g0 g1 HO;(go_wp2_with (at_builtin;refine appA2 (w0:=wr) (base:=w.heap.size) (mid:=wr.heap.size) (ss2:=[s]) rfl _ _ rfl rfl HO2.o (bbox HB2.o _) hzr (A2O.one (g:=w2.heap.size) (Blk.newE (by simp)) (by omega) (AsnO.bz (AsnO.bq OS.o (by simp)) (bbox (Below.refl _ _) _))) (Nat.le_refl _) rfl hjl.o ?_;intro A3 c3 w3 hO3 hg3 hB3;have O3:=ax hO3;have HB3:=ax (((HB.o.trans (HB2.o.mono hzr)).trans (Below.mono (bbox (Below.refl _ _) (.cells #[.slice F s.facts.length f,.slice G s.atoms.length g] tAs)) (by omega))).trans hB3);clear hO3 hg3 hB3;rw[←HT.o] at O3;simp only[List.length_cons,List.length_nil,Nat.zero_add] at O3 ⊢;rw[HL.o] at O3 ⊢))
   go_round
   case rel=>exact ⟨j+1,A3,c3,_,by omega,by go_num,rfl,O3.o,HB3.o⟩
   case measure=>simp[intOf];omega
  ·obtain rfl:j=ss.length:=by omega
   have HO2:aJ (A2O wr w.heap.size (.slice R ss.length r) us ss):=ax (by have:=HO.o;rwa [List.take_length] at this);clear HO;(go_wp2_with fail);go_ret;exact ⟨_,us,rfl,HO2.o,HB.o⟩
theorem ofInt_i64m (a:Nat) (ha:a<9223372036854775808):(BitVec.ofInt 64 (a:Int)).toNat=a:=by
 rw[BitVec.ofInt_natCast,BitVec.toNat_ofNat];exact Nat.mod_eq_of_lt (by omega)
theorem i64_and_nat (a b:Nat) (ha:a<9223372036854775808) (hb:b<9223372036854775808):bits .and .i64 (a:Int) (b:Int)=((a &&& b:Nat):Int):=by
 have hx:a &&& b<2 ^ 63:=Nat.and_lt_two_pow _ (by omega);show IntKind.i64.wrap ((BitVec.ofInt 64 (a:Int) &&& BitVec.ofInt 64 (b:Int)).toNat:Int)=_;rw[BitVec.toNat_and,ofInt_i64m a ha,ofInt_i64m b hb];simp[IntKind.wrap,IntKind.bits,IntKind.signed];omega
theorem bit_at (m k:Nat) (hm:m<9223372036854775808):(bits .and .i64 ((m:Int) / 2 ^ k) 1 == 1)=m.testBit k:=by
 have e:((m:Int) / 2 ^ k)=((m / 2 ^ k:Nat):Int):=by simp
 have h:m / 2 ^ k<9223372036854775808:=Nat.lt_of_le_of_lt (Nat.div_le_self _ _) hm;rw[e,show (1:Int)=((1:Nat):Int) from rfl,i64_and_nat _ _ h (by decide),Nat.and_one_is_mod,Nat.testBit_eq_decide_div_mod_eq,Bool.eq_iff_iff];simp;omega
theorem maskA_snoc (m:Nat) (xs:List Atm) (k:Nat) (hk:k<xs.length):maskA m 0 (xs.take (k+1))=maskA m 0 (xs.take k)++if m.testBit k then [xs[k]] else []:=by
 have gen:∀ (ys:List Atm) (y:Atm) (i:Nat),maskA m i (ys++[y])=maskA m i ys++if m.testBit (i+ys.length) then [y] else []:=by
  intro ys y
  induction ys with
  | nil=>intro i;simp[maskA]
  | cons z zs ih=>
   intro i;simp only[List.cons_append,maskA,ih,List.length_cons];rw[show i+1+zs.length=i+(zs.length+1) by omega]
   split<;>simp
 rw[List.take_succ_eq_append_getElem hk,gen,List.length_take,Nat.zero_add,Nat.min_eq_left (by omega)]
theorem c_impl_pick {lo hi:Nat} (v:Value) (a:Asn) (m:Nat) (w:World) (h:AsnV w lo hi v a) (hm:m≤1000000) (hla:a.atoms.length≤60) :
  Calls Tryz.prog 115 #[v,.int .i64 m] w fun e w'=>∃ r,e=.returned r∧AsnO w' w.heap.size r (pickA a m)∧Below w.heap.size w w':=by
 obtain ⟨A1,c1,A2,c2,rfl,-,h2⟩:=h;have H2:=ax h2;have hl:=h2.le;clear h2;(go_enter Tryz.func115,Tryz.ntmps115);obtain ⟨-,k4,k5⟩:=blk3 w tAs tAs tAs #[.slice A1 a.facts.length c1,.slice A2 a.atoms.length c2] #[.slice none 0 0,.slice none 0 0] #[.slice none 0 0,.slice none 0 0];have HB:aJ (Below w.heap.size w (((w.alloc (.cells #[.slice A1 a.facts.length c1,.slice A2 a.atoms.length c2] tAs)).alloc (.cells #[.slice none 0 0,.slice none 0 0] tAs)).alloc (.cells #[.slice none 0 0,.slice none 0 0] tAs))):=ax bel;(go_wp2_with fail);generalize (((w.alloc (.cells #[.slice A1 a.facts.length c1,.slice A2 a.atoms.length c2] tAs)).alloc (.cells #[.slice none 0 0,.slice none 0 0] tAs)).alloc (.cells #[.slice none 0 0,.slice none 0 0] tAs))=W at k4 k5 HB ⊢
 go_loopw [11] (fun i wr=>∃ (k:Nat) (acc:List Atm) (A:Option Addr) (c:Nat),k≤a.atoms.length∧i=.int .i64 k∧aJ (acc=maskA m 0 (a.atoms.take k))∧acc.length≤k∧AtomsO wr (w.heap.size+1+1+1) (.slice A acc.length c) acc∧Blk wr (w.heap.size+1) tAs #[.slice none 0 0,.slice none 0 0]∧Blk wr (w.heap.size+1+1) tAs #[.slice none 0 0,.slice A acc.length c]∧aJ (Below w.heap.size w wr)) (fun i _=>a.atoms.length - (intOf i).toNat)
 case atStart=>exact ⟨0,[],none,0,Nat.zero_le _,rfl,by simp[aJ,maskA],Nat.le_refl _,AtomsO.nil _ _,k4,k5,HB⟩
 case round=>
  clear k4 k5 HB;obtain ⟨k,acc,A,c,hk,rfl,HACC,hal,of,k4,k5,HB⟩:=hrel;by_cases hlt:k<a.atoms.length
  ·obtain ⟨b,off,rfl,g0,g1,g2⟩:=(H2.o.bz HB.o).at hlt;have hki:(k:Int)<(a.atoms.length:Int):=by omega
   have HS:=ax (maskA_snoc m a.atoms k hlt);obtain ⟨x,hx⟩:∃ x,x=a.atoms[k]:=⟨_,rfl⟩;rw[←hx] at g0 g1 g2 HS;have hbit:=bit_at m k (by omega);have hk64:min k 64=k:=by omega
   have hbx:Below wr.heap.size wr (wr.alloc (.cells #[.int .i64 x.kind,.int .i64 x.a,.int .i64 x.b] tA)):=bbox (Below.refl _ _) _;have k41:=k4.nz hbx;have k51:=k5.nz hbx;have l5:=k51.lt;have HB1:=ax (bgo HB.o hbx);have of1:=of.bz hbx;clear hx;cases hb:m.testBit k
   ·rw[hb] at hbit;have HA2:aJ (acc=maskA m 0 (a.atoms.take (k+1))):=ax (by rw[HS.o,hb,←HACC.o];simp);clear hb HS;(replace qk51:=k51.z);(go_wp2_with fail)
    go_round
    case rel=>exact ⟨k+1,acc,A,c,by omega,by go_num,HA2,by omega,of1,k41,k51,HB1⟩
    case measure=>simp[intOf];omega
   ·rw[hb] at hbit;have HA2:aJ (acc++[x]=maskA m 0 (a.atoms.take (k+1))):=ax (by rw[HS.o,hb,←HACC.o];simp);clear hb HS;have kx:=Blk.new wr tA #[.int .i64 x.kind,.int .i64 x.a,.int .i64 x.b];have hz1:(wr.alloc (.cells #[.int .i64 x.kind,.int .i64 x.a,.int .i64 x.b] tA)).heap.size=wr.heap.size+1:=by simp
    have hzB:=HB.o.size;have hl0:=k5.lt;(replace qk41:=k41.z;replace qk51:=k51.z;replace qkx:=kx.z);(go_wp2_with (at_builtin;refine appAL (ys:=[x]) rfl _ _ rfl (v:=.slice A acc.length c) rfl (of1.bz (bbox (Below.refl _ _) _)) rfl (AtomsV.one (f:=x) (Blk.newE (by simp))) (by simp;omega) (by simp;omega) ?_;intro A' c' w5 of2 hg2 hB5;have z5:=Blk.zm (g:=w.heap.size+1+1) (k51.alloc _) (of1.bz (bbox (Below.refl _ _) _)).1 hg2 (by decide);have z4:=Blk.zm (g:=w.heap.size+1) (k41.alloc _) (of1.bz (bbox (Below.refl _ _) _)).1 hg2 (by decide);have z5c:=z5.cell;have z5f:=z5.frozen;have z5l:=z5.lt))
    go_round
    case rel=>
     refine ⟨k+1,acc++[x],A',c',by omega,by go_num,HA2,by simp;omega,?_,z4.far (by simp only[];omega) _,?_,?_⟩
     ·simpa using of2.setT z5 (by decide) _ _
     ·simpa using z5.set_ 1 (.slice A' (acc.length+1) c')
     ·have hb5:=hB5.mono (show w.heap.size≤w.heap.size+1+1+1 by omega);exact ax (((bbox HB1.o _).trans hb5).setCell (p:=⟨w.heap.size+1+1,1,none⟩) (by simp only;omega) _)
    case measure=>simp[intOf];omega
  ·obtain rfl:k=a.atoms.length:=by omega
   have hacc:acc=maskA m 0 a.atoms:=by have:=HACC.o;rwa [List.take_length] at this
   subst hacc;have hBl:=HB.o;(replace qk4:=k4.cell;replace rk4:=k4.frozen;replace lk4:=k4.lt;replace qk5:=k5.z);(go_wp2_with fail);refine bodyPost_ret (v:=.agg #[.slice none 0 0,.slice A (maskA m 0 a.atoms).length c]) (by simp[results,Tryz.results115,go_sem,qk4,lk4]) rfl ⟨_,rfl,⟨_,_,rfl,FactsO.nil _ _,?_⟩,?_⟩
   ·exact ((of.setT k4 (by decide) 0 _).setT (k4.set_ 0 _) (by decide) 1 _).bq (by omega)
   ·exact ((hBl.setCell (p:=⟨w.heap.size+1,0,none⟩) (by simp only;omega) _).setCell (p:=⟨w.heap.size+1,1,none⟩) (by simp only;omega) _)
theorem AsnO.setW {w:World} {base:Nat} {v:Value} {a:Asn} (h:AsnO w base v a) {g:Nat} {cs:Array Value} (hk:Blk w g tAs cs) (u0 u1:Value):AsnO ((w.setCell ⟨g,0,none⟩ u0).setCell ⟨g,1,none⟩ u1) base v a:=by
 obtain ⟨fv,av,e,p1,p2⟩:=h;have k1:=hk.set_ 0 u0;exact ⟨fv,av,e,(p1.setT hk (by decide) _ _).setT k1 (by decide) _ _,(p2.setT hk (by decide) _ _).setT k1 (by decide) _ _⟩
theorem c_frClo {lo hi lo' hi':Nat} (g g':Nat) (a b:Asn) (A1 A2 A3 A4:Option Addr) (c1 c2 c3 c4 m:Nat) (w:World) (ha:AsnV w lo hi (.agg #[.slice A1 a.facts.length c1,.slice A2 a.atoms.length c2]) a) (hb:AsnV w lo' hi' (.agg #[.slice A3 b.facts.length c3,.slice A4 b.atoms.length c4]) b) (hhi:hi≤w.heap.size) (hv:a.valid=true) (hv':b.valid=true) (hm:m≤1000000)
  (k1:Blk w g tAs #[.slice A1 a.facts.length c1,.slice A2 a.atoms.length c2]) (k2:Blk w g' tAs #[.slice A3 b.facts.length c3,.slice A4 b.atoms.length c4]) :
  Calls Tryz.prog 114 #[.int .i64 m,.pointer (some ⟨g',0,none⟩),.pointer (some ⟨g,0,none⟩)] w fun e w'=>e=.returned (.bool (frB a b m))∧Below w.heap.size w w':=by
 have HA:=ax ha;have HB:=ax hb;have HE:=ax (frB_star hv hv' m);have hla:=(zjC hv).2;obtain ⟨fb,hfb⟩:∃ x,x=frB a b m:=⟨_,rfl⟩;obtain ⟨P,hP⟩:∃ P,P=pickA a m:=⟨_,rfl⟩;obtain ⟨q,hq⟩:∃ q,q=(starF b (pickA a m)).isSome:=⟨_,rfl⟩;obtain ⟨C,hC⟩:∃ C,C=(starF b (pickA a m)).getD ⟨[],[]⟩:=⟨_,rfl⟩;rw[←hfb,←hq,←hC] at HE;rw[←hfb];have CS:aJ (∀ {lo hi lo' hi':Nat} (v v':Value) (W:World),AsnV W lo hi v b→AsnV W lo' hi' v' P→Calls Tryz.prog 41 #[v,v'] W fun e w'=>∃ r,e=.returned (.tuple #[r,.bool q])∧AsnO w' W.heap.size r C∧Below W.heap.size W w'):=ax fun v v' W h1 h2=>by rw[hq,hC,←hP];exact c_impl_Star v v' b P W h1 h2
 have CP:aJ (∀ {lo hi:Nat} (v:Value) (W:World),AsnV W lo hi v a→Calls Tryz.prog 115 #[v,.int .i64 m] W fun e w'=>∃ r,e=.returned r∧AsnO w' W.heap.size r P∧Below W.heap.size W w'):=ax fun v W h=>by rw[hP];exact c_impl_pick v a m W h hm (by omega)
 clear hfb hP hq hC hv hv' ha hb;have hlg:=k1.lt;have hlg':=k2.lt;(go_enter Tryz.func114,Tryz.ntmps114);have q1:=k1.cell;have q2:=k2.cell;(go_upto_region 1 with fail)
 go_cut [5,6] (fun s5 s6 wc=>∃ (x:Nat) (F:Option Addr) (f:Nat) (G:Option Addr) (e:Nat),s5=.pointer (some ⟨x,0,none⟩)∧s6=.bool q∧Blk wc x tAs #[.slice F C.facts.length f,.slice G C.atoms.length e]∧AsnV wc 0 wc.heap.size (.agg #[.slice F C.facts.length f,.slice G C.atoms.length e]) C∧aJ (Below w.heap.size w wc))
 case first=>
  (go_wp2_with fail);refine wp_region_noPanic ?_;refine wp_region_held_drew (S:=(fun w'=>(∀ j,w'.cell? ⟨g',j,none⟩=#[.slice A3 b.facts.length c3,.slice A4 b.atoms.length c4][j]?)∧(∀ j,w'.cell? ⟨g,j,none⟩=#[.slice A1 a.facts.length c1,.slice A2 a.atoms.length c2][j]?))) (by kernel_rfl) (⟨k2.drew.cell,k1.drew.cell⟩) (fun aH=>?_);have hB0:Below w.heap.size w w.drew:=(Below.refl _ _).drew;refine tk2 0 rfl aH (h:=tk2 1 rfl aH (h:=tk2 2 rfl aH (h:=?_)));(try simp only[zz]);refine wpAnyH_ready (rs:=[3,8]) (by kernel_rfl) (by simp) (AllReadyH.cons rfl (fun K hK=>?_) (AllReadyH.cons rfl (fun K hK=>?_) AllReadyH.nil))
  ·(try simp only[zz]);(go_simp;refine (CP.o _ _ (HA.o.bz hB0)).mono ?_;rintro e w1 ⟨r1,rfl,o1,hB1⟩;obtain ⟨F1,f1,G1,e1,rfl⟩:=o1.I.form;replace hB1:Below w.heap.size w w1:=bgo hB0 hB1);refine hK.out _ _ (⟨(k2.nz hB1).cell,(k1.nz hB1).cell⟩) ?_;clear aH hK K;intro aH;(try simp only[zz]);have hP1:=o1.rj;refine wpAnyH_ready (rs:=[4,8]) (by kernel_rfl) (by simp) (AllReadyH.cons rfl (fun K hK=>?_) (AllReadyH.cons rfl (fun K hK=>?_) AllReadyH.nil))
   ·(try simp only[zz]);(go_simp;refine (CS.o _ _ _ (HB.o.bz hB1) hP1).mono ?_;rintro e w2 ⟨r2,rfl,o2,hB2⟩;obtain ⟨F,f,G,e,rfl⟩:=o2.I.form;replace hB2:Below w.heap.size w w2:=bgo hB1 hB2);refine hK.out _ _ (⟨(k2.nz hB2).cell,(k1.nz hB2).cell⟩) ?_;clear aH hK K;intro aH;(try simp only[zz]);refine tk2 5 rfl aH (h:=tk2 6 rfl aH (h:=tk2 7 rfl aH (h:=?_)));refine rdc 8 rfl fun K hK=>?_;(try simp only[zz]);go_simp;refine hK.out _ _ (⟨(k2.nz (bbox hB2 (.cells #[.slice none 0 0,.slice none 0 0] tAs))).cell,(k1.nz (bbox hB2 (.cells #[.slice none 0 0,.slice none 0 0] tAs))).cell⟩) ?_;clear aH hK K;intro aH;refine rdc 9 rfl fun K hK=>?_;(try simp only[zz]);go_simp;refine hK.out _ _ (⟨(k2.nz (bbox hB2 (.cells #[.slice F C.facts.length f,.slice G C.atoms.length e] tAs))).cell,(k1.nz (bbox hB2 (.cells #[.slice F C.facts.length f,.slice G C.atoms.length e] tAs))).cell⟩) ?_;clear aH hK K;intro aH;(try simp only[zz]);refine tk2 10 rfl aH (h:=?_);(try simp only[zz]);refine dn1 ?_;(go_wp2_with fail);go_meet
    case rel=>exact ⟨w2.heap.size,F,f,G,e,rfl,rfl,Blk.new _ _ _,(o2.rj.bz (bbox (Below.refl _ _) _)).mono (Nat.zero_le _) (by simp),ax (bbox hB2 _)⟩
   ·(try simp only[zz]);go_simp;refine hK.out _ _ (⟨(k2.nz (bbox hB1 (.cells #[.slice none 0 0,.slice none 0 0] tAs))).cell,(k1.nz (bbox hB1 (.cells #[.slice none 0 0,.slice none 0 0] tAs))).cell⟩) ?_;clear aH hK K;intro aH;(try simp only[zz]);have kb:=Blk.new w1 tAs #[.slice none 0 0,.slice none 0 0];have hb:=bbox hB1 (.cells #[.slice none 0 0,.slice none 0 0] tAs);have hP2:=hP1.bz (bbox (Below.refl _ w1) (.cells #[.slice none 0 0,.slice none 0 0] tAs));refine rdc 4 rfl fun K hK=>?_;(try simp only[zz]);(go_simp;refine (CS.o _ _ _ (HB.o.bz hb) hP2).mono ?_;rintro e w2 ⟨r2,rfl,o2,hB2⟩;obtain ⟨F,f,G,e,rfl⟩:=o2.I.form;have kb2:=kb.nz hB2;replace hB2:Below w.heap.size w w2:=bgo hb hB2);refine hK.out _ _ (⟨(k2.nz hB2).cell,(k1.nz hB2).cell⟩) ?_;clear aH hK K;intro aH;(try simp only[zz]);refine tk2 5 rfl aH (h:=tk2 6 rfl aH (h:=tk2 7 rfl aH (h:=?_)));(try simp only[zz]);have hlb:=kb2.lt;have ql:=kb2.cell;have rl:=kb2.frozen;have hle:w.heap.size≤w1.heap.size:=by first|exact Nat.le_refl _|exact hB1.size
    have hn1:g≠w1.heap.size:=by omega
    have hn2:g'≠w1.heap.size:=by omega
    refine rdc 9 rfl fun K hK=>?_;(try simp only[zz]);go_simp;refine hK.out _ _ (⟨(((k2.nz hB2).far (p:=⟨w1.heap.size,0,none⟩) (fun e=>hn2 e) (.slice F C.facts.length f)).far (p:=⟨w1.heap.size,1,none⟩) (fun e=>hn2 e) (.slice G C.atoms.length e)).cell,(((k1.nz hB2).far (p:=⟨w1.heap.size,0,none⟩) (fun e=>hn1 e) (.slice F C.facts.length f)).far (p:=⟨w1.heap.size,1,none⟩) (fun e=>hn1 e) (.slice G C.atoms.length e)).cell⟩) ?_;clear aH hK K;intro aH;(try simp only[zz]);refine tk2 10 rfl aH (h:=?_);(try simp only[zz]);refine dn1 ?_;(go_wp2_with fail);go_meet
    case rel=>exact ⟨w1.heap.size,F,f,G,e,rfl,rfl,(kb2.set_ 0 (.slice F C.facts.length f)).set_ 1 (.slice G C.atoms.length e),(AsnO.setW o2 kb2 _ _).rj.mono (Nat.zero_le _) (by simp),ax ((hB2.setCell (p:=⟨w1.heap.size,0,none⟩) hle _).setCell (p:=⟨w1.heap.size,1,none⟩) hle _)⟩
  ·(try simp only[zz]);go_simp;refine hK.out _ _ (⟨(k2.nz (bbox hB0 (.cells #[.slice none 0 0,.slice none 0 0] tAs))).cell,(k1.nz (bbox hB0 (.cells #[.slice none 0 0,.slice none 0 0] tAs))).cell⟩) ?_;clear aH hK K;intro aH;(try simp only[zz]);have kb:Blk (w.drew.alloc (.cells #[.slice none 0 0,.slice none 0 0] tAs)) w.heap.size tAs #[.slice none 0 0,.slice none 0 0]:=Blk.new w.drew _ _;have hb:=bbox hB0 (.cells #[.slice none 0 0,.slice none 0 0] tAs);refine rdc 3 rfl fun K hK=>?_;(try simp only[zz]);(go_simp;refine (CP.o _ _ (HA.o.bz hb)).mono ?_;rintro e w1 ⟨r1,rfl,o1,hB1⟩;obtain ⟨F1,f1,G1,e1,rfl⟩:=o1.I.form;have kb1:=kb.nz hB1;replace hB1:Below w.heap.size w w1:=bgo hb hB1);refine hK.out _ _ (⟨(k2.nz hB1).cell,(k1.nz hB1).cell⟩) ?_;clear aH hK K;intro aH;(try simp only[zz]);have hP1:=o1.rj;refine rdc 4 rfl fun K hK=>?_;(try simp only[zz]);(go_simp;refine (CS.o _ _ _ (HB.o.bz hB1) hP1).mono ?_;rintro e w2 ⟨r2,rfl,o2,hB2⟩;obtain ⟨F,f,G,e,rfl⟩:=o2.I.form;have kb2:=kb1.nz hB2;replace hB2:Below w.heap.size w w2:=bgo hB1 hB2);refine hK.out _ _ (⟨(k2.nz hB2).cell,(k1.nz hB2).cell⟩) ?_;clear aH hK K;intro aH;(try simp only[zz]);refine tk2 5 rfl aH (h:=tk2 6 rfl aH (h:=tk2 7 rfl aH (h:=?_)));(try simp only[zz]);have hlb:=kb2.lt;have ql:=kb2.cell;have rl:=kb2.frozen;have hle:w.heap.size≤w.heap.size:=by first|exact Nat.le_refl _|exact hB1.size
   have hn1:g≠w.heap.size:=by omega
   have hn2:g'≠w.heap.size:=by omega
   refine rdc 9 rfl fun K hK=>?_;(try simp only[zz]);go_simp;refine hK.out _ _ (⟨(((k2.nz hB2).far (p:=⟨w.heap.size,0,none⟩) (fun e=>hn2 e) (.slice F C.facts.length f)).far (p:=⟨w.heap.size,1,none⟩) (fun e=>hn2 e) (.slice G C.atoms.length e)).cell,(((k1.nz hB2).far (p:=⟨w.heap.size,0,none⟩) (fun e=>hn1 e) (.slice F C.facts.length f)).far (p:=⟨w.heap.size,1,none⟩) (fun e=>hn1 e) (.slice G C.atoms.length e)).cell⟩) ?_;clear aH hK K;intro aH;(try simp only[zz]);refine tk2 10 rfl aH (h:=?_);(try simp only[zz]);refine dn1 ?_;(go_wp2_with fail);go_meet
   case rel=>exact ⟨w.heap.size,F,f,G,e,rfl,rfl,(kb2.set_ 0 (.slice F C.facts.length f)).set_ 1 (.slice G C.atoms.length e),(AsnO.setW o2 kb2 _ _).rj.mono (Nat.zero_le _) (by simp),ax ((hB2.setCell (p:=⟨w.heap.size,0,none⟩) hle _).setCell (p:=⟨w.heap.size,1,none⟩) hle _)⟩
 case rest=>
  obtain ⟨x,F,f,G,e,rfl,rfl,kx,hC,hB⟩:=hcut;have kg:=k1.nz hB.o;have hzB:=hB.o.size;(replace qkx:=kx.z;replace qkg:=kg.z);cases q
  ·have E:fb=false:=by rw[HE.o];rfl
   (go_wp2_with fail);go_ret;exact ⟨zjD E.symm,hB.o⟩
  ·have E:aJ (fb=entF a C):=by show _=_;rw[HE.o];rfl
   (go_wp2_with fail);refine (c_impl_Entails _ _ a C _ (HA.o.bz hB.o) hC (by omega) (Nat.le_refl _)).mono ?_;rintro e w2 ⟨rfl,hB2⟩;rw[←E.o];(go_wp2_with fail);go_ret;exact ⟨rfl,bgo hB.o hB2⟩
theorem c_frLeast {lo hi lo' hi':Nat} (g g':Nat) (a b:Asn) (A1 A2 A3 A4:Option Addr) (c1 c2 c3 c4:Nat) (w:World) (ha:AsnV w lo hi (.agg #[.slice A1 a.facts.length c1,.slice A2 a.atoms.length c2]) a) (hb:AsnV w lo' hi' (.agg #[.slice A3 b.facts.length c3,.slice A4 b.atoms.length c4]) b) (hhi:hi≤w.heap.size) (hv:a.valid=true) (hv':b.valid=true)
  (k1:Blk w g tAs #[.slice A1 a.facts.length c1,.slice A2 a.atoms.length c2]) (k2:Blk w g' tAs #[.slice A3 b.facts.length c3,.slice A4 b.atoms.length c4]) :
  Calls Tryz.prog 113 #[.int .i64 a.atoms.length,.func (.func 114) #[] #[.pointer (some ⟨g',0,none⟩),.pointer (some ⟨g,0,none⟩)]] w fun e w'=>e=.returned (.tuple #[.int .i64 ((frM a b).getD 0:Nat),.bool (frM a b).isSome])∧Below w.heap.size w w':=by
 have HA:=ax ha;have HB:=ax hb;have hla:=(zjC hv).2;have HV:=ax hv;have HV':=ax hv';have K1:=ax k1;have K2:=ax k2;obtain ⟨n,hn⟩:∃ n,n=a.atoms.length:=⟨_,rfl⟩;obtain ⟨N,hN⟩:∃ N:Nat,N=2 ^ n:=⟨_,rfl⟩;have hN64:N≤64:=by rw[hN];exact Nat.pow_le_pow_right (n:=2) (by decide) (show n≤6 by omega)
 have HM:aJ (frM a b=seekM (frB a b) (N - 0) 0):=ax (by rw[hN,hn];rfl);have hp:(2:Int) ^ n=(N:Int):=by rw[hN];simp
 have hn64:min n 64=n:=by omega
 rw[←hn] at hla;replace hN:=ax hN;clear ha hb hv hv' k1 k2;(go_enter Tryz.func113,Tryz.ntmps113);rw[←hn];replace hn:=ax hn;(go_wp2_with fail)
 go_loopw [6] (fun i wr=>∃ k:Nat,k≤N∧i=.int .i64 k∧aJ (frM a b=seekM (frB a b) (N - k) k)∧aJ (Below w.heap.size w wr)) (fun i _=>N - (intOf i).toNat)
 case atStart=>exact ⟨0,Nat.zero_le _,rfl,HM,ax (Below.refl _ _)⟩
 case round=>
  clear HM;obtain ⟨k,hk,rfl,HM,hB⟩:=hrel;by_cases hlt:k<N
  ·have hki:(k:Int)<(N:Int):=by omega
   (go_wp2_with fail);refine (c_frClo g g' a b A1 A2 A3 A4 c1 c2 c3 c4 k wr (HA.o.bz hB.o) (HB.o.bz hB.o) (by have:=hB.o.size;omega) HV.o HV'.o (by omega) (K1.o.nz hB.o) (K2.o.nz hB.o)).mono ?_;rintro e w1 ⟨rfl,hB1⟩;have hBw:=ax (bgo hB.o hB1);have HS:aJ (frM a b=if frB a b k then some k else seekM (frB a b) (N - (k+1)) (k+1)):=ax (by rw[HM.o,seekM_step hlt]);clear hB1;cases hp:frB a b k
   ·have HM2:aJ (frM a b=seekM (frB a b) (N - (k+1)) (k+1)):=ax (by rw[HS.o,hp];rfl);clear hp HM HS;(go_wp2_with fail)
    go_round
    case rel=>exact ⟨k+1,by omega,by go_num,HM2,hBw⟩
    case measure=>simp[intOf];omega
   ·have E:aJ (frM a b=some k):=ax (by rw[HS.o,hp];rfl);clear hp HM HS;(go_wp2_with fail);go_ret2;exact ⟨by rw[E.o];rfl,hBw.o⟩
  ·obtain rfl:k=N:=by omega
   have E:aJ (frM a b=none):=ax (by rw[HM.o,Nat.sub_self];rfl);(go_wp2_with fail);go_ret2;exact ⟨by rw[E.o];rfl,hB.o⟩
theorem frame_none1 {a b:Asn} (h:a.valid=false):frameF a b=none:=by unfold frameF;rw[h];rfl
theorem frame_none2 {a b:Asn} (h:a.valid=true) (h':b.valid=false):frameF a b=none:=by unfold frameF;rw[h,h'];rfl
theorem frame_map {a b:Asn} (h:a.valid=true) (h':b.valid=true):frameF a b=(frM a b).map (pickA a):=by unfold frameF;rw[h,h'];rfl
theorem c_impl_FrameOf {lo hi lo' hi':Nat} (v v':Value) (a b:Asn) (w:World) (h:AsnV w lo hi v a) (h':AsnV w lo' hi' v' b) (hhi:hi≤w.heap.size) :
  Calls Tryz.prog 42 #[v,v'] w fun e w'=>∃ r,e=.returned (.tuple #[r,.bool (frameF a b).isSome])∧AsnO w' w.heap.size r ((frameF a b).getD ⟨[],[]⟩)∧Below w.heap.size w w':=by
 have HA:=ax h;have HB:=ax h';obtain ⟨A1,c1,A2,c2,rfl,-,-⟩:=h;obtain ⟨A3,c3,A4,c4,rfl,-,-⟩:=h';have H1:=ax (@frame_none1 a b);have H2:=ax (@frame_none2 a b);have H3:=ax (@frame_map a b);obtain ⟨k1,k2,k4⟩:=blk3 w tAs tAs tAs #[.slice A1 a.facts.length c1,.slice A2 a.atoms.length c2] #[.slice A3 b.facts.length c3,.slice A4 b.atoms.length c4] #[.slice none 0 0,.slice none 0 0];have hB:Below w.heap.size w (((w.alloc (.cells #[.slice A1 a.facts.length c1,.slice A2 a.atoms.length c2] tAs)).alloc (.cells #[.slice A3 b.facts.length c3,.slice A4 b.atoms.length c4] tAs)).alloc (.cells #[.slice none 0 0,.slice none 0 0] tAs)):=bel;(go_enter Tryz.func42,Tryz.ntmps42);(go_upto_region 1 with fail);generalize (((w.alloc (.cells #[.slice A1 a.facts.length c1,.slice A2 a.atoms.length c2] tAs)).alloc (.cells #[.slice A3 b.facts.length c3,.slice A4 b.atoms.length c4] tAs)).alloc (.cells #[.slice none 0 0,.slice none 0 0] tAs))=W at k1 k2 k4 hB ⊢;(replace qk1:=k1.z;replace qk2:=k2.z;replace qk4:=k4.cell;replace rk4:=k4.frozen;replace lk4:=k4.lt);(go_wp2_with fail);refine (jz _ a _ (HA.o.bz hB)).mono ?_;rintro e w1 ⟨rfl,hB1⟩;(replace hB:=bgo hB hB1;replace k1:=k1.nz hB1;replace qk1:=k1.z;replace k2:=k2.nz hB1;replace qk2:=k2.z;replace k4:=k4.nz hB1;replace qk4:=k4.cell;replace rk4:=k4.frozen;replace lk4:=k4.lt);clear hB1;cases ha:a.valid
 ·have E:=ax (H1.o ha);clear ha H1 H2 H3;(go_wp2_with fail);refine bodyPost_ret (v:=.tuple #[.agg #[.slice none 0 0,.slice none 0 0],.bool false]) (by simp[results,Tryz.results42,go_sem,qk4,lk4]) rfl ⟨_,by rw[E.o];rfl,by rw[E.o];exact AsnO.zero _ _,bel⟩
 have HV:=ax ha;clear ha;(go_wp2_with fail);refine (jz _ b _ (HB.o.bz hB)).mono ?_;rintro e w2 ⟨rfl,hB2⟩;(replace hB:=bgo hB hB2;replace k1:=k1.nz hB2;replace qk1:=k1.z;replace k2:=k2.nz hB2;replace qk2:=k2.z;replace k4:=k4.nz hB2;replace qk4:=k4.cell;replace rk4:=k4.frozen;replace lk4:=k4.lt);clear hB2;cases hb:b.valid
 ·have E:=ax (H2.o HV.o hb);clear hb H1 H2 H3;(go_wp2_with fail);refine bodyPost_ret (v:=.tuple #[.agg #[.slice none 0 0,.slice none 0 0],.bool false]) (by simp[results,Tryz.results42,go_sem,qk4,lk4]) rfl ⟨_,by rw[E.o];rfl,by rw[E.o];exact AsnO.zero _ _,bel⟩
 have HV':=ax hb;have E:=ax (H3.o HV.o HV'.o);have hla:=(zjC HV.o).2;clear hb H1 H2 H3;(go_wp2_with fail);refine (c_frLeast _ _ a b A1 A2 A3 A4 c1 c2 c3 c4 _ (HA.o.bz hB) (HB.o.bz hB) (by have:=hB.size;omega) HV.o HV'.o k1 k2).mono ?_;rintro e w3 ⟨rfl,hB3⟩;have hz:=hB.size;(replace hB:=bgo hB hB3;replace k1:=k1.nz hB3;replace qk1:=k1.z;replace k2:=k2.nz hB3;replace qk2:=k2.z;replace k4:=k4.nz hB3;replace qk4:=k4.cell;replace rk4:=k4.frozen;replace lk4:=k4.lt);clear hB3
 cases hm:frM a b with
 | none=>
  rw[hm] at E;clear hm;(go_wp2_with fail);refine bodyPost_ret (v:=.tuple #[.agg #[.slice none 0 0,.slice none 0 0],.bool false]) (by simp[results,Tryz.results42,go_sem,qk4,lk4]) rfl ⟨_,by rw[E.o];rfl,by rw[E.o];exact AsnO.zero _ _,bel⟩
 | some m=>
  rw[hm] at E
  have hm64:m≤1000000:=by
   have h1:=(seekM_lt hm).2.1;have h2:2 ^ a.atoms.length≤2 ^ 6:=Nat.pow_le_pow_right (by decide) hla;omega
  clear hm;(go_wp2_with fail);refine (c_impl_pick _ a m _ (HA.o.bz hB) hm64 (by omega)).mono ?_;rintro e w4 ⟨r,rfl,o,hB4⟩;have hz4:=hB.size;(replace hB:=bgo hB hB4;replace k4:=k4.nz hB4;replace qk4:=k4.cell;replace rk4:=k4.frozen;replace lk4:=k4.lt);clear hB4 k1 k2 qk1 qk2;obtain ⟨F,f,G,g,rfl⟩:=o.I.form;have O:=ax o;clear o;(go_wp2_with fail);refine bodyPost_ret (v:=.tuple #[.agg #[.slice F (pickA a m).facts.length f,.slice G (pickA a m).atoms.length g],.bool true]) (by simp[results,Tryz.results42,go_sem,qk4,lk4]) rfl ⟨_,by rw[E.o];rfl,?_,bel⟩;rw[E.o];exact (AsnO.setW O.o k4 _ _).bq (by omega)
end
section
open Go Go.RowKit Go.Proofs
abbrev tTS2:Nat:=100
theorem c_chClo (S g:Nat) (hS:S<512) (k a b:Int) (t:Fct) (i:Asn) (A1 A2 A3 A4:Option Addr) (c1 c2 c3 c4:Nat) (body els:Cms) (w:World) (hK:Blk w g tTS2 #[.int .u16 (S:Nat)]) :
  Calls Tryz.prog 186 #[.agg #[.int .i64 k,.int .i64 a,.int .i64 b,.bool t.eq,.int .i64 t.a,.int .i64 t.b,.slice A1 i.facts.length c1,.slice A2 i.atoms.length c2,.slice A3 body.len c3,.slice A4 els.len c4],.pointer (some ⟨g,0,none⟩)] w fun e w'=>(∃ v,e=.returned v)∧Blk w' g tTS2 #[.int .u16 (chF S k a b t i:Nat)]∧Mk (fun x=>x=g) w w':=by
 have hg:=hK.lt;have q0:=hK.cell 0;have r0:=hK.frozen 0;by_cases hk:k=1∨k=2∨k=4
 ·have HE:=ax (show chF S k a b t i=tins S a from if_pos hk);replace hK:=ax hK;have hgne:g≠w.heap.size:=by omega
  rcases hk with rfl|rfl|rfl
  all_goals
   (go_enter Tryz.func186,Tryz.ntmps186);(go_wp2_with fail);refine (c_impl_with S a _ hS).mono ?_;rintro e w' ⟨rfl,rfl⟩;(go_wp2_with fail)
   go_end0
   refine ⟨⟨_,rfl⟩,?_,(((Mk.refl (fun x=>x=g) _).set (x:=⟨g,0,none⟩) rfl _).trans (Mk.below_ (bbox (Below.refl _ _) _)))⟩;rw[HE.o];exact (hK.o.set_ 0 _).alloc _
 ·have HE:=ax (show chF S k a b t i=S from if_neg hk);replace hK:=ax hK;have k1:(k == 1)=false:=beq_false_of_ne fun e=>hk (.inl e);have k2:(k == 2)=false:=beq_false_of_ne fun e=>hk (.inr (.inl e));have k4:(k == 4)=false:=beq_false_of_ne fun e=>hk (.inr (.inr e));clear hk;(go_enter Tryz.func186,Tryz.ntmps186);(go_wp2_with fail)
  go_end0
  refine ⟨⟨_,rfl⟩,?_,Mk.below_ (bbox (Below.refl _ _) _)⟩;rw[HE.o];exact hK.o.alloc _
theorem c_loClo {lo hi:Nat} (S g:Nat) (hS:S<512) (k a b:Int) (t:Fct) (i:Asn) (A1 A2 A3 A4:Option Addr) (c1 c2 c3 c4:Nat) (body els:Cms) (w:World) (hA:AsnV w lo hi (.agg #[.slice A1 i.facts.length c1,.slice A2 i.atoms.length c2]) i) (hK:Blk w g tTS2 #[.int .u16 (S:Nat)]) :
  Calls Tryz.prog 137 #[.agg #[.int .i64 k,.int .i64 a,.int .i64 b,.bool t.eq,.int .i64 t.a,.int .i64 t.b,.slice A1 i.facts.length c1,.slice A2 i.atoms.length c2,.slice A3 body.len c3,.slice A4 els.len c4],.pointer (some ⟨g,0,none⟩)] w fun e w'=>(∃ v,e=.returned v)∧Blk w' g tTS2 #[.int .u16 (loF S k a b t i:Nat)]∧Mk (fun x=>x=g) w w':=by
 have hg:=hK.lt;replace hA:=ax hA;obtain ⟨S1,hS1⟩:∃ x,x=tins S a:=⟨_,rfl⟩;obtain ⟨S2,hS2⟩:∃ x,x=tins S1 b:=⟨_,rfl⟩;obtain ⟨S3,hS3⟩:∃ x,x=tins S2 t.a:=⟨_,rfl⟩;obtain ⟨S4,hS4⟩:∃ x,x=tins S3 t.b:=⟨_,rfl⟩;have l1:S1<512:=by rw[hS1];exact tins_lt hS _
 have l2:S2<512:=by rw[hS2];exact tins_lt l1 _
 have l3:S3<512:=by rw[hS3];exact tins_lt l2 _
 have l4:S4<512:=by rw[hS4];exact tins_lt l3 _
 obtain ⟨T,hT⟩:∃ x,x=tset (mz i):=⟨_,rfl⟩;have lT:T<512:=by rw[hT];exact tset_lt _
 have HE:aJ (loF S k a b t i=S4|||T):=by show _=_;rw[hS4,hS3,hS2,hS1,hT];rfl
 have hU:=u16_or_nat S4 T (by omega) (by omega);replace hS1:=ax hS1;replace hS2:=ax hS2;replace hS3:=ax hS3;replace hS4:=ax hS4;replace hT:=ax hT;(go_enter Tryz.func137,Tryz.ntmps137);have k0:Blk (w.alloc (.cells #[.int .i64 k,.int .i64 a,.int .i64 b,.bool t.eq,.int .i64 t.a,.int .i64 t.b,.slice A1 i.facts.length c1,.slice A2 i.atoms.length c2,.slice A3 body.len c3,.slice A4 els.len c4] tC)) w.heap.size tC #[.int .i64 k,.int .i64 a,.int .i64 b,.bool t.eq,.int .i64 t.a,.int .i64 t.b,.slice A1 i.facts.length c1,.slice A2 i.atoms.length c2,.slice A3 body.len c3,.slice A4 els.len c4]:=Blk.new _ _ _;have k1:Blk (w.alloc (.cells #[.int .i64 k,.int .i64 a,.int .i64 b,.bool t.eq,.int .i64 t.a,.int .i64 t.b,.slice A1 i.facts.length c1,.slice A2 i.atoms.length c2,.slice A3 body.len c3,.slice A4 els.len c4] tC)) g tTS2 #[.int .u16 (S:Nat)]:=hK.alloc _;have hgne:g≠w.heap.size:=by omega
 (go_wp2_with fail);refine wp_region_noPanic ?_;refine wp_region_last' (S:=(fun w'=>(∀ j,w'.cell? ⟨w.heap.size,j,none⟩=#[.int .i64 k,.int .i64 a,.int .i64 b,.bool t.eq,.int .i64 t.a,.int .i64 t.b,.slice A1 i.facts.length c1,.slice A2 i.atoms.length c2,.slice A3 body.len c3,.slice A4 els.len c4][j]?)∧(∀ j,w'.cell? ⟨g,j,none⟩=#[Value.int .u16 (S:Nat)][j]?)∧(∀ j,w'.frozen? ⟨g,j,none⟩=false))) (by simp) (by kernel_rfl) (by kernel_rfl) (⟨k0.cell,k1.cell,k1.frozen⟩) (fun aH=>?_);simp only[List.dropLast,List.getLast,nopOf,List.cons_append,List.nil_append,List.length_cons,List.length_nil,Nat.zero_add,Nat.reduceAdd];refine tk2 0 rfl aH (h:=tk2 1 rfl aH (h:=tk2 2 rfl aH (h:=?_)));(try simp only[zz]);refine tk2 4 rfl aH (h:=tk2 5 rfl aH (h:=tk2 7 rfl aH (h:=?_)));(try simp only[zz]);refine tk2 8 rfl aH (h:=tk2 9 rfl aH (h:=tk2 11 rfl aH (h:=?_)));(try simp only[zz]);refine tk2 12 rfl aH (h:=tk2 13 rfl aH (h:=tk2 15 rfl aH (h:=?_)));(try simp only[zz]);refine tk2 16 rfl aH (h:=?_);refine rdc 3 rfl fun K hK=>?_;(try simp only[zz]);(go_simp;refine (c_impl_with S a _ hS).mono ?_;rintro e w1 ⟨rfl,rfl⟩;rw[←hS1.o]);refine hK.out _ _ (⟨k0.cell,k1.cell,k1.frozen⟩) ?_;clear aH hK K;intro aH;refine rdc 6 rfl fun K hK=>?_;(try simp only[zz]);(go_simp;refine (c_impl_with S1 b _ l1).mono ?_;rintro e w1 ⟨rfl,rfl⟩;rw[←hS2.o]);refine hK.out _ _ (⟨k0.cell,k1.cell,k1.frozen⟩) ?_;clear aH hK K;intro aH;refine rdc 10 rfl fun K hK=>?_;(try simp only[zz]);(go_simp;refine (c_impl_with S2 t.a _ l2).mono ?_;rintro e w1 ⟨rfl,rfl⟩;rw[←hS3.o]);refine hK.out _ _ (⟨k0.cell,k1.cell,k1.frozen⟩) ?_;clear aH hK K;intro aH;refine rdc 14 rfl fun K hK=>?_;(try simp only[zz]);(go_simp;refine (c_impl_with S3 t.b _ l3).mono ?_;rintro e w1 ⟨rfl,rfl⟩;rw[←hS4.o]);refine hK.out _ _ (⟨k0.cell,k1.cell,k1.frozen⟩) ?_;clear aH hK K;intro aH;refine rdc 17 rfl fun K hK=>?_;(try simp only[zz]);(go_simp;refine (c_impl_termsIn _ i _ (hA.o.bz bel)).mono ?_;rintro e w5 ⟨rfl,hB5⟩;rw[←hT.o];replace k0:=Blk.nz (g:=w.heap.size) blks hB5;replace k1:=Blk.nz (g:=g) (t:=tTS2) (cs:=#[.int .u16 (S:Nat)]) blks hB5;have hBB:=bgo (w:=w) bel hB5);refine hK.out _ _ (⟨k0.cell,k1.cell,k1.frozen⟩) ?_;clear aH hK K;intro aH;(try simp only[zz]);refine tk2 18 rfl aH (h:=?_);(try simp only[zz]);refine rdc 19 rfl fun K hK=>?_;go_simp;refine hK.out _ _ (⟨k0.cell,k1.cell,k1.frozen⟩) (fun aH=>?_);clear hK K;refine wpAnyH_done (by kernel_rfl) ?_ _;unfold lastQ;go_simp;refine NoPanic.normal ?_;(go_wp2_with fail)
 go_end0
 refine ⟨⟨_,rfl⟩,?_,((Mk.below_ (p:=fun x=>x=g) hBB).set (x:=⟨g,0,none⟩) rfl _)⟩;rw[HE.o];exact k1.set_ 0 _
theorem visitCh_go:∀ (N:Nat) (L:Cms),L.sz<N→∀ (A:Option Addr) (c lo hi gS S:Nat) (w:World),CmsV w lo hi A L→L.len≤1049600→L.small 1049600→hi≤gS→S<512→Blk w gS tTS2 #[.int .u16 (S:Nat)]→
  Calls Tryz.prog 136 #[.slice A L.len c,.func (.func 186) #[] #[.pointer (some ⟨gS,0,none⟩)]] w fun e w'=>(∃ v,e=.returned v)∧Blk w' gS tTS2 #[.int .u16 (L.fold chF S:Nat)]∧Mk (fun x=>x=gS) w w':=by
 intro N
 induction N with
 | zero=>intro L h;omega
 | succ N IH=>
  intro L hsz A c lo hi gS S w hV hlen hsm hgS hS hK;replace IH:=ax IH;replace hsm:=ax hsm;replace hsz:=ax hsz;obtain ⟨n,hn⟩:∃ n,n=L.len:=⟨_,rfl⟩;rw[←hn];rw[←hn] at hlen;replace hn:=ax hn;have hgl:=hK.lt;replace hV:=ax hV;(go_enter Tryz.func136,Tryz.ntmps136);(go_wp2_with fail)
  go_loopw [8] (fun x wr=>∃ (j S1:Nat),j≤n∧x=.int .i64 j∧S1<512∧aJ (L.fold chF S=(L.drop j).fold chF S1)∧Blk wr gS tTS2 #[.int .u16 (S1:Nat)]∧Mk (fun x=>x=gS) w wr) (fun x _=>n - (intOf x).toNat)
  case atStart=>exact ⟨0,S,Nat.zero_le _,rfl,hS,ax rfl,hK,Mk.refl _ _⟩
  case round=>
   clear hK;obtain ⟨j,S1,hj,rfl,hS1,HR,kS,hM⟩:=hrel;by_cases hlt:j<n
   ·have hpos:0<(L.drop j).len:=by rw[Cms.drop_len,←hn.o];omega
    obtain ⟨k,a,b,t,i,body,els,r,eL⟩:=Cms.cons_of_len hpos;obtain ⟨bl,o,rfl,-,-,hAt⟩:=(hV.o.mk1 hM hgS hgl) (by rw[←hn.o];omega);have hD:=hAt.drop j;have hS:=Cms.small_drop j hsm.o;have hZ:=Cms.sz_drop j L;have hDs:=Cms.drop_succ j L eL;have HR':=HR.o;rw[eL] at hD hS hZ HR';obtain ⟨⟨p0,p1,p2,p3,p4,p5⟩,⟨A6,c6,p6,g6⟩,⟨A7,c7,p7,g7⟩,⟨A8,c8,p8,g8⟩,⟨A9,c9,p9,g9⟩,-⟩:=hD;obtain ⟨s1,s2,s3,s4,s5,s6,-⟩:=hS;simp only[Cms.sz] at hZ;have hbs:body.sz<N:=by have:=hsz.o;omega
    have hes:els.sz<N:=by have:=hsz.o;omega
    have gA:aJ (AsnV wr lo hi (.agg #[.slice A6 i.facts.length c6,.slice A7 i.atoms.length c7]) i):=⟨_,_,_,_,rfl,⟨g6,s1⟩,⟨g7,s2⟩⟩;have gB:aJ (CmsV wr lo hi A8 body):=g8;have gE:aJ (CmsV wr lo hi A9 els):=g9;rw[Cms.fold,←hDs] at HR';obtain ⟨S2,hS2⟩:∃ x,x=chF S1 k a b t i:=⟨_,rfl⟩;have l2:S2<512:=by rw[hS2];exact chF_lt hS1 k a b t i
    obtain ⟨S3,hS3⟩:∃ x,x=body.fold chF S2:=⟨_,rfl⟩;have l3:S3<512:=by rw[hS3];exact Cms.fold_lt (fun S k a b t i h=>chF_lt h k a b t i) body l2
    obtain ⟨S4,hS4⟩:∃ x,x=els.fold chF S3:=⟨_,rfl⟩;have l4:S4<512:=by rw[hS4];exact Cms.fold_lt (fun S k a b t i h=>chF_lt h k a b t i) els l3
    rw[←hS2,←hS3,←hS4] at HR';replace HR':=ax HR';replace hS2:=ax hS2;replace hS3:=ax hS3;replace hS4:=ax hS4;replace hbs:=ax hbs;replace hes:=ax hes;replace s5:=ax s5;replace s6:=ax s6;have hgl1:=kS.lt;have hsne:wr.heap.size≠gS:=by omega
    clear hZ hpos hAt g6 g7 g8 g9 HR hDs eL;(go_wp2_with fail);refine (c_chClo S1 gS hS1 k a b t i A6 A7 A8 A9 c6 c7 c8 c9 body els _ (kS.alloc _)).mono ?_;rintro e w1 ⟨⟨v1,rfl⟩,kS1,hM1⟩;rw[←hS2.o] at kS1;have hW:Mk (fun x=>x=gS) wr w1:=(Mk.below_ (bbox (Below.refl _ _) _)).trans hM1;have k0:Blk w1 wr.heap.size tC #[.int .i64 k,.int .i64 a,.int .i64 b,.bool t.eq,.int .i64 t.a,.int .i64 t.b,.slice A6 i.facts.length c6,.slice A7 i.atoms.length c7,.slice A8 body.len c8,.slice A9 els.len c9]:=hM1.blk (Blk.new _ _ _) hsne;have q0:=k0.cell;have l0:=k0.lt;clear hM1 kS gA p0 p1 p2 p3 p4 p5 p6 p7 p8 p9;(go_wp2_with fail);refine (IH.o body hbs.o A8 c8 lo hi gS S2 w1 (gB.o.mk1 hW hgS hgl1) s3 s5.o hgS l2 kS1).mono ?_;rintro e w2 ⟨⟨v2,rfl⟩,kS2,hM2⟩;rw[←hS3.o] at kS2;replace hW:=hW.trans hM2;replace k0:=hM2.blk k0 hsne;replace q0:=k0.cell;replace l0:=k0.lt;clear hM2 kS1;(go_wp2_with fail);refine (IH.o els hes.o A9 c9 lo hi gS S3 w2 (gE.o.mk1 hW hgS hgl1) s4 s6.o hgS l3 kS2).mono ?_;rintro e w3 ⟨⟨v3,rfl⟩,kS3,hM3⟩;rw[←hS4.o] at kS3;replace hW:=hW.trans hM3;clear hM3 kS2 k0 q0 l0;(go_wp2_with fail)
    go_round
    case rel=>exact ⟨j+1,S4,by omega,by go_num,l4,HR',kS3,hM.trans hW⟩
    case measure=>simp[intOf];omega
   ·go_wp2_with fail
    go_end0
    obtain rfl:j=n:=by omega
    have e1:L.drop j=.nil:=by rw[hn.o];exact Cms.drop_all L
    have h2:=HR.o;rw[e1] at h2;exact ⟨⟨_,rfl⟩,by rw[h2];exact kS,hM⟩
theorem visitLo_go:∀ (N:Nat) (L:Cms),L.sz<N→∀ (A:Option Addr) (c lo hi gS S:Nat) (w:World),CmsV w lo hi A L→L.len≤1049600→L.small 1049600→hi≤gS→S<512→Blk w gS tTS2 #[.int .u16 (S:Nat)]→
  Calls Tryz.prog 136 #[.slice A L.len c,.func (.func 137) #[] #[.pointer (some ⟨gS,0,none⟩)]] w fun e w'=>(∃ v,e=.returned v)∧Blk w' gS tTS2 #[.int .u16 (L.fold loF S:Nat)]∧Mk (fun x=>x=gS) w w':=by
 intro N
 induction N with
 | zero=>intro L h;omega
 | succ N IH=>
  intro L hsz A c lo hi gS S w hV hlen hsm hgS hS hK;replace IH:=ax IH;replace hsm:=ax hsm;replace hsz:=ax hsz;obtain ⟨n,hn⟩:∃ n,n=L.len:=⟨_,rfl⟩;rw[←hn];rw[←hn] at hlen;replace hn:=ax hn;have hgl:=hK.lt;replace hV:=ax hV;(go_enter Tryz.func136,Tryz.ntmps136);(go_wp2_with fail)
  go_loopw [8] (fun x wr=>∃ (j S1:Nat),j≤n∧x=.int .i64 j∧S1<512∧aJ (L.fold loF S=(L.drop j).fold loF S1)∧Blk wr gS tTS2 #[.int .u16 (S1:Nat)]∧Mk (fun x=>x=gS) w wr) (fun x _=>n - (intOf x).toNat)
  case atStart=>exact ⟨0,S,Nat.zero_le _,rfl,hS,ax rfl,hK,Mk.refl _ _⟩
  case round=>
   clear hK;obtain ⟨j,S1,hj,rfl,hS1,HR,kS,hM⟩:=hrel;by_cases hlt:j<n
   ·have hpos:0<(L.drop j).len:=by rw[Cms.drop_len,←hn.o];omega
    obtain ⟨k,a,b,t,i,body,els,r,eL⟩:=Cms.cons_of_len hpos;obtain ⟨bl,o,rfl,-,-,hAt⟩:=(hV.o.mk1 hM hgS hgl) (by rw[←hn.o];omega);have hD:=hAt.drop j;have hS:=Cms.small_drop j hsm.o;have hZ:=Cms.sz_drop j L;have hDs:=Cms.drop_succ j L eL;have HR':=HR.o;rw[eL] at hD hS hZ HR';obtain ⟨⟨p0,p1,p2,p3,p4,p5⟩,⟨A6,c6,p6,g6⟩,⟨A7,c7,p7,g7⟩,⟨A8,c8,p8,g8⟩,⟨A9,c9,p9,g9⟩,-⟩:=hD;obtain ⟨s1,s2,s3,s4,s5,s6,-⟩:=hS;simp only[Cms.sz] at hZ;have hbs:body.sz<N:=by have:=hsz.o;omega
    have hes:els.sz<N:=by have:=hsz.o;omega
    have gA:aJ (AsnV wr lo hi (.agg #[.slice A6 i.facts.length c6,.slice A7 i.atoms.length c7]) i):=⟨_,_,_,_,rfl,⟨g6,s1⟩,⟨g7,s2⟩⟩;have gB:aJ (CmsV wr lo hi A8 body):=g8;have gE:aJ (CmsV wr lo hi A9 els):=g9;rw[Cms.fold,←hDs] at HR';obtain ⟨S2,hS2⟩:∃ x,x=loF S1 k a b t i:=⟨_,rfl⟩;have l2:S2<512:=by rw[hS2];exact loF_lt hS1 k a b t i
    obtain ⟨S3,hS3⟩:∃ x,x=body.fold loF S2:=⟨_,rfl⟩;have l3:S3<512:=by rw[hS3];exact Cms.fold_lt (fun S k a b t i h=>loF_lt h k a b t i) body l2
    obtain ⟨S4,hS4⟩:∃ x,x=els.fold loF S3:=⟨_,rfl⟩;have l4:S4<512:=by rw[hS4];exact Cms.fold_lt (fun S k a b t i h=>loF_lt h k a b t i) els l3
    rw[←hS2,←hS3,←hS4] at HR';replace HR':=ax HR';replace hS2:=ax hS2;replace hS3:=ax hS3;replace hS4:=ax hS4;replace hbs:=ax hbs;replace hes:=ax hes;replace s5:=ax s5;replace s6:=ax s6;have hgl1:=kS.lt;have hsne:wr.heap.size≠gS:=by omega
    clear hZ hpos hAt g6 g7 g8 g9 HR hDs eL;(go_wp2_with fail);refine (c_loClo S1 gS hS1 k a b t i A6 A7 A8 A9 c6 c7 c8 c9 body els _ (gA.o.bz bel) (kS.alloc _)).mono ?_;rintro e w1 ⟨⟨v1,rfl⟩,kS1,hM1⟩;rw[←hS2.o] at kS1;have hW:Mk (fun x=>x=gS) wr w1:=(Mk.below_ (bbox (Below.refl _ _) _)).trans hM1;have k0:Blk w1 wr.heap.size tC #[.int .i64 k,.int .i64 a,.int .i64 b,.bool t.eq,.int .i64 t.a,.int .i64 t.b,.slice A6 i.facts.length c6,.slice A7 i.atoms.length c7,.slice A8 body.len c8,.slice A9 els.len c9]:=hM1.blk (Blk.new _ _ _) hsne;have q0:=k0.cell;have l0:=k0.lt;clear hM1 kS gA p0 p1 p2 p3 p4 p5 p6 p7 p8 p9;(go_wp2_with fail);refine (IH.o body hbs.o A8 c8 lo hi gS S2 w1 (gB.o.mk1 hW hgS hgl1) s3 s5.o hgS l2 kS1).mono ?_;rintro e w2 ⟨⟨v2,rfl⟩,kS2,hM2⟩;rw[←hS3.o] at kS2;replace hW:=hW.trans hM2;replace k0:=hM2.blk k0 hsne;replace q0:=k0.cell;replace l0:=k0.lt;clear hM2 kS1;(go_wp2_with fail);refine (IH.o els hes.o A9 c9 lo hi gS S3 w2 (gE.o.mk1 hW hgS hgl1) s4 s6.o hgS l3 kS2).mono ?_;rintro e w3 ⟨⟨v3,rfl⟩,kS3,hM3⟩;rw[←hS4.o] at kS3;replace hW:=hW.trans hM3;clear hM3 kS2 k0 q0 l0;(go_wp2_with fail)
    go_round
    case rel=>exact ⟨j+1,S4,by omega,by go_num,l4,HR',kS3,hM.trans hW⟩
    case measure=>simp[intOf];omega
   ·go_wp2_with fail
    go_end0
    obtain rfl:j=n:=by omega
    have e1:L.drop j=.nil:=by rw[hn.o];exact Cms.drop_all L
    have h2:=HR.o;rw[e1] at h2;exact ⟨⟨_,rfl⟩,by rw[h2];exact kS,hM⟩
theorem c_impl_changedIn {lo hi:Nat} (L:Cms) (A:Option Addr) (c:Nat) (w:World) (hV:CmsV w lo hi A L) (hhi:hi≤w.heap.size) (hlen:L.len≤1049600) (hsm:L.small 1049600) :
  Calls Tryz.prog 138 #[.slice A L.len c] w fun e w'=>e=.returned (.int .u16 (L.fold chF 0:Nat))∧Below w.heap.size w w':=by
 replace hV:=ax hV;replace hsm:=ax hsm;(go_enter Tryz.func138,Tryz.ntmps138);(go_wp2_with fail);refine (visitCh_go _ L (Nat.lt_succ_self _) A c lo hi w.heap.size 0 _ (hV.o.bz bel) hlen hsm.o hhi (by decide) (Blk.new _ _ _)).mono ?_;rintro e w1 ⟨⟨v1,rfl⟩,kS,hM⟩;have hB:Below w.heap.size w w1:=Below.trans (bbox (Below.refl _ _) _) (hM.bz (fun k hk=>by omega) (by simp));have q0:=kS.cell 0;have l0:=kS.lt;clear hM;(go_wp2_with fail);go_ret;exact ⟨rfl,hB⟩
theorem c_impl_logicalIn {lo hi:Nat} (L:Cms) (A:Option Addr) (c:Nat) (w:World) (hV:CmsV w lo hi A L) (hhi:hi≤w.heap.size) (hlen:L.len≤1049600) (hsm:L.small 1049600) :
  Calls Tryz.prog 66 #[.slice A L.len c] w fun e w'=>e=.returned (.int .u16 (logS (L.fold loF 0):Nat))∧Below w.heap.size w w':=by
 replace hV:=ax hV;replace hsm:=ax hsm;(go_enter Tryz.func66,Tryz.ntmps66);(go_wp2_with fail);refine (visitLo_go _ L (Nat.lt_succ_self _) A c lo hi w.heap.size 0 _ (hV.o.bz bel) hlen hsm.o hhi (by decide) (Blk.new _ _ _)).mono ?_;rintro e w1 ⟨⟨v1,rfl⟩,kS,hM⟩;have hB:Below w.heap.size w w1:=Below.trans (bbox (Below.refl _ _) _) (hM.bz (fun k hk=>by omega) (by simp));have q0:=kS.cell 0;have l0:=kS.lt;clear hM;(go_wp2_with fail);refine (c_impl_logical _ _ (Cms.fold_lt (fun S k a b t i h=>loF_lt h k a b t i) L (by decide))).mono ?_;rintro e w3 ⟨rfl,rfl⟩;(go_wp2_with fail);go_ret;exact ⟨rfl,hB⟩
def freeK (h:List Int):Option Nat:=(List.range 8).find? fun k:Nat=>!allocB h ((k:Int)+1)
def basicF (s:Ste) (k a b:Int):Ste×Int:=
 if k=1 then (⟨s.values.set (a - 1).toNat (tval s.values b),s.heap⟩,0)
 else if k=2 then if allocB s.heap (tval s.values b) then (⟨s.values.set (a - 1).toNat (cont s.heap (tval s.values b)),s.heap⟩,0) else (s,1)
 else if k=3 then if allocB s.heap (tval s.values a) then (⟨s.values,s.heap.set (tval s.values a - 1).toNat (tval s.values b)⟩,0) else (s,1)
 else if k=4 then match freeK s.heap with
  | some n=>(⟨s.values.set (a - 1).toNat ((n:Int)+1),s.heap.set n 0⟩,0)
  | none=>(s,2)
 else if allocB s.heap (tval s.values a) then (⟨s.values,s.heap.set (tval s.values a - 1).toNat (-1)⟩,0) else (s,1)
def loopF (R:Ste→Nat→Ste×Int×Nat) (t:Fct):Nat→Ste→Nat→Ste×Int×Nat
 | 0,s,f=>(s,3,f)
 | n+1,s,f=>if t.holds s.values then
   (if (R s f).2.1≠0 then R s f else if (R s f).2.2<1 then ((R s f).1,3,(R s f).2.2) else loopF R t n (R s f).1 ((R s f).2.2 - 1))
  else (s,0,f)
def cmdR (k a b:Int) (t:Fct) (RB RE:Ste→Nat→Ste×Int×Nat) (s:Ste) (f:Nat):Ste×Int×Nat:=
 if k=6 then (if t.holds s.values then RB s f else RE s f) else if k=7 then loopF RB t (f+1) s f else ((basicF s k a b).1,(basicF s k a b).2,f)
def cmdF (k a b:Int) (t:Fct) (RB RE:Ste→Nat→Ste×Int×Nat) (s:Ste) (f:Nat):Ste×Int×Nat:=
 if f<1 then (s,3,f) else cmdR k a b t RB RE s (f - 1)
def Cms.run:Cms→Ste→Nat→Ste×Int×Nat
 | .nil,s,f=>(s,0,f)
 | .cons k a b t _ body els r,s,f=>
  if (cmdF k a b t body.run els.run s f).2.1≠0 then cmdF k a b t body.run els.run s f else r.run (cmdF k a b t body.run els.run s f).1 (cmdF k a b t body.run els.run s f).2.2
section
variable {B:Nat} {w a b:World}
end
end
end Go.Proofs.YtjaohekkmlkinaaGreat
