/- Matching filled atoms is covering: each atom of the goal by a chain of its own; coverings compose. Plain; no program. -/
import Derived.Test.YtjaohekkmlkinaaGreatMbModel
set_option linter.unusedSimpArgs false
set_option linter.unusedVariables false
set_option maxRecDepth 100000
set_option maxHeartbeats 25600000
namespace Go.Proofs.YtjaohekkmlkinaaGreat
section
open Go
def clsM (M:Int→Int) (x:Atm):Atm:=⟨x.kind,M x.a,M x.b⟩
def Clo (M:Int→Int) (F:List Atm) (q:Int):Prop:=q=M 0∨∃ y∈F,M y.a=q
def SegM (M:Int→Int) (F:List Atm) (q:Int):Int→List Atm→Prop
 | _,[]=>False
 | p,y :: ys=>M y.a=p∧((ys=[]∧M y.b=q)∨(ys≠[]∧M y.b≠q∧(y.kind=2→Clo M F q)∧SegM M F q (M y.b) ys))
def CovM (M:Int→Int) (F:List Atm) (x:Atm) (cs:List Atm):Prop:=if x.kind=1 then ∃ y,cs=[y]∧clsM M y=clsM M x else SegM M F (M x.b) (M x.a) cs
def Cover (M:Int→Int) (F G:List Atm):Prop:=∃ g:Atm→List Atm,(∀ x∈G,CovM M F x (g x))∧F.Perm (G.flatMap g)
def lft:List Atm→List Bool→List Atm
 | y :: F,u :: us=>if u then lft F us else y :: lft F us
 | _,_=>[]
theorem lft_take:∀ (F:List Atm) (used:List Bool) (k:Nat) (y:Atm),F[k]? = some y→used[k]? = some false→(lft F used).Perm (y :: lft F (used.set k true))
 | [],_,_,_,h,_=>by simp at h
 | _ :: _,[],_,_,_,h=>by simp at h
 | z :: F,u :: us,0,y,h1,h2=>by
  simp only[List.getElem?_cons_zero,Option.some.injEq] at h1 h2;subst h1 h2;simp[lft]
 | z :: F,u :: us,k+1,y,h1,h2=>by
  simp only[List.getElem?_cons_succ] at h1 h2;have ih:=lft_take F us k y h1 h2;rw[List.set_cons_succ];cases u
  ·simp only[lft,Bool.false_eq_true,if_false];exact (ih.cons z).trans (List.Perm.swap ..)
  ·simp only[lft,if_true];exact ih
theorem lft_rep:∀ (F:List Atm),lft F (List.replicate F.length false)=F
 | []=>rfl
 | y :: F=>by simp[lft,List.replicate_succ,lft_rep F]
theorem lft_nil:∀ (F:List Atm) (u:List Bool),u.length=F.length→(lft F u=[]↔u.all id=true)
 | [],[],_=>by simp[lft]
 | [],_ :: _,h=>by simp at h
 | _ :: _,[],h=>by simp at h
 | y :: F,u :: us,h=>by
  have:=lft_nil F us (by simpa using h);cases u
  ·simp[lft]
  ·simpa[lft] using this
theorem lft_mem:∀ (F:List Atm) (u:List Bool) (y:Atm),y∈lft F u→∃ k:Nat,F[k]? = some y∧u[k]? = some false
 | [],[],y,h=>by simp[lft] at h
 | [],_ :: _,y,h=>by simp[lft] at h
 | _ :: _,[],y,h=>by simp[lft] at h
 | z :: F,u :: us,y,h=>by
  have ih:=lft_mem F us y;cases u
  ·simp only[lft,Bool.false_eq_true,if_false,List.mem_cons] at h;rcases h with rfl|h
   ·exact ⟨0,by simp,by simp⟩
   ·obtain ⟨k,h1,h2⟩:=ih h;exact ⟨k+1,by simpa using h1,by simpa using h2⟩
  ·simp only[lft,if_true] at h;obtain ⟨k,h1,h2⟩:=ih h;exact ⟨k+1,by simpa using h1,by simpa using h2⟩
section
variable {M:Int→Int} {F G H:List Atm}
theorem clo_iff (h0:M 0=0) (b:Int):closedB (F.map (clsM M)) b=true↔Clo M F b:=by
 unfold closedB Clo;rw[Bool.or_eq_true,decide_eq_true_eq,List.any_eq_true,h0];constructor
 ·rintro (h|⟨x,hx,h⟩)
  ·exact .inl h
  ·obtain ⟨y,hy,rfl⟩:=List.mem_map.1 hx;exact .inr ⟨y,hy,of_decide_eq_true h⟩
 ·rintro (h|⟨y,hy,h⟩)
  ·exact .inl h
  ·exact .inr ⟨_,List.mem_map.2 ⟨y,hy,rfl⟩,decide_eq_true h⟩
theorem find_at {used:List Bool} {c:Int} {k:Nat} (h:findU (F.map (clsM M)) used c=some k):∃ y,F[k]? = some y∧used[k]? = some false∧M y.a=c∧((F.map (clsM M))[k]?).getD default=clsM M y:=by
 obtain ⟨h1,h2⟩:=findU_some h;have h3:=(freeAt_used h2).2;rw[List.length_map] at h1;refine ⟨F[k],List.getElem?_eq_getElem h1,h3,?_,by simp[List.getElem?_map,List.getElem?_eq_getElem h1]⟩;unfold freeAt at h2;rw[Bool.and_eq_true,decide_eq_true_eq] at h2;have:=h2.1;simpa[List.getElem?_map,List.getElem?_eq_getElem h1,clsM] using this
theorem chain_fwd (h0:M 0=0) {b:Int}:∀ (n:Nat) (used:List Bool) (c:Int) (u:List Bool),chainF (F.map (clsM M)) b n used c=some u→∃ cs,SegM M F b c cs∧(lft F used).Perm (cs++lft F u):=by
 intro n
 induction n with
 | zero=>intro used c u h;cases h
 | succ n ih=>
  intro used c u h;unfold chainF at h;rw[Option.bind_eq_some_iff] at h;obtain ⟨k,hk,h⟩:=h;obtain ⟨y,hy,hu,ha,e⟩:=find_at hk;have hp:=lft_take F used k y hy hu;rw[e] at h
  split at h
  ·rename_i hb;obtain rfl:=Option.some.inj h;exact ⟨[y],⟨ha,.inl ⟨rfl,hb⟩⟩,hp⟩
  ·rename_i hb
   split at h
   ·cases h
   ·rename_i hc;obtain ⟨cs,h1,h2⟩:=ih _ _ _ h;refine ⟨y :: cs,⟨ha,.inr ⟨fun e=>by rw[e] at h1;exact h1,hb,fun hk2=>?_,h1⟩⟩,hp.trans (h2.cons y)⟩;rw[←clo_iff h0];cases hcb:closedB (F.map (clsM M)) b
    ·exact absurd ⟨hk2,hcb⟩ hc
    ·rfl
theorem nodup_at {α:Type} {l:List α} (h:l.Nodup) {i j:Nat} {x:α} (hi:l[i]? = some x) (hj:l[j]? = some x):i=j:=by
 obtain ⟨a1,a2⟩:=List.getElem?_eq_some_iff.1 hi;obtain ⟨b1,b2⟩:=List.getElem?_eq_some_iff.1 hj;have hp:=List.pairwise_iff_getElem.1 h;rcases Nat.lt_trichotomy i j with h1|h1|h1
 ·exact absurd (a2.trans b2.symm) (hp i j a1 b1 h1)
 ·exact h1
 ·exact absurd (b2.trans a2.symm) (hp j i b1 a1 h1)
theorem find_free (hn:(F.map fun y=>M y.a).Nodup) {used:List Bool} {y:Atm} (hy:y∈lft F used):∃ k,findU (F.map (clsM M)) used (M y.a)=some k∧F[k]? = some y∧used[k]? = some false∧((F.map (clsM M))[k]?).getD default=clsM M y:=by
 obtain ⟨k,h1,h2⟩:=lft_mem F used y hy;have hl:=(List.getElem?_eq_some_iff.1 h1).1;refine ⟨k,?_,h1,h2,by simp[List.getElem?_map,h1]⟩;unfold findU;refine range_find_some (by simpa using hl) ?_ fun j hj=>?_
 ·unfold freeAt;simp[List.getElem?_map,h1,h2,clsM]
 ·have hjl:j<F.length:=by omega
  unfold freeAt;simp only[List.getElem?_map,List.getElem?_eq_getElem hjl,Option.map_some,Option.getD_some,clsM];rw[Bool.and_eq_false_iff]
  left
  rw[decide_eq_false_iff_not];intro e;have:=nodup_at hn (i:=j) (j:=k) (x:=M y.a) (by simp[List.getElem?_map,List.getElem?_eq_getElem hjl,e]) (by simp[List.getElem?_map,h1]);omega
theorem chain_bwd (h0:M 0=0) (hn:(F.map fun y=>M y.a).Nodup) {b:Int}:∀ (cs:List Atm) (n:Nat) (used:List Bool) (c:Int) (rest:List Atm),cs.length≤n→SegM M F b c cs→(lft F used).Perm (cs++rest)→∃ u,chainF (F.map (clsM M)) b n used c=some u∧(lft F u).Perm rest:=by
 intro cs
 induction cs with
 | nil=>intro n used c rest _ h;exact absurd h id
 | cons y cs ih=>
  intro n used c rest hl h hp;obtain ⟨n,rfl⟩:∃ m,n=m+1:=⟨n - 1,by simp at hl;omega⟩;obtain ⟨rfl,h⟩:=h;obtain ⟨k,h1,h2,h3,h4⟩:=find_free (M:=M) hn (hp.mem_iff.2 (by simp:y∈y :: cs++rest));have hp2:(lft F (used.set k true)).Perm (cs++rest):=((lft_take F used k y h2 h3).symm.trans hp).cons_inv;unfold chainF;rw[h1,Option.bind_some,h4];rcases h with ⟨rfl,hb⟩|⟨hne,hb,hc,hs⟩
  ·rw[if_pos (show (clsM M y).b=b from hb)];exact ⟨_,rfl,hp2⟩
  ·rw[if_neg (show ¬(clsM M y).b=b from hb),if_neg]
   ·exact ih n _ _ rest (by simp at hl;omega) hs hp2
   ·rintro ⟨g1,g2⟩;have:=(clo_iff h0 b).2 (hc g1);rw[g2] at this;cases this
def Covs (M:Int→Int) (F:List Atm):List Atm→List (List Atm)→Prop
 | [],[]=>True
 | x :: xs,cs :: css=>CovM M F x cs∧Covs M F xs css
 | _,_=>False
theorem cls_inj {y x:Atm} (h:clsM M y=clsM M x):y.kind=x.kind∧M y.a=M x.a∧M y.b=M x.b:=by
 simpa[clsM] using h
theorem match_fwd (h0:M 0=0):∀ (G:List Atm) (used u:List Bool),matchF (F.map (clsM M)) used (G.map (clsM M))=some u→∃ css,Covs M F G css∧(lft F used).Perm (css.flatten++lft F u)
 | [],used,u,h=>by
  obtain rfl:=Option.some.inj h;exact ⟨[],trivial,by simp⟩
 | x :: G,used,u,h=>by
  simp only[List.map_cons,matchF,Option.bind_eq_some_iff] at h;obtain ⟨u1,h1,h2⟩:=h;obtain ⟨css,h3,h4⟩:=match_fwd h0 G u1 u h2
  have key:∃ cs,CovM M F x cs∧(lft F used).Perm (cs++lft F u1):=by
   unfold useOne at h1;unfold CovM;by_cases hk:x.kind=1
   ·rw[if_pos (show (clsM M x).kind=1 from hk)] at h1;rw[Option.bind_eq_some_iff] at h1;obtain ⟨k,hf,h1⟩:=h1;obtain ⟨y,hy,hu,ha,e⟩:=find_at hf;rw[e] at h1
    split at h1
    ·rename_i he;obtain rfl:=Option.some.inj h1;exact ⟨[y],by rw[if_pos hk];exact ⟨y,rfl,he⟩,lft_take F used k y hy hu⟩
    ·cases h1
   ·rw[if_neg (show ¬(clsM M x).kind=1 from hk)] at h1;obtain ⟨cs,g1,g2⟩:=chain_fwd h0 _ _ _ _ h1;exact ⟨cs,by rw[if_neg hk];exact g1,g2⟩
  obtain ⟨cs,g1,g2⟩:=key;refine ⟨cs :: css,⟨g1,h3⟩,?_⟩;rw[List.flatten_cons,List.append_assoc];exact g2.trans (h4.append_left cs)
theorem seg_head {q p:Int} {cs:List Atm} (h:SegM M F q p cs):∃ y ys,cs=y :: ys∧M y.a=p:=by
 cases cs with
 | nil=>exact absurd h id
 | cons y ys=>exact ⟨y,ys,rfl,h.1⟩
theorem cov_head {x:Atm} {cs:List Atm} (h:CovM M F x cs):∃ y ys,cs=y :: ys∧M y.a=M x.a:=by
 unfold CovM at h
 split at h
 ·obtain ⟨y,rfl,e⟩:=h;exact ⟨y,[],rfl,(cls_inj e).2.1⟩
 ·exact seg_head h
theorem match_bwd (h0:M 0=0) (hn:(F.map fun y=>M y.a).Nodup):∀ (G:List Atm) (used:List Bool) (css:List (List Atm)) (rest:List Atm),Covs M F G css→(lft F used).Perm (css.flatten++rest)→css.flatten.length≤F.length→∃ u,matchF (F.map (clsM M)) used (G.map (clsM M))=some u∧(lft F u).Perm rest
 | [],used,[],rest,_,hp,_=>⟨used,rfl,by simpa using hp⟩
 | [],_,_ :: _,_,h,_,_=>absurd h id
 | _ :: _,_,[],_,h,_,_=>absurd h id
 | x :: G,used,cs :: css,rest,h,hp,hl=>by
  obtain ⟨h1,h2⟩:=h;rw[List.flatten_cons,List.append_assoc] at hp;rw[List.flatten_cons,List.length_append] at hl
  have key:∃ u1,useOne (F.map (clsM M)) used (clsM M x)=some u1∧(lft F u1).Perm (css.flatten++rest):=by
   unfold useOne;unfold CovM at h1;by_cases hk:x.kind=1
   ·rw[if_pos hk] at h1;rw[if_pos (show (clsM M x).kind=1 from hk)];obtain ⟨y,rfl,e⟩:=h1;obtain ⟨k,g1,g2,g3,g4⟩:=find_free (M:=M) hn (hp.mem_iff.2 (by simp:y∈[y]++(css.flatten++rest)));rw[show (clsM M x).a=M y.a from (cls_inj e).2.1.symm,g1,Option.bind_some,g4,if_pos e];exact ⟨_,rfl,((lft_take F used k y g2 g3).symm.trans hp).cons_inv⟩
   ·rw[if_neg hk] at h1;rw[if_neg (show ¬(clsM M x).kind=1 from hk)];exact chain_bwd h0 hn cs _ used _ _ (by rw[List.length_map];omega) h1 hp
  obtain ⟨u1,g1,g2⟩:=key;obtain ⟨u,g3,g4⟩:=match_bwd h0 hn G u1 css rest h2 g2 (by omega);refine ⟨u,?_,g4⟩;simp only[List.map_cons,matchF];rw[g1,Option.bind_some];exact g3
theorem matchF_len:∀ (G:List Atm) (used u:List Bool),matchF F used G=some u→u.length=used.length
 | [],used,u,h=>by rw[←Option.some.inj h]
 | x :: G,used,u,h=>by
  simp only[matchF,Option.bind_eq_some_iff] at h;obtain ⟨u1,h1,h2⟩:=h;rw[matchF_len G u1 u h2,useOne_len h1]
theorem covs_starts:∀ (G:List Atm) (css:List (List Atm)),Covs M F G css→(G.map fun x=>M x.a).Sublist (css.flatten.map fun x=>M x.a)
 | [],[],_=>by simp
 | [],_ :: _,h=>absurd h id
 | _ :: _,[],h=>absurd h id
 | x :: G,cs :: css,h=>by
  have ih:=covs_starts G css h.2;obtain ⟨y,ys,rfl,e⟩:=cov_head h.1;simp only[List.map_cons,List.flatten_cons,List.cons_append,List.map_append];rw[e];exact List.Sublist.cons_cons _ (ih.trans (List.sublist_append_right _ _))
theorem covs_fun:∀ (G:List Atm) (css:List (List Atm)),Covs M F G css→(G.map fun x=>M x.a).Nodup→∃ g:Atm→List Atm,css.flatten=G.flatMap g∧∀ x∈G,CovM M F x (g x)
 | [],[],_,_=>⟨fun _=>[],by simp,by simp⟩
 | [],_ :: _,h,_=>absurd h id
 | _ :: _,[],h,_=>absurd h id
 | x :: G,cs :: css,h,hn=>by
  rw[List.map_cons,List.nodup_cons] at hn;obtain ⟨g,h1,h2⟩:=covs_fun G css h.2 hn.2;have hx:∀ y∈G,y≠x:=fun y hy e=>hn.1 (List.mem_map.2 ⟨y,hy,by rw[e]⟩);refine ⟨fun y=>if y=x then cs else g y,?_,fun y hy=>?_⟩
  ·rw[List.flatten_cons,List.flatMap_cons,if_pos rfl,h1]
   congr 1
   unfold List.flatMap
   congr 1
   exact List.map_congr_left fun y hy=>(if_neg (hx y hy)).symm
  ·show CovM M F y (if y=x then cs else g y);rcases List.mem_cons.1 hy with rfl|hy
   ·rw[if_pos rfl];exact h.1
   ·rw[if_neg (hx y hy)];exact h2 y hy
theorem covs_of_fun {g:Atm→List Atm}:∀ (G:List Atm),(∀ x∈G,CovM M F x (g x))→Covs M F G (G.map g)
 | [],_=>trivial
 | x :: G,h=>⟨h x List.mem_cons_self,covs_of_fun G fun y hy=>h y (List.mem_cons_of_mem _ hy)⟩
theorem match_iff (h0:M 0=0) (hn:(F.map fun y=>M y.a).Nodup):matchB (F.map (clsM M)) (G.map (clsM M))=true↔Cover M F G:=by
 unfold matchB;rw[List.length_map];constructor
 ·intro h
  cases e:matchF (F.map (clsM M)) (List.replicate F.length false) (G.map (clsM M)) with
  | none=>rw[e] at h;cases h
  | some u=>
   rw[e] at h;obtain ⟨css,h1,h2⟩:=match_fwd h0 G _ u e;rw[lft_rep,(lft_nil F u (by rw[matchF_len _ _ _ e];simp)).2 h,List.append_nil] at h2;have hs:=covs_starts G css h1;obtain ⟨g,g1,g2⟩:=covs_fun G css h1 (((h2.map fun y=>M y.a).nodup_iff.1 hn).sublist hs);exact ⟨g,g2,by rw[←g1];exact h2⟩
 ·rintro ⟨g,h1,h2⟩;obtain ⟨u,h3,h4⟩:=match_bwd h0 hn G (List.replicate F.length false) (G.map g) [] (covs_of_fun G h1) (by rw[lft_rep,List.append_nil,←List.flatMap_def];exact h2) (by rw[←List.flatMap_def,h2.length_eq];exact Nat.le_refl _);rw[h3];exact (lft_nil F u (by rw[matchF_len _ _ _ h3];simp)).1 (List.Perm.eq_nil h4)
/-! coverings compose -/
theorem cov_seg {x:Atm} {cs:List Atm} (h:CovM M F x cs):SegM M F (M x.b) (M x.a) cs:=by
 unfold CovM at h
 split at h
 ·obtain ⟨y,rfl,e⟩:=h;exact ⟨(cls_inj e).2.1,.inl ⟨rfl,(cls_inj e).2.2⟩⟩
 ·exact h
theorem seg_append {q r:Int}:∀ (cs rest:List Atm) (p:Int),SegM M F r p cs→(∀ y∈cs,M y.b≠q)→(∀ y∈cs,y.kind=2→Clo M F q)→SegM M F q r rest→SegM M F q p (cs++rest)
 | [],_,_,h,_,_,_=>absurd h id
 | y :: cs,rest,p,h,h1,h2,h3=>by
  refine ⟨h.1,.inr ⟨?_,h1 y List.mem_cons_self,h2 y List.mem_cons_self,?_⟩⟩
  ·cases cs
   ·intro e;have e:rest=[]:=e;rw[e] at h3;exact h3
   ·simp
  ·rcases h.2 with ⟨rfl,e⟩|⟨-,-,-,hs⟩
   ·rw[e];exact h3
   ·exact seg_append cs rest _ hs (fun z hz=>h1 z (List.mem_cons_of_mem _ hz)) (fun z hz=>h2 z (List.mem_cons_of_mem _ hz)) h3
theorem seg_ends {r:Int}:∀ (cs:List Atm) (p:Int),SegM M F r p cs→∀ y∈cs,M y.b=r∨∃ z∈cs.tail,M z.a=M y.b
 | [],_,h,_,_=>absurd h id
 | y :: cs,p,h,z,hz=>by
  rcases List.mem_cons.1 hz with rfl|hz
  ·rcases h.2 with ⟨rfl,e⟩|⟨-,-,-,hs⟩
   ·exact .inl e
   ·obtain ⟨w,ws,rfl,e⟩:=seg_head hs;exact .inr ⟨w,by simp,e⟩
  ·rcases h.2 with ⟨rfl,e⟩|⟨-,-,-,hs⟩
   ·cases hz
   ·rcases seg_ends cs _ hs z hz with h1|⟨w,hw,e⟩
    ·exact .inl h1
    ·exact .inr ⟨w,List.mem_of_mem_tail hw,e⟩
theorem flat_sublist {α β:Type} (g:α→List β):∀ (L:List α) (z:α),z∈L→(g z).Sublist (L.flatMap g)
 | [],_,h=>by cases h
 | y :: L,z,h=>by
  rw[List.flatMap_cons];rcases List.mem_cons.1 h with rfl|h
  ·exact List.sublist_append_left _ _
  ·exact (flat_sublist g L z h).trans (List.sublist_append_right _ _)
theorem flat_apart {α β γ:Type} (g:α→List β) (f:β→γ):∀ (L:List α),((L.flatMap g).map f).Nodup→∀ z∈L,∀ w∈L,z≠w→∀ x∈g z,∀ y∈g w,f x≠f y
 | [],_,_,h,_,_,_,_,_,_,_=>by cases h
 | v :: L,hn,z,hz,w,hw,hne,x,hx,y,hy=>by
  rw[List.flatMap_cons,List.map_append,List.nodup_append] at hn;have hin:∀ (u:α) (t:β),u∈L→t∈g u→f t∈(L.flatMap g).map f:=fun u t hu ht=>List.mem_map.2 ⟨t,List.mem_flatMap.2 ⟨u,hu,ht⟩,rfl⟩;rcases List.mem_cons.1 hz with rfl|hz1
  ·rcases List.mem_cons.1 hw with rfl|hw1
   ·exact absurd rfl hne
   ·exact hn.2.2 _ (List.mem_map.2 ⟨x,hx,rfl⟩) _ (hin w y hw1 hy)
  ·rcases List.mem_cons.1 hw with rfl|hw1
   ·exact fun e=>hn.2.2 _ (List.mem_map.2 ⟨y,hy,rfl⟩) _ (hin z x hz1 hx) e.symm
   ·exact flat_apart g f L hn.2.1 z hz1 w hw1 hne x hx y hy
theorem Cover.trans (h1:Cover M F G) (h2:Cover M G H) (hn:(F.map fun y=>M y.a).Nodup) (h0:∀ y∈F,M y.a≠M 0) (hG:∀ z∈G,z.kind=1∨z.kind=2):Cover M F H:=by
 obtain ⟨g,g1,g2⟩:=h1;obtain ⟨d,d1,d2⟩:=h2;have hgn:((G.flatMap g).map fun y=>M y.a).Nodup:=(g2.map fun y=>M y.a).nodup_iff.1 hn;have hmem:∀ z∈G,∀ y∈g z,y∈F:=fun z hz y hy=>g2.mem_iff.2 (List.mem_flatMap.2 ⟨z,hz,hy⟩)
 have hclo:∀ q,Clo M G q→Clo M F q:=fun q h=>by
  rcases h with h|⟨w,hw,e⟩
  ·exact .inl h
  ·obtain ⟨y,ys,e1,e2⟩:=cov_head (g1 w hw);exact .inr ⟨y,hmem w hw y (by rw[e1];simp),e2.trans e⟩
 have hin:∀ x∈H,∀ z∈d x,z∈G:=fun x hx z hz=>d2.mem_iff.2 (List.mem_flatMap.2 ⟨x,hx,hz⟩)
 have hnot:∀ z∈G,∀ y∈(g z).tail,¬Clo M G (M y.a):=fun z hz y hy h=>by
  have hyz:=List.mem_of_mem_tail hy;rcases h with h|⟨w,hw,e⟩
  ·exact h0 y (hmem z hz y hyz) h
  ·obtain ⟨y',ys,e1,e2⟩:=cov_head (g1 w hw);by_cases hzw:z=w
   ·subst hzw;have:=hgn.sublist ((flat_sublist g G z hz).map fun y=>M y.a);rw[e1] at this hy;rw[List.map_cons,List.nodup_cons] at this;exact this.1 (List.mem_map.2 ⟨y,hy,by rw[e2,e]⟩)
   ·exact flat_apart g (fun y=>M y.a) G hgn z hz w hw hzw y hyz y' (by rw[e1];simp) (by rw[e2,e])
 have comp:∀ (q:Int) (ds:List Atm) (p:Int),SegM M G q p ds→(∀ z∈ds,z∈G)→SegM M F q p (ds.flatMap g):=by
  intro q ds
  induction ds with
  | nil=>intro p h;exact absurd h id
  | cons z ds ih=>
   intro p h hD;have hz:=hD z List.mem_cons_self;have hs:=cov_seg (g1 z hz);rw[List.flatMap_cons];obtain ⟨rfl,h⟩:=h;rcases h with ⟨rfl,e⟩|⟨-,hb,hc,hr⟩
   ·rw[List.flatMap_nil,List.append_nil,←e];exact hs
   ·have hkind:∀ y∈g z,(g z).tail≠[]∨y.kind=2→Clo M G q:=fun y hy hor=>by
     have hcov:=g1 z hz;unfold CovM at hcov;by_cases hk:z.kind=1
     ·rw[if_pos hk] at hcov;obtain ⟨y',e1,e2⟩:=hcov;rw[e1] at hor hy;rcases hor with h|h
      ·exact absurd rfl h
      ·rw[List.mem_singleton.1 hy] at h;rw[(cls_inj e2).1,hk] at h;exact absurd h (by decide)
     ·exact hc ((hG z hz).resolve_left hk)
    refine seg_append (g z) _ _ hs (fun y hy e=>?_) (fun y hy hk=>hclo _ (hkind y hy (.inr hk))) (ih _ hr fun w hw=>hD w (List.mem_cons_of_mem _ hw));rcases seg_ends _ _ hs y hy with e2|⟨y',hy',e2⟩
    ·exact hb (e2.symm.trans e)
    ·have:=hkind y hy (.inl fun h=>by rw[h] at hy';cases hy');rw[←e,←e2] at this;exact hnot z hz y' hy' this
 refine ⟨fun x=>(d x).flatMap g,fun x hx=>?_,?_⟩
 ·have hd:=d1 x hx;unfold CovM at hd ⊢;by_cases hk:x.kind=1
  ·rw[if_pos hk] at hd ⊢;obtain ⟨z,e1,e2⟩:=hd;have hz:=hin x hx z (by rw[e1];simp);have hg:=g1 z hz;unfold CovM at hg;rw[if_pos ((cls_inj e2).1.trans hk)] at hg;obtain ⟨y,e3,e4⟩:=hg;exact ⟨y,by show List.flatMap g (d x)=_;rw[e1];simp[e3],e4.trans e2⟩
  ·rw[if_neg hk] at hd ⊢;exact comp _ _ _ hd (hin x hx)
 ·refine g2.trans ?_;have:=d2.flatMap_right g;rw[List.flatMap_assoc] at this;exact this
end
end
section
open Go Go.RowKit Go.Proofs
end
section
open Go Go.RowKit
/-! states -/
/-! the laws -/
def EntM (M:Int→Int) (a b:Asn):Prop:=(∀ f∈b.facts,decide (M f.a=M f.b)=f.eq)∧Cover M (a.atoms.filter (fillM M)) (b.atoms.filter (fillM M))
theorem entB_iff {a b:Asn} {c:List Int} (h0:cl c 0=0) (hs:Sat (cl c) a):entB a b c=true↔EntM (cl c) a b:=by
 unfold entB EntM;have e:∀ xs:List Atm,filledL xs c=(xs.filter (fillM (cl c))).map (clsM (cl c)):=fun _=>rfl;rw[Bool.and_eq_true,List.all_eq_true,e,e,match_iff h0 hs.apart];exact and_congr_left fun _=>forall_congr' fun f=>forall_congr' fun _=>by unfold Fct.fits;exact beq_iff_eq
section
variable {M N:Int→Int} {T:Int→Prop} {F G:List Atm}
theorem Clo.same (h0:T 0) (he:∀ s t,T s→T t→(M s=M t↔N s=N t)) {q:Int} (hF:∀ y∈F,T y.a∧T y.b) (hq:T q) (h:Clo M F (M q)):Clo N F (N q):=by
 rcases h with h|⟨y,hy,e⟩
 ·exact .inl ((he _ _ hq h0).1 h)
 ·exact .inr ⟨y,hy,(he _ _ (hF y hy).1 hq).1 e⟩
theorem SegM.same (h0:T 0) (he:∀ s t,T s→T t→(M s=M t↔N s=N t)) (hF:∀ y∈F,T y.a∧T y.b) {q:Int} (hq:T q):∀ (cs:List Atm) (p:Int),T p→(∀ y∈cs,y∈F)→SegM M F (M q) (M p) cs→SegM N F (N q) (N p) cs
 | [],_,_,_,h=>absurd h id
 | y :: cs,p,hp,hm,h=>by
  have hy:=hF y (hm y List.mem_cons_self);refine ⟨(he _ _ hy.1 hp).1 h.1,?_⟩;rcases h.2 with ⟨e,hb⟩|⟨hne,hb,hc,hs⟩
  ·exact .inl ⟨e,(he _ _ hy.2 hq).1 hb⟩
  ·exact .inr ⟨hne,fun e=>hb ((he _ _ hy.2 hq).2 e),fun hk=>(hc hk).same h0 he hF hq,SegM.same h0 he hF hq cs y.b hy.2 (fun z hz=>hm z (List.mem_cons_of_mem _ hz)) hs⟩
theorem Cover.same (h0:T 0) (he:∀ s t,T s→T t→(M s=M t↔N s=N t)) (hF:∀ y∈F,T y.a∧T y.b) (hG:∀ y∈G,T y.a∧T y.b) (h:Cover M F G):Cover N F G:=by
 obtain ⟨g,h1,h2⟩:=h;refine ⟨g,fun x hx=>?_,h2⟩;have hm:∀ y∈g x,y∈F:=fun y hy=>h2.mem_iff.2 (List.mem_flatMap.2 ⟨x,hx,hy⟩);have hc:=h1 x hx;unfold CovM at hc ⊢
 split
 ·rename_i hk;rw[if_pos hk] at hc;obtain ⟨y,e,e2⟩:=hc;have hy:=hF y (hm y (by rw[e];simp));obtain ⟨e3,e4,e5⟩:=cls_inj e2;refine ⟨y,e,?_⟩;unfold clsM;rw[e3,(he _ _ hy.1 (hG x hx).1).1 e4,(he _ _ hy.2 (hG x hx).2).1 e5]
 ·rename_i hk;rw[if_neg hk] at hc;exact SegM.same h0 he hF (hG x hx).2 _ _ (hG x hx).1 hm hc
theorem fill_same (he:∀ s t,T s→T t→(M s=M t↔N s=N t)) {xs:List Atm} (hx:∀ y∈xs,T y.a∧T y.b):xs.filter (fillM M)=xs.filter (fillM N):=by
 refine List.filter_congr fun y hy=>?_;unfold fillM;rw[decide_eq_decide.2 (he _ _ (hx y hy).1 (hx y hy).2)]
theorem EntM.same {a b:Asn} (h0:T 0) (he:∀ s t,T s→T t→(M s=M t↔N s=N t)) (ha:∀ y∈a.atoms,T y.a∧T y.b) (hb:∀ y∈b.atoms,T y.a∧T y.b) (hf:∀ f∈b.facts,T f.a∧T f.b) (h:EntM M a b):EntM N a b:=by
 refine ⟨fun f hm=>?_,?_⟩
 ·rw[←h.1 f hm,decide_eq_decide];exact (he _ _ (hf f hm).1 (hf f hm).2).symm
 ·rw[←fill_same he ha,←fill_same he hb];exact h.2.same h0 he (fun y hy=>ha y (List.mem_filter.1 hy).1) (fun y hy=>hb y (List.mem_filter.1 hy).1)
end
theorem termsL_atm {a:Asn} {x:Atm} (hx:x∈a.atoms):x.a∈mz a∧x.b∈mz a:=by
 simp only[mz,List.mem_append,List.mem_flatMap];exact ⟨.inr ⟨x,hx,by simp[atomT]⟩,.inr ⟨x,hx,by simp[atomT]⟩⟩
theorem ent_all {a b:Asn} (ha:a.valid=true) (hb:b.valid=true):(∀ c∈cases a (caseS a (tset (mz b))),entB a b c=true)↔∀ M,Sat M a→EntM M a b:=by
 have h0:=caseS_zero a (tset (mz b));constructor
 ·intro h M hM;have hc:=sat_case ha h0 (caseS_terms ha _) hM;have h1:=(entB_iff (case_zero h0 hc) (case_sat ha h0 hc)).1 (h _ hc);have hTa:∀ t∈mz a,(0≤t∧t≤8)∧(caseS a (tset (mz b))).testBit t.toNat=true:=fun t ht=>⟨zjA.1 (termsL_ok ha t ht),caseS_terms ha _ t ht⟩
  have hTb:∀ t∈mz b,(0≤t∧t≤8)∧(caseS a (tset (mz b))).testBit t.toNat=true:=fun t ht=>by
   have h8:=zjA.1 (termsL_ok hb t ht);refine ⟨h8,?_⟩
   have:(tset (mz b)).testBit t.toNat=true:=by
    rw[tset_bit,Int.toNat_of_nonneg h8.1];simp only[decide_eq_true_eq];exact ⟨termsL_ok hb t ht,ht⟩
   rw[caseS_bit,this];simp
  exact h1.same (T:=fun t=>(0≤t∧t≤8)∧(caseS a (tset (mz b))).testBit t.toNat=true) ⟨⟨by omega,by omega⟩,h0⟩ (fun s t hs ht=>cl_canon_eq hs ht)
   (fun y hy=>⟨hTa _ (termsL_atm hy).1,hTa _ (termsL_atm hy).2⟩) (fun y hy=>⟨hTb _ (termsL_atm hy).1,hTb _ (termsL_atm hy).2⟩) (fun f hf=>⟨hTb _ (termsL_facts hf).1,hTb _ (termsL_facts hf).2⟩)
 ·intro h c hc;have hs:=case_sat ha h0 hc;exact (entB_iff (case_zero h0 hc) hs).2 (h _ hs)
theorem valid_kind {a:Asn} (h:a.valid=true) {x:Atm} (hx:x∈a.atoms):x.kind=1∨x.kind=2:=by
 simp only[Asn.valid,Bool.and_eq_true] at h;have:=List.all_eq_true.1 h.2.2 x hx;simp[Atm.valid] at this;exact this.1.1
section
variable {M:Int→Int} {a b c:Asn}
theorem EntM.trans (h1:EntM M a b) (h2:EntM M b c) (ha:Sat M a) (hb:b.valid=true):EntM M a c:=
 ⟨h2.1,h1.2.trans h2.2 ha.apart (fun y hy=>ha.nil y (List.mem_filter.1 hy).1 (List.mem_filter.1 hy).2) fun z hz=>valid_kind hb (List.mem_filter.1 hz).1⟩
theorem Cover.perm {F G:List Atm} (h:F.Perm G):Cover M F G:=by
 refine ⟨fun x=>[x],fun x hx=>?_,by simpa using h⟩;unfold CovM
 split
 ·exact ⟨x,rfl,rfl⟩
 ·exact ⟨rfl,.inl ⟨rfl,rfl⟩⟩
theorem EntM.refl (ha:Sat M a):EntM M a a:=⟨ha.facts,Cover.perm (List.Perm.refl _)⟩
end
/-! truth in states -/
def cellsOf (s:Ste) (x:Atm):List Int:=(atomCells s x).getD []
end
section
open Go Go.RowKit Go.Proofs
theorem maskA_none (m:Nat):∀ (A F:List Atm) (i:Nat),(∀ j,i≤j→j<i+A.length→m.testBit j=false)→maskA m i (A++F)=maskA m (i+A.length) F
 | [],F,i,_=>rfl
 | x :: A,F,i,h=>by
  simp only[List.cons_append,List.length_cons] at h ⊢;rw[maskA,h i (Nat.le_refl _) (by omega),if_neg (by decide),maskA_none m A F (i+1) fun j h1 h2=>h j (by omega) (by omega),show i+1+A.length=i+(A.length+1) by omega]
theorem maskA_all (m:Nat):∀ (F:List Atm) (i:Nat),(∀ j,i≤j→j<i+F.length→m.testBit j=true)→maskA m i F=F
 | [],i,_=>rfl
 | x :: F,i,h=>by
  simp only[List.length_cons] at h;unfold maskA;rw[h i (Nat.le_refl _) (by omega),if_pos rfl,maskA_all m F (i+1) fun j h1 h2=>h j (by omega) (by omega)]
theorem seekM_isSome {p:Nat→Bool}:∀ (n m k:Nat),m≤k→k<m+n→p k=true→(seekM p n m).isSome=true
 | 0,m,k,h1,h2,_=>by omega
 | n+1,m,k,h1,h2,hp=>by
  unfold seekM
  split
  ·rfl
  ·rename_i h;by_cases e:m=k
   ·rw[e] at h;exact absurd hp h
   ·exact seekM_isSome n (m+1) k (by omega) (by omega) hp
theorem entF_less {a b:Asn} (ha:a.valid=true) (hb:b.valid=true) (hf:∀ f∈b.facts,f∈a.facts) (hx:b.atoms=a.atoms):entF a b=true:=by
 unfold entF failF;rw[Bool.and_eq_true,Bool.and_eq_true,Bool.not_eq_true',Option.isSome_eq_false_iff,Option.isNone_iff_eq_none,List.find?_eq_none];have:=(ent_all ha hb).2 fun M hM=>⟨fun f hm=>hM.facts f (hf f hm),by rw[hx];exact Cover.perm (List.Perm.refl _)⟩;exact ⟨⟨ha,hb⟩,fun c hc=>by rw[this c hc];decide⟩
theorem star_some {a b C:Asn} (h:starF a b=some C):a.valid=true∧b.valid=true∧C.valid=true∧C=starA a b:=by
 unfold starF at h
 split at h
 ·rename_i hv;simp only[Bool.and_eq_true] at hv;injection h with h;subst h;exact ⟨hv.1.1,hv.1.2,hv.2,rfl⟩
 ·cases h
theorem star_frame {a f C:Asn} (h:starF a f=some C):(frameF C a).isSome=true:=by
 obtain ⟨ha,hf,hC,rfl⟩:=star_some h;unfold frameF frM;rw[hC,ha,if_pos (by rfl),Option.isSome_map];refine seekM_isSome _ _ ((2 ^ f.atoms.length - 1) <<< a.atoms.length) (Nat.zero_le _) ?_ ?_
 ·have e:(starA a f).atoms.length=a.atoms.length+f.atoms.length:=by unfold starA;simp
  have hp:=Nat.two_pow_pos f.atoms.length;rw[e,Nat.zero_add,Nat.shiftLeft_eq,Nat.pow_add,Nat.mul_comm];exact Nat.mul_lt_mul_of_pos_left (by omega) (Nat.two_pow_pos _)
 ·have e:pickA (starA a f) ((2 ^ f.atoms.length - 1) <<< a.atoms.length)=⟨[],f.atoms⟩:=by
   unfold pickA starA;simp only;rw[maskA_none _ _ _ 0 fun j h1 h2=>by rw[Nat.testBit_shiftLeft,decide_eq_false (by omega)];rfl,maskA_all _ _ _ fun j h1 h2=>by rw[Nat.testBit_shiftLeft,decide_eq_true (by omega),Nat.testBit_two_pow_sub_one,decide_eq_true (by omega)];rfl]
  unfold frB;rw[e];refine entF_less hC ?_ (fun x hx=>?_) rfl
  ·simp only[Asn.valid,factsValid,starA,Bool.and_eq_true,decide_eq_true_eq,List.all_eq_true,List.append_nil] at hC ha ⊢;exact ⟨ha.1,of_decide_eq_true hC.2.1,hC.2.2⟩
  ·unfold starA at hx ⊢;simp only[List.append_nil] at hx;exact List.mem_append_left _ hx
theorem fc_law {k m:Ctr} {f:Asn} (h:frameC k f=some m):starF k.pre f=some m.pre∧starF k.post f=some m.post∧m.changes=k.changes∧(frameF m.pre k.pre).isSome=true∧m.valid=true:=by
 have h':=h;unfold frameC at h
 split at h
 ·rename_i hv;simp only[Bool.and_eq_true] at hv;rw[frameC_spec hv.1.1 hv.1.2 hv.2] at h'
  split at h'
  ·rename_i hm;obtain ⟨P,hP,h2⟩:=Option.bind_eq_some_iff.1 h;obtain ⟨Q,hQ,h3⟩:=Option.map_eq_some_iff.1 h2;injection h' with h';subst h';injection h3 with e1 e2;subst e1 e2;exact ⟨hP,hQ,rfl,star_frame hP,hm⟩
  ·cases h'
 ·cases h
end
end Go.Proofs.YtjaohekkmlkinaaGreat
