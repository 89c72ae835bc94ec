/- Contracts: the spec's first failing case. -/
import Derived.Test.YtgdfdmjnadnlnaaGreatMatchT
import Derived.BigQuiet
import Derived.Deep.QuietTactic
import Derived.Test.YtgdfdmjnadnlnaaGreatMRunBas
import Derived.Deep.DeepCutAuto
set_option linter.unusedSimpArgs false
set_option linter.unusedVariables false
set_option maxRecDepth 100000
set_option maxHeartbeats 25600000
namespace Go.Proofs.YtgdfdmjnadnlnaaGreat
section
open Go Go.RowKit Go.Proofs
attribute [local go_sem ↓] Go.wp_at_zero Go.wp_at_succ
end
section
open Go
end
section
open Go Go.RowKit Go.Proofs
attribute [local go_sem ↓] Go.wp_at_zero Go.wp_at_succ
end
section
open Go Go.RowKit
/-! the filled atoms stay the same -/
/-! separated atoms describe themselves -/
/-! no further terms -/
def atermsL (a:Asn):List Int:=if a.valid then ((List.range 9).filter fun n=>(tset (termsL a)).testBit n).map fun n:Nat=>(n:Int) else []
theorem atermsL_mem {a:Asn} (hv:a.valid=true) {s:Int}:s∈atermsL a↔∃ n:Nat,n<9∧(tset (termsL a)).testBit n=true∧(n:Int)=s:=by
 unfold atermsL;rw[if_pos hv];simp[and_assoc]
end
section
open Go Go.RowKit Go.Proofs
attribute [local go_sem ↓] Go.wp_at_zero Go.wp_at_succ
theorem c_impl_AssertionTerms {lo hi:Nat} (v:Value) (a:Asn) (w:World) (h:AsnV w lo hi v a) :
  Calls Tryz.prog 44 #[v] w fun e w'=>∃ r,e=.returned r∧IntsO w' w.heap.size r (atermsL a)∧Below w.heap.size w w':=by
 have hV:=ax h;obtain ⟨A1,c1,A2,c2,rfl,-,-⟩:=h;(go_enter Tryz.func44,Tryz.ntmps44);have k0:Blk (w.alloc (.cells #[.slice A1 a.facts.length c1,.slice A2 a.atoms.length c2] tAs)) w.heap.size tAs #[.slice A1 a.facts.length c1,.slice A2 a.atoms.length c2]:=blks;(go_wp2_with fail);refine (c_impl_AssertionValid _ a _ (hV.o.bz bel)).mono ?_;rintro e w1 ⟨rfl,hB1⟩;have hB:Below w.heap.size w w1:=bgo (w:=w) bel hB1;replace k0:=k0.nz hB1;(replace qk0:=k0.z);clear hB1;have hz:=hB.size;cases ha:a.valid
 ·have E:aJ (atermsL a=[]):=by show _=_;simp[atermsL,ha]
  clear ha;(go_wp2_with fail);go_ret;exact ⟨_,rfl,by rw[E.o];exact IntsO.nil _ _,bel⟩
 ·have E:aJ (atermsL a=tlistL (tset (termsL a)) 9):=by show _=_;simp[atermsL,ha,tlistL]
  clear ha;(go_wp2_with fail);refine (c_impl_termsIn _ a _ (hV.o.bz hB)).mono ?_;rintro e w2 ⟨rfl,hB2⟩;replace hB:=bgo hB hB2;replace k0:=k0.nz hB2;clear hB2;(go_wp2_with fail);refine (c_impl_termList (tset (termsL a)) _ (tset_lt _)).mono ?_;rintro e w3 ⟨r,rfl,o3,hB3⟩;have O3:=ax (o3.lower hB.size);replace hB:=bgo hB hB3;clear hB3 o3 k0 qk0;(go_wp2_with fail);go_ret;exact ⟨r,rfl,by rw[E.o];exact O3.o,hB⟩
end
section
open Go Go.RowKit
def setS (s:Ste) (t v:Int):Ste:=⟨s.values.set (t - 1).toNat v,s.heap⟩
def tryF (a:Asn) (used:List Int):Nat→Ste→Int→Bool
 | 0,s,_=>holdsF s a
 | n+1,s,t=>if decide (t∈used) || !decide (t∈atermsL a) then tryF a used n s (t+1) else (List.range 9).any fun v=>tryF a used n (setS s t (v:Int)) (t+1)
def someF (s:Ste) (l:List Asn) (used:List Int):Bool:=l.any fun a=>tryF a used 4 s 5
theorem atermsL_len (a:Asn):(atermsL a).length≤1000:=by
 unfold atermsL
 split
 ·rw[List.length_map];exact Nat.le_trans (List.length_filter_le _ _) (by simp)
 ·simp
theorem tval_ext {us vs:List Int} (hu:us.length=8) (hv:vs.length=8) (h:∀ t:Int,1≤t→t≤8→tval us t=tval vs t):us=vs:=by
 apply List.ext_getElem (by omega);intro j h1 h2;have:=h ((j:Int)+1) (by omega) (by omega);unfold tval at this;rw[if_neg (by omega),if_neg (by omega),show ((j:Int)+1 - 1).toNat=j by omega,List.getElem?_eq_getElem h1,List.getElem?_eq_getElem h2] at this;simpa using this
theorem try_true {a:Asn} {used:List Int} {s':Ste} (hh:holdsF s' a=true):∀ (n:Nat) (s:Ste) (t:Int),s.valid=true→1≤t→t+n=9→s'.heap=s.heap→(∀ u:Int,1≤u→u≤8→(u<t∨u∈used∨u∉atermsL a)→tval s'.values u=tval s.values u)→tryF a used n s t=true
 | 0,s,t,hs,h1,h9,hp,hu=>by
  obtain ⟨hs',-⟩:=case_of_law hh
  have e:s'=s:=by
   have e2:s'.values=s.values:=tval_ext (Ste.valid_len hs').1 (Ste.valid_len hs).1 fun u u1 u8=>hu u u1 u8 (.inl (by omega));cases s';cases s;simp only at e2 hp;rw[e2,hp]
  unfold tryF;rw[←e];exact hh
 | n+1,s,t,hs,h1,h9,hp,hu=>by
  unfold tryF;by_cases hc:t∈used∨t∉atermsL a
  ·rw[if_pos (by simpa using hc)];refine try_true hh n s (t+1) hs (by omega) (by omega) hp fun u u1 u8 h=>?_;rcases h with h|h
   ·by_cases e:u=t
    ·exact hu u u1 u8 (.inr (by rw[e];exact hc))
    ·exact hu u u1 u8 (.inl (by omega))
   ·exact hu u u1 u8 (.inr h)
  ·rw[if_neg (by simpa using hc),List.any_eq_true];obtain ⟨hs',-⟩:=case_of_law hh;have hv:=tval_le (by simp only[Ste.valid,Bool.and_eq_true] at hs';exact hs'.2.1:s'.values.all valB=true) t;refine ⟨(tval s'.values t).toNat,List.mem_range.2 (by omega),?_⟩;rw[Int.toNat_of_nonneg hv.1];refine try_true hh n _ (t+1) (set_valid hs _ (by simp[valB];omega)) (by omega) (by omega) hp fun u u1 u8 h=>?_;show tval s'.values u=tval (s.values.set (t - 1).toNat (tval s'.values t)) u;rw[tval_set (Ste.valid_len hs).1 h1 (by omega) _ (by omega)]
   split
   ·rename_i e;rw[e]
   ·refine hu u u1 u8 ?_;rcases h with h|h
    ·exact .inl (by omega)
    ·exact .inr h
theorem flatMap_same {α β:Type} {f g:α→List β}:∀ {l:List α},(∀ x∈l,f x=g x)→l.flatMap f=l.flatMap g
 | [],_=>rfl
 | x :: xs,h=>by rw[List.flatMap_cons,List.flatMap_cons,h x List.mem_cons_self,flatMap_same fun y hy=>h y (List.mem_cons_of_mem _ hy)]
theorem holds_map {s s1:Ste} {a b:Asn} (f:Atm→Atm) (hb:b.atoms=a.atoms.map f) (hc:∀ x∈a.atoms,atomCells s1 (f x)=atomCells s x) (hh:s1.heap=s.heap) (hv:s1.valid=true) (hbv:b.valid=true) (hf:∀ g∈b.facts,decide (tval s1.values g.a=tval s1.values g.b)=g.eq) (h:holdsF s a=true):holdsF s1 b=true:=by
 obtain ⟨h1,h2,h3,h4,h5,h6⟩:=holds_parts.1 h;have e:∀ x∈a.atoms,cellsOf s1 (f x)=cellsOf s x:=fun x hx=>by unfold cellsOf;rw[hc x hx]
 have e2:b.atoms.flatMap (cellsOf s1)=a.atoms.flatMap (cellsOf s):=by
  rw[hb,List.flatMap_map];exact flatMap_same e
 refine holds_parts.2 ⟨hv,hbv,hf,fun y hy=>?_,by rw[e2];exact h5,fun c hc'=>by rw[e2];rw[hh] at hc';exact h6 c hc'⟩;rw[hb,List.mem_map] at hy;obtain ⟨x,hx,rfl⟩:=hy;rw[hc x hx,e x hx];exact h4 x hx
theorem atom_val {s s1:Ste} {x y:Atm} (hk:y.kind=x.kind) (hh:s1.heap=s.heap) (ha:tval s1.values y.a=tval s.values x.a) (hb:tval s1.values y.b=tval s.values x.b):atomCells s1 y=atomCells s x:=by
 unfold atomCells;rw[hk,hh,ha,hb]
theorem termsL_fct {a:Asn} {g:Fct} (h:g∈a.facts):g.a∈termsL a∧g.b∈termsL a:=by
 simp only[termsL,List.mem_append,List.mem_flatMap];exact ⟨.inl ⟨g,h,by simp[factT]⟩,.inl ⟨g,h,by simp[factT]⟩⟩
theorem termsL_sub_mem {a:Asn} {x y:Int} (h:x∈termsL a):y∈termsL (substA x y a):=by
 simp only[termsL,List.mem_append,List.mem_flatMap] at h ⊢;rcases h with ⟨g,hg,hx⟩|⟨g,hg,hx⟩
 ·refine .inl ⟨g.sub x y,List.mem_map.2 ⟨g,hg,rfl⟩,?_⟩;simp only[factT,List.mem_cons,List.not_mem_nil,or_false] at hx ⊢;unfold Fct.sub swp;rcases hx with e|e
  ·exact .inl (by simp[e])
  ·exact .inr (by simp[e])
 ·refine .inr ⟨g.sub x y,List.mem_map.2 ⟨g,hg,rfl⟩,?_⟩;simp only[atomT,List.mem_cons,List.not_mem_nil,or_false] at hx ⊢;unfold Atm.sub swp;rcases hx with e|e
  ·exact .inl (by simp[e])
  ·exact .inr (by simp[e])
theorem tset_mem {l:List Int} {t:Int} (ht:isTermB t=true):(tset l).testBit t.toNat=true↔t∈l:=by
 obtain ⟨n,rfl⟩:=Int.eq_ofNat_of_zero_le (isTermB_iff.1 ht).1;rw[Int.toNat_natCast,tset_bit,decide_eq_true_iff];exact ⟨fun h=>h.2,fun h=>⟨ht,h⟩⟩
theorem forget_model {a b:Asn} {X p v:Int} {K:Nat} (hX:1≤X∧X≤4) (h:forgetF a X K=some (b,p)) {s:Ste} (hs:holdsF s a=true) (hv:valB v=true) :
  b.valid=true∧(X∈termsL a→p∈termsL b∧p∉termsL a∧K.testBit p.toNat=false)∧∃ s1,holdsF s1 b=true∧s1.heap=s.heap∧tval s1.values X=v∧(∀ t∈termsL a,tval s1.values (swp X p t)=tval s.values t)∧
   ∀ u,0≤u→u≤8→u≠X→(u<5∨u∈termsL a∨K.testBit u.toNat=true∨u∉termsL b)→tval s1.values u=tval s.values u:=by
 obtain ⟨hsv,hav,hfa,hat,hnd,hal⟩:=holds_parts.1 hs;have hlen:=(Ste.valid_len hsv).1;have hT:∀ t∈termsL a,0≤t∧t≤8:=fun t ht=>isTermB_iff.1 (termsL_ok hav t ht);have hXt:isTermB X=true:=isTermB_iff.2 (by omega);unfold forgetF at h
 split at h
 ·rename_i hm;rw[tset_mem hXt] at hm
  cases hn:newT (tset (termsL a)|||K) with
  | none=>rw[hn] at h;cases h
  | some n=>
  rw[hn] at h;obtain ⟨rfl,rfl⟩:=Prod.mk.inj (Option.some.inj h);obtain ⟨n5,n8,nb⟩:=newT_spec hn;rw[Nat.testBit_or,Bool.or_eq_false_iff] at nb;have hnt:isTermB (n:Int)=true:=isTermB_iff.2 (by omega)
  have hna:(n:Int)∉termsL a:=fun hc=>by
   have:=(tset_mem hnt).2 hc;rw[Int.toNat_natCast,nb.1] at this;cases this
  have hbv:=sub_valid (x:=X) (y:=(n:Int)) hav hnt;have hnb:(n:Int)∈termsL (substA X (n:Int) a):=termsL_sub_mem hm;refine ⟨hbv,fun _=>⟨hnb,hna,by rw[Int.toNat_natCast];exact nb.2⟩,?_⟩;have hv1:(⟨s.values.set ((n:Int) - 1).toNat (tval s.values X),s.heap⟩:Ste).valid=true:=set_valid hsv _ (tval_valB hsv X);have hv2:(⟨(s.values.set ((n:Int) - 1).toNat (tval s.values X)).set (X - 1).toNat v,s.heap⟩:Ste).valid=true:=set_valid hv1 _ hv
  have val:∀ u,0≤u→tval ((s.values.set ((n:Int) - 1).toNat (tval s.values X)).set (X - 1).toNat v) u=if u=X then v else if u=(n:Int) then tval s.values X else tval s.values u:=fun u hu=>by
   rw[tval_set (by simpa using hlen) hX.1 (by omega) _ hu]
   split
   ·rfl
   ·rw[tval_set hlen (by omega) (by omega) _ hu]
  have hsw:∀ t∈termsL a,tval ((s.values.set ((n:Int) - 1).toNat (tval s.values X)).set (X - 1).toNat v) (swp X (n:Int) t)=tval s.values t:=fun t ht=>by
   unfold swp
   split
   ·rename_i e;rw[val _ (by omega),if_neg (by omega),if_pos rfl,e]
   ·rename_i e;have hne:t≠(n:Int):=fun e2=>hna (e2▸ht);rw[val _ (hT t ht).1,if_neg e,if_neg hne]
  generalize (s.values.set ((n:Int) - 1).toNat (tval s.values X)).set (X - 1).toNat v=V at *;refine ⟨⟨V,s.heap⟩,holds_map (s:=s) (s1:=⟨V,s.heap⟩) (Atm.sub X (n:Int)) rfl (fun x hx=>?_) rfl hv2 hbv (fun g hg=>?_) hs,rfl,?_,hsw,fun u u0 u8 hne hu=>?_⟩
  ·exact atom_val (s:=s) (s1:=⟨V,s.heap⟩) (y:=Atm.sub X (n:Int) x) rfl rfl (hsw _ (termsL_atm hx).1) (hsw _ (termsL_atm hx).2)
  ·obtain ⟨f,hf,rfl⟩:=List.mem_map.1 hg;show decide (tval V (swp X (n:Int) f.a)=tval V (swp X (n:Int) f.b))=f.eq;rw[hsw _ (termsL_fct hf).1,hsw _ (termsL_fct hf).2];exact hfa f hf
  ·show tval V X=v;rw[val _ (by omega),if_pos rfl]
  ·show tval V u=_
   have hun:u≠(n:Int):=fun e=>by
    rcases hu with hu|hu|hu|hu
    ·omega
    ·exact hna (e▸hu)
    ·rw[e,Int.toNat_natCast,nb.2] at hu;cases hu
    ·exact hu (e▸hnb)
   rw[val _ u0,if_neg hne,if_neg hun]
 ·rename_i hm;rw[tset_mem hXt] at hm;obtain ⟨rfl,rfl⟩:=Prod.mk.inj (Option.some.inj h);refine ⟨hav,fun hc=>absurd hc hm,?_⟩;have val:∀ u,0≤u→tval (s.values.set (X - 1).toNat v) u=if u=X then v else tval s.values u:=fun u hu=>tval_set hlen hX.1 (by omega) _ hu
  have hsw:∀ t∈termsL a,tval (s.values.set (X - 1).toNat v) t=tval s.values t:=fun t ht=>by
   rw[val _ (hT t ht).1,if_neg (fun e=>hm (by rw[←e];exact ht))]
  have hV:=set_valid hsv (X - 1).toNat hv;generalize s.values.set (X - 1).toNat v=V at *
  have sw0:∀ t,swp X X t=t:=fun t=>by
   unfold swp
   split
   ·rename_i e;exact e.symm
   ·rfl
  refine ⟨⟨V,s.heap⟩,holds_map (s:=s) (s1:=⟨V,s.heap⟩) id (by simp) (fun x hx=>?_) rfl hV hav (fun g hg=>?_) hs,rfl,?_,fun t ht=>by rw[sw0];exact hsw t ht,fun u u0 u8 hne hu=>?_⟩
  ·exact atom_val (s:=s) (s1:=⟨V,s.heap⟩) (y:=x) rfl rfl (hsw _ (termsL_atm hx).1) (hsw _ (termsL_atm hx).2)
  ·show decide (tval V g.a=tval V g.b)=g.eq;rw[hsw _ (termsL_fct hg).1,hsw _ (termsL_fct hg).2];exact hfa g hg
  ·show tval V X=v;rw[val _ (by omega),if_pos rfl]
  ·show tval V u=_;rw[val _ u0,if_neg hne]
theorem termsL_setX {a:Asn} {x p t u:Int} (h:u∈termsL a):u∈termsL (setX a x p t):=by
 unfold setX;simp only[termsL,List.mem_append,List.flatMap_append] at h ⊢;rcases h with h|h
 ·exact .inl (.inl h)
 ·exact .inr h
theorem assign_model {a e:Asn} {X t:Int} {K:Nat} (hX:1≤X∧X≤4) (ht:0≤t∧t≤8) (h:assignF a X t K=some e) {s:Ste} (hs:holdsF s a=true) (hK:t∈termsL a∨(t≠X∧K.testBit t.toNat=true)) :
  ∃ s1,holdsF s1 e=true∧s1.heap=s.heap∧tval s1.values X=tval s.values t∧∀ u,0≤u→u≤8→u≠X→(u<5∨u∈termsL a∨K.testBit u.toNat=true∨u∉termsL e)→tval s1.values u=tval s.values u:=by
 obtain ⟨hsv,hav,-⟩:=holds_parts.1 hs;unfold assignF at h;obtain ⟨⟨b,p⟩,h1,h2⟩:=Option.bind_eq_some_iff.1 h;obtain ⟨hev,rfl⟩:=okX_ok h2;simp only at hev ⊢;obtain ⟨hbv,-,s1,g1,g2,g3,g4,g5⟩:=forget_model hX h1 hs (tval_valB hsv t);obtain ⟨k1,k2,k3,k4,k5,k6⟩:=holds_parts.1 g1;refine ⟨s1,holds_parts.2 ⟨k1,hev,fun g hg=>?_,k4,k5,k6⟩,g2,g3,fun u u0 u8 hne hu=>g5 u u0 u8 hne ?_⟩
 ·unfold setX at hg;rcases List.mem_append.1 hg with hg|hg
  ·exact k3 g hg
  ·rw[List.mem_singleton.1 hg,decide_eq_true_iff,g3];rcases hK with hK|⟨hK,hb⟩
   ·exact (g4 t hK).symm
   ·show _=tval s1.values (swp X p t);unfold swp;rw[if_neg hK,g5 t ht.1 ht.2 hK (.inr (.inr (.inl hb)))]
 ·rcases hu with hu|hu|hu|hu
  ·exact .inl hu
  ·exact .inr (.inl hu)
  ·exact .inr (.inr (.inl hu))
  ·exact .inr (.inr (.inr fun hc=>hu (termsL_setX hc)))
theorem cont_set {h:List Int} (hl:h.length=8) {a:Int} (ha:1≤a∧a≤8) (v x:Int):cont (h.set (a - 1).toNat v) x=if x=a then v else cont h x:=by
 unfold cont
 split
 ·rename_i hx;have hx:1≤x∧x≤8:=by simpa [addrB] using hx
  split
  ·rename_i e;subst e;rw[List.getElem?_set_self (by omega)];rfl
  ·rename_i e;rw[List.getElem?_set_ne (by omega)]
 ·rename_i hx
  split
  ·rename_i e;exact absurd (by simp[addrB];omega) hx
  ·rfl
theorem add_model {s:Ste} {b:Asn} {X y n v:Int} (hs:holdsF s b=true) (hn:1≤n∧n≤8) (hfree:allocB s.heap n=false) (hX:tval s.values X=n) (hy:tval s.values y=v) (hbv:(⟨b.facts,⟨1,X,y⟩ :: b.atoms⟩:Asn).valid=true):holdsF ⟨s.values,s.heap.set (n - 1).toNat v⟩ ⟨b.facts,⟨1,X,y⟩ :: b.atoms⟩=true:=by
 obtain ⟨k1,k2,k3,k4,k5,k6⟩:=holds_parts.1 hs;have hl:=(Ste.valid_len k1).2;have hvb:valB v=true:=hy▸tval_valB k1 y;have hv0:0≤v∧v≤8:=by simpa [valB] using hvb
 have hc:∀ x,cont (s.heap.set (n - 1).toNat v) x=if x=n then v else cont s.heap x:=fun x=>cont_set hl hn v x
 have hsub:Sub s.heap (s.heap.set (n - 1).toNat v):=fun x hx=>by
  have hne:x≠n:=fun e=>by rw[e,hfree] at hx;cases hx
  rw[hc,if_neg hne];exact ⟨by rw[allocB_iff] at hx ⊢;rw[hc,if_neg hne];exact hx,rfl⟩
 have hat:∀ x∈b.atoms,atomCells ⟨s.values,s.heap.set (n - 1).toNat v⟩ x=some (cellsOf s x):=fun x hx=>atom_up (s':=s) (s:=⟨s.values,s.heap.set (n - 1).toNat v⟩) k1 rfl hsub (k4 x hx)
 have he:∀ x∈b.atoms,cellsOf ⟨s.values,s.heap.set (n - 1).toNat v⟩ x=cellsOf s x:=fun x hx=>by
  show (atomCells _ x).getD []=_;rw[hat x hx];rfl
 have hfl:b.atoms.flatMap (cellsOf ⟨s.values,s.heap.set (n - 1).toNat v⟩)=b.atoms.flatMap (cellsOf s):=flatMap_same he
 have h0:atomCells ⟨s.values,s.heap.set (n - 1).toNat v⟩ ⟨1,X,y⟩=some [n]:=by
  unfold atomCells;rw[if_neg (show ¬(1:Int)=2 by decide)];simp only;rw[hX,hy,hc,if_pos rfl,if_pos rfl]
 have h0':cellsOf ⟨s.values,s.heap.set (n - 1).toNat v⟩ ⟨1,X,y⟩=[n]:=by unfold cellsOf;rw[h0];rfl
 refine holds_parts.2 ⟨Ste.set_heap k1 _ (by simp[cellB,hvb]),hbv,k3,fun x hx=>?_,?_,fun c hcc=>?_⟩
 ·rcases List.mem_cons.1 hx with rfl|hx
  ·rw[h0,h0']
  ·rw[hat x hx,he x hx]
 ·rw[List.flatMap_cons,h0',hfl,List.singleton_append,List.nodup_cons];refine ⟨fun hm=>?_,k5⟩;obtain ⟨x,hx,hm⟩:=List.mem_flatMap.1 hm;have:=((atomCells_addr k1 (k4 x hx)).2 n hm).2;rw[hfree] at this;cases this
 ·rw[List.flatMap_cons,h0',hfl,List.singleton_append,List.mem_cons];by_cases e:c=n
  ·exact .inl e
  ·refine .inr (k6 c ?_);rw[allocB_iff] at hcc ⊢;simp only[hc,if_neg e] at hcc;exact hcc
theorem free_model {s:Ste} {a:Asn} {X y:Int} {rest:List Atm} (hs:holdsF s a=true) (ha:a.atoms=⟨1,X,y⟩ :: rest) :
  (1≤tval s.values X∧tval s.values X≤8)∧cont s.heap (tval s.values X)=tval s.values y∧holdsF ⟨s.values,s.heap.set (tval s.values X - 1).toNat (-1)⟩ ⟨a.facts,rest⟩=true:=by
 obtain ⟨k1,k2,k3,k4,k5,k6⟩:=holds_parts.1 hs;have hl:=(Ste.valid_len k1).2;have h0:=k4 ⟨1,X,y⟩ (by rw[ha];exact List.mem_cons_self);have h00:=h0;unfold atomCells at h0;rw[if_neg (show ¬(1:Int)=2 by decide)] at h0
 split at h0
 case isFalse=>cases h0
 rename_i hc0;simp only at hc0 h0;have hcell:cellsOf s ⟨1,X,y⟩=[tval s.values X]:=(Option.some.inj h0).symm
 have hal:allocB s.heap (tval s.values X)=true:=by
  rw[allocB_iff,hc0];exact tval_val k1 y
 have hn:=allocB_addr hal;refine ⟨hn,hc0,?_⟩;generalize tval s.values X=n at *;have hc:∀ x,cont (s.heap.set (n - 1).toNat (-1)) x=if x=n then -1 else cont s.heap x:=fun x=>cont_set hl hn (-1) x;rw[ha,List.flatMap_cons,hcell,List.singleton_append] at k5 k6;have hnd:=List.nodup_cons.1 k5
 have hsub:Sub (s.heap.set (n - 1).toNat (-1)) s.heap:=fun x hx=>by
  rw[allocB_iff,hc] at hx
  split at hx
  ·omega
  ·rename_i e;rw[hc,if_neg e];exact ⟨allocB_iff.2 hx,rfl⟩
 have hat:∀ x∈rest,atomCells ⟨s.values,s.heap.set (n - 1).toNat (-1)⟩ x=some (cellsOf s x):=fun x hx=>by
  have h1:=k4 x (by rw[ha];exact List.mem_cons_of_mem _ hx);refine atom_down (s:=s) (s':=⟨s.values,s.heap.set (n - 1).toNat (-1)⟩) rfl hsub h1 fun c hcc=>?_;have h2:=((atomCells_addr k1 h1).2 c hcc).2;have hne:c≠n:=fun e=>hnd.1 (by rw[←e];exact List.mem_flatMap.2 ⟨x,hx,hcc⟩);rw[allocB_iff] at h2 ⊢;simp only;rw[hc,if_neg hne];exact h2
 have he:∀ x∈rest,cellsOf ⟨s.values,s.heap.set (n - 1).toNat (-1)⟩ x=cellsOf s x:=fun x hx=>by
  show (atomCells _ x).getD []=_;rw[hat x hx];rfl
 have hfl:rest.flatMap (cellsOf ⟨s.values,s.heap.set (n - 1).toNat (-1)⟩)=rest.flatMap (cellsOf s):=flatMap_same he
 have hbv:(⟨a.facts,rest⟩:Asn).valid=true:=by
  simp only[Asn.valid,ha,Bool.and_eq_true,decide_eq_true_eq,List.all_cons,List.length_cons] at k2 ⊢;exact ⟨k2.1,by omega,k2.2.2.2⟩
 refine holds_parts.2 ⟨Ste.set_heap k1 _ (by decide),hbv,k3,fun x hx=>by rw[hat x hx,he x hx],by rw[hfl];exact hnd.2,fun c hcc=>?_⟩;rw[hfl];rw[allocB_iff] at hcc;simp only[hc] at hcc
 split at hcc
 ·omega
 ·rename_i e;rcases List.mem_cons.1 (k6 c (allocB_iff.2 hcc)) with h|h
  ·exact absurd h e
  ·exact h
theorem reset_model {s x:Ste} {e:Asn} (h:holdsF s e=true) (hx:x.valid=true) (hh:s.heap=x.heap):∃ s2,holdsF s2 e=true∧s2.heap=x.heap∧∀ u,1≤u→u≤8→tval s2.values u=if u∈termsL e then tval s.values u else tval x.values u:=by
 obtain ⟨k1,k2,k3,-⟩:=holds_parts.1 h
 have val:∀ u:Int,1≤u→u≤8→tval ((List.range 8).map fun k:Nat=>if ((k:Int)+1)∈termsL e then tval s.values ((k:Int)+1) else tval x.values ((k:Int)+1)) u=if u∈termsL e then tval s.values u else tval x.values u:=fun u u1 u8=>by
  unfold tval;rw[if_neg (by omega),List.getElem?_map,List.getElem?_range (by omega)];simp only[Option.map_some,Option.getD_some];rw[show (((u - 1).toNat:Nat):Int)+1=u by omega]
 have val0:∀ u∈termsL e,tval ((List.range 8).map fun k:Nat=>if ((k:Int)+1)∈termsL e then tval s.values ((k:Int)+1) else tval x.values ((k:Int)+1)) u=tval s.values u:=fun u hu=>by
  have h8:=isTermB_iff.1 (termsL_ok k2 u hu);by_cases e0:u=0
  ·subst e0;rfl
  ·rw[val u (by omega) h8.2,if_pos hu]
 have hV:(⟨(List.range 8).map fun k:Nat=>if ((k:Int)+1)∈termsL e then tval s.values ((k:Int)+1) else tval x.values ((k:Int)+1),s.heap⟩:Ste).valid=true:=by
  rw[Ste.valid_iff] at k1 ⊢;refine ⟨by simp,k1.2.1,fun v hv=>?_,k1.2.2.2⟩;obtain ⟨k,-,rfl⟩:=List.mem_map.1 hv
  split
  ·exact tval_valB (holds_parts.1 h).1 _
  ·exact tval_valB hx _
 generalize ((List.range 8).map fun k:Nat=>if ((k:Int)+1)∈termsL e then tval s.values ((k:Int)+1) else tval x.values ((k:Int)+1))=V at *;refine ⟨⟨V,s.heap⟩,holds_map (s:=s) (s1:=⟨V,s.heap⟩) id (by simp) (fun y hy=>atom_val (s:=s) (s1:=⟨V,s.heap⟩) (y:=y) rfl rfl (val0 _ (termsL_atm hy).1) (val0 _ (termsL_atm hy).2)) rfl hV k2 (fun g hg=>?_) h,hh,val⟩;show decide (tval V g.a=tval V g.b)=g.eq;rw[val0 _ (termsL_fct hg).1,val0 _ (termsL_fct hg).2];exact k3 g hg
theorem some_end {x s1:Ste} {e:Asn} {l:List Asn} {used:List Int} (he:e∈l) (h1:holdsF s1 e=true) (hx:x.valid=true) (hh:s1.heap=x.heap) (hu:∀ u,1≤u→u≤8→(u<5∨u∈used)→u∈termsL e→tval s1.values u=tval x.values u):someF x l used=true:=by
 obtain ⟨s2,g1,g2,g3⟩:=reset_model h1 hx hh;obtain ⟨-,hev,-⟩:=holds_parts.1 h1;unfold someF;rw[List.any_eq_true];refine ⟨e,he,try_true g1 4 x 5 hx (by omega) (by omega) g2 fun u u1 u8 h=>?_⟩;rw[g3 u u1 u8]
 split
 ·rename_i hm;rcases h with h|h|h
  ·exact hu u u1 u8 (.inl h) hm
  ·exact hu u u1 u8 (.inr h) hm
  ·exact absurd ((atermsL_mem hev).2 ⟨u.toNat,by omega,(tset_mem (isTermB_iff.2 (by omega))).2 hm,by omega⟩) h
 ·rfl
theorem used_mem {a:Asn} (ha:a.valid=true) {ks:List Int} {A B u:Int} (h8:0≤u∧u≤8) (h:u∈atermsL a++(ks++[A,B])):u∈termsL a∨(keepK (tset ks) A B).testBit u.toNat=true:=by
 have hu:isTermB u=true:=isTermB_iff.2 h8;rcases List.mem_append.1 h with h|h
 ·obtain ⟨n,-,hb,rfl⟩:=(atermsL_mem ha).1 h;have hb':(tset (termsL a)).testBit ((n:Int)).toNat=true:=by rwa [Int.toNat_natCast]
  exact .inl ((tset_mem hu).1 hb')
 ·rw[keepK_eq];exact .inr ((tset_mem hu).2 h)
theorem termsL_cell {a:Asn} {x:Atm} {i:Nat} {t:Int} (hx:a.atoms[i]? = some x) {u:Int} (h:u∈termsL a):u∈termsL (cellX a x i t):=by
 have hp:=without_perm hx;simp only[termsL,List.mem_append,List.mem_flatMap] at h ⊢;rcases h with ⟨f,hf,hu⟩|⟨y,hy,hu⟩
 ·exact .inl ⟨f,by simp[cellX,hf],hu⟩
 ·rcases List.mem_cons.1 (hp.mem_iff.1 hy) with rfl|hy
  ·simp only[atomT,List.mem_cons,List.not_mem_nil,or_false] at hu;rcases hu with rfl|rfl
   ·by_cases e:y.a=t
    ·exact .inr ⟨⟨1,t,y.b⟩,by simp[cellX],by simp[atomT,e]⟩
    ·exact .inl ⟨⟨true,y.a,t⟩,by simp[cellX,e],by simp[factT]⟩
   ·exact .inr ⟨⟨1,t,y.b⟩,by simp[cellX],by simp[atomT]⟩
  ·exact .inr ⟨y,by simp[cellX,hy],hu⟩
theorem termsL_full {a:Asn} {x:Atm} {i:Nat} {m:Int} (hx:a.atoms[i]? = some x) {u:Int} (h:u∈termsL a):u∈termsL (fullX a x i m):=by
 have hp:=without_perm hx;simp only[termsL,List.mem_append,List.mem_flatMap] at h ⊢;rcases h with ⟨f,hf,hu⟩|⟨y,hy,hu⟩
 ·exact .inl ⟨f,by simp[fullX,hf],hu⟩
 ·rcases List.mem_cons.1 (hp.mem_iff.1 hy) with rfl|hy
  ·refine .inl ⟨⟨false,y.a,y.b⟩,by simp[fullX],?_⟩;simpa [atomT,factT] using hu
  ·exact .inr ⟨y,by simp[fullX,hy],hu⟩
theorem expose_terms:∀ (n:Nat) (a:Asn) (t:Int) (K:Nat) (l:List Asn),exposeF n a t K=some l→∀ e∈l,∀ u∈termsL a,u∈termsL e
 | 0,_,_,_,_,h=>by cases h
 | n+1,a,t,K,l,h=>by
  intro e he u hu;have hv:=expose_valid h
  cases hc:consB a with
  | false=>
   unfold exposeF at h;rw[if_neg (by rw[hv];decide),if_pos hc] at h;obtain rfl:=Option.some.inj h;cases he
  | true=>
  cases hf:findK a 1 t with
  | some i=>
   obtain ⟨x,hx,-⟩:=find_some hf;rw[expose_cell hv hc hf hx] at h
   split at h
   ·obtain rfl:=Option.some.inj h;rw[List.mem_singleton.1 he];exact termsL_cell hx hu
   ·cases h
  | none=>
   cases hg:findK a 2 t with
   | none=>rw[expose_none hv hc hf hg] at h;cases h
   | some i=>
    obtain ⟨x,hx,-⟩:=find_some hg;rw[expose_list hv hc hf hg hx] at h;unfold listF at h
    split at h
    ·cases h
    ·split at h
     ·cases h
     ·rename_i l1 h1
      split at h
      ·cases h
      ·rename_i l2 h2;obtain rfl:=Option.some.inj h;rcases List.mem_append.1 he with he|he
       ·exact expose_terms n _ _ _ _ h1 e he u (termsL_empty hx hu)
       ·exact expose_terms n _ _ _ _ h2 e he u (termsL_full hx hu)
theorem sym_sound {a:Asn} {k A B:Int} {ks:List Int} {l:List Asn} (hsym:symR a true k A B ks=some l) (hk:1≤k∧k≤5) (hA:k=1∨k=2∨k=4→1≤A∧A≤4) (hAt:isTermB A=true) (hBt:isTermB B=true) {s:Ste} (hs:holdsF s a=true) :
  (basicF s k A B).2=2∨((basicF s k A B).2=0∧someF (basicF s k A B).1 l (atermsL a++(ks++[A,B]))=true):=by
 obtain ⟨hav,-,h⟩:=symR_some hsym;clear hsym;obtain ⟨hsv,-⟩:=holds_parts.1 hs;have hlen:=(Ste.valid_len hsv).1;have hA8:=isTermB_iff.1 hAt;have hB8:=isTermB_iff.1 hBt;have hKA:(keepK (tset ks) A B).testBit A.toNat=true:=by rw[keepK_eq];exact (tset_mem hAt).2 (by simp)
 have hKB:(keepK (tset ks) A B).testBit B.toNat=true:=by rw[keepK_eq];exact (tset_mem hBt).2 (by simp)
 have hused:∀ u,1≤u→u≤8→u∈atermsL a++(ks++[A,B])→u∈termsL a∨(keepK (tset ks) A B).testBit u.toNat=true:=fun u u1 u8 hu=>used_mem hav ⟨by omega,u8⟩ hu;generalize keepK (tset ks) A B=K at *;generalize atermsL a++(ks++[A,B])=used at *;have hxv:=(basicF_ok hsv k A B).1;unfold symB at h
 split at h
 ·
  rename_i e1;subst e1;have hA4:=hA (.inl rfl);refine .inr ⟨rfl,?_⟩;have ex:(basicF s 1 A B).1=⟨s.values.set (A - 1).toNat (tval s.values B),s.heap⟩:=rfl;rw[ex] at hxv ⊢
  split at h
  ·rename_i eAB;subst eAB;obtain rfl:=Option.some.inj h;refine some_end (List.mem_singleton.2 rfl) hs hxv rfl fun u u1 u8 _ _=>?_;rw[tval_set hlen hA4.1 (by omega) _ (by omega)]
   split
   ·rename_i e;rw[e]
   ·rfl
  ·rename_i hne;obtain ⟨e,he,rfl⟩:=Option.map_eq_some_iff.1 h;obtain ⟨s1,g1,g2,g3,g4⟩:=assign_model hA4 hB8 he hs (.inr ⟨fun e=>hne e.symm,hKB⟩);refine some_end (List.mem_singleton.2 rfl) g1 hxv g2 fun u u1 u8 hu _=>?_;rw[tval_set hlen hA4.1 (by omega) _ (by omega)]
   split
   ·rename_i e;rw[e];exact g3
   ·rename_i e;refine g4 u (by omega) u8 e ?_;rcases hu with hu|hu
    ·exact .inl hu
    ·rcases hused u u1 u8 hu with h|h
     ·exact .inr (.inl h)
     ·exact .inr (.inr (.inl h))
 split at h
 ·
  rename_i _ e4;subst e4;have hA4:=hA (.inr (.inr rfl));obtain ⟨e,he,rfl⟩:=Option.map_eq_some_iff.1 h
  cases hf:freeK s.heap with
  | none=>exact .inl (by simp[basicF,hf])
  | some n=>
   have ex:basicF s 4 A B=(⟨s.values.set (A - 1).toNat ((n:Int)+1),s.heap.set n 0⟩,0):=by simp[basicF,hf]
   rw[ex] at hxv ⊢;refine .inr ⟨rfl,?_⟩;have hn8:=freeK_lt hf
   have hfree:allocB s.heap ((n:Int)+1)=false:=by
    have:=List.find?_some hf;simpa using this
   unfold cellNF at he;obtain ⟨⟨b,p⟩,h1,h2⟩:=Option.bind_eq_some_iff.1 he;obtain ⟨hev,rfl⟩:=okX_ok h2;obtain ⟨-,-,s1,g1,g2,g3,-,g5⟩:=forget_model (v:=(n:Int)+1) hA4 h1 hs (by simp[valB];omega);have g6:=add_model (X:=A) (y:=0) (v:=0) g1 (n:=(n:Int)+1) (by omega) (by rw[g2];exact hfree) g3 rfl hev;rw[show ((n:Int)+1 - 1).toNat=n by omega,g2] at g6;refine some_end (List.mem_singleton.2 rfl) g6 hxv rfl fun u u1 u8 hu hm=>?_;show tval s1.values u=tval (s.values.set (A - 1).toNat ((n:Int)+1)) u;rw[tval_set hlen hA4.1 (by omega) _ (by omega)]
   split
   ·rename_i e;rw[e];exact g3
   ·rename_i e;refine g5 u (by omega) u8 e ?_;rcases hu with hu|hu
    ·exact .inl hu
    ·rcases hused u u1 u8 hu with h|h
     ·exact .inr (.inl h)
     ·exact .inr (.inr (.inl h))
 ·
  rename_i h1 h4;obtain ⟨l0,h0,h⟩:=Option.bind_eq_some_iff.1 h;obtain ⟨q1,q2⟩:=mapF_spec h;have hst:isTermB (symT k A B)=true:=by unfold symT;split<;>assumption
  have hKt:K.testBit (symT k A B).toNat=true:=by unfold symT;split<;>assumption
  obtain ⟨e0,m0,s',p1,p2,p3⟩:=expose_model 7 a _ K l0 hst h0 s hs;obtain ⟨hev0,-,y,rest,ea⟩:=expose_ent 7 a _ K l0 h0 e0 m0;have hterms:=expose_terms 7 a _ K l0 h0 e0 m0;obtain ⟨j,hj,ej⟩:=List.mem_iff_getElem.1 m0;have hacc:=q2 j hj (by omega);rw[ej] at hacc;have hml:l[j]'(by omega)∈l:=List.getElem_mem _;generalize l[j]'(by omega)=e at hacc hml;obtain ⟨f1,f2,f3⟩:=free_model p1 ea;obtain ⟨hsv',-⟩:=holds_parts.1 p1;have hvt:tval s'.values (symT k A B)=tval s.values (symT k A B):=p3 _ (isTermB_iff.1 hst).1 (isTermB_iff.1 hst).2 (.inr (.inr (.inl rfl)));have hvA:tval s'.values A=tval s.values A:=p3 _ hA8.1 hA8.2 (.inr (.inr (.inr (.inl hKA))));have hvB:tval s'.values B=tval s.values B:=p3 _ hB8.1 hB8.2 (.inr (.inr (.inr (.inl hKB))))
  have hal:allocB s.heap (tval s.values (symT k A B))=true:=by
   rw[←hvt,←p2,allocB_iff,f2];exact tval_val hsv' y
  have hsame:∀ u,1≤u→u≤8→(u<5∨u∈used)→tval s'.values u=tval s.values u:=fun u u1 u8 hu=>by
   refine p3 u (by omega) u8 ?_;rcases hu with hu|hu
   ·exact .inl hu
   ·rcases hused u u1 u8 hu with h|h
    ·exact .inr (.inl h)
    ·exact .inr (.inr (.inr (.inl h)))
  have hh0:head0 e0=⟨1,symT k A B,y⟩:=by unfold head0;rw[ea];rfl
  unfold accF at hacc
  split at hacc
  ·
   rename_i e2;subst e2;have hA4:=hA (.inr (.inl rfl));rw[show symT 2 A B=B from rfl] at *;rw[hh0] at hacc
   have ex:basicF s 2 A B=(⟨s.values.set (A - 1).toNat (cont s.heap (tval s.values B)),s.heap⟩,0):=by
    unfold basicF;rw[if_neg (by decide),if_pos rfl,if_pos hal]
   rw[ex] at hxv ⊢;refine .inr ⟨rfl,?_⟩;have hyt:y∈termsL e0:=(termsL_atm (x:=⟨1,B,y⟩) (by rw[ea];exact List.mem_cons_self)).2;obtain ⟨s1,g1,g2,g3,g4⟩:=assign_model hA4 (isTermB_iff.1 (termsL_ok hev0 y hyt)) hacc p1 (.inl hyt);refine some_end hml g1 hxv (g2.trans p2) fun u u1 u8 hu hm=>?_;show tval s1.values u=tval (s.values.set (A - 1).toNat _) u;rw[tval_set hlen hA4.1 (by omega) _ (by omega)]
   split
   ·rename_i e;rw[e,g3,←hvt,←p2,f2]
   ·rename_i e;rw[g4 u (by omega) u8 e ?_]
    ·exact hsame u u1 u8 hu
    ·rcases hu with hu|hu
     ·exact .inl hu
     ·rcases hused u u1 u8 hu with h|h
      ·exact .inr (.inl (hterms u h))
      ·exact .inr (.inr (.inl h))
  rename_i h2;have eT:symT k A B=A:=if_neg h2;generalize symT k A B=T at *;replace eT:=eT.symm;subst eT
  split at hacc
  ·
   rename_i e3;subst e3
   have ex:basicF s 3 A B=(⟨s.values,s.heap.set (tval s.values A - 1).toNat (tval s.values B)⟩,0):=by
    unfold basicF;rw[if_neg (by decide),if_neg (by decide),if_pos rfl,if_pos hal]
   rw[ex] at hxv ⊢;refine .inr ⟨rfl,?_⟩;obtain rfl:=Option.some.inj hacc;have eS:storeX e0 B=⟨e0.facts,⟨1,A,B⟩ :: rest⟩:=by unfold storeX;rw[hh0,ea];rfl
   have hSv:=storeX_ok hev0 hBt;rw[eS] at hml hSv
   have g:=add_model (X:=A) (y:=B) (v:=tval s'.values B) f3 f1 (by
    rw[Bool.eq_false_iff];intro hc;rw[allocB_iff] at hc;simp only at hc;rw[cont_set (Ste.valid_len hsv').2 f1,if_pos rfl] at hc
    omega) rfl rfl hSv
   simp only[List.set_set] at g;rw[hvA,hvB,p2] at g;exact some_end hml g hxv rfl fun u u1 u8 hu _=>hsame u u1 u8 hu
  ·
   rename_i h3;obtain rfl:k=5:=by omega
   have ex:basicF s 5 A B=(⟨s.values,s.heap.set (tval s.values A - 1).toNat (-1)⟩,0):=by
    unfold basicF;rw[if_neg (by decide),if_neg (by decide),if_neg (by decide),if_neg (by decide),if_pos hal]
   rw[ex] at hxv ⊢;refine .inr ⟨rfl,?_⟩;obtain rfl:=Option.some.inj hacc;have eF:freeX e0=⟨e0.facts,rest⟩:=by unfold freeX withoutL;rw[ea];rfl
   rw[eF] at hml;rw[hvA,p2] at f3;exact some_end hml f3 hxv rfl fun u u1 u8 hu _=>hsame u u1 u8 hu
end
section
open Go Go.RowKit Go.Proofs
attribute [local go_sem ↓] Go.wp_at_zero Go.wp_at_succ
theorem c_impl_SetTerm {lo hi:Nat} (v:Value) (s:Ste) (n:Nat) (u:Int) (w:World) (h:StateV w lo hi v s) (hs:s.valid=true) (hn:n<8) (hu:valB u=true) :
  Calls Tryz.prog 181 #[v,.int .i64 ((n:Int)+1),.int .i64 u] w fun e w'=>∃ r,e=.returned (.tuple #[r,.bool true])∧StateO w' w.heap.size r (setS s ((n:Int)+1) u)∧Below w.heap.size w w':=by
 have hV:=ax h;obtain ⟨A1,c1,A2,c2,rfl,-,-⟩:=h;have H8:=ax (Ste.valid_len hs);have HS:=ax hs;have HU:=ax hu;have HT:aJ (isTermB ((n:Int)+1)=true):=ax (isTermB_iff.2 (by omega));have ES:aJ (setS s ((n:Int)+1) u=⟨s.values.set n u,s.heap⟩):=ax (by unfold setS;rw[show ((n:Int)+1 - 1).toNat=n by omega]);clear hs hu;have hn0:((n:Int)+1 == 0)=false:=beq_false_of_ne (by omega);(go_enter Tryz.func181,Tryz.ntmps181);obtain ⟨k0,k1⟩:=blk2 w tSt tSt #[.slice A1 s.values.length c1,.slice A2 s.heap.length c2] #[.slice none 0 0,.slice none 0 0];(go_wp2_with fail);refine (c_impl_StateValid _ s _ (hV.o.bz bel)).mono ?_;rintro e w1 ⟨rfl,hB1⟩;rw[HS.o];have hB:=bgo (w:=w) bel hB1;(replace k0:=k0.nz hB1;replace qk0:=k0.z;replace k1:=k1.nz hB1;replace qk1:=k1.cell;replace rk1:=k1.frozen;replace lk1:=k1.lt);clear hB1;(go_wp2_with fail);refine (c_impl_isTerm ((n:Int)+1) _).mono ?_;rintro e w2 ⟨rfl,rfl⟩;rw[HT.o];(go_wp2_with fail);refine (c_impl_isValue u _).mono ?_;rintro e w3 ⟨rfl,rfl⟩;rw[HU.o];(go_wp2_with fail);refine (c_impl_copyState _ s _ (hV.o.bz hB)).mono ?_;rintro e w4 ⟨r,rfl,o,hB4⟩;have hz:=hB.size;(replace hB:=bgo hB hB4;replace k0:=k0.nz hB4;replace qk0:=k0.z;replace k1:=k1.nz hB4;replace qk1:=k1.cell;replace rk1:=k1.frozen;replace lk1:=k1.lt);clear hB4;obtain ⟨fv,av,rfl,o1,o2,dj⟩:=o;obtain ⟨F,e1,rfl,-⟩:=o1.reads;obtain ⟨G,e2,rfl,-⟩:=o2.reads;have hnl:(n:Int)<(s.values.length:Int):=by have:=H8.o.1;omega
 have hn8:(n:Int)<8:=by omega
 have hw1:IntKind.i64.wrap ((n:Int)+1 - 1)=(n:Int):=by rw[show (n:Int)+1 - 1=n by omega];exact IntWalk.i64_in _ (by omega)
 obtain ⟨g,cur,-,rfl,hg,kg,hc,hset⟩:=(o1.lower (base':=w.heap.size) hz).cell_ (k:=n) (by omega);have q:=kg.cell n;rw[hc] at q;obtain ⟨y,hy⟩:∃ y,y=s.values[n]'(by omega):=⟨_,rfl⟩;rw[←hy] at q;have f:=kg.frozen n;have hgl:=kg.lt;have HSET:=ax (hset u);have O2:=ax (o2.lower (base':=w.heap.size) hz);have HD:=ax dj;have hne:w.heap.size+1≠g:=k1.ne_ kg (by decide);clear hset o1 o2 dj hc hy;(go_wp2_with fail);have k6:=k1.far (p:=⟨g,n,none⟩) hne (.int .i64 u);refine bodyPost_ret (v:=.tuple #[.agg #[.slice (some ⟨g,0,none⟩) s.values.length e1,.slice G s.heap.length e2],.bool true]) (by simp[results,Tryz.results181,go_sem,qk1,lk1]) rfl ⟨_,rfl,?_,?_⟩
 ·rw[ES.o];refine ⟨_,_,rfl,?_,?_,HD.o⟩
  ·exact ((HSET.o.setT k6 (by decide) 0 _).setT (k6.set_ 0 _) (by decide) 1 _).bz (bbox (Below.refl _ _) _)
  ·exact (((O2.o.set_ne (q:=⟨g,n,none⟩) (HD.o g rfl) (.int .i64 u)).setT k6 (by decide) 0 _).setT (k6.set_ 0 _) (by decide) 1 _).bz (bbox (Below.refl _ _) _)
 ·exact bbox (((hB.setCell (p:=⟨g,n,none⟩) hg _).setCell (p:=⟨w.heap.size+1,0,none⟩) (by simp only;omega) _).setCell (p:=⟨w.heap.size+1,1,none⟩) (by simp only;omega) _) _
theorem c_slUsed {lo hi lo' hi':Nat} (v:Value) (a:Asn) (A:Option Addr) (c:Nat) (ks:List Int) (w:World) (h:AsnV w lo hi v a) (h':IntsV w lo' hi' A ks) (hl:ks.length≤1000) :
  Calls Tryz.prog 48 #[v,.slice A ks.length c] w fun e w'=>∃ r,e=.returned r∧IntsO w' w.heap.size r (atermsL a++ks)∧Below w.heap.size w w':=by
 have hV:=ax h;have HK:=ax h';obtain ⟨A1,c1,A2,c2,rfl,-,-⟩:=h;clear h';(go_enter Tryz.func48,Tryz.ntmps48);(go_wp2_with fail);refine (c_impl_AssertionTerms _ a _ (hV.o.bz bel)).mono ?_;rintro e w1 ⟨r,rfl,oT,hB1⟩;have hB:=bgo (w:=w) bel hB1;have kE:Blk ((w.alloc (.cells #[.slice A1 a.facts.length c1,.slice A2 a.atoms.length c2] tAs)).alloc (.cells #[] tI)) (w.heap.size+1) tI #[]:=blks;replace kE:=kE.nz hB1;have hz:=hB1.size;simp only[World.size_alloc] at hz;obtain ⟨T,ct,rfl,fT⟩:=oT.reads;clear hB1 oT;have hTl9:(atermsL a).length≤1000:=atermsL_len a
 go_wp2_with (at_builtin;first
  | (refine appIL (base:=w.heap.size) (xs:=[]) (ys:=atermsL a) rfl _ _ rfl rfl (⟨own_ofBlk kE (by omega),by simp[Lim]⟩:IntsO _ w.heap.size (.slice (some ⟨w.heap.size+1,0,none⟩) 0 0) []) rfl fT (by simp<;>omega) (by omega) ?_;intro A3 c3 w3 o3 hg3 hB3;have O3:=ax o3;have HB3:=ax (hB.trans hB3);clear hg3 hB3 o3;rw[List.nil_append] at O3)
  | (refine appIL (base:=w.heap.size) (xs:=atermsL a) (ys:=ks) rfl _ _ rfl rfl O3.o rfl (HK.o.bz HB3.o) (by omega) HB3.o.size ?_;intro A4 c4 w4 o4 hg4 hB4;have O4:=ax o4;have HB4:=ax (HB3.o.trans hB4);clear hg4 hB4 o4))
 go_ret;have O5:=O4.o;rw[List.length_append] at O5;exact ⟨_,rfl,O5,HB4.o⟩
theorem tryF_skip {a:Asn} {used:List Int} {n:Nat} {s:Ste} {t:Int} (h:(decide (t∈used) || !decide (t∈atermsL a))=true):tryF a used (n+1) s t=tryF a used n s (t+1):=by
 rw[tryF,if_pos h]
theorem tryF_any {a:Asn} {used:List Int} {n:Nat} {s:Ste} {t:Int} (h:(decide (t∈used) || !decide (t∈atermsL a))=false):tryF a used (n+1) s t=(List.range 9).any fun v=>tryF a used n (setS s t (v:Int)) (t+1):=by
 rw[tryF,if_neg (by rw[h];decide)]
theorem any_yes {f:Nat→Bool} {k:Nat} (hk:k<9) (h:f k=true):(List.range 9).any f=true:=List.any_eq_true.2 ⟨k,List.mem_range.2 hk,h⟩
theorem any_no {f:Nat→Bool} (h:∀ k,k<9→f k=false):(List.range 9).any f=false:=by
 rw[List.any_eq_false];intro k hk;rw[h k (List.mem_range.1 hk)];decide
theorem c_slTry (a:Asn) (used:List Int):∀ (n:Nat),n≤4→∀ (lo hi lo' hi' lo2 hi2:Nat) (v v':Value) (s:Ste) (A:Option Addr) (c:Nat) (w:World),StateV w lo hi v s→s.valid=true→AsnV w lo' hi' v' a→IntsV w lo2 hi2 A used→
  Calls Tryz.prog 110 #[v,v',.slice A used.length c,.int .i64 (9 - (n:Int))] w fun e w'=>e=.returned (.bool (tryF a used n s (9 - (n:Int))))∧Below w.heap.size w w':=by
 intro n
 induction n with
 | zero=>
  intro _ lo hi lo' hi' lo2 hi2 v v' s A c w hS hs hA hU;have HS:=ax hS;have HA:=ax hA;obtain ⟨S1,s1,S2,s2,rfl,-,-⟩:=hS;obtain ⟨A1,c1,A2,c2,rfl,-,-⟩:=hA;have E:aJ (tryF a used 0 s (9 - ((0:Nat):Int))=holdsF s a):=ax rfl;rw[E.o];clear hU E hs;(go_enter Tryz.func110,Tryz.ntmps110);(go_wp2_with fail);refine (c_impl_Holds _ _ s a _ (HS.o.bz bel) (HA.o.bz bel)).mono ?_;rintro e w1 ⟨rfl,hB1⟩;have hB:=bgo (w:=w) bel hB1;(go_wp2_with fail);go_ret;exact ⟨rfl,hB⟩
 | succ n ih=>
  intro hn lo hi lo' hi' lo2 hi2 v v' s A c w hS hs hA hU;have HS:=ax hS;have HA:=ax hA;have HU:=ax hU;have HV:=ax hs;have IH:=ax (ih (by omega));obtain ⟨S1,s1,S2,s2,rfl,-,-⟩:=hS;obtain ⟨A1,c1,A2,c2,rfl,-,-⟩:=hA;obtain ⟨t,ht⟩:∃ t:Nat,(t:Int)+1=9 - ((n+1:Nat):Int):=⟨7 - n,by omega⟩;have htn:t+n=7:=by omega
  have e9:(9:Int) - (n:Int)=(t:Int)+1+1:=by omega
  rw[←ht];rw[e9] at IH;have HK1:aJ ((decide ((t:Int)+1∈used) || !decide ((t:Int)+1∈atermsL a))=true→tryF a used (n+1) s ((t:Int)+1)=tryF a used n s ((t:Int)+1+1)):=ax tryF_skip;have HK2:aJ ((decide ((t:Int)+1∈used) || !decide ((t:Int)+1∈atermsL a))=false→tryF a used (n+1) s ((t:Int)+1)=(List.range 9).any fun v=>tryF a used n (setS s ((t:Int)+1) (v:Int)) ((t:Int)+1+1)):=ax tryF_any;have hw2:IntKind.i64.wrap ((t:Int)+1+1)=(t:Int)+1+1:=IntWalk.i64_in _ (by omega);have htl:¬(8:Int)<(t:Int)+1:=by omega
  have ht8:t<8:=by omega
  clear hU hs ih ht e9 htn hn;(go_enter Tryz.func110,Tryz.ntmps110);have k4:Blk ((w.alloc (.cells #[.slice S1 s.values.length s1,.slice S2 s.heap.length s2] tSt)).alloc (.cells #[.slice A1 a.facts.length c1,.slice A2 a.atoms.length c2] tAs)) w.heap.size tSt #[.slice S1 s.values.length s1,.slice S2 s.heap.length s2]:=blks;have k5:Blk ((w.alloc (.cells #[.slice S1 s.values.length s1,.slice S2 s.heap.length s2] tSt)).alloc (.cells #[.slice A1 a.facts.length c1,.slice A2 a.atoms.length c2] tAs)) (w.heap.size+1) tAs #[.slice A1 a.facts.length c1,.slice A2 a.atoms.length c2]:=blks;(go_wp2_with fail);refine (c_slHas A c used ((t:Int)+1) _ (HU.o.bz bel)).mono ?_;rintro e w1 ⟨rfl,hB1⟩;have hB:=bgo (w:=w) bel hB1;replace k4:=k4.nz hB1;replace k5:=k5.nz hB1;clear hB1
  have skip:∀ (w2:World),Below w.heap.size w w2→aJ (tryF a used (n+1) s ((t:Int)+1)=tryF a used n s ((t:Int)+1+1))→Calls Tryz.prog 110 #[.agg #[.slice S1 s.values.length s1,.slice S2 s.heap.length s2],.agg #[.slice A1 a.facts.length c1,.slice A2 a.atoms.length c2],.slice A used.length c,.int .i64 ((t:Int)+1+1)] w2 fun e w'=>e=.returned (.bool (tryF a used (n+1) s ((t:Int)+1)))∧Below w2.heap.size w2 w':=fun w2 h2 hE=>by
   rw[hE.o];exact IH.o _ _ _ _ _ _ _ _ s A c w2 (HS.o.bz h2) HV.o (HA.o.bz h2) (HU.o.bz h2)
  replace skip:=ax skip;cases hu:decide ((t:Int)+1∈used)
  case true=>
   have E:=ax (HK1.o (by rw[hu];rfl));clear hu HK1 HK2;(replace qk4:=k4.z;replace qk5:=k5.z);(go_wp2_with fail);refine (skip.o _ hB E).mono ?_;rintro e w2 ⟨rfl,hB2⟩;have HB2:=ax (bgo hB hB2);(go_wp2_with fail);go_ret;exact ⟨rfl,HB2.o⟩
  have HN:=ax hu;clear hu;(replace qk4:=k4.z;replace qk5:=k5.z);(go_wp2_with fail);refine (c_impl_AssertionTerms _ a _ (HA.o.bz hB)).mono ?_;rintro e w2 ⟨r,rfl,oT,hB2⟩;(replace hB:=bgo hB hB2;replace k4:=k4.nz hB2;replace qk4:=k4.z;replace k5:=k5.nz hB2;replace qk5:=k5.z);obtain ⟨T,ct,rfl,fT⟩:=oT.reads;clear hB2 oT;(go_wp2_with fail);refine (c_slHas T ct (atermsL a) ((t:Int)+1) _ fT).mono ?_;rintro e w3 ⟨rfl,hB3⟩;(replace hB:=bgo hB hB3;replace k4:=k4.nz hB3;replace qk4:=k4.z;replace k5:=k5.nz hB3;replace qk5:=k5.z);clear hB3 fT;cases hm:decide ((t:Int)+1∈atermsL a)
  case false=>
   have E:=ax (HK1.o (by rw[hm];simp));clear hm HK1 HK2 HN;(go_wp2_with fail);refine (skip.o _ hB E).mono ?_;rintro e w4 ⟨rfl,hB4⟩;have HB4:=ax (bgo hB hB4);(go_wp2_with fail);go_ret;exact ⟨rfl,HB4.o⟩
  have E:=ax (HK2.o (by rw[HN.o,hm];rfl));have HB:=ax hB;clear hm HK1 HK2 HN skip hB;(go_wp2_with fail)
  go_loopw [9] (fun i wr=>∃ k:Nat,k≤9∧i=.int .i64 k∧aJ (∀ j,j<k→tryF a used n (setS s ((t:Int)+1) (j:Int)) ((t:Int)+1+1)=false)∧Blk wr w.heap.size tSt #[.slice S1 s.values.length s1,.slice S2 s.heap.length s2]∧Blk wr (w.heap.size+1) tAs #[.slice A1 a.facts.length c1,.slice A2 a.atoms.length c2]∧aJ (Below w.heap.size w wr)) (fun i _=>10 - (intOf i).toNat)
  case atStart=>exact ⟨0,by omega,rfl,fun j h=>absurd h (by omega),k4,k5,HB⟩
  case round=>
   clear k4 k5 HB qk4 qk5;obtain ⟨k,hk9,rfl,HN,k4,k5,HB⟩:=hrel;by_cases hlt:k<9
   ·have hki:(k:Int)≤8:=by omega
    (replace qk4:=k4.z;replace qk5:=k5.z);(go_wp2_with fail);refine (c_impl_SetTerm _ s t (k:Int) _ (HS.o.bz HB.o) HV.o ht8 (by simp[valB];omega)).mono ?_;rintro e w5 ⟨r,rfl,oS,hB5⟩;have hsv:(setS s ((t:Int)+1) (k:Int)).valid=true:=set_valid HV.o _ (by simp[valB];omega);obtain ⟨s',hs'⟩:∃ s',s'=setS s ((t:Int)+1) (k:Int):=⟨_,rfl⟩;rw[←hs'] at oS hsv;have HV5:=ax hsv;replace hs':=ax hs';have HS5:=ax oS.reads;obtain ⟨fv,av,rfl,o1,o2,-⟩:=oS;obtain ⟨F,f,rfl,-⟩:=o1.reads;obtain ⟨G,g,rfl,-⟩:=o2.reads;(replace k4:=k4.nz hB5;replace qk4:=k4.z;replace k5:=k5.nz hB5;replace qk5:=k5.z);have HB5:=ax (bgo HB.o hB5);clear hB5 o1 o2 hsv HB;(go_wp2_with fail);refine (IH.o _ _ _ _ _ _ _ _ s' A c _ (HS5.o.bz bel) HV5.o (HA.o.bz (bbox HB5.o _)) (HU.o.bz (bbox HB5.o _))).mono ?_;rintro e w6 ⟨rfl,hB6⟩;have HB6:=ax (bgo (bbox HB5.o (.cells #[.slice F s'.values.length f,.slice G s'.heap.length g] tSt)) hB6);have k46:=(k4.alloc (.cells #[.slice F s'.values.length f,.slice G s'.heap.length g] tSt)).nz hB6;have k56:=(k5.alloc (.cells #[.slice F s'.values.length f,.slice G s'.heap.length g] tSt)).nz hB6;clear hB6 qk4 qk5 k4 k5;cases hy:tryF a used n s' ((t:Int)+1+1)
    ·have HN2:aJ (∀ j,j<k+1→tryF a used n (setS s ((t:Int)+1) (j:Int)) ((t:Int)+1+1)=false):=ax fun j hj=>by
      by_cases e:j=k
      ·rw[e,←hs'.o];exact hy
      ·exact HN.o j (by omega)
     clear hy HN;(go_wp2_with fail)
     go_round
     case rel=>exact ⟨k+1,by omega,by go_num,HN2,k46,k56,HB6⟩
     case measure=>simp[intOf];omega
    ·have E2:aJ (tryF a used (n+1) s ((t:Int)+1)=true):=ax (by rw[E.o];exact any_yes (by omega) (by rw[←hs'.o];exact hy));clear hy HN;(go_wp2_with fail);go_ret;exact ⟨ret_bool E2.o.symm,HB6.o⟩
   ·obtain rfl:k=9:=by omega
    have E2:aJ (tryF a used (n+1) s ((t:Int)+1)=false):=ax (by rw[E.o];exact any_no fun j hj=>HN.o j hj);(go_wp2_with fail);go_ret;exact ⟨ret_bool E2.o.symm,HB.o⟩
theorem c_slSome {lo hi lo2 hi2:Nat} (v:Value) (s:Ste) (l:List Asn) (used:List Int) (R:Option Addr) (r:Nat) (A:Option Addr) (c:Nat) (w:World) (h:StateV w lo hi v s) (hs:s.valid=true) (hl:l.length≤1049600) (hR:∀ (k:Nat) (hk:k<l.length),∃ b o B p D q,R=some ⟨b,o,none⟩∧b<w.heap.size∧w.cell? ⟨b,o+k*2,none⟩=some (.slice B l[k].facts.length p)∧w.cell? ⟨b,o+k*2+1,none⟩=some (.slice D l[k].atoms.length q)∧AsnV w 0 w.heap.size (.agg #[.slice B l[k].facts.length p,.slice D l[k].atoms.length q]) l[k]) (hU:IntsV w lo2 hi2 A used) :
  Calls Tryz.prog 47 #[v,.slice R l.length r,.slice A used.length c] w fun e w'=>e=.returned (.bool (someF s l used))∧Below w.heap.size w w':=by
 have HS:=ax h;have HV:=ax hs;have HR:=ax hR;have HU:=ax hU;obtain ⟨S1,s1,S2,s2,rfl,-,-⟩:=h;clear hR hU hs;(go_enter Tryz.func47,Tryz.ntmps47);have k3:Blk (w.alloc (.cells #[.slice S1 s.values.length s1,.slice S2 s.heap.length s2] tSt)) w.heap.size tSt #[.slice S1 s.values.length s1,.slice S2 s.heap.length s2]:=blks;have HB:aJ (Below w.heap.size w (w.alloc (.cells #[.slice S1 s.values.length s1,.slice S2 s.heap.length s2] tSt))):=ax bel;(go_wp2_with fail)
 go_loopw [7] (fun i wr=>∃ k:Nat,k≤l.length∧i=.int .i64 k∧aJ (someF s l used=(l.drop k).any fun a=>tryF a used 4 s 5)∧Blk wr w.heap.size tSt #[.slice S1 s.values.length s1,.slice S2 s.heap.length s2]∧aJ (Below w.heap.size w wr)) (fun i _=>l.length - (intOf i).toNat)
 case atStart=>exact ⟨0,Nat.zero_le _,rfl,rfl,k3,HB⟩
 case round=>
  clear k3 HB;obtain ⟨k,hk,rfl,HE,k3,HB⟩:=hrel;by_cases hlt:k<l.length
  ·have hki:(k:Int)<(l.length:Int):=by omega
   obtain ⟨b,o,B,p,D,q,rfl,hbl,g0,g1,hA⟩:=HR.o k hlt;have e1:=List.drop_eq_getElem_cons hlt;rw[e1,List.any_cons] at HE;obtain ⟨x,hx⟩:∃ x,x=l[k]:=⟨_,rfl⟩;rw[←hx] at g0 g1 hA HE;have HA:=ax hA;clear hx e1 hA;have p0:wr.cell? ⟨b,o+k*2,none⟩=some (.slice B x.facts.length p):=(HB.o.cell (p:=⟨b,o+k*2,none⟩) hbl).trans g0;have p1:wr.cell? ⟨b,o+k*2+1,none⟩=some (.slice D x.atoms.length q):=(HB.o.cell (p:=⟨b,o+k*2+1,none⟩) hbl).trans g1;have hbr:b<wr.heap.size:=Nat.lt_of_lt_of_le hbl HB.o.size;clear g0 g1;(go_wp2_with fail);refine wp_region_noPanic ?_;refine wp_region_held_drew (S:=(fun w'=>(∀ i,w'.cell? ⟨w.heap.size,i,none⟩=#[.slice S1 s.values.length s1,.slice S2 s.heap.length s2][i]?)∧w'.cell? ⟨b,o+k*2,none⟩=some (.slice B x.facts.length p)∧w'.cell? ⟨b,o+k*2+1,none⟩=some (.slice D x.atoms.length q))) (by kernel_rfl) (⟨k3.drew.cell,p0,p1⟩) (fun hHeld=>?_);refine tk2 0 rfl hHeld (h:=tk2 1 rfl hHeld (h:=tk2 2 rfl hHeld (h:=?_)));(try simp only[zz]);refine tk2 3 rfl hHeld (h:=tk2 4 rfl hHeld (h:=tk2 5 rfl hHeld (h:=?_)));refine rdc 6 rfl fun K hK=>?_;(try simp only[zz]);(go_simp;refine (c_slTry x used 4 (Nat.le_refl _) _ _ _ _ _ _ _ _ s A c _ (HS.o.bz HB.o.drew) HV.o (HA.o.bz HB.o.drew) (HU.o.bz HB.o.drew)).mono ?_;rintro e w2 ⟨rfl,hB2⟩;replace hB2:Below wr.heap.size wr w2:=(Below.refl _ _).drew.trans hB2;have k32:=k3.nz hB2;have j0:=(hB2.cell (p:=⟨b,o+k*2,none⟩) hbr).trans p0;have j1:=(hB2.cell (p:=⟨b,o+k*2+1,none⟩) hbr).trans p1;have HB2:=ax (bgo HB.o hB2);clear hB2);refine hK.out _ _ (⟨k32.cell,j0,j1⟩) ?_;clear hHeld hK K;intro hHeld;(try simp only[zz]);refine dn1 ?_;clear hHeld p0 p1 j0 j1;rw[show (9:Int) - ((4:Nat):Int)=5 by omega];cases hy:tryF x used 4 s 5
   ·have HE2:aJ (someF s l used=(l.drop (k+1)).any fun a=>tryF a used 4 s 5):=ax (by rw[HE.o,hy];rfl);clear hy HE;(go_wp2_with fail)
    go_round
    case rel=>exact ⟨k+1,by omega,by go_num,HE2,k32,HB2⟩
    case measure=>simp[intOf];omega
   ·have E2:aJ (someF s l used=true):=ax (by rw[HE.o,hy];rfl);clear hy HE;(go_wp2_with fail);go_ret;exact ⟨ret_bool E2.o.symm,HB2.o⟩
  ·obtain rfl:k=l.length:=by omega
   have E2:aJ (someF s l used=false):=ax (by rw[HE.o,List.drop_length];rfl);(go_wp2_with fail);go_ret;exact ⟨ret_bool E2.o.symm,HB.o⟩
theorem mdl_holds {a:Asn} (h:consB a=true):(modelR a).valid=true∧holdsF (modelR a) a=true:=by
 have e:modelR a=modelL a:=by unfold modelR;rw[h];rfl
 obtain ⟨-,h2,-⟩:=modelL_law h;rw[e];exact ⟨(case_of_law h2).1,h2⟩
theorem StateO.tightM {w:World} {b:Nat} {v:Value} {s:Ste} (h:StateO w b v s):StateV w 0 w.heap.size v s:=by
 obtain ⟨fv,av,rfl,h1,h2,-⟩:=h;obtain ⟨A,c,rfl,r1⟩:=h1.reads;obtain ⟨B,d,rfl,r2⟩:=h2.reads;exact ⟨A,c,B,d,rfl,r1.mono (Nat.zero_le _) (Nat.le_refl _),r2.mono (Nat.zero_le _) (Nat.le_refl _)⟩
theorem stepIL2g {ops:Array Oper} {o:Oper} {a:Act} {K:Act→World→Prop} {Q:Exit→Act→World→Prop} {E:Prop} {w:World} {base lo hi c:Nat} {v:Value} {A:Option Addr} (hw:Region.wanted o (yielded ops a.tmps)=true) (s x:Operand) (ho:o.op=.call { callee:=.builtin .append,args:=#[s,x],argTypes:=#[27,27] })
  {xs ys:List Int} (hs:a.eval s=v) (hown:IntsO w base v xs) (hx:a.eval x=.slice A ys.length c) (hR:IntsV w lo hi A ys) (hn:xs.length+ys.length≤1049600) (hb:base≤w.heap.size)
  (h:∀ A' c' w',IntsO w' base (.slice A' (xs++ys).length c') (xs++ys)→w.grownBy w' v.ownBlock→Below base w w'→K (a.put o.dst (.slice A' (xs++ys).length c')) w'):if Region.wanted o (yielded ops a.tmps)=true then Oper.wp Tryz.prog o a w K Q else E:=by
 rw[if_pos hw];refine wp_appL s x 27 ho Tryz.underlying27 infoI rfl (by decide) (by decide) hs hown.1 hx hR.raw (encI_one _) hn hb ?_;intro v' w' h1 h2 h3;have hO:IntsO w' base v' (xs++ys):=⟨by rw[List.length_append,show encI (xs++ys)=encI xs++encI ys from List.map_append];exact h1,by simp[Lim];omega⟩;obtain ⟨A',c',rfl,-⟩:=hO.reads;exact h A' c' w' hO h2 h3
theorem run_facts {a:Asn} {x:Cm1} {ks:List Int} {D:List Asn} (h:symC a x ks=some D):basicB x.k=true∧fvalB x.k x.a x.b x.t x.i x.body x.els=true∧∀ s,holdsF s a=true→(basicF s x.k x.a x.b).2=2∨((basicF s x.k x.a x.b).2=0∧someF (basicF s x.k x.a x.b).1 D (atermsL a++(ks++[x.a,x.b]))=true):=by
 unfold symC at h;obtain ⟨-,hok,-⟩:=symR_some h;have e:=hok;rw[okC_eq,Bool.and_eq_true] at e;rw[hok] at h;obtain ⟨hA,hB,-⟩:=okC_term hok;have hA4:x.k=1∨x.k=2∨x.k=4→1≤x.a∧x.a≤4:=fun hk=>(fieldsB_a (fieldsB_of e.1 e.2)).elim id fun h=>absurd hk h;exact ⟨e.1,e.2,fun s hs=>sym_sound h (of_decide_eq_true e.1) hA4 hA hB hs⟩
theorem c_FnSymFrame (v:Value) (A:Option Addr×Nat×Nat) (w:World) (h:v=.slice A.1 A.2.1 A.2.2∧BytesR w A.1 A.2.1 A.2.2):Calls Tryz.prog 7 #[v] w fun e w'=>e=.returned (.bool true)∧Below w.heap.size w w':=by
 obtain ⟨A,n,c⟩:=A;obtain ⟨rfl,hR⟩:=h;simp only at hR ⊢;have HR:=ax hR;clear hR;by_cases hn:1048576<n
 ·have hni:(1048576:Int)<(n:Int):=by omega
  clear hn;(go_enter Tryz.func7,Tryz.ntmps7);(go_wp2_with fail);go_ret;exact ⟨rfl,bel⟩
 have hni:¬(1048576:Int)<(n:Int):=by omega
 clear hn;(go_enter Tryz.func7,Tryz.ntmps7);(go_wp2_with fail);refine (c_DrawSymBasic A n c _ HR.o).mono ?_;rintro e v1 ⟨r1,r2,a,x,KA,ks,kc,rfl,oa,oc,ok,hkl,hal,hB1⟩;obtain ⟨F,e1,G,e2,rfl,-⟩:=oa.C;have hcx:=oc;obtain ⟨X1,y1,X2,y2,X3,y3,X4,y4,rfl,-,-,-⟩:=oc;have hbq:=bbox (bbox (Below.refl _ v1) (.cells #[.slice F a.facts.length e1,.slice G a.atoms.length e2] tAs)) (.cells #[.int .i64 x.k,.int .i64 x.a,.int .i64 x.b,.bool x.t.eq,.int .i64 x.t.a,.int .i64 x.t.b,.slice X1 x.i.facts.length y1,.slice X2 x.i.atoms.length y2,.slice X3 x.body.len y3,.slice X4 x.els.len y4] tC);have HV:=ax ((oa.bz hbq).C);have HC:=ax (hcx.bz hbq);have HK:=ax (ok.reads);obtain ⟨KA',kc',eK,fk⟩:=HK.o;injection eK with eK1 eK2 eK3;subst eK1 eK3;clear HK;have HK:=ax (fk.bz hbq);obtain ⟨k0,k1⟩:=blk2 v1 tAs tC #[.slice F a.facts.length e1,.slice G a.atoms.length e2] #[.int .i64 x.k,.int .i64 x.a,.int .i64 x.b,.bool x.t.eq,.int .i64 x.t.a,.int .i64 x.t.b,.slice X1 x.i.facts.length y1,.slice X2 x.i.atoms.length y2,.slice X3 x.body.len y3,.slice X4 x.els.len y4];have hz:v1.heap.size+1<((v1.alloc (.cells #[.slice F a.facts.length e1,.slice G a.atoms.length e2] tAs)).alloc (.cells #[.int .i64 x.k,.int .i64 x.a,.int .i64 x.b,.bool x.t.eq,.int .i64 x.t.a,.int .i64 x.t.b,.slice X1 x.i.facts.length y1,.slice X2 x.i.atoms.length y2,.slice X3 x.body.len y3,.slice X4 x.els.len y4] tC)).heap.size:=by simp
 have HB:=ax (bgo hB1 hbq);clear hbq oa hcx ok fk hB1 HR hni eK2;(go_upto_region 4 with fail);generalize ((v1.alloc (.cells #[.slice F a.facts.length e1,.slice G a.atoms.length e2] tAs)).alloc (.cells #[.int .i64 x.k,.int .i64 x.a,.int .i64 x.b,.bool x.t.eq,.int .i64 x.t.a,.int .i64 x.t.b,.slice X1 x.i.facts.length y1,.slice X2 x.i.atoms.length y2,.slice X3 x.body.len y3,.slice X4 x.els.len y4] tC))=W1 at *;(replace qk0:=k0.z;replace qk1:=k1.z);(go_wp2_with fail);refine (k_impl_SymBasic _ _ a x KA kc ks _ HV.o (by omega) HC.o HK.o).mono ?_;rintro e w2 ⟨r2,rfl,⟨⟨vs,o2⟩,-⟩,hB2⟩;obtain ⟨A2,c2,rfl⟩:=o2.form;replace HV:=ax (HV.o.bz hB2);replace HC:=ax (HC.o.bz hB2);replace HK:=ax (HK.o.bz hB2);replace HB:=ax (bgo HB.o hB2);replace k0:=k0.nz hB2;replace k1:=k1.nz hB2;have O2:=ax o2;have hz2:=hB2.size;clear hB2 o2 qk0 qk1;(replace qk0:=k0.z;replace qk1:=k1.z);(go_wp2_with fail);refine (k_spec_SymBasic _ _ a x KA kc ks _ HV.o (by omega) HC.o HK.o (by omega)).mono ?_;rintro e w3 ⟨r3,rfl,⟨⟨vs',o3⟩,-⟩,hB3⟩;obtain ⟨A3,c3,rfl⟩:=o3.form;replace HV:=ax (HV.o.bz hB3);replace HC:=ax (HC.o.bz hB3);replace HK:=ax (HK.o.bz hB3);replace HB:=ax (bgo HB.o hB3);replace O2:=ax (O2.o.bz hB3);have O3:=ax o3;have hz3:=hB3.size;replace k0:=k0.nz hB3;replace k1:=k1.nz hB3;clear hB3 o3 qk0 qk1;(go_upto_region 7 with fail);have kf:=Blk.new w3 tA #[.int .i64 1,.int .i64 8,.int .i64 0];have hbx:=bbox (bbox (Below.refl _ w3) (.cells #[.int .i64 1,.int .i64 8,.int .i64 0] tA)) (.cells #[.slice none 0 0,.slice (some ⟨w3.heap.size,0,none⟩) 1 1] tAs);have HEX:aJ (AsnV ((w3.alloc (.cells #[.int .i64 1,.int .i64 8,.int .i64 0] tA)).alloc (.cells #[.slice none 0 0,.slice (some ⟨w3.heap.size,0,none⟩) 1 1] tAs)) w3.heap.size (w3.heap.size+1) (.agg #[.slice none 0 0,.slice (some ⟨w3.heap.size,0,none⟩) 1 1]) ⟨[],[⟨1,8,0⟩]⟩):=ax ⟨none,0,some ⟨w3.heap.size,0,none⟩,1,rfl,Rd.nil _ _ _ _ _,(AtomsV.one (f:=⟨1,8,0⟩) kf).bz (bbox (Below.refl _ _) _)⟩;have kx:=Blk.new (w3.alloc (.cells #[.int .i64 1,.int .i64 8,.int .i64 0] tA)) tAs #[.slice none 0 0,.slice (some ⟨w3.heap.size,0,none⟩) 1 1];have hyx:(w3.alloc (.cells #[.int .i64 1,.int .i64 8,.int .i64 0] tA)).heap.size=w3.heap.size+1:=by simp
 rw[hyx] at kx;replace HV:=ax (HV.o.bz hbx);replace HC:=ax (HC.o.bz hbx);replace HK:=ax (HK.o.bz hbx);replace HB:=ax (bgo HB.o hbx);replace O2:=ax (O2.o.bz hbx);replace O3:=ax (O3.o.bz hbx);replace k0:=k0.nz hbx;replace k1:=k1.nz hbx;have hzx:w3.heap.size<((w3.alloc (.cells #[.int .i64 1,.int .i64 8,.int .i64 0] tA)).alloc (.cells #[.slice none 0 0,.slice (some ⟨w3.heap.size,0,none⟩) 1 1] tAs)).heap.size:=by simp;omega
 clear hbx kf hyx;generalize ((w3.alloc (.cells #[.int .i64 1,.int .i64 8,.int .i64 0] _)).alloc (.cells #[.slice none 0 0,.slice (some ⟨w3.heap.size,0,none⟩) 1 1] _))=W3 at *;obtain ⟨yx,hyy⟩:∃ y,y=w3.heap.size:=⟨_,rfl⟩;rw[←hyy] at kx HEX hzx ⊢;clear hyy;(replace qk0:=k0.z;replace qk1:=k1.z;replace qkx:=kx.z);obtain ⟨fi,hfi⟩:∃ q,q=(starF a ⟨[],[⟨1,8,0⟩]⟩).isSome:=⟨_,rfl⟩;obtain ⟨b,hb⟩:∃ b,b=(starF a ⟨[],[⟨1,8,0⟩]⟩).getD ⟨[],[]⟩:=⟨_,rfl⟩;have CST:=ax (c_impl_Star _ _ a ⟨[],[⟨1,8,0⟩]⟩ _ HV.o.V HEX.o);rw[←hfi,←hb] at CST;clear hfi hb HEX;(go_wp2_with fail);refine CST.o.mono ?_;rintro e w4 ⟨r4,rfl,o4,hB4⟩;obtain ⟨R1,q1,R2,q2,rfl,-⟩:=o4.C;have hbx:=bbox (Below.refl _ w4) (.cells #[.slice R1 b.facts.length q1,.slice R2 b.atoms.length q2] tAs);have hzw4:=hB4.size;have lk1w:=k1.lt;replace hB4:=bgo hB4 hbx;have HVb:=ax ((o4.bz hbx).C);have k2:=Blk.new w4 tAs #[.slice R1 b.facts.length q1,.slice R2 b.atoms.length q2];have hz4:=hB4.size;have hz42:w4.heap.size<(w4.alloc (.cells #[.slice R1 b.facts.length q1,.slice R2 b.atoms.length q2] tAs)).heap.size:=by simp
 replace HV:=ax (HV.o.bz hB4);replace HC:=ax (HC.o.bz hB4);replace HK:=ax (HK.o.bz hB4);replace HB:=ax (bgo HB.o hB4);replace O2:=ax (O2.o.bz hB4);replace O3:=ax (O3.o.bz hB4);replace k0:=k0.nz hB4;replace k1:=k1.nz hB4;have lw4:v1.heap.size+1<w4.heap.size:=by omega
 clear o4 hB4 hbx CST kx qk0 qk1 qkx;(go_upto_region 8 with fail);obtain ⟨yb,hyb⟩:∃ y,y=w4.heap.size:=⟨_,rfl⟩;rw[←hyb] at k2 lw4 hz42 ⊢;clear hyb;generalize (w4.alloc (.cells #[.slice R1 b.facts.length q1,.slice R2 b.atoms.length q2] _))=W4 at *;cases hE:symC a x ks
 case none=>
  rw[hE] at O2 O3;clear hE;simp only[Option.getD_none] at O2 O3 ⊢;(replace qk0:=k0.z;replace qk1:=k1.z;replace qk2:=k2.z);(go_wp2_with fail);refine (t_slAsns A2 A3 c2 c3 [] _ O2.o.reads.2 O3.o.reads.2).mono ?_;rintro e w4 ⟨rfl,hB4⟩;have HB4:=ax (bgo HB.o hB4);have O24:=ax (O2.o.bz hB4);have O34:=ax (O3.o.bz hB4);clear hB4;(go_wp2_with fail);refine (t_slAsns A2 A3 c2 c3 [] _ O24.o.reads.2 O34.o.reads.2).mono ?_;rintro e w5 ⟨rfl,hB5⟩;have HB5:=ax (bgo HB4.o hB5);(go_wp2_with fail);go_ret;exact ⟨rfl,HB5.o⟩
 case some D=>
  rw[hE] at O2 O3;simp only[Option.getD_some] at O2 O3 ⊢;have HE:=ax hE;clear hE;have hDl:D.length≤1049600:=O2.o.lim;(replace qk0:=k0.z;replace qk1:=k1.z;replace qk2:=k2.z);(go_wp2_with fail);refine (t_slAsns A2 A3 c2 c3 D _ O2.o.reads.2 O3.o.reads.2).mono ?_;rintro e w5 ⟨rfl,hB5⟩;have zhB5:=hB5.size;replace HV:=ax (HV.o.bz hB5);replace HVb:=ax (HVb.o.bz hB5);replace HC:=ax (HC.o.bz hB5);replace HK:=ax (HK.o.bz hB5);replace O2:=ax (O2.o.bz hB5);replace O3:=ax (O3.o.bz hB5);replace HB:=ax (bgo HB.o hB5);replace k0:=k0.nz hB5;replace k1:=k1.nz hB5;replace k2:=k2.nz hB5;clear hB5 qk0 qk1 qk2;cases fi
  ·(replace qk0:=k0.z;replace qk1:=k1.z;replace qk2:=k2.z);(go_wp2_with fail);refine (t_slAsns A2 A3 c2 c3 D _ O2.o.reads.2 O3.o.reads.2).mono ?_;rintro e w6 ⟨rfl,hB6⟩;have HB6:=ax (bgo HB.o hB6);(go_wp2_with fail);go_ret;exact ⟨rfl,HB6.o⟩
  by_cases hb8:x.b=8
  ·have bb8:(x.b == 8)=true:=by rw[hb8];rfl
   clear hb8;(replace qk0:=k0.z;replace qk1:=k1.z;replace qk2:=k2.z);(go_wp2_with fail);refine (t_slAsns A2 A3 c2 c3 D _ O2.o.reads.2 O3.o.reads.2).mono ?_;rintro e w6 ⟨rfl,hB6⟩;have HB6:=ax (bgo HB.o hB6);(go_wp2_with fail);go_ret;exact ⟨rfl,HB6.o⟩
  by_cases ha8:x.a=8
  ·have bb8:(x.b == 8)=false:=beq_false_of_ne hb8;have ba8:(x.a == 8)=true:=by rw[ha8];rfl
   clear ha8 hb8;(replace qk0:=k0.z;replace qk1:=k1.z;replace qk2:=k2.z);(go_wp2_with fail);refine (t_slAsns A2 A3 c2 c3 D _ O2.o.reads.2 O3.o.reads.2).mono ?_;rintro e w6 ⟨rfl,hB6⟩;have HB6:=ax (bgo HB.o hB6);(go_wp2_with fail);go_ret;exact ⟨rfl,HB6.o⟩
  have bb8:(x.b == 8)=false:=beq_false_of_ne hb8;have ba8:(x.a == 8)=false:=beq_false_of_ne ha8;clear ha8 hb8;(replace qk0:=k0.z;replace qk1:=k1.z;replace qk2:=k2.z);(go_wp2_with fail);refine (c_impl_AssertionTerms _ a _ HV.o.V).mono ?_;rintro e w6 ⟨r6,rfl,o6,hB6⟩;obtain ⟨T6,t6,rfl,hT6⟩:=o6.reads;have zhB6:=hB6.size;replace HV:=ax (HV.o.bz hB6);replace HVb:=ax (HVb.o.bz hB6);replace HC:=ax (HC.o.bz hB6);replace HK:=ax (HK.o.bz hB6);replace O2:=ax (O2.o.bz hB6);replace O3:=ax (O3.o.bz hB6);replace HB:=ax (bgo HB.o hB6);replace k0:=k0.nz hB6;replace k1:=k1.nz hB6;replace k2:=k2.nz hB6;have HT6:=ax hT6;clear hB6 hT6 o6 qk0 qk1 qk2;generalize atermsL a=ta at *;(go_wp2_with fail);refine (c_slHas T6 t6 ta 8 _ HT6.o).mono ?_;rintro e w7 ⟨rfl,hB7⟩;have zhB7:=hB7.size;replace HV:=ax (HV.o.bz hB7);replace HVb:=ax (HVb.o.bz hB7);replace HC:=ax (HC.o.bz hB7);replace HK:=ax (HK.o.bz hB7);replace O2:=ax (O2.o.bz hB7);replace O3:=ax (O3.o.bz hB7);replace HB:=ax (bgo HB.o hB7);replace k0:=k0.nz hB7;replace k1:=k1.nz hB7;replace k2:=k2.nz hB7;clear hB7 HT6;cases decide ((8:Int)∈ta)
  case true=>
   (replace qk0:=k0.z;replace qk1:=k1.z;replace qk2:=k2.z);(go_wp2_with fail);refine (t_slAsns A2 A3 c2 c3 D _ O2.o.reads.2 O3.o.reads.2).mono ?_;rintro e w8 ⟨rfl,hB8⟩;have HB8:=ax (bgo HB.o hB8);(go_wp2_with fail);go_ret;exact ⟨rfl,HB8.o⟩
  clear O2 O3;obtain ⟨gd,hgd⟩:∃ q,q=(symC b x ks).isSome:=⟨_,rfl⟩;obtain ⟨D2,hD2⟩:∃ q,q=(symC b x ks).getD []:=⟨_,rfl⟩;obtain ⟨hbk,hfv,-⟩:=run_facts HE.o;have HBK:=ax hbk;have HFV:=ax hfv;obtain ⟨has,hhas⟩:∃ q,q=consB b:=⟨_,rfl⟩;obtain ⟨s,hs⟩:∃ s,s=modelR b:=⟨_,rfl⟩;have CSB:aJ (∀ W lo hi lo1 hi1 lo2 hi2,AsnC W lo hi (.agg #[.slice R1 b.facts.length q1,.slice R2 b.atoms.length q2]) b→hi≤W.heap.size→C1V W lo1 hi1 (.agg #[.int .i64 x.k,.int .i64 x.a,.int .i64 x.b,.bool x.t.eq,.int .i64 x.t.a,.int .i64 x.t.b,.slice X1 x.i.facts.length y1,.slice X2 x.i.atoms.length y2,.slice X3 x.body.len y3,.slice X4 x.els.len y4]) x→IntsV W lo2 hi2 KA ks→Calls Tryz.prog 39 #[.agg #[.slice R1 b.facts.length q1,.slice R2 b.atoms.length q2],.agg #[.int .i64 x.k,.int .i64 x.a,.int .i64 x.b,.bool x.t.eq,.int .i64 x.t.a,.int .i64 x.t.b,.slice X1 x.i.facts.length y1,.slice X2 x.i.atoms.length y2,.slice X3 x.body.len y3,.slice X4 x.els.len y4],.slice KA ks.length kc] W fun e w'=>∃ r,e=.returned (.tuple #[r,.bool gd])∧AsnsR w' W.heap.size r D2∧Below W.heap.size W w'):=ax fun W lo hi lo1 hi1 lo2 hi2 p1 p2 p3 p4=>by rw[hgd,hD2];exact k_impl_SymBasic _ _ b x KA kc ks _ p1 p2 p3 p4
  have CMO:aJ (∀ W lo hi,AsnV W lo hi (.agg #[.slice R1 b.facts.length q1,.slice R2 b.atoms.length q2]) b→hi≤W.heap.size→Calls Tryz.prog 45 #[.agg #[.slice R1 b.facts.length q1,.slice R2 b.atoms.length q2]] W fun e w'=>∃ r,e=.returned (.tuple #[r,.bool has])∧StateO w' W.heap.size r s∧Below W.heap.size W w'):=ax fun W lo hi p1 p2=>by rw[hhas,hs];exact c_impl_ModelOf _ b W p1 p2
  have HMH:aJ (gd=true→has=true→s.valid=true∧((basicF s x.k x.a x.b).2=2∨((basicF s x.k x.a x.b).2=0∧someF (basicF s x.k x.a x.b).1 D2 (atermsL b++(ks++[x.a,x.b]))=true))):=ax fun eg e=>by
   rw[hhas] at e;rw[hgd] at eg;obtain ⟨E,hE2⟩:=Option.isSome_iff_exists.1 eg;obtain ⟨m1,m2⟩:=mdl_holds e;rw[hs,hD2,hE2];exact ⟨m1,(run_facts hE2).2.2 _ m2⟩
  clear hbk hfv hgd hD2 hhas hs HE HV;(replace qk0:=k0.z;replace qk1:=k1.z;replace qk2:=k2.z);(go_wp2_with fail);refine (CSB.o _ _ _ _ _ _ _ HVb.o (by omega) HC.o HK.o).mono ?_;rintro e w8 ⟨r8,rfl,⟨⟨vs9,o9⟩,-⟩,hB8⟩;obtain ⟨A9,c9,rfl⟩:=o9.form;have hDl2:D2.length≤1049600:=o9.lim;have O9:=ax o9;have hz8:=hB8.size;have zhB8:=hB8.size;replace HVb:=ax (HVb.o.bz hB8);replace HC:=ax (HC.o.bz hB8);replace HK:=ax (HK.o.bz hB8);replace HB:=ax (bgo HB.o hB8);replace k0:=k0.nz hB8;replace k1:=k1.nz hB8;replace k2:=k2.nz hB8;clear hB8 o9 CSB qk0 qk1 qk2;(replace qk1:=k1.z;replace qk2:=k2.z);(go_wp2_with fail);refine (CMO.o _ _ _ HVb.o.V (by omega)).mono ?_;rintro e w9 ⟨r9,rfl,o5,hB5⟩;have zhB5:=hB5.size;replace HVb:=ax (HVb.o.bz hB5);replace HC:=ax (HC.o.bz hB5);replace HK:=ax (HK.o.bz hB5);replace O9:=ax (O9.o.bz hB5);replace HB:=ax (bgo HB.o hB5);replace k0:=k0.nz hB5;replace k1:=k1.nz hB5;replace k2:=k2.nz hB5;have HO:=ax o5.tightM;obtain ⟨P1,p1,P2,p2,rfl,-,-⟩:=HO.o;have hBw:=HB.o;clear hB5 o5 CMO qk1 qk2;cases gd
  ·(replace qk1:=k1.z;replace qk2:=k2.z);(go_wp2_with fail);go_ret;exact ⟨rfl,bel⟩
  cases has
  ·(replace qk1:=k1.z;replace qk2:=k2.z);(go_wp2_with fail);go_ret;exact ⟨rfl,bel⟩
  obtain ⟨hsv,hsd⟩:=HMH.o rfl rfl;replace hsv:=ax hsv;replace hsd:=ax hsd;have hbx:=bbox (Below.refl _ w9) (.cells #[.slice P1 s.values.length p1,.slice P2 s.heap.length p2] 79);have kS:=Blk.new w9 79 #[.slice P1 s.values.length p1,.slice P2 s.heap.length p2];have lw9:yb<w9.heap.size:=k2.lt;have lw91:v1.heap.size+1<w9.heap.size:=k1.lt;have zhbx:=hbx.size;replace HVb:=ax (HVb.o.bz hbx);replace HC:=ax (HC.o.bz hbx);replace HK:=ax (HK.o.bz hbx);replace O9:=ax (O9.o.bz hbx);replace HB:=ax (bgo HB.o hbx);replace k0:=k0.nz hbx;replace k1:=k1.nz hbx;replace k2:=k2.nz hbx;replace HO:=ax (HO.o.bz hbx);clear hbx hBw HMH;(go_upto_region 14 with fail);generalize (w9.alloc (.cells #[.slice P1 s.values.length p1,.slice P2 s.heap.length p2] _))=w6 at *;(replace qk0:=k0.z;replace qk1:=k1.z;replace qk2:=k2.z;replace qkS:=kS.z);(go_wp2_with fail);refine (c_RunBasic _ _ s x _ HO.o hsv.o HC.o HBK.o HFV.o).mono ?_;rintro e w7 ⟨r7,rfl,o7,hB7⟩;have hpv:=(basicF_ok hsv.o x.k x.a x.b).1;have hsd:=hsd.o;generalize basicF s x.k x.a x.b=P at *;obtain ⟨s2,cd⟩:=P;simp only at o7 hsd hpv ⊢;have zhB7:=hB7.size;replace HVb:=ax (HVb.o.bz hB7);replace HC:=ax (HC.o.bz hB7);replace HK:=ax (HK.o.bz hB7);replace O9:=ax (O9.o.bz hB7);replace HB:=ax (bgo HB.o hB7);replace k0:=k0.nz hB7;replace k1:=k1.nz hB7;replace k2:=k2.nz hB7;have hBw:=HB.o;clear hB7 kS qkS HO HBK HFV hsv qk0 qk1 qk2;(replace qk1:=k1.z;replace qk2:=k2.z);rcases hsd with rfl|⟨rfl,hsm⟩
  ·rw[if_neg (by decide)] at o7;have HO7:=ax o7.tightM;obtain ⟨Z1,z1,Z2,z2,rfl,-,-⟩:=HO7.o;clear o7;(go_wp2_with fail);refine wp_region_noPanic ?_;refine wp_region_held_drew (S:=(fun w'=>True)) (by kernel_rfl) (trivial) (fun hHeld=>?_);refine tk2 0 rfl hHeld (h:=tk2 1 rfl hHeld (h:=tk2 2 rfl hHeld (h:=?_)));(try simp only[zz]);refine tku 3 rfl hHeld ?_;(try simp only[zz]);refine tku 4 rfl hHeld ?_;(try simp only[zz]);refine tku 5 rfl hHeld ?_;(try simp only[zz]);refine tku 6 rfl hHeld ?_;(try simp only[zz]);refine tku 7 rfl hHeld ?_;(try simp only[zz]);refine tku 8 rfl hHeld ?_;(try simp only[zz]);refine tku 9 rfl hHeld ?_;(try simp only[zz]);refine tku 10 rfl hHeld ?_;(try simp only[zz]);refine tku 11 rfl hHeld ?_;(try simp only[zz]);refine tku 12 rfl hHeld ?_;(try simp only[zz]);refine tku 13 rfl hHeld ?_;(try simp only[zz]);refine tku 14 rfl hHeld ?_;(try simp only[zz]);refine tku 15 rfl hHeld ?_;(try simp only[zz]);refine tku 16 rfl hHeld ?_;(try simp only[zz]);refine tku 17 rfl hHeld ?_;(try simp only[zz]);refine tku 18 rfl hHeld ?_;(try simp only[zz]);refine tku 19 rfl hHeld ?_;(try simp only[zz]);refine tku 20 rfl hHeld ?_;(try simp only[zz]);refine tk2 21 rfl hHeld (h:=tk2 22 rfl hHeld (h:=?_));(try simp only[zz]);refine dn1 ?_;(go_wp2_with fail);go_ret;exact ⟨rfl,bel⟩
  ·rw[if_pos rfl] at o7;have HO7:=ax o7.tightM;obtain ⟨Z1,z1,Z2,z2,rfl,-,-⟩:=HO7.o;have HSM:=ax hsm;have HPV:=ax hpv;have hbx:=bbox (Below.refl _ w7) (.cells #[.slice Z1 s2.values.length z1,.slice Z2 s2.heap.length z2] 79);have kS:=Blk.new w7 79 #[.slice Z1 s2.values.length z1,.slice Z2 s2.heap.length z2];have zhbx:=hbx.size;replace HVb:=ax (HVb.o.bz hbx);replace HK:=ax (HK.o.bz hbx);replace O9:=ax (O9.o.bz hbx);replace HB:=ax (bgo HB.o hbx);replace k0:=k0.nz hbx;replace k1:=k1.nz hbx;replace k2:=k2.nz hbx;replace HO7:=ax (HO7.o.bz hbx);clear hbx hBw hsm hpv o7 HC k0 qk1 qk2;(go_upto_region 15 with fail);generalize (w7.alloc (.cells #[.slice Z1 s2.values.length z1,.slice Z2 s2.heap.length z2] _))=w8' at *;(replace qk1:=k1.z;replace qk2:=k2.z;replace qkS:=kS.z);(go_wp2_with fail);refine wp_region_noPanic ?_;refine wp_region_held_drew (S:=(fun w'=>(∀ i,w'.cell? ⟨yb,i,none⟩=#[.slice R1 b.facts.length q1,.slice R2 b.atoms.length q2][i]?)∧(∀ i,w'.cell? ⟨v1.heap.size+1,i,none⟩=#[.int .i64 x.k,.int .i64 x.a,.int .i64 x.b,.bool x.t.eq,.int .i64 x.t.a,.int .i64 x.t.b,.slice X1 x.i.facts.length y1,.slice X2 x.i.atoms.length y2,.slice X3 x.body.len y3,.slice X4 x.els.len y4][i]?)∧(∀ i,w'.cell? ⟨w7.heap.size,i,none⟩=#[.slice Z1 s2.values.length z1,.slice Z2 s2.heap.length z2][i]?))) (by kernel_rfl) (⟨k2.drew.cell,k1.drew.cell,kS.drew.cell⟩) (fun hHeld=>?_);have HW:=ax ((Below.refl w8'.heap.size w8').drew);clear qk1 qk2 qkS;generalize w8'.drew=wq at *;refine tk2 0 rfl hHeld (h:=tk2 1 rfl hHeld (h:=tk2 2 rfl hHeld (h:=?_)));(try simp only[zz]);refine tk2 3 rfl hHeld (h:=tk2 4 rfl hHeld (h:=tk2 5 rfl hHeld (h:=?_)));(try simp only[zz]);refine tk2 6 rfl hHeld (h:=tk2 7 rfl hHeld (h:=tk2 8 rfl hHeld (h:=?_)));(try simp only[zz]);refine tk2 10 rfl hHeld (h:=tk2 12 rfl hHeld (h:=tk2 13 rfl hHeld (h:=?_)));(try simp only[zz]);refine tk2 14 rfl hHeld (h:=tk2 15 rfl hHeld (h:=?_));(try simp only[zz]);refine wpAnyH_ready (rs:=[9,16]) (by kernel_rfl) (by simp) (AllReadyH.cons rfl (fun K hK=>?_) (AllReadyH.cons rfl (fun K hK=>?_) AllReadyH.nil))
   ·skip;(try simp only[zz]);(go_simp;have hq:=bbox (Below.refl _ wq) (.cells #[] tI);have HX:=ax (bgo HW.o hq));refine hK.out _ _ (⟨(k2.nz HX.o).cell,(k1.nz HX.o).cell,(kS.nz HX.o).cell⟩) ?_;clear hHeld hK K;intro hHeld;(try simp only[zz]);have kE:=Blk.new wq tI #[];have hlz:wq.heap.size<(wq.alloc (.cells #[] tI)).heap.size:=by simp
    obtain ⟨yE,hyE⟩:∃ y,y=wq.heap.size:=⟨_,rfl⟩;have hyBE:w8'.heap.size≤yE:=by have:=HW.o.size;omega
    (try have hne:yE≠yL:=by omega);(try replace kL0:=kL0.nz hq);(try replace OI:=ax (OI.o.bz hq));rw[←hyE] at kE hlz ⊢;have OI:aJ (IntsO (wq.alloc (.cells #[] tI)) w8'.heap.size (.slice (some ⟨yE,0,none⟩) 0 0) []):=ax ⟨own_ofBlk kE hyBE,by simp[Lim]⟩;clear kE;replace HW:=HX;clear HX hq hyE;generalize wq.alloc (.cells #[] tI)=wq at *;refine wpAnyH_ready (rs:=[11,16]) (by kernel_rfl) (by simp) (AllReadyH.cons rfl (fun K hK=>?_) (AllReadyH.cons rfl (fun K hK=>?_) AllReadyH.nil))
    ·skip;refine stepIL2g (base:=w8'.heap.size) (xs:=[]) (ys:=ks) rfl _ _ rfl rfl OI.o rfl (HK.o.bz HW.o) (by simp<;>omega) HW.o.size ?_;intro KC kc2 wq2 oN hg hq;have HX:=ax (HW.o.trans hq);rw[List.nil_append] at oN ⊢;replace OI:=ax oN;replace HW:=HX;clear HX oN hg hq;refine hK.out _ _ ⟨(k2.nz HW.o).cell,(k1.nz HW.o).cell,(kS.nz HW.o).cell⟩ ?_;clear hHeld hK K;intro hHeld;(try simp only[zz]);generalize wq2=wq at *;refine rdc 16 rfl fun K hK=>?_;(try simp only[zz]);(go_simp;have hq:=bbox (Below.refl _ wq) (.cells #[.int .i64 x.a,.int .i64 x.b] tI);have HX:=ax (bgo HW.o hq));refine hK.out _ _ (⟨(k2.nz HX.o).cell,(k1.nz HX.o).cell,(kS.nz HX.o).cell⟩) ?_;clear hHeld hK K;intro hHeld;(try simp only[zz]);have kL:=Blk.new wq tI #[.int .i64 x.a,.int .i64 x.b];have hlz:wq.heap.size<(wq.alloc (.cells #[.int .i64 x.a,.int .i64 x.b] tI)).heap.size:=by simp
     obtain ⟨yL,hyL⟩:∃ y,y=wq.heap.size:=⟨_,rfl⟩;have hyBL:w8'.heap.size≤yL:=by have:=HW.o.size;omega
     (try have hne:yE≠yL:=by omega);(try replace kL0:=kL0.nz hq);(try replace OI:=ax (OI.o.bz hq));rw[←hyL] at kL hlz ⊢;have kL0:=kL;clear kL;replace HW:=HX;clear HX hq hyL;generalize wq.alloc (.cells #[.int .i64 x.a,.int .i64 x.b] tI)=wq at *;refine rdc 17 rfl fun K hK=>?_;refine stepIL2g (base:=w8'.heap.size) (xs:=ks) (ys:=[x.a,x.b]) rfl _ _ rfl rfl OI.o rfl (IntsV.two kL0) (by simp<;>omega) HW.o.size ?_;intro KC kc2 wq2 oN hg hq;have HX:=ax (HW.o.trans hq);replace OI:=ax oN;replace HW:=HX;clear HX oN hg hq;refine hK.out _ _ ⟨(k2.nz HW.o).cell,(k1.nz HW.o).cell,(kS.nz HW.o).cell⟩ ?_;clear hHeld hK K;intro hHeld;(try simp only[zz]);generalize wq2=wq at *;have hkk:(ks++[x.a,x.b]).length≤4:=by simp;omega
     generalize ks++[x.a,x.b]=kk at *;refine rdc 18 rfl fun K hK=>?_;(try simp only[zz]);(go_simp;refine (c_slUsed _ b KC kc2 kk _ ((HVb.o.bz HW.o).V) OI.o.readsI.2 (by omega)).mono ?_;rintro e w9 ⟨r9,rfl,o9,hq⟩;obtain ⟨U,u,rfl,hU⟩:=o9.reads;clear o9;generalize atermsL b++kk=us at HSM hU ⊢;have HU:=ax hU;have HX:=ax (bgo HW.o hq);clear hq);refine hK.out _ _ (⟨(k2.nz HX.o).cell,(k1.nz HX.o).cell,(kS.nz HX.o).cell⟩) ?_;clear hHeld hK K;intro hHeld;refine rdc 19 rfl fun K hK=>?_;(try simp only[zz]);(go_simp;refine (c_slSome _ s2 D2 us A9 c9 U u _ (HO7.o.bz HX.o) HPV.o hDl2 (fun q hq=>by obtain ⟨b',o,P,p,Q,q',e,lb,g0,g1,hC⟩:=(O9.o.bz HX.o).atC hq;exact ⟨b',o,P,p,Q,q',e,lb,g0,g1,hC.V.mono0 (Nat.le_refl _)⟩) HU.o).mono ?_;rintro e w10 ⟨rfl,hq⟩;rw[HSM.o];have HY:=ax (bgo HX.o hq);clear hq);refine hK.out _ _ (⟨(k2.nz HY.o).cell,(k1.nz HY.o).cell,(kS.nz HY.o).cell⟩) ?_;clear hHeld hK K;intro hHeld;(try simp only[zz]);refine tk2 20 rfl hHeld (h:=tk2 21 rfl hHeld (h:=tk2 22 rfl hHeld (h:=?_)));(try simp only[zz]);refine dn1 ?_;have hBw:=bgo HB.o HY.o;(go_wp2_with fail);go_ret;exact ⟨rfl,hBw⟩
    ·skip;(try simp only[zz]);(go_simp;have hq:=bbox (Below.refl _ wq) (.cells #[.int .i64 x.a,.int .i64 x.b] tI);have HX:=ax (bgo HW.o hq));refine hK.out _ _ (⟨(k2.nz HX.o).cell,(k1.nz HX.o).cell,(kS.nz HX.o).cell⟩) ?_;clear hHeld hK K;intro hHeld;(try simp only[zz]);have kL:=Blk.new wq tI #[.int .i64 x.a,.int .i64 x.b];have hlz:wq.heap.size<(wq.alloc (.cells #[.int .i64 x.a,.int .i64 x.b] tI)).heap.size:=by simp
     obtain ⟨yL,hyL⟩:∃ y,y=wq.heap.size:=⟨_,rfl⟩;have hyBL:w8'.heap.size≤yL:=by have:=HW.o.size;omega
     (try have hne:yE≠yL:=by omega);(try replace kL0:=kL0.nz hq);(try replace OI:=ax (OI.o.bz hq));rw[←hyL] at kL hlz ⊢;have kL0:=kL;clear kL;replace HW:=HX;clear HX hq hyL;generalize wq.alloc (.cells #[.int .i64 x.a,.int .i64 x.b] tI)=wq at *;refine rdc 11 rfl fun K hK=>?_;refine stepIL2g (base:=w8'.heap.size) (xs:=[]) (ys:=ks) rfl _ _ rfl rfl OI.o rfl (HK.o.bz HW.o) (by simp<;>omega) HW.o.size ?_;intro KC kc2 wq2 oN hg hq;have HX:=ax (HW.o.trans hq);replace kL0:=kL0.apart hg (fun e=>by injection e with e;exact hne e.symm);rw[List.nil_append] at oN ⊢;replace OI:=ax oN;replace HW:=HX;clear HX oN hg hq;refine hK.out _ _ ⟨(k2.nz HW.o).cell,(k1.nz HW.o).cell,(kS.nz HW.o).cell⟩ ?_;clear hHeld hK K;intro hHeld;(try simp only[zz]);generalize wq2=wq at *;refine rdc 17 rfl fun K hK=>?_;refine stepIL2g (base:=w8'.heap.size) (xs:=ks) (ys:=[x.a,x.b]) rfl _ _ rfl rfl OI.o rfl (IntsV.two kL0) (by simp<;>omega) HW.o.size ?_;intro KC kc2 wq2 oN hg hq;have HX:=ax (HW.o.trans hq);replace OI:=ax oN;replace HW:=HX;clear HX oN hg hq;refine hK.out _ _ ⟨(k2.nz HW.o).cell,(k1.nz HW.o).cell,(kS.nz HW.o).cell⟩ ?_;clear hHeld hK K;intro hHeld;(try simp only[zz]);generalize wq2=wq at *;have hkk:(ks++[x.a,x.b]).length≤4:=by simp;omega
     generalize ks++[x.a,x.b]=kk at *;refine rdc 18 rfl fun K hK=>?_;(try simp only[zz]);(go_simp;refine (c_slUsed _ b KC kc2 kk _ ((HVb.o.bz HW.o).V) OI.o.readsI.2 (by omega)).mono ?_;rintro e w9 ⟨r9,rfl,o9,hq⟩;obtain ⟨U,u,rfl,hU⟩:=o9.reads;clear o9;generalize atermsL b++kk=us at HSM hU ⊢;have HU:=ax hU;have HX:=ax (bgo HW.o hq);clear hq);refine hK.out _ _ (⟨(k2.nz HX.o).cell,(k1.nz HX.o).cell,(kS.nz HX.o).cell⟩) ?_;clear hHeld hK K;intro hHeld;refine rdc 19 rfl fun K hK=>?_;(try simp only[zz]);(go_simp;refine (c_slSome _ s2 D2 us A9 c9 U u _ (HO7.o.bz HX.o) HPV.o hDl2 (fun q hq=>by obtain ⟨b',o,P,p,Q,q',e,lb,g0,g1,hC⟩:=(O9.o.bz HX.o).atC hq;exact ⟨b',o,P,p,Q,q',e,lb,g0,g1,hC.V.mono0 (Nat.le_refl _)⟩) HU.o).mono ?_;rintro e w10 ⟨rfl,hq⟩;rw[HSM.o];have HY:=ax (bgo HX.o hq);clear hq);refine hK.out _ _ (⟨(k2.nz HY.o).cell,(k1.nz HY.o).cell,(kS.nz HY.o).cell⟩) ?_;clear hHeld hK K;intro hHeld;(try simp only[zz]);refine tk2 20 rfl hHeld (h:=tk2 21 rfl hHeld (h:=tk2 22 rfl hHeld (h:=?_)));(try simp only[zz]);refine dn1 ?_;have hBw:=bgo HB.o HY.o;(go_wp2_with fail);go_ret;exact ⟨rfl,hBw⟩
   ·skip;(try simp only[zz]);(go_simp;have hq:=bbox (Below.refl _ wq) (.cells #[.int .i64 x.a,.int .i64 x.b] tI);have HX:=ax (bgo HW.o hq));refine hK.out _ _ (⟨(k2.nz HX.o).cell,(k1.nz HX.o).cell,(kS.nz HX.o).cell⟩) ?_;clear hHeld hK K;intro hHeld;(try simp only[zz]);have kL:=Blk.new wq tI #[.int .i64 x.a,.int .i64 x.b];have hlz:wq.heap.size<(wq.alloc (.cells #[.int .i64 x.a,.int .i64 x.b] tI)).heap.size:=by simp
    obtain ⟨yL,hyL⟩:∃ y,y=wq.heap.size:=⟨_,rfl⟩;have hyBL:w8'.heap.size≤yL:=by have:=HW.o.size;omega
    (try have hne:yE≠yL:=by omega);(try replace kL0:=kL0.nz hq);(try replace OI:=ax (OI.o.bz hq));rw[←hyL] at kL hlz ⊢;have kL0:=kL;clear kL;replace HW:=HX;clear HX hq hyL;generalize wq.alloc (.cells #[.int .i64 x.a,.int .i64 x.b] tI)=wq at *;refine rdc 9 rfl fun K hK=>?_;(try simp only[zz]);(go_simp;have hq:=bbox (Below.refl _ wq) (.cells #[] tI);have HX:=ax (bgo HW.o hq));refine hK.out _ _ (⟨(k2.nz HX.o).cell,(k1.nz HX.o).cell,(kS.nz HX.o).cell⟩) ?_;clear hHeld hK K;intro hHeld;(try simp only[zz]);have kE:=Blk.new wq tI #[];have hlz:wq.heap.size<(wq.alloc (.cells #[] tI)).heap.size:=by simp
    obtain ⟨yE,hyE⟩:∃ y,y=wq.heap.size:=⟨_,rfl⟩;have hyBE:w8'.heap.size≤yE:=by have:=HW.o.size;omega
    (try have hne:yE≠yL:=by omega);(try replace kL0:=kL0.nz hq);(try replace OI:=ax (OI.o.bz hq));rw[←hyE] at kE hlz ⊢;have OI:aJ (IntsO (wq.alloc (.cells #[] tI)) w8'.heap.size (.slice (some ⟨yE,0,none⟩) 0 0) []):=ax ⟨own_ofBlk kE hyBE,by simp[Lim]⟩;clear kE;replace HW:=HX;clear HX hq hyE;generalize wq.alloc (.cells #[] tI)=wq at *;refine rdc 11 rfl fun K hK=>?_;refine stepIL2g (base:=w8'.heap.size) (xs:=[]) (ys:=ks) rfl _ _ rfl rfl OI.o rfl (HK.o.bz HW.o) (by simp<;>omega) HW.o.size ?_;intro KC kc2 wq2 oN hg hq;have HX:=ax (HW.o.trans hq);replace kL0:=kL0.apart hg (fun e=>by injection e with e;exact hne e.symm);rw[List.nil_append] at oN ⊢;replace OI:=ax oN;replace HW:=HX;clear HX oN hg hq;refine hK.out _ _ ⟨(k2.nz HW.o).cell,(k1.nz HW.o).cell,(kS.nz HW.o).cell⟩ ?_;clear hHeld hK K;intro hHeld;(try simp only[zz]);generalize wq2=wq at *;refine rdc 17 rfl fun K hK=>?_;refine stepIL2g (base:=w8'.heap.size) (xs:=ks) (ys:=[x.a,x.b]) rfl _ _ rfl rfl OI.o rfl (IntsV.two kL0) (by simp<;>omega) HW.o.size ?_;intro KC kc2 wq2 oN hg hq;have HX:=ax (HW.o.trans hq);replace OI:=ax oN;replace HW:=HX;clear HX oN hg hq;refine hK.out _ _ ⟨(k2.nz HW.o).cell,(k1.nz HW.o).cell,(kS.nz HW.o).cell⟩ ?_;clear hHeld hK K;intro hHeld;(try simp only[zz]);generalize wq2=wq at *;have hkk:(ks++[x.a,x.b]).length≤4:=by simp;omega
    generalize ks++[x.a,x.b]=kk at *;refine rdc 18 rfl fun K hK=>?_;(try simp only[zz]);(go_simp;refine (c_slUsed _ b KC kc2 kk _ ((HVb.o.bz HW.o).V) OI.o.readsI.2 (by omega)).mono ?_;rintro e w9 ⟨r9,rfl,o9,hq⟩;obtain ⟨U,u,rfl,hU⟩:=o9.reads;clear o9;generalize atermsL b++kk=us at HSM hU ⊢;have HU:=ax hU;have HX:=ax (bgo HW.o hq);clear hq);refine hK.out _ _ (⟨(k2.nz HX.o).cell,(k1.nz HX.o).cell,(kS.nz HX.o).cell⟩) ?_;clear hHeld hK K;intro hHeld;refine rdc 19 rfl fun K hK=>?_;(try simp only[zz]);(go_simp;refine (c_slSome _ s2 D2 us A9 c9 U u _ (HO7.o.bz HX.o) HPV.o hDl2 (fun q hq=>by obtain ⟨b',o,P,p,Q,q',e,lb,g0,g1,hC⟩:=(O9.o.bz HX.o).atC hq;exact ⟨b',o,P,p,Q,q',e,lb,g0,g1,hC.V.mono0 (Nat.le_refl _)⟩) HU.o).mono ?_;rintro e w10 ⟨rfl,hq⟩;rw[HSM.o];have HY:=ax (bgo HX.o hq);clear hq);refine hK.out _ _ (⟨(k2.nz HY.o).cell,(k1.nz HY.o).cell,(kS.nz HY.o).cell⟩) ?_;clear hHeld hK K;intro hHeld;(try simp only[zz]);refine tk2 20 rfl hHeld (h:=tk2 21 rfl hHeld (h:=tk2 22 rfl hHeld (h:=?_)));(try simp only[zz]);refine dn1 ?_;have hBw:=bgo HB.o HY.o;(go_wp2_with fail);go_ret;exact ⟨rfl,hBw⟩
end
end Go.Proofs.YtgdfdmjnadnlnaaGreat
