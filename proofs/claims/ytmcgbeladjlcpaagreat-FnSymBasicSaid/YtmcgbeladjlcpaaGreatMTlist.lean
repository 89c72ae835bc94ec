/- Tidying: plain functions. No program. -/
import Derived.Test.YtmcgbeladjlcpaaGreatMSte
import Derived.BigQuiet
import Derived.Deep.RegionHeld3
import Derived.Deep.QuietTactic
set_option linter.unusedSimpArgs false
set_option linter.unusedVariables false
set_option maxRecDepth 100000
set_option maxHeartbeats 25600000
namespace Go.Proofs.YtmcgbeladjlcpaaGreat
section
open Go Go.RowKit
def swp (x y t:Int):Int:=if t=x then y else t
def Fct.sub (x y:Int) (f:Fct):Fct:=⟨f.eq,swp x y f.a,swp x y f.b⟩
def Atm.sub (x y:Int) (f:Atm):Atm:=⟨f.kind,swp x y f.a,swp x y f.b⟩
def substA (x y:Int) (a:Asn):Asn:=⟨a.facts.map (Fct.sub x y),a.atoms.map (Atm.sub x y)⟩
def upto {α:Type} (f:α→α) (k:Nat) (L:List α):List α:=(L.map f).take k++L.drop k
theorem upto_length {α:Type} (f:α→α) (k:Nat) (L:List α):(upto f k L).length=L.length:=by simp[upto];omega
theorem upto_zero {α:Type} (f:α→α) (L:List α):upto f 0 L=L:=by simp[upto]
theorem upto_full {α:Type} (f:α→α) (L:List α):upto f L.length L=L.map f:=by simp[upto,List.take_of_length_le]
theorem upto_get {α:Type} (f:α→α) (k:Nat) (L:List α) (h:k<L.length):(upto f k L)[k]'(by rw[upto_length];exact h)=L[k]:=by
 have:(upto f k L)[k]? = some L[k]:=by
  rw[upto,List.getElem?_append_right (by simp;omega)]
  simp[show min k L.length=k from by omega,List.getElem?_eq_getElem h]
 rw[List.getElem?_eq_getElem (by rw[upto_length];exact h)] at this
 exact Option.some.inj this
theorem upto_set {α:Type} (f:α→α) (k:Nat) (L:List α) (h:k<L.length):(upto f k L).set k (f L[k])=upto f (k+1) L:=by
 apply List.ext_getElem?
 intro j
 simp only[upto,List.getElem?_set,List.getElem?_append,List.getElem?_take,List.getElem?_map,List.getElem?_drop,List.length_append,List.length_take,List.length_map,List.length_drop]
 have e1:min k L.length=k:=by omega
 have e2:min (k+1) L.length=k+1:=by omega
 rw[e1,e2]
 by_cases hj:k=j
 ·subst hj
  rw[if_pos rfl,if_pos (by omega),if_pos (by omega),if_pos (by omega),List.getElem?_eq_getElem h];rfl
 ·rw[if_neg hj]
  by_cases h1:j<k
  ·rw[if_pos h1,if_pos h1,if_pos (by omega),if_pos (by omega)]
  ·rw[if_neg h1,if_neg (by omega),show k+(j - k)=j from by omega,show k+1+(j - (k+1))=j from by omega]
def logB (t:Int):Bool:=decide (4<t∧t≤8)
def free (K:Nat) (t:Int):Bool:=logB t && !K.testBit t.toNat
def subOf (K:Nat) (f:Fct):Option (Int×Int):=
 if f.eq && !(f.a == f.b) then (if free K f.a then some (f.a,f.b) else if free K f.b then some (f.b,f.a) else none) else none
def subStep (K:Nat) (fs:List Fct):Option (Int×Int):=fs.findSome? (subOf K)
theorem subOf_spec {K:Nat} {f:Fct} {x t:Int} (h:subOf K f=some (x,t)):free K x=true∧x≠t∧((x=f.a∧t=f.b)∨(x=f.b∧t=f.a)):=by
 unfold subOf at h
 split at h
 ·rename_i hc
  simp at hc
  split at h
  ·rename_i hf;simp at h;obtain ⟨rfl,rfl⟩:=h;exact ⟨hf,hc.2,Or.inl ⟨rfl,rfl⟩⟩
  ·split at h
   ·rename_i hf;simp at h;obtain ⟨rfl,rfl⟩:=h;exact ⟨hf,fun e=>hc.2 e.symm,Or.inr ⟨rfl,rfl⟩⟩
   ·cases h
 ·cases h
def left (K:Nat) (a:Asn):List Nat:=(List.range 9).filter fun n=>free K (n:Int)&&decide ((n:Int)∈termsL a)
theorem termsL_facts {a:Asn} {f:Fct} (h:f∈a.facts):f.a∈termsL a∧f.b∈termsL a:=by
 simp only[termsL,List.mem_append,List.mem_flatMap]
 exact ⟨Or.inl ⟨f,h,by simp[factT]⟩,Or.inl ⟨f,h,by simp[factT]⟩⟩
theorem termsL_subst {a:Asn} {x y n:Int} (h:n∈termsL (substA x y a)):(n∈termsL a∧n≠x)∨(n=y∧x∈termsL a):=by
 simp only[termsL,substA,List.mem_append,List.mem_flatMap,List.mem_map] at h ⊢
 rcases h with ⟨g,⟨f,hf,rfl⟩,hn⟩|⟨g,⟨f,hf,rfl⟩,hn⟩
 ·simp only[factT,Fct.sub,swp,List.mem_cons,List.not_mem_nil,or_false] at hn
  rcases hn with hn|hn<;>split at hn
  ·rename_i e;exact Or.inr ⟨hn,Or.inl ⟨f,hf,by simp[factT,e]⟩⟩
  ·rename_i e;exact Or.inl ⟨Or.inl ⟨f,hf,by simp[factT,hn]⟩,fun h=>e (by omega)⟩
  ·rename_i e;exact Or.inr ⟨hn,Or.inl ⟨f,hf,by simp[factT,e]⟩⟩
  ·rename_i e;exact Or.inl ⟨Or.inl ⟨f,hf,by simp[factT,hn]⟩,fun h=>e (by omega)⟩
 ·simp only[atomT,Atm.sub,swp,List.mem_cons,List.not_mem_nil,or_false] at hn
  rcases hn with hn|hn<;>split at hn
  ·rename_i e;exact Or.inr ⟨hn,Or.inr ⟨f,hf,by simp[atomT,e]⟩⟩
  ·rename_i e;exact Or.inl ⟨Or.inr ⟨f,hf,by simp[atomT,hn]⟩,fun h=>e (by omega)⟩
  ·rename_i e;exact Or.inr ⟨hn,Or.inr ⟨f,hf,by simp[atomT,e]⟩⟩
  ·rename_i e;exact Or.inl ⟨Or.inr ⟨f,hf,by simp[atomT,hn]⟩,fun h=>e (by omega)⟩
theorem filter_lt {α:Type} (p q:α→Bool) (x:α):∀ (l:List α),x∈l→(∀ y∈l,p y=true→q y=true)→p x=false→q x=true→(l.filter p).length<(l.filter q).length:=by
 intro l
 induction l with
 | nil=>intro h;cases h
 | cons y l ih=>
  intro h hpq hp hq
  have hle:(l.filter p).length≤(l.filter q).length:=by
   clear ih
   have:∀ l:List α,(∀ y∈l,p y=true→q y=true)→(l.filter p).length≤(l.filter q).length:=by
    intro l;induction l with
    | nil=>intro _;exact Nat.le_refl _
    | cons z l ih=>
     intro h
     have:=ih fun y hy=>h y (List.mem_cons_of_mem _ hy)
     have hz:=h z List.mem_cons_self
     rw[List.filter_cons,List.filter_cons]
     cases hp:p z<;>cases hq:q z<;>simp_all<;>omega
   exact this l fun y hy=>hpq y (List.mem_cons_of_mem _ hy)
  rw[List.filter_cons,List.filter_cons]
  rcases List.mem_cons.1 h with rfl|h
  ·simp[hp,hq];omega
  ·have h1:=ih h (fun y hy=>hpq y (List.mem_cons_of_mem _ hy)) hp hq
   have hy:=hpq y List.mem_cons_self
   cases hp':p y<;>cases hq':q y<;>simp_all<;>omega
theorem left_lt {K:Nat} {a:Asn} {x t:Int} (h:subStep K a.facts=some (x,t)):(left K (substA x t a)).length<(left K a).length:=by
 obtain ⟨f,hf,hs⟩:=List.exists_of_findSome?_eq_some h
 obtain ⟨h1,h2,h3⟩:=subOf_spec hs
 have hl:4<x∧x≤8:=by
  unfold free at h1;simp only[Bool.and_eq_true] at h1;simpa [logB] using h1.1
 obtain ⟨m,rfl⟩:=Int.eq_ofNat_of_zero_le (show 0≤x by omega)
 have hm:=termsL_facts hf
 have hx:(m:Int)∈termsL a:=by
  rcases h3 with ⟨e,_⟩|⟨e,_⟩
  ·rw[e];exact hm.1
  ·rw[e];exact hm.2
 have ht:t∈termsL a:=by
  rcases h3 with ⟨_,e⟩|⟨_,e⟩
  ·rw[e];exact hm.2
  ·rw[e];exact hm.1
 refine filter_lt _ _ m _ (by simp;omega) ?_ ?_ ?_
 ·intro y hy hp
  simp only[Bool.and_eq_true,decide_eq_true_eq] at hp ⊢
  refine ⟨hp.1,?_⟩
  rcases termsL_subst hp.2 with ⟨h,_⟩|⟨h,_⟩
  ·exact h
  ·rw[h];exact ht
 ·simp only[Bool.and_eq_false_iff,decide_eq_false_iff_not]
  refine Or.inr fun hc=>?_
  rcases termsL_subst hc with ⟨_,h⟩|⟨h,_⟩
  ·exact h rfl
  ·exact h2 h
 ·simp only[Bool.and_eq_true,decide_eq_true_eq];exact ⟨h1,hx⟩
def subAll (K:Nat) (a:Asn):Asn:=
 match _h:subStep K a.facts with
 | none=>a
 | some (x,t)=>subAll K (substA x t a)
termination_by (left K a).length
decreasing_by exact left_lt _h
theorem subAll_none {K:Nat} {a:Asn} (h:subStep K a.facts=none):subAll K a=a:=by
 rw[subAll];split
 ·rfl
 ·rename_i e;rw[h] at e;cases e
theorem subAll_some {K:Nat} {a:Asn} {x t:Int} (h:subStep K a.facts=some (x,t)):subAll K a=subAll K (substA x t a):=by
 rw[subAll];split
 ·rename_i e;rw[h] at e;cases e
 ·rename_i e;rw[h] at e;simp at e;obtain ⟨rfl,rfl⟩:=e;rfl
def okTerm (K:Nat) (t:Int):Bool:=decide (t≤4) || K.testBit t.toNat
def okFact (K:Nat) (f:Fct):Bool:=okTerm K f.a&&okTerm K f.b
def nfF (f:Fct):Fct:=if f.b<f.a then ⟨f.eq,f.b,f.a⟩ else f
def nfStep (acc:List Fct) (f:Fct):List Fct:=if f.eq&&(f.a == f.b) then acc else if acc.contains (nfF f) then acc else acc++[nfF f]
def nfA (x:Atm):Bool:=x.kind != 2 || x.a != x.b
def normalF (a:Asn):Asn:=⟨a.facts.foldl nfStep [],a.atoms.filter nfA⟩
def tidyF (K:Nat) (a:Asn):Asn:=
 let b:=subAll K a
 normalF ⟨b.facts.filter (okFact (K|||tset (termsL ⟨[],b.atoms⟩))),b.atoms⟩
theorem sub_valid {x y:Int} {a:Asn} (h:a.valid=true) (hy:isTermB y=true):(substA x y a).valid=true:=by
 simp only[Asn.valid,factsValid,substA,Bool.and_eq_true,decide_eq_true_eq,List.length_map,List.all_map] at h ⊢
 have hs:∀ t,isTermB t=true→isTermB (swp x y t)=true:=fun t ht=>by
  unfold swp
  split
  ·exact hy
  ·exact ht
 refine ⟨⟨h.1.1,?_⟩,h.2.1,?_⟩
 ·have:=h.1.2
  rw[List.all_eq_true] at this ⊢
  intro f hf
  have:=this f hf
  simp only[Fct.valid,Bool.and_eq_true,Function.comp,Fct.sub] at this ⊢
  exact ⟨hs _ this.1,hs _ this.2⟩
 ·have:=h.2.2
  rw[List.all_eq_true] at this ⊢
  intro f hf
  have:=this f hf
  simp only[Atm.valid,Bool.and_eq_true,Function.comp,Atm.sub] at this ⊢
  exact ⟨⟨this.1.1,hs _ this.1.2⟩,hs _ this.2⟩
def logS (S:Nat):Nat:=S >>> 5 <<< 5
end

/- append of a list of ints, told where the new row lies. -/
section
open Go Go.RowKit Go.Proofs
theorem wp_appX {P:Program} {o:Oper} {a:Act} {K:Act→World→Prop} {Q:Exit→Act→World→Prop} {w:World} (s x:Operand) (t:TypeId)
  (ho:o.op=.call { callee:=.builtin .append,args:=#[s,x],argTypes:=#[t,t] })
  {base:Nat} {e:TypeId} {z:Value} {size bytes:Nat} (ht:P.underlying t=some (.slice e)) (hinfo:(P.info? e).map (fun i=>(i.zero,i.size,i.bytes))=some (some z,size,bytes)) (hzs:z.cells.size=size) (hsz:0<size) (hby:bytes≤200)
  {v:Value} {n:Nat} {xs:List Value} (hs:a.eval s=v) (hown:w.ownsRow base e size v n xs)
  {ad:Addr} {m c:Nat} {news:List Value} (hx:a.eval x=.slice (some ad) m c) (hl:news.length=m * size) (hnews:∀ j u,news[j]? = some u→w.cell? (ad.add j)=some u) (h1:∀ u∈news,u.oneCell'=true)
  (hn:n+m≤1049600) (hb:base≤w.heap.size)
  (h:∀ v' w',w'.ownsRow base e size v' (n+m) (xs++news)→w.grownBy w' v.ownBlock→Below base w w'→(v'.ownBlock=v.ownBlock∨v'.ownBlock=some w.heap.size)→K (a.put o.dst v') w'):Oper.wp P o a w K Q:=by
 obtain ⟨i,hi',hz,hsize,hbytes⟩:=info_parts hinfo
 obtain ⟨v',w',hr,h2,h3,h4,h5⟩:=run_append_own_at (P:=P) w base t o.type e i z size bytes ht hi' hz hsize hbytes hzs hsz v n xs hown ad m c news hl hnews h1 (by unfold maxLen;omega) (Nat.le_trans (Nat.mul_le_mul hn hby) (by omega)) hb
 unfold Oper.wp execOp
 simp only[ho,resolve,invoke,builtin,Sem.run_bind,Sem.run_pure,Result.andThen_ok,List.map_toArray,List.map_cons,List.map_nil,hs,hx,hr]
 exact h v' w' h2 h3 (own_row_below hown h3 hb) h5
section
variable {ops:Array Oper} {rest:List Oper} {o:Oper} {a:Act} {K:Act→World→Prop} {Q:Exit→Act→World→Prop} {E:Prop} {w:World} {base:Nat} {v:Value}
end
theorem wp_appLX {P:Program} {o:Oper} {a:Act} {K:Act→World→Prop} {Q:Exit→Act→World→Prop} {w:World} (s x:Operand) (t:TypeId)
  (ho:o.op=.call { callee:=.builtin .append,args:=#[s,x],argTypes:=#[t,t] })
  {base:Nat} {e:TypeId} {z:Value} {size bytes:Nat} (ht:P.underlying t=some (.slice e)) (hinfo:(P.info? e).map (fun i=>(i.zero,i.size,i.bytes))=some (some z,size,bytes)) (hzs:z.cells.size=size) (hsz:0<size) (hby:bytes≤200)
  {v:Value} {n:Nat} {xs:List Value} (hs:a.eval s=v) (hown:w.ownsRow base e size v n xs)
  {A:Option Addr} {m c lo hi:Nat} {news:List Value} (hx:a.eval x=.slice A m c) (hR:Rw w lo hi size A m news) (h1:∀ u∈news,u.oneCell'=true)
  (hn:n+m≤1049600) (hb:base≤w.heap.size)
  (h:∀ v' w',w'.ownsRow base e size v' (n+m) (xs++news)→w.grownBy w' v.ownBlock→Below base w w'→(v'.ownBlock=v.ownBlock∨v'.ownBlock=some w.heap.size)→K (a.put o.dst v') w'):Oper.wp P o a w K Q:=by
 obtain ⟨i,hi',hz,hsize,hbytes⟩:=info_parts hinfo
 have key:∀ (ad:Addr),A=some ad→(∀ j u,news[j]? = some u→w.cell? (ad.add j)=some u)→Oper.wp P o a w K Q:=by
  rintro ad rfl hnews
  obtain ⟨v',w',hr,h2,h3,h4,h5⟩:=run_append_own_at (P:=P) w base t o.type e i z size bytes ht hi' hz hsize hbytes hzs hsz v n xs hown ad m c news hR.1 hnews h1 (by unfold maxLen;omega) (Nat.le_trans (Nat.mul_le_mul hn hby) (by omega)) hb
  unfold Oper.wp execOp
  simp only[ho,resolve,invoke,builtin,Sem.run_bind,Sem.run_pure,Result.andThen_ok,List.map_toArray,List.map_cons,List.map_nil,hs,hx,hr]
  exact h v' w' h2 h3 (own_row_below hown h3 hb) h5
 by_cases hm:m=0
 ·subst hm
  have hnil:news=[]:=List.eq_nil_of_length_eq_zero (by simpa using hR.1)
  subst hnil
  cases A with
  | some ad=>exact key ad rfl (by simp)
  | none=>
   have hrun:=run_append_none (P:=P) t o.type i ht hi' v n c xs hown
   unfold Oper.wp execOp
   simp only[ho,resolve,invoke,builtin,Sem.run_bind,Sem.run_pure,Result.andThen_ok,List.map_toArray,List.map_cons,List.map_nil,hs,hx,hrun]
   exact h v w (by simpa using hown) (World.grownBy.refl _ _) (Below.refl _ _) (Or.inl rfl)
 ·have h0:0<m * size:=Nat.mul_pos (by omega) hsz
  obtain ⟨b,off,rfl,_,_,hc⟩:=hR.2 h0
  exact key _ rfl fun j u hu=>by rw[show (⟨b,off,none⟩:Addr).add j=⟨b,off+j,none⟩ from by unfold Addr.add;split<;>simp_all];exact hc j u hu
theorem IntsO.grown {w w':World} {b:Nat} {v v':Value} {xs:List Int} (h:IntsO w b v' xs) (hg:w.grownBy w' v.ownBlock) (hne:∀ g,v'.ownBlock=some g→v.ownBlock≠some g):IntsO w' b v' xs:=by
 obtain ⟨⟨h1,h2⟩,h3⟩:=h
 refine ⟨⟨h1,?_⟩,h3⟩
 rcases h2 with h2|⟨k,cap,cur,hv,hk,hh,r⟩
 ·exact Or.inl h2
 ·exact Or.inr ⟨k,cap,cur,hv,hk,Blk.grown hh hg (fun e=>hne k (by rw[hv];rfl) e.symm),r⟩
end

/- Contracts: the list of a set of terms. -/
section
open Go Go.RowKit Go.Proofs
def tlistL (S k:Nat):List Int:=((List.range k).filter fun n=>S.testBit n).map fun n:Nat=>(n:Int)
theorem tlistL_succ (S k:Nat):tlistL S (k+1)=tlistL S k++if S.testBit k then [(k:Int)] else []:=by
 unfold tlistL
 rw[List.range_succ,List.filter_append,List.map_append]
 cases h:S.testBit k<;>simp[h]
theorem tlistL_length (S k:Nat):(tlistL S k).length≤k:=by
 unfold tlistL
 rw[List.length_map]
 exact Nat.le_trans (List.length_filter_le _ _) (by simp)
theorem c_impl_termList (S:Nat) (w:World) (hS:S<512):Calls Tryz.prog 83 #[.int .u16 S] w fun e w'=>∃ r,e=.returned r∧IntsO w' w.heap.size r (tlistL S 9)∧Below w.heap.size w w':=by
 have HS:=Lib.hid hS
 clear hS
 go_enter Tryz.func83,Tryz.ntmps83
 go_wp2
 go_loopw [3,4] (fun o i wr=>∃ (k:Nat) (A:Option Addr) (c:Nat),k≤9∧i=.int .i64 k∧o=.slice A (tlistL S k).length c∧IntsO wr w.heap.size (.slice A (tlistL S k).length c) (tlistL S k)∧Below w.heap.size w wr) (fun _ i _=>9 - (intOf i).toNat)
 case atStart=>exact ⟨0,none,0,by omega,rfl,rfl,IntsO.nil _ _,bel⟩
 case round=>
  obtain ⟨k,A,c,hk,rfl,rfl,hO,hB⟩:=hrel
  have hlen:=tlistL_length S k
  by_cases h8:k<9
  ·have hv:isTermB (k:Int)=true:=isTermB_iff.2 (by omega)
   have HC:=Lib.hid (tlistL_succ S k)
   have hki:(k:Int)≤8:=by omega
   cases ht:S.testBit k
   ·go_wp2_with fail
    refine (c_impl_tHas S _ _ HS.out).mono ?_
    rintro e w' ⟨rfl,rfl⟩
    rw[hv,Int.toNat_natCast,ht]
    go_wp2_with fail
    go_round
    case rel=>
     have e:tlistL S (k+1)=tlistL S k:=by rw[HC.out,ht];simp
     exact ⟨k+1,A,c,by omega,by go_num,by rw[e],by rw[e];exact hO,hB⟩
    case measure=>simp[intOf];omega
   ·go_wp2_with fail
    refine (c_impl_tHas S _ _ HS.out).mono ?_
    rintro e w' ⟨rfl,rfl⟩
    rw[hv,Int.toNat_natCast,ht]
    go_wp2_with (at_builtin;refine appI rfl _ _ rfl (v:=.slice A (tlistL S k).length c) rfl (hO.abv (Abv.alloc (Abv.refl 0 _) _) (Nat.zero_le _)) wr.heap.size _ rfl (cell_box wr _ _) (by omega) (by simp;have:=hB.size;omega) ?_;intro g' c' w2 hO2 hg2 hB3)
    go_round
    case rel=>
     have e:tlistL S (k+1)=tlistL S k++[(k:Int)]:=by rw[HC.out,ht];simp
     exact ⟨k+1,some ⟨g',0,none⟩,c',by omega,by go_num,by rw[e,List.length_append];rfl,by rw[e];simpa using hO2,Below.trans (bbox hB _) hB3⟩
    case measure=>simp[intOf];omega
  ·obtain rfl:k=9:=by omega
   go_wp2
   go_ret
   exact ⟨_,rfl,hO,hB⟩
end

end Go.Proofs.YtmcgbeladjlcpaaGreat
