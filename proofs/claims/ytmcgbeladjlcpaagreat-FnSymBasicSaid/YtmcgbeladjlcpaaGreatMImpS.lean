/- Symbolic execution of a basic command; plain. -/
import Derived.Test.YtmcgbeladjlcpaaGreatMExpE
import Derived.Test.YtmcgbeladjlcpaaGreatMRunQ
import Derived.Deep.DeepCutAuto
set_option linter.unusedSimpArgs false
set_option linter.unusedVariables false
set_option maxRecDepth 100000
set_option maxHeartbeats 25600000
namespace Go.Proofs.YtmcgbeladjlcpaaGreat
section
open Go Go.RowKit Go.Proofs
def forgetF (a:Asn) (x:Int) (K:Nat):Option (Asn×Int):=if (tset (termsL a)).testBit x.toNat then (newT (tset (termsL a)|||K)).map fun n=>(substA x (n:Int) a,(n:Int)) else some (a,x)
def setX (a:Asn) (x p t:Int):Asn:=⟨a.facts++[⟨true,x,swp x p t⟩],a.atoms⟩
def newX (a:Asn) (x:Int):Asn:=⟨a.facts,⟨1,x,0⟩ :: a.atoms⟩
def okX (a:Asn):Option Asn:=if a.valid then some a else none
def assignF (a:Asn) (x t:Int) (K:Nat):Option Asn:=(forgetF a x K).bind fun p=>okX (setX p.1 x p.2 t)
def cellNF (a:Asn) (x:Int) (K:Nat):Option Asn:=(forgetF a x K).bind fun p=>okX (newX p.1 x)
def head0 (a:Asn):Atm:=(a.atoms[0]?).getD default
def storeX (a:Asn) (B:Int):Asn:=⟨a.facts,a.atoms.set 0 ⟨(head0 a).kind,(head0 a).a,B⟩⟩
def freeX (a:Asn):Asn:=⟨a.facts,withoutL a.atoms 0⟩
def accF (k A B:Int) (a:Asn) (K:Nat):Option Asn:=if k=2 then assignF a A (head0 a).b K else if k=3 then some (storeX a B) else some (freeX a)
def mapF (f:Asn→Option Asn):List Asn→Option (List Asn)
 | []=>some []
 | x :: xs=>(f x).bind fun y=>(mapF f xs).map (y :: ·)
theorem mapF_none {f:Asn→Option Asn}:∀ {xs:List Asn} {k:Nat} (hk:k<xs.length),f xs[k]=none→mapF f xs=none
 | x :: xs,0,_,h=>by unfold mapF;rw[show f x=none from h];rfl
 | x :: xs,k+1,hk,h=>by
  unfold mapF
  rw[mapF_none (xs:=xs) (k:=k) (by simpa using hk) h]
  cases f x<;>rfl
theorem mapF_some {f:Asn→Option Asn}:∀ {xs ys:List Asn},ys.length=xs.length→(∀ (k:Nat) (h:k<xs.length) (h':k<ys.length),f xs[k]=some ys[k])→mapF f xs=some ys
 | [],[],_,_=>rfl
 | [],_ :: _,h,_=>by simp at h
 | _ :: _,[],h,_=>by simp at h
 | x :: xs,y :: ys,hl,h=>by
  unfold mapF
  rw[show f x=some y from h 0 (by simp) (by simp),mapF_some (xs:=xs) (ys:=ys) (by simpa using hl) fun k h1 h2=>h (k+1) (by simpa using h1) (by simpa using h2)]
  rfl
theorem mapF_spec {f:Asn→Option Asn}:∀ {xs ys:List Asn},mapF f xs=some ys→ys.length=xs.length∧∀ (k:Nat) (h:k<xs.length) (h':k<ys.length),f xs[k]=some ys[k]
 | [],ys,h=>by obtain rfl:=Option.some.inj h;exact ⟨rfl,fun k h=>absurd h (by simp)⟩
 | x :: xs,ys,h=>by
  unfold mapF at h
  rw[Option.bind_eq_some_iff] at h
  obtain ⟨y,h1,h2⟩:=h
  rw[Option.map_eq_some_iff] at h2
  obtain ⟨zs,h3,rfl⟩:=h2
  obtain ⟨g1,g2⟩:=mapF_spec h3
  refine ⟨by simp[g1],fun k k1 k2=>?_⟩
  cases k with
  | zero=>exact h1
  | succ k=>exact g2 k (by simpa using k1) (by simpa using k2)
def symT (k A B:Int):Int:=if k=2 then B else A
def symB (a:Asn) (k A B:Int) (K:Nat):Option (List Asn):=
 if k=1 then (if A=B then some [a] else (assignF a A B K).map fun x=>[x])
 else if k=4 then (cellNF a A K).map fun x=>[x]
 else (exposeF 7 a (symT k A B) K).bind fun l=>mapF (fun x=>accF k A B x K) l
def keepK (K:Nat) (A B:Int):Nat:=tins (tins K A) B
def symR (a:Asn) (ok:Bool) (k A B:Int) (ks:List Int):Option (List Asn):=if a.valid&&ok then symB a k A B (keepK (tset ks) A B) else none
theorem okX_ok {a b:Asn} (h:okX a=some b):b.valid=true∧b=a:=by
 unfold okX at h
 split at h
 ·rename_i hv;obtain rfl:=Option.some.inj h;exact ⟨hv,rfl⟩
 ·cases h
theorem assignF_ok {a b:Asn} {x t:Int} {K:Nat} (h:assignF a x t K=some b):b.valid=true:=by
 unfold assignF at h
 obtain ⟨p,-,h⟩:=Option.bind_eq_some_iff.1 h
 exact (okX_ok h).1
theorem cellF_ok {a b:Asn} {x:Int} {K:Nat} (h:cellNF a x K=some b):b.valid=true:=by
 unfold cellNF at h
 obtain ⟨p,-,h⟩:=Option.bind_eq_some_iff.1 h
 exact (okX_ok h).1
theorem storeX_ok {a:Asn} (hv:a.valid=true) {B:Int} (hB:isTermB B=true):(storeX a B).valid=true:=by
 unfold storeX
 simp only[Asn.valid,Bool.and_eq_true,List.length_set] at hv ⊢
 refine ⟨hv.1,hv.2.1,List.all_eq_true.2 fun y hy=>?_⟩
 cases e:a.atoms with
 | nil=>rw[e] at hy;simp at hy
 | cons z zs=>
  have hz:=List.all_eq_true.1 hv.2.2 z (by rw[e];simp)
  have e0:head0 a=z:=by unfold head0;rw[e];rfl
  rcases List.mem_or_eq_of_mem_set hy with hy|rfl
  ·exact List.all_eq_true.1 hv.2.2 y hy
  ·simp only[Atm.valid,e0,hB] at hz ⊢
   simp at hz ⊢
   exact hz.1
theorem freeX_ok {a:Asn} (hv:a.valid=true):(freeX a).valid=true:=by
 unfold freeX withoutL
 simp only[Asn.valid,Bool.and_eq_true,decide_eq_true_eq,List.take_zero,List.nil_append,List.length_drop] at hv ⊢
 exact ⟨hv.1,by omega,List.all_eq_true.2 fun y hy=>List.all_eq_true.1 hv.2.2 y (List.mem_of_mem_drop hy)⟩
theorem accF_ok {k A B:Int} {a b:Asn} {K:Nat} (hv:a.valid=true) (hB:k=3→isTermB B=true) (h:accF k A B a K=some b):b.valid=true:=by
 unfold accF at h
 split at h
 ·exact assignF_ok h
 ·split at h
  ·rename_i h3
   obtain rfl:=Option.some.inj h
   exact storeX_ok hv (hB h3)
  ·obtain rfl:=Option.some.inj h
   exact freeX_ok hv
theorem symB_ok {a:Asn} {k A B:Int} {K:Nat} {l:List Asn} (hv:a.valid=true) (hB:k=3→isTermB B=true) (h:symB a k A B K=some l):l.length≤128∧∀ b∈l,b.valid=true:=by
 unfold symB at h
 split at h
 ·split at h
  ·obtain rfl:=Option.some.inj h
   exact ⟨by simp,fun b hb=>by rw[List.mem_singleton.1 hb];exact hv⟩
  ·obtain ⟨x,hx,rfl⟩:=Option.map_eq_some_iff.1 h
   exact ⟨by simp,fun b hb=>by rw[List.mem_singleton.1 hb];exact assignF_ok hx⟩
 ·split at h
  ·obtain ⟨x,hx,rfl⟩:=Option.map_eq_some_iff.1 h
   exact ⟨by simp,fun b hb=>by rw[List.mem_singleton.1 hb];exact cellF_ok hx⟩
  ·obtain ⟨l0,h0,h⟩:=Option.bind_eq_some_iff.1 h
   obtain ⟨g1,g2⟩:=mapF_spec h
   have h1:=expose_ok h0
   refine ⟨by rw[g1];exact h1.1,fun b hb=>?_⟩
   obtain ⟨j,hj,rfl⟩:=List.mem_iff_getElem.1 hb
   exact accF_ok (h1.2 _ (List.getElem_mem (by omega))) hB (g2 j (by omega) hj)
theorem symR_ok {a:Asn} {ok:Bool} {k A B:Int} {ks:List Int} (hB:ok=true→k=3→isTermB B=true):((symR a ok k A B ks).getD []).length≤128∧totA ((symR a ok k A B ks).getD [])≤16777216:=by
 cases h:symR a ok k A B ks with
 | none=>simp[totA,totR,rowsA]
 | some l=>
  have h':(a.valid&&ok)=true∧symB a k A B (keepK (tset ks) A B)=some l:=by
   unfold symR at h
   split at h
   ·rename_i hc;exact ⟨hc,h⟩
   ·cases h
  rw[Bool.and_eq_true] at h'
  have h1:=symB_ok h'.1.1 (hB h'.1.2) h'.2
  have h2:l.length≤128:=h1.1
  refine ⟨h2,?_⟩
  have h3:=totA_le (n:=12) (m:=6) fun s hs=>valid_len (h1.2 s hs)
  simp only[Option.getD_some]
  omega
end

/- Symbolic execution: impl.forget. -/
section
open Go Go.RowKit Go.Proofs
attribute [local go_sem ↓] Go.wp_at_zero Go.wp_at_succ
abbrev tFg:Nat:=242
theorem forget_has {a:Asn} {x:Int} {K:Nat} (h:(tset (termsL a)).testBit x.toNat=false):forgetF a x K=some (a,x):=by unfold forgetF;rw[h];rfl
theorem forget_none {a:Asn} {x:Int} {K:Nat} (h:(tset (termsL a)).testBit x.toNat=true) (hn:newT (tset (termsL a)|||K)=none):forgetF a x K=none:=by unfold forgetF;rw[h,hn];rfl
theorem forget_some {a:Asn} {x:Int} {K n:Nat} (h:(tset (termsL a)).testBit x.toNat=true) (hn:newT (tset (termsL a)|||K)=some n):forgetF a x K=some (substA x (n:Int) a,(n:Int)):=by unfold forgetF;rw[h,hn];rfl
theorem AsnO.setT4 {w:World} {base:Nat} {v:Value} {a:Asn} (h:AsnO w base v a) {g:Nat} {cs:Array Value} (hk:Blk w g tFg cs) (u0 u1 u2 u3:Value):AsnO ((((w.setCell ⟨g,0,none⟩ u0).setCell ⟨g,1,none⟩ u1).setCell ⟨g,2,none⟩ u2).setCell ⟨g,3,none⟩ u3) base v a:=by
 obtain ⟨fv,av,e,p1,p2⟩:=h
 have k1:=hk.set_ 0 u0
 have k2:=k1.set_ 1 u1
 have k3:=k2.set_ 2 u2
 exact ⟨fv,av,e,(((p1.setT hk (by decide) _ _).setT k1 (by decide) _ _).setT k2 (by decide) _ _).setT k3 (by decide) _ _,(((p2.setT hk (by decide) _ _).setT k1 (by decide) _ _).setT k2 (by decide) _ _).setT k3 (by decide) _ _⟩
def FgR (w:World) (base:Nat) (x:Int) (o:Option (Asn×Int)) (e:Ending):Prop:=match o with
 | none=>e=.returned (.tuple #[.agg #[.slice none 0 0,.slice none 0 0,.int .i64 0,.int .i64 0],.bool false])
 | some (b,p)=>∃ F f G g,e=.returned (.tuple #[.agg #[.slice F b.facts.length f,.slice G b.atoms.length g,.int .i64 x,.int .i64 p],.bool true])∧AsnO w base (.agg #[.slice F b.facts.length f,.slice G b.atoms.length g]) b
theorem c_impl_forget {lo hi:Nat} (v:Value) (a:Asn) (x:Int) (K:Nat) (w:World) (h:AsnV w lo hi v a) (hK:K<512) (hx:isTermB x=true) :
  Calls Tryz.prog 210 #[v,.int .i64 x,.int .u16 K] w fun e w'=>FgR w' w.heap.size x (forgetF a x K) e∧Below w.heap.size w w':=by
 have hV:=Lib.hid h
 obtain ⟨A1,c1,A2,c2,rfl,-,-⟩:=h
 have HT:=Lib.hid (tset_lt (termsL a))
 go_enter Tryz.func210,Tryz.ntmps210
 have k0:Blk ((w.alloc (.cells #[.slice A1 a.facts.length c1,.slice A2 a.atoms.length c2] tAs)).alloc (.cells #[.slice none 0 0,.slice none 0 0,.int .i64 0,.int .i64 0] tFg)) w.heap.size tAs #[.slice A1 a.facts.length c1,.slice A2 a.atoms.length c2]:=blks
 have k6:Blk ((w.alloc (.cells #[.slice A1 a.facts.length c1,.slice A2 a.atoms.length c2] tAs)).alloc (.cells #[.slice none 0 0,.slice none 0 0,.int .i64 0,.int .i64 0] tFg)) (w.heap.size+1) tFg #[.slice none 0 0,.slice none 0 0,.int .i64 0,.int .i64 0]:=blks
 go_wp2_with fail
 refine (c_impl_termsIn _ a _ (hV.out.below bel)).mono ?_
 rintro e w1 ⟨rfl,hB1⟩
 have hB:=bgo (w:=w) bel hB1
 replace k0:=k0.next hB1
 replace k6:=k6.next hB1
 clear hB1
 go_wp2_with fail
 refine (c_impl_tHas _ x _ HT.out).mono ?_
 rintro e w2 ⟨rfl,rfl⟩
 rw[hx,Bool.true_and]
 have hz:=hB.size
 cases hb:(tset (termsL a)).testBit x.toNat
 ·have E:=Lib.hid (forget_has (K:=K) hb)
  clear hb
  (replace qk0:=k0.cell;replace rk0:=k0.frozen;replace lk0:=k0.lt)
  go_wp2_with fail
  refine (c_impl_copyAssertion _ a _ (hV.out.below bel)).mono ?_
  rintro e w3 ⟨r,rfl,oC,hB3⟩
  obtain ⟨F,f,G,g,rfl⟩:=oC.I.form
  have OC:=Lib.hid oC
  (replace hB:=bgo hB hB3;replace k6:=k6.next hB3)
  clear oC hB3 k0 qk0 rk0 lk0
  (replace qk6:=k6.cell;replace rk6:=k6.frozen;replace lk6:=k6.lt)
  go_wp2_with fail
  have z6:=k6.cell
  refine bodyPost_ret (v:=.tuple #[.agg #[.slice F a.facts.length f,.slice G a.atoms.length g,.int .i64 x,.int .i64 x],.bool true]) (by simp[results,Tryz.results210,go_sem,z6]) rfl ⟨?_,?_⟩
  ·rw[E.out]
   refine ⟨F,f,G,g,rfl,?_⟩
   exact (AsnO.setT4 OC.out k6 _ _ _ _).lower (by omega)
  ·exact bel
 ·have HBT:=Lib.hid hb
  clear hb
  (replace qk0:=k0.cell;replace rk0:=k0.frozen;replace lk0:=k0.lt)
  go_wp2_with fail
  refine (c_impl_newVariable _ a K _ (hV.out.below bel) hK).mono ?_
  rintro e w3 ⟨rfl,hB3⟩
  (replace hB:=bgo hB hB3;replace k0:=k0.next hB3;replace qk0:=k0.cell;replace rk0:=k0.frozen;replace lk0:=k0.lt;replace k6:=k6.next hB3)
  clear hB3
  have hz3:=hB.size
  cases hn:newT (tset (termsL a)|||K) with
  | none=>
   have E:=Lib.hid (forget_none HBT.out hn)
   clear hn
   (replace qk6:=k6.cell;replace rk6:=k6.frozen;replace lk6:=k6.lt)
   go_wp2_with fail
   refine bodyPost_ret (v:=.tuple #[.agg #[.slice none 0 0,.slice none 0 0,.int .i64 0,.int .i64 0],.bool false]) (by simp[results,Tryz.results210,go_sem,qk6]) rfl ⟨?_,?_⟩
   ·rw[E.out];rfl
   ·exact bel
  | some n=>
   have E:=Lib.hid (forget_some HBT.out hn)
   have EN:unusedI (tset (termsL a)|||K)=(n:Int):=by unfold unusedI;rw[hn]
   rw[EN]
   clear hn EN
   go_wp2_with fail
   refine (c_impl_replaceIn _ a x (n:Int) _ (hV.out.below bel)).mono ?_
   rintro e w4 ⟨r,rfl,oC,hB4⟩
   obtain ⟨F,f,G,g,rfl⟩:=oC.I.form
   have OC:=Lib.hid oC
   (replace hB:=bgo hB hB4;replace k6:=k6.next hB4)
   clear oC hB4 k0 qk0 rk0 lk0
   (replace qk6:=k6.cell;replace rk6:=k6.frozen;replace lk6:=k6.lt)
   go_wp2_with fail
   refine bodyPost_ret (v:=.tuple #[.agg #[.slice F (substA x (n:Int) a).facts.length f,.slice G (substA x (n:Int) a).atoms.length g,.int .i64 x,.int .i64 n],.bool true]) (by simp[results,Tryz.results210,go_sem,qk6]) rfl ⟨?_,?_⟩
   ·rw[E.out]
    refine ⟨F,f,G,g,rfl,?_⟩
    exact (AsnO.setT4 OC.out k6 _ _ _ _).lower (by omega)
   ·exact bel
end

/- Exposing cells: spec.l6Without, functional. -/
section
open Go Go.RowKit Go.Proofs
attribute [local go_sem ↓] Go.wp_at_zero Go.wp_at_succ
def wo (xs:List Atm) (i k:Int):Nat→List Atm
 | 0=>[]
 | j+1=>if (j:Int)=i∨(j:Int)=k then wo xs i k j else wo xs i k j++(xs[j]?).toList
theorem wo_skip {xs:List Atm} {i k:Int} {j:Nat} (h:(j:Int)=i∨(j:Int)=k):wo xs i k (j+1)=wo xs i k j:=by rw[wo,if_pos h]
theorem wo_take {xs:List Atm} {i k:Int} {j:Nat} (hj:j<xs.length) (h1:¬(j:Int)=i) (h2:¬(j:Int)=k):wo xs i k (j+1)=wo xs i k j++[xs[j]]:=by
 rw[wo,if_neg (by omega),List.getElem?_eq_getElem hj];rfl
theorem wo_one {xs:List Atm} {i:Nat} (hi:i<xs.length):wo xs i i xs.length=withoutL xs i:=by
 have key:∀ j,j≤xs.length→wo xs i i j=if j≤i then xs.take j else xs.take i++(xs.drop (i+1)).take (j - (i+1)):=by
  intro j
  induction j with
  | zero=>intro _;simp[wo]
  | succ j ih=>
   intro hj
   have h:=ih (by omega)
   by_cases e:j=i
   ·subst e
    rw[wo_skip (Or.inl rfl),h,if_pos (Nat.le_refl _),if_neg (by omega)]
    simp
   ·rw[wo_take (by omega) (by omega) (by omega),h]
    by_cases hlt:j≤i
    ·rw[if_pos hlt,if_pos (by omega),List.take_succ_eq_append_getElem (by omega)]
    ·rw[if_neg hlt,if_neg (by omega),List.append_assoc,show j+1 - (i+1)=(j - (i+1))+1 by omega]
     rw[List.take_succ_eq_append_getElem (by rw[List.length_drop];omega)]
     simp only[List.getElem_drop,show i+1+(j - (i+1))=j by omega]
 rw[key _ (Nat.le_refl _),if_neg (by omega)]
 unfold withoutL
 congr 1
 exact List.take_of_length_le (by rw[List.length_drop];omega)
theorem wp_appFL2 {o:Oper} {a:Act} {K:Act→World→Prop} {Q:Exit→Act→World→Prop} {w:World} {base lo hi c:Nat} {v:Value} {A:Option Addr} (s x:Operand) (ho:o.op=.call { callee:=.builtin .append,args:=#[s,x],argTypes:=#[23,23] })
  {xs ys:List Fct} (hs:a.eval s=v) (hown:FactsO w base v xs) (hx:a.eval x=.slice A ys.length c) (hR:FactsV w lo hi A ys) (hn:xs.length+ys.length≤1049600) (hb:base≤w.heap.size)
  (h:∀ A' c' w',FactsO w' base (.slice A' (xs++ys).length c') (xs++ys)→w.grownBy w' v.ownBlock→Below base w w'→K (a.put o.dst (.slice A' (xs++ys).length c')) w'):Oper.wp Tryz.prog o a w K Q:=by
 refine wp_appL s x 23 ho Tryz.underlying23 infoF rfl (by decide) (by decide) hs hown.1 hx hR.raw (encF_one _) hn hb ?_
 intro v' w' h1 h2 h3
 have hO:FactsO w' base v' (xs++ys):=⟨by rw[List.length_append,show encF (xs++ys)=encF xs++encF ys from List.flatMap_append];exact h1,by simp[Lim];omega⟩
 obtain ⟨A',c',rfl,-⟩:=hO.reads
 exact h A' c' w' hO h2 h3
theorem AtomsO.oneN2 (w:World) (x:Atm) {base:Nat} (hb:base≤w.heap.size):AtomsO (w.alloc (.cells #[.int .i64 x.kind,.int .i64 x.a,.int .i64 x.b] tA)) base (.slice (some ⟨w.heap.size,0,none⟩) 1 1) [x]:=
 ⟨own_of_blk (Blk.new w _ _) hb rfl (by intro j hj;match j,hj with|0,_=>rfl|1,_=>rfl|2,_=>rfl) (Nat.le_refl _) (by decide) rfl,by simp[Lim]⟩
theorem c_l6WithoutF {lo hi:Nat} (v:Value) (a:Asn) (i k:Int) (x:Atm) (w:World) (h:AsnV w lo hi v a) (hl1:a.facts.length≤1000) (hl2:a.atoms.length≤1000) :
  Calls Tryz.prog 224 #[v,.int .i64 i,.int .i64 k,.agg #[.int .i64 x.kind,.int .i64 x.a,.int .i64 x.b]] w fun e w'=>∃ r,e=.returned r∧AsnO w' w.heap.size r ⟨a.facts,[x]++wo a.atoms i k a.atoms.length⟩∧Below w.heap.size w w':=by
 obtain ⟨A1,c1,A2,c2,rfl,h1,h2⟩:=h
 have H1:=Lib.hid h1
 have H2:=Lib.hid h2
 clear h1 h2
 go_enter Tryz.func224,Tryz.ntmps224
 have k0:Blk (((w.alloc (.cells #[.slice A1 a.facts.length c1,.slice A2 a.atoms.length c2] tAs)).alloc (.cells #[.int .i64 x.kind,.int .i64 x.a,.int .i64 x.b] tA)).alloc (.cells #[.slice none 0 0,.slice none 0 0] tAs)) w.heap.size tAs #[.slice A1 a.facts.length c1,.slice A2 a.atoms.length c2]:=blks
 have k1:Blk (((w.alloc (.cells #[.slice A1 a.facts.length c1,.slice A2 a.atoms.length c2] tAs)).alloc (.cells #[.int .i64 x.kind,.int .i64 x.a,.int .i64 x.b] tA)).alloc (.cells #[.slice none 0 0,.slice none 0 0] tAs)) (w.heap.size+1) tA #[.int .i64 x.kind,.int .i64 x.a,.int .i64 x.b]:=blks
 have kr:Blk (((w.alloc (.cells #[.slice A1 a.facts.length c1,.slice A2 a.atoms.length c2] tAs)).alloc (.cells #[.int .i64 x.kind,.int .i64 x.a,.int .i64 x.b] tA)).alloc (.cells #[.slice none 0 0,.slice none 0 0] tAs)) (w.heap.size+2) tAs #[.slice none 0 0,.slice none 0 0]:=blks
 have hB:Below w.heap.size w (((w.alloc (.cells #[.slice A1 a.facts.length c1,.slice A2 a.atoms.length c2] tAs)).alloc (.cells #[.int .i64 x.kind,.int .i64 x.a,.int .i64 x.b] tA)).alloc (.cells #[.slice none 0 0,.slice none 0 0] tAs)):=bel
 go_wp2_with fail
 generalize (((w.alloc (.cells #[.slice A1 a.facts.length c1,.slice A2 a.atoms.length c2] tAs)).alloc (.cells #[.int .i64 x.kind,.int .i64 x.a,.int .i64 x.b] tA)).alloc (.cells #[.slice none 0 0,.slice none 0 0] tAs))=W at k0 k1 kr hB ⊢
 refine wp_region_noPanic ?_
 refine wp_region_held_drew (S:=(fun w'=>(∀ i,w'.cell? ⟨w.heap.size,i,none⟩=#[.slice A1 a.facts.length c1,.slice A2 a.atoms.length c2][i]?)∧(∀ i,w'.cell? ⟨w.heap.size+1,i,none⟩=#[.int .i64 x.kind,.int .i64 x.a,.int .i64 x.b][i]?))) (by kernel_rfl) (⟨k0.drew.cell,k1.drew.cell⟩) (fun hHeld=>?_)
 refine tk2 1 rfl hHeld ?_
 try simp only[zz]
 refine tk2 2 rfl hHeld ?_
 try simp only[zz]
 refine tk2 4 rfl hHeld ?_
 try simp only[zz]
 refine wpAnyH_par [0,3,5,6,7] #[true,true,true,true,true,true,true,true,false] 5 (by kernel_rfl) hHeld
  (fun a0 D a1 w'=>Hid (Below w.heap.size w w'∧Blk w' w.heap.size tAs #[.slice A1 a.facts.length c1,.slice A2 a.atoms.length c2]∧Blk w' (w.heap.size+1) tA #[.int .i64 x.kind,.int .i64 x.a,.int .i64 x.b]∧Blk w' (w.heap.size+2) tAs #[.slice none 0 0,.slice none 0 0])∧
   Hid ((dn D 3=true→dn D 0=true)∧(dn D 6=true→dn D 3=true∧dn D 5=true))∧
   ∃ v11 v14 v16 v17 v9,a1=((((a0.put (some 11) v11).put (some 14) v14).put (some 16) v16).put (some 17) v17).put (some 9) v9∧
    Hid (dn D 0=true→dn D 3=false→(∃ g,v11=.slice (some ⟨g,0,none⟩) 0 0)∧FactsO w' w.heap.size v11 [])∧
    Hid (dn D 3=true→(∃ A c,v14=.slice A a.facts.length c)∧FactsO w' w.heap.size v14 a.facts)∧
    Hid (dn D 5=true→(∃ g,v16=.slice (some ⟨g,0,none⟩) 1 1)∧AtomsO w' w.heap.size v16 [x])∧
    Hid (dn D 6=true→v17=.agg #[v14,v16])∧
    Hid (dn D 7=true→∃ g,v9=.pointer (some ⟨g,0,none⟩)∧w.heap.size+2<g∧Blk w' g tAs #[.slice none 0 0,.slice none 0 0])) ?start ?steps ?fin
 case start=>
  refine ⟨⟨hB.drew,k0.drew,k1.drew,kr.drew⟩,⟨fun h=>absurd h (by decide),fun h=>absurd h (by decide)⟩,undef,undef,undef,undef,undef,rfl,fun h=>absurd h (by decide),fun h=>absurd h (by decide),fun h=>absurd h (by decide),fun h=>absurd h (by decide),fun h=>absurd h (by decide)⟩
 case steps=>
  refine ParSteps.cons rfl (fun D a1 w' hu hd hI hS K' hK G hG=>?_) (ParSteps.cons rfl (fun D a1 w' hu hd hI hS K' hK G hG=>?_) (ParSteps.cons rfl (fun D a1 w' hu hd hI hS K' hK G hG=>?_) (ParSteps.cons rfl (fun D a1 w' hu hd hI hS K' hK G hG=>?_) (ParSteps.cons rfl (fun D a1 w' hu hd hI hS K' hK G hG=>?_) ParSteps.nil))))
  ·
   obtain ⟨HW,HC,v11,v14,v16,v17,v9,ha,h0,h3,h5,h6,h7⟩:=hI
   rw[ha] at hG
   clear ha a1
   have u0:=dn_un hu
   have u3:dn D 3=false:=by cases e:dn D 3;rfl;have:=HC.out.1 e;rw[u0] at this;cases this
   have HU:=Lib.hid u3
   have U6:Hid (dn D 6=false):=by show _=_;cases e:dn D 6;rfl;have:=(HC.out.2 e).1;rw[u3] at this;cases this
   clear u0 u3
   refine hG ?_
   clear hG hd
   try simp only[zz]
   go_simp
   have hB2:Below w.heap.size w (w'.alloc (.cells #[] tF)):=HW.out.1.alloc HW.out.1.size _
   have hBw:Below w'.heap.size w' (w'.alloc (.cells #[] tF)):=bbox (Below.refl _ _) _
   refine hK.out _ _ ⟨(HW.out.2.1.alloc _).cell,(HW.out.2.2.1.alloc _).cell⟩ ⟨⟨hB2,HW.out.2.1.alloc _,HW.out.2.2.1.alloc _,HW.out.2.2.2.alloc _⟩,⟨fun h=>?_,fun h=>?_⟩,.slice (some ⟨w'.heap.size,0,none⟩) 0 0,v14,v16,v17,v9,rfl,?_,?_,?_,?_,?_⟩
   ·exact dn_self hu
   ·rw[dn_ne (by decide)] at h;rw[U6.out] at h;cases h
   ·exact fun _ _=>⟨⟨_,rfl⟩,(FactsO.empty w').lower HW.out.1.size⟩
   ·intro h;rw[dn_ne (by decide)] at h;rw[HU.out] at h;cases h
   ·intro h;rw[dn_ne (by decide)] at h;exact ⟨(h5.out h).1,(h5.out h).2.below hBw⟩
   ·intro h;rw[dn_ne (by decide)] at h;rw[U6.out] at h;cases h
   ·intro h;rw[dn_ne (by decide)] at h;obtain ⟨g,e,hg,hk⟩:=h7.out h;exact ⟨g,e,hg,hk.alloc _⟩
  ·
   obtain ⟨HW,HC,v11,v14,v16,v17,v9,ha,h0,h3,h5,h6,h7⟩:=hI
   rw[ha] at hG
   clear ha a1
   have u3:=dn_un hu
   have t0:dn D 0=true:=hd ⟨0,.data⟩ (by simp) (by decide)
   obtain ⟨⟨y,rfl⟩,o⟩:=h0.out t0 u3
   have HO:=Lib.hid o
   have HU:=Lib.hid (And.intro u3 t0)
   have U6:Hid (dn D 6=false):=by show _=_;cases e:dn D 6;rfl;have:=(HC.out.2 e).1;rw[u3] at this;cases this
   clear u3 t0 o h0 hd
   refine hG ?_
   clear hG
   try simp only[zz]
   rw[if_pos (by simp[Region.wanted])]
   refine wp_appFL2 (base:=w.heap.size) (xs:=[]) (ys:=a.facts) _ _ rfl rfl HO.out rfl (H1.out.below HW.out.1) (by simp;omega) HW.out.1.size ?_
   intro A' c' w2 o2 hg2 hB2
   simp only[List.nil_append] at o2 ⊢
   refine hK.out _ _ ⟨(Blk.grownO (hg:=hg2) HW.out.2.1 HO.out.1 (by decide)).cell,(Blk.grownO (hg:=hg2) HW.out.2.2.1 HO.out.1 (by decide)).cell⟩ ⟨⟨HW.out.1.trans hB2,Blk.grownO (hg:=hg2) HW.out.2.1 HO.out.1 (by decide),Blk.grownO (hg:=hg2) HW.out.2.2.1 HO.out.1 (by decide),Blk.grownO (hg:=hg2) HW.out.2.2.2 HO.out.1 (by decide)⟩,⟨fun h=>?_,fun h=>?_⟩,.slice (some ⟨y,0,none⟩) 0 0,.slice A' a.facts.length c',v16,v17,v9,rfl,?_,?_,?_,?_,?_⟩
   ·rw[dn_ne (by decide)];exact HU.out.2
   ·rw[dn_ne (by decide)] at h;rw[U6.out] at h;cases h
   ·intro _ h;rw[dn_self hu] at h;cases h
   ·exact fun _=>⟨⟨A',c',rfl⟩,o2⟩
   ·intro h;rw[dn_ne (by decide)] at h;exact ⟨(h5.out h).1,AtomsO.grownF (h5.out h).2 HO.out hg2⟩
   ·intro h;rw[dn_ne (by decide)] at h;rw[U6.out] at h;cases h
   ·intro h;rw[dn_ne (by decide)] at h;obtain ⟨g,e,hg,hk⟩:=h7.out h;exact ⟨g,e,hg,Blk.grownO (hg:=hg2) hk HO.out.1 (by decide)⟩
  ·
   obtain ⟨HW,HC,v11,v14,v16,v17,v9,ha,h0,h3,h5,h6,h7⟩:=hI
   rw[ha] at hG
   clear ha a1
   have u5:=dn_un hu
   have U6:Hid (dn D 6=false):=by show _=_;cases e:dn D 6;rfl;have:=(HC.out.2 e).2;rw[u5] at this;cases this
   clear u5
   refine hG ?_
   clear hG hd
   try simp only[zz]
   go_simp
   have hB2:Below w.heap.size w (w'.alloc (.cells #[.int .i64 x.kind,.int .i64 x.a,.int .i64 x.b] tA)):=HW.out.1.alloc HW.out.1.size _
   have hBw:Below w'.heap.size w' (w'.alloc (.cells #[.int .i64 x.kind,.int .i64 x.a,.int .i64 x.b] tA)):=bbox (Below.refl _ _) _
   refine hK.out _ _ ⟨(HW.out.2.1.alloc _).cell,(HW.out.2.2.1.alloc _).cell⟩ ⟨⟨hB2,HW.out.2.1.alloc _,HW.out.2.2.1.alloc _,HW.out.2.2.2.alloc _⟩,⟨fun h=>?_,fun h=>?_⟩,v11,v14,.slice (some ⟨w'.heap.size,0,none⟩) 1 1,v17,v9,rfl,?_,?_,?_,?_,?_⟩
   ·rw[dn_ne (by decide)] at h ⊢;exact HC.out.1 h
   ·rw[dn_ne (by decide)] at h;rw[U6.out] at h;cases h
   ·intro h h';rw[dn_ne (by decide)] at h h';exact ⟨(h0.out h h').1,(h0.out h h').2.below hBw⟩
   ·intro h;rw[dn_ne (by decide)] at h;exact ⟨(h3.out h).1,(h3.out h).2.below hBw⟩
   ·exact fun _=>⟨⟨_,rfl⟩,AtomsO.oneN2 w' x HW.out.1.size⟩
   ·intro h;rw[dn_ne (by decide)] at h;rw[U6.out] at h;cases h
   ·intro h;rw[dn_ne (by decide)] at h;obtain ⟨g,e,hg,hk⟩:=h7.out h;exact ⟨g,e,hg,hk.alloc _⟩
  ·
   obtain ⟨HW,HC,v11,v14,v16,v17,v9,ha,h0,h3,h5,h6,h7⟩:=hI
   rw[ha] at hG
   clear ha a1
   have t3:dn D 3=true:=hd ⟨3,.data⟩ (by simp) (by decide)
   have t5:dn D 5=true:=hd ⟨5,.data⟩ (by simp) (by decide)
   have HT2:=Lib.hid (And.intro t3 t5)
   obtain ⟨⟨A,c,rfl⟩,o3⟩:=h3.out t3
   obtain ⟨⟨y,rfl⟩,o5⟩:=h5.out t5
   have HO3:=Lib.hid o3
   have HO5:=Lib.hid o5
   clear t3 t5 hd o3 o5 h3 h5
   refine hG ?_
   clear hG
   try simp only[zz]
   go_simp
   refine hK.out _ _ hS ⟨HW.out,⟨fun h=>?_,fun h=>?_⟩,v11,.slice A a.facts.length c,.slice (some ⟨y,0,none⟩) 1 1,.agg #[.slice A a.facts.length c,.slice (some ⟨y,0,none⟩) 1 1],v9,rfl,?_,?_,?_,?_,?_⟩
   ·rw[dn_ne (by decide)] at h ⊢;exact HC.out.1 h
   ·rw[dn_ne (by decide),dn_ne (by decide)];exact HT2.out
   ·intro h h';rw[dn_ne (by decide)] at h h';exact h0.out h h'
   ·exact fun _=>⟨⟨_,_,rfl⟩,HO3.out⟩
   ·exact fun _=>⟨⟨_,rfl⟩,HO5.out⟩
   ·exact fun _=>rfl
   ·intro h;rw[dn_ne (by decide)] at h;exact h7.out h
  ·
   obtain ⟨HW,HC,v11,v14,v16,v17,v9,ha,h0,h3,h5,h6,h7⟩:=hI
   rw[ha] at hG
   clear ha a1
   refine hG ?_
   clear hG hd
   try simp only[zz]
   go_simp
   have hB2:Below w.heap.size w (w'.alloc (.cells #[.slice none 0 0,.slice none 0 0] tAs)):=HW.out.1.alloc HW.out.1.size _
   have hBw:Below w'.heap.size w' (w'.alloc (.cells #[.slice none 0 0,.slice none 0 0] tAs)):=bbox (Below.refl _ _) _
   have hlt:=HW.out.2.2.2.lt
   refine hK.out _ _ ⟨(HW.out.2.1.alloc _).cell,(HW.out.2.2.1.alloc _).cell⟩ ⟨⟨hB2,HW.out.2.1.alloc _,HW.out.2.2.1.alloc _,HW.out.2.2.2.alloc _⟩,⟨fun h=>?_,fun h=>?_⟩,v11,v14,v16,v17,.pointer (some ⟨w'.heap.size,0,none⟩),rfl,?_,?_,?_,?_,?_⟩
   ·rw[dn_ne (by decide)] at h ⊢;exact HC.out.1 h
   ·rw[dn_ne (by decide)] at h;rw[dn_ne (by decide),dn_ne (by decide)];exact HC.out.2 h
   ·intro h h';rw[dn_ne (by decide)] at h h';exact ⟨(h0.out h h').1,(h0.out h h').2.below hBw⟩
   ·intro h;rw[dn_ne (by decide)] at h;exact ⟨(h3.out h).1,(h3.out h).2.below hBw⟩
   ·intro h;rw[dn_ne (by decide)] at h;exact ⟨(h5.out h).1,(h5.out h).2.below hBw⟩
   ·intro h;rw[dn_ne (by decide)] at h;exact h6.out h
   ·exact fun _=>⟨_,rfl,hlt,Blk.new _ _ _⟩
 case fin=>
  rintro a1 w4 hHeld ⟨HW,-,v11,v14,v16,v17,v9,rfl,-,h3,h5,h6,h7⟩
  obtain rfl:=h6.out (by decide)
  obtain ⟨⟨A,c,rfl⟩,o3⟩:=h3.out (by decide)
  obtain ⟨⟨B,rfl⟩,o5⟩:=h5.out (by decide)
  obtain ⟨g,rfl,hg,kg⟩:=h7.out (by decide)
  have HO3:=Lib.hid o3
  have HO5:=Lib.hid o5
  have hBf:=HW.out.1
  have k4:=HW.out.2.1
  have k14:=HW.out.2.2.1
  have kr4:=HW.out.2.2.2
  clear h3 h5 h6 h7 o3 o5 k0 k1 kr hB HW
  try simp only[zz]
  (replace qk4:=k4.cell;replace rk4:=k4.frozen;replace lk4:=k4.lt;replace qkr4:=kr4.cell;replace rkr4:=kr4.frozen;replace lkr4:=kr4.lt;replace qkg:=kg.cell;replace rkg:=kg.frozen;replace lkg:=kg.lt)
  refine rdc 8 rfl fun K hK=>?_
  try simp only[zz]
  go_simp
  refine hK.out _ _ (⟨((k4.far (p:=⟨g,0,none⟩) (by simp only;omega) _).far (p:=⟨g,1,none⟩) (by simp only;omega) _).cell,((k14.far (p:=⟨g,0,none⟩) (by simp only;omega) _).far (p:=⟨g,1,none⟩) (by simp only;omega) _).cell⟩) ?_
  clear hHeld hK K
  intro hHeld
  try simp only[zz]
  refine wpAnyH_done (by kernel_rfl) ?_ _
  refine NoPanic.normal ?_
  have kg2:Blk ((w4.setCell ⟨g,0,none⟩ (.slice A a.facts.length c)).setCell ⟨g,1,none⟩ (.slice (some ⟨B,0,none⟩) 1 1)) g tAs #[.slice A a.facts.length c,.slice (some ⟨B,0,none⟩) 1 1]:=by simpa using (kg.set_ 0 (.slice A a.facts.length c)).set_ 1 (.slice (some ⟨B,0,none⟩) 1 1)
  have hB5:Below w.heap.size w ((w4.setCell ⟨g,0,none⟩ (.slice A a.facts.length c)).setCell ⟨g,1,none⟩ (.slice (some ⟨B,0,none⟩) 1 1)):=(hBf.setCell (p:=⟨g,0,none⟩) (by simp only;omega) _).setCell (p:=⟨g,1,none⟩) (by simp only;omega) _
  have k5:=(k4.far (p:=⟨g,0,none⟩) (by simp only;omega) (.slice A a.facts.length c)).far (p:=⟨g,1,none⟩) (by simp only;omega) (.slice (some ⟨B,0,none⟩) 1 1)
  have kr5:=(kr4.far (p:=⟨g,0,none⟩) (by simp only;omega) (.slice A a.facts.length c)).far (p:=⟨g,1,none⟩) (by simp only;omega) (.slice (some ⟨B,0,none⟩) 1 1)
  have HF5:=Lib.hid ((HO3.out.setT kg (by decide) 0 (.slice A a.facts.length c)).setT (kg.set_ 0 _) (by decide) 1 (.slice (some ⟨B,0,none⟩) 1 1))
  have HA5:=Lib.hid ((HO5.out.setT kg (by decide) 0 (.slice A a.facts.length c)).setT (kg.set_ 0 _) (by decide) 1 (.slice (some ⟨B,0,none⟩) 1 1))
  clear HO3 HO5 hBf k4 k14 kr4 kg qk4 rk4 lk4 qkr4 rkr4 lkr4 qkg rkg lkg
  generalize ((w4.setCell ⟨g,0,none⟩ (.slice A a.facts.length c)).setCell ⟨g,1,none⟩ (.slice (some ⟨B,0,none⟩) 1 1))=w5 at kg2 hB5 k5 kr5 HF5 HA5 ⊢
  have HB5:=Lib.hid hB5
  clear hB5
  go_wp2_with fail
  go_loopw [10] (fun n wr=>∃ (j:Nat) (xs:List Atm) (A3:Option Addr) (c3:Nat),j≤a.atoms.length∧n=.int .i64 j∧xs.length≤j+1∧Hid (xs=[x]++wo a.atoms i k j)∧Hid (FactsO wr w.heap.size (.slice A a.facts.length c) a.facts)∧Hid (AtomsO wr w.heap.size (.slice A3 xs.length c3) xs)∧
   Blk wr w.heap.size tAs #[.slice A1 a.facts.length c1,.slice A2 a.atoms.length c2]∧Blk wr (w.heap.size+2) tAs #[.slice none 0 0,.slice none 0 0]∧Blk wr g tAs #[.slice A a.facts.length c,.slice A3 xs.length c3]∧Hid (Below w.heap.size w wr)) (fun n _=>a.atoms.length - (intOf n).toNat)
  case atStart=>exact ⟨0,[x],some ⟨B,0,none⟩,1,Nat.zero_le _,rfl,Nat.le_refl _,(by show _=_;rfl),HF5.out,HA5.out,k5,kr5,kg2,HB5.out⟩
  case round=>
   clear k5 kr5 kg2 HF5 HA5 HB5
   obtain ⟨j,xs,A3,c3,hj,rfl,hxl,HXS,HF,HA,k0,kr,kg,HB⟩:=hrel
   (replace qk0:=k0.cell;replace rk0:=k0.frozen;replace lk0:=k0.lt;replace qkr:=kr.cell;replace rkr:=kr.frozen;replace lkr:=kr.lt;replace qkg:=kg.cell;replace rkg:=kg.frozen;replace lkg:=kg.lt)
   have hsz:=HB.out.size
   by_cases hlt:j<a.atoms.length
   ·have HX:=Lib.hid (H2.out.below HB.out)
    obtain ⟨b,off,rfl,hbl⟩:=HX.out.blt hlt
    have hji:(j:Int)<(a.atoms.length:Int):=by omega
    by_cases e1:(j:Int)=i
    ·have HXN:Hid (xs=[x]++wo a.atoms i k (j+1)):=Lib.hid (by rw[HXS.out,wo_skip (Or.inl e1)])
     have e1':((j:Int) != i)=false:=by simpa using e1
     clear e1
     go_wp2_with fail
     go_round
     case rel=>exact ⟨j+1,xs,A3,c3,by omega,by go_num,by omega,HXN,HF,HA,k0,kr,kg,HB⟩
     case measure=>simp[intOf];omega
    ·have e1':((j:Int) != i)=true:=by simpa using e1
     have HE1:=Lib.hid e1
     clear e1
     by_cases e2:(j:Int)=k
     ·have HXN:Hid (xs=[x]++wo a.atoms i k (j+1)):=Lib.hid (by rw[HXS.out,wo_skip (Or.inr e2)])
      have e2':((j:Int) != k)=false:=by simpa using e2
      clear e2
      go_wp2_with fail
      go_round
      case rel=>exact ⟨j+1,xs,A3,c3,by omega,by go_num,by omega,HXN,HF,HA,k0,kr,kg,HB⟩
      case measure=>simp[intOf];omega
     ·have HXN:Hid (xs++[a.atoms[j]]=[x]++wo a.atoms i k (j+1)):=Lib.hid (by rw[HXS.out,wo_take hlt HE1.out e2,List.append_assoc])
      have e2':((j:Int) != k)=true:=by simpa using e2
      clear e2
      go_wp2_with fail
      refine wp_region_noPanic ?_
      refine wp_region_last' (S:=(fun w'=>(∀ i,w'.cell? ⟨g,i,none⟩=#[.slice A a.facts.length c,.slice A3 xs.length c3][i]?)∧(∀ i,w'.cell? ⟨w.heap.size,i,none⟩=#[.slice A1 a.facts.length c1,.slice (some ⟨b,off,none⟩) a.atoms.length c2][i]?)∧w'.cell? ⟨b,off+j * 3,none⟩=some (.int .i64 a.atoms[j].kind)∧w'.cell? ⟨b,off+j * 3+1,none⟩=some (.int .i64 a.atoms[j].a)∧w'.cell? ⟨b,off+j * 3+2,none⟩=some (.int .i64 a.atoms[j].b))) (by simp) (by kernel_rfl) (by kernel_rfl) (⟨Blk.cell blks,Blk.cell blks,(AtomsV.below HX.out bel).cl hlt⟩) (fun hHeld=>?_)
      simp only[List.dropLast,List.getLast,nopOf,List.cons_append,List.nil_append,List.length_cons,List.length_nil,Nat.zero_add,Nat.reduceAdd]
      refine tk2 0 rfl hHeld ?_
      try simp only[zz]
      refine tk2 1 rfl hHeld ?_
      try simp only[zz]
      refine tk2 2 rfl hHeld ?_
      try simp only[zz]
      refine tk2 3 rfl hHeld ?_
      try simp only[zz]
      refine tk2 4 rfl hHeld ?_
      try simp only[zz]
      refine tk2 5 rfl hHeld ?_
      try simp only[zz]
      refine tk2 6 rfl hHeld ?_
      try simp only[zz]
      refine rdc 7 rfl fun K hK=>?_
      try simp only[zz]
      go_simp
      refine hK.out _ _ (⟨Blk.cell blks,Blk.cell blks,(AtomsV.below HX.out bel).cl hlt⟩) ?_
      clear hHeld hK K
      intro hHeld
      try simp only[zz]
      have hBX:Below w.heap.size w (wr.alloc (.cells #[.int .i64 a.atoms[j].kind,.int .i64 a.atoms[j].a,.int .i64 a.atoms[j].b] tA)).drew:=(Below.alloc HB.out hsz _).drew
      have HAX:=Lib.hid (HA.out.below (((Below.refl wr.heap.size wr).alloc (Nat.le_refl _) (.cells #[.int .i64 a.atoms[j].kind,.int .i64 a.atoms[j].a,.int .i64 a.atoms[j].b] tA)).drew))
      have HFX:=Lib.hid (HF.out.below (((Below.refl wr.heap.size wr).alloc (Nat.le_refl _) (.cells #[.int .i64 a.atoms[j].kind,.int .i64 a.atoms[j].a,.int .i64 a.atoms[j].b] tA)).drew))
      have kl:=(Blk.new wr tA #[.int .i64 a.atoms[j].kind,.int .i64 a.atoms[j].a,.int .i64 a.atoms[j].b]).drew
      have kgX:=(kg.alloc (.cells #[.int .i64 a.atoms[j].kind,.int .i64 a.atoms[j].a,.int .i64 a.atoms[j].b] tA)).drew
      have k0X:=(k0.alloc (.cells #[.int .i64 a.atoms[j].kind,.int .i64 a.atoms[j].a,.int .i64 a.atoms[j].b] tA)).drew
      have krX:=(kr.alloc (.cells #[.int .i64 a.atoms[j].kind,.int .i64 a.atoms[j].a,.int .i64 a.atoms[j].b] tA)).drew
      clear kg k0 kr HA HF HX qk0 rk0 lk0 qkg rkg lkg qkr rkr lkr
      generalize (wr.alloc (.cells #[.int .i64 a.atoms[j].kind,.int .i64 a.atoms[j].a,.int .i64 a.atoms[j].b] tA)).drew=V at hBX HAX HFX kl kgX k0X krX hHeld ⊢
      have hszV:=hBX.size
      generalize wr.heap.size=L at kl ⊢
      clear hsz hbl HB
      refine rdc 8 rfl fun K hK=>?_
      skip
      (refine stepAL (base:=w.heap.size) (xs:=xs) (ys:=[a.atoms[j]]) rfl _ _ rfl rfl HAX.out rfl (AtomsV.one' kl) (by simp;omega) hszV ?_;intro A' d' w2 of2 hg2 hB3;have z2:=Blk.grownO (hg:=hg2) kgX HAX.out.1 (by decide);have z0:=Blk.grownO (hg:=hg2) k0X HAX.out.1 (by decide);have hBw2:Below w.heap.size w w2:=hBX.trans hB3)
      refine hK.out _ _ (⟨z2.cell,z0.cell,(H2.out.below hBw2).cl hlt⟩) ?_
      clear hHeld hK K
      intro hHeld
      try simp only[zz]
      have rz2:=z2.frozen
      have lz2:=z2.lt
      refine tk2 9 rfl hHeld ?_
      try simp only[zz]
      refine rdc 10 rfl fun K hK=>?_
      go_simp
      refine hK.out _ _ (⟨z2.cell,z0.cell,(H2.out.below hBw2).cl hlt⟩) (fun hHeld=>?_)
      clear hK K
      refine wpAnyH_done (by kernel_rfl) ?_ _
      unfold lastQ
      go_simp
      refine NoPanic.normal ?_
      have zr:=Blk.grownO (hg:=hg2) krX HAX.out.1 (by decide)
      go_wp2_with fail
      have of3:=of2.setT z2 (by decide) 1 (.slice A' (xs.length+1) d')
      go_round
      case rel=>exact ⟨j+1,xs++[a.atoms[j]],A',d',by omega,by go_num,by simp;omega,HXN,(FactsO.grownA HFX.out HAX.out hg2).setT z2 (by decide) _ _,of3,z0.far (by simp only[];omega) _,zr.far (by simp only[];omega) _,(by have:=z2.set_ 1 (.slice A' (xs.length+1) d');simpa using this),hBw2.setCell (p:=⟨g,1,none⟩) (by simp only;omega) _⟩
      case measure=>simp[intOf];omega
   ·obtain rfl:j=a.atoms.length:=by omega
    have hne:g≠w.heap.size+2:=by omega
    go_wp2_with fail
    refine bodyPost_ret (v:=.agg #[.slice A a.facts.length c,.slice A3 xs.length c3]) (by simp[results,Tryz.results224,go_sem,qkr]) rfl ⟨_,rfl,⟨_,_,rfl,?_,?_⟩,?_⟩
    ·exact (HF.out.setT kr (by decide) 0 _).setT (kr.set_ 0 _) (by decide) 1 _
    ·rw[HXS.out] at HA ⊢
     exact (HA.out.setT kr (by decide) 0 _).setT (kr.set_ 0 _) (by decide) 1 _
    ·exact (HB.out.setCell (p:=⟨w.heap.size+2,0,none⟩) (by simp only;omega) _).setCell (p:=⟨w.heap.size+2,1,none⟩) (by simp only;omega) _
end

/- Contracts: the spec's first case, for terms that are terms. -/
section
open Go Go.RowKit Go.Proofs
attribute [local go_sem ↓] Go.wp_at_zero Go.wp_at_succ
theorem c_spec_l5FirstG {a:Asn} {S lo hi lo2 hi2:Nat} {A1 A2:Option Addr} {d1 d2:Nat} (T:Option Addr) (tc:Nat) (hOK:Hid (FactsOk a.facts∧AtomsOk a.atoms)) (hvl0:Hid (a.facts.length≤40∧a.atoms.length≤6)) :
  ∀ (n:Nat) (c:List Int) (B:Option Addr) (cc lo' hi':Nat) (w:World),n≤8→c.length=9→(∀ j:Nat,j<9 - n→S.testBit j=true→0≤cl c j∧cl c j≤j)→(∀ j:Nat,j<9→cl c j≤8)→
   AsnV w lo hi (.agg #[.slice A1 a.facts.length d1,.slice A2 a.atoms.length d2]) a→BoolsV w lo2 hi2 T (flagsOf S)→IntsV w lo' hi' B c→
   Calls Tryz.prog 221 #[.agg #[.slice A1 a.facts.length d1,.slice A2 a.atoms.length d2],.slice T 9 tc,.slice B 9 cc,.int .i64 ((9 - n:Nat):Int)] w fun e w'=>
    ∃ r,e=.returned (.tuple #[r,.bool (!(seek a S n c).isEmpty)])∧IntsO w' w.heap.size r (firstI (seek a S n c))∧Below w.heap.size w w':=by
 intro n
 induction n with
 | zero=>
  intro c B cc lo' hi' w hn hc _ hc8 hA hT hI
  have HO:=hOK
  have hV:=Lib.hid hA
  have HC:=Lib.hid hc
  have HI:=Lib.hid hI
  have HCL:Hid (∀ x∈a.atoms,cl c x.a≤8):=fun x hx=>by
   have:=(HO.out.2 x hx).1
   obtain ⟨t,et⟩:=Int.eq_ofNat_of_zero_le this.1
   rw[et];exact hc8 t (by omega)
  obtain ⟨B1,e1,B2,e2,he,h1,h2⟩:=hA
  injection he with he;injection he with he;injection he with he1 he2;injection he2 with he2 he3
  injection he1 with he1 _ he4;injection he2 with he2 _ he5
  subst he1 he4 he2 he5
  have H1:=Lib.hid h1
  have H2:=Lib.hid h2
  have hvl:=hvl0.out
  clear h1 h2 hc hc8 hT hI he3
  go_enter Tryz.func221,Tryz.ntmps221
  go_wp2_with fail
  refine (c_fits9 A1 B d1 cc a.facts c _ (H1.out.below bel) (HI.out.below bel) HC.out HO.out.1).mono ?_
  rintro e w1 ⟨rfl,rfl⟩
  cases hf:fitsS c a.facts
  ·have E:=Lib.hid (seek_cut (a:=a) (S:=S) 0 (c:=c) (by rw[hf];rfl))
   clear hf
   go_wp2_with fail
   go_ret2
   exact ⟨_,by rw[E.out];rfl,by rw[E.out];exact IntsO.lower (IntsO.empty _ (by simp)) (by simp),bel⟩
  have HF:=Lib.hid hf
  clear hf
  go_wp2_with fail
  refine (c_early9 A2 B d2 cc a.atoms c _ (H2.out.below bel) (HI.out.below bel) HC.out HO.out.2 HCL.out).mono ?_
  rintro e w2 ⟨rfl,hB2⟩
  have hB:Below w.heap.size w w2:=bgo (w:=w) bel hB2
  have k0:Blk w2 w.heap.size tAs #[.slice A1 a.facts.length d1,.slice A2 a.atoms.length d2]:=Blk.next blks hB2
  have q0:=k0.cell
  have l0:=k0.lt
  clear hB2
  cases he:earlyF c [] a.atoms
  ·have E:=Lib.hid (seek_cut (a:=a) (S:=S) 0 (c:=c) (by rw[HF.out,he];rfl))
   clear he
   go_wp2_with fail
   go_ret2
   exact ⟨_,by rw[E.out];rfl,by rw[E.out];exact IntsO.lower (IntsO.empty _ rfl) (by omega),bel⟩
  have E0:=Lib.hid (seek_leaf (a:=a) (S:=S) (c:=c) (by rw[HF.out,he];rfl))
  clear he
  go_wp2_with fail
  refine (c_filled9 A2 B d2 cc a.atoms c _ (H2.out.below hB) (HI.out.below hB) HC.out HO.out.2).mono ?_
  rintro e w3 ⟨r3,rfl,o3,hB3⟩
  obtain ⟨R3,e3,rfl,v3⟩:=o3.reads
  have hBB:Below w.heap.size w w3:=bgo hB hB3
  go_wp2_with fail
  refine (c_spec_l5Apart R3 e3 (filledL a.atoms c) _ v3).mono ?_
  rintro e w4 ⟨rfl,hB4⟩
  have hB5:Below w.heap.size w w4:=bgo hBB hB4
  have hz:=hB5.size
  clear o3 v3 hB3 hB4 hBB q0 l0 k0 hB
  cases hap:apartF [] (filledL a.atoms c)
  ·have E:=Lib.hid (show seek a S 0 c=[] by rw[E0.out,hap];rfl)
   clear hap
   go_wp2_with fail
   go_ret2
   exact ⟨_,by rw[E.out];rfl,by rw[E.out];exact IntsO.lower (IntsO.empty _ rfl) (by omega),bel⟩
  ·have E:=Lib.hid (show seek a S 0 c=[c] by rw[E0.out,hap];rfl)
   clear hap
   go_wp2_with (at_builtin;refine appIL (ys:=c) rfl _ _ rfl (v:=.slice (some ⟨w4.heap.size,0,none⟩) 0 0) rfl (IntsO.empty w4 rfl) (by rw[HC.out];rfl) (HI.out.below bel) (by rw[HC.out];simp) (by simp) ?_;intro A' c' w5 o5 hg5 hB6;rw[List.nil_append,HC.out])
   go_ret2
   exact ⟨_,by rw[E.out];rfl,by rw[E.out];rw[List.nil_append,HC.out] at o5;exact o5.lower hz,Below.trans bel (hB6.mono hz)⟩
 | succ n ih=>
  intro c B cc lo' hi' w hn hc hcl hc8 hA hT hI
  have HO:=hOK
  have hV:=Lib.hid hA
  have HC:=Lib.hid hc
  have HI:=Lib.hid hI
  have HTT:=Lib.hid hT
  have HC8:=Lib.hid hc8
  have HCL0:=Lib.hid hcl
  have IH:=Lib.hid ih
  have HCL:Hid (∀ x∈a.atoms,cl c x.a≤8):=fun x hx=>by
   have:=(HO.out.2 x hx).1
   obtain ⟨t,et⟩:=Int.eq_ofNat_of_zero_le this.1
   rw[et];exact hc8 t (by omega)
  obtain ⟨B1,e1,B2,e2,he,h1,h2⟩:=hA
  injection he with he;injection he with he;injection he with he1 he2;injection he2 with he2 he3
  injection he1 with he1 _ he4;injection he2 with he2 _ he5
  subst he1 he4 he2 he5
  have H1:=Lib.hid h1
  have H2:=Lib.hid h2
  obtain ⟨tb,tz0,rfl,ltb⟩:=flags_addr hT
  obtain ⟨pb,ob,rfl,lpb⟩:=hI.blt (k:=0) (by omega)
  obtain ⟨m,hm8⟩:∃ m,m=8 - n:=⟨_,rfl⟩
  have E1:Hid (((9 - n:Nat):Int)=(m:Int)+1):=by show _=_;omega
  rw[show 9 - (n+1)=m from by omega] at HCL0 ⊢
  have HM8:=Lib.hid hm8
  have HN:=Lib.hid hn
  have hmg:¬(8<(m:Int)):=by omega
  have hmi9:(m:Int)<9:=by omega
  clear h1 h2 hc hc8 hcl hT hI he3 ih hm8 hn
  go_enter Tryz.func221,Tryz.ntmps221
  go_wp2_with fail
  refine (c_fits9 A1 _ d1 cc a.facts c _ (H1.out.below bel) (HI.out.below bel) HC.out HO.out.1).mono ?_
  rintro e w1 ⟨rfl,rfl⟩
  cases hf:fitsS c a.facts
  ·have E:=Lib.hid (seek_cut (a:=a) (S:=S) (n+1) (c:=c) (by rw[hf];rfl))
   clear hf
   go_wp2_with fail
   go_ret2
   exact ⟨_,by rw[E.out];rfl,by rw[E.out];exact IntsO.lower (IntsO.empty _ (by simp)) (by simp),bel⟩
  have HF:=Lib.hid hf
  clear hf
  go_wp2_with fail
  refine (c_early9 A2 _ d2 cc a.atoms c _ (H2.out.below bel) (HI.out.below bel) HC.out HO.out.2 HCL.out).mono ?_
  rintro e w2 ⟨rfl,hB2⟩
  have hB:Below w.heap.size w w2:=bgo (w:=w) bel hB2
  have k0:Blk w2 w.heap.size tAs #[.slice A1 a.facts.length d1,.slice A2 a.atoms.length d2]:=Blk.next blks hB2
  have q0:=k0.cell
  have l0:=k0.lt
  clear hB2
  cases he:earlyF c [] a.atoms
  ·have E:=Lib.hid (seek_cut (a:=a) (S:=S) (n+1) (c:=c) (by rw[HF.out,he];rfl))
   clear he
   go_wp2_with fail
   go_ret2
   exact ⟨_,by rw[E.out];rfl,by rw[E.out];exact IntsO.lower (IntsO.empty _ rfl) (by omega),bel⟩
  have E0:=Lib.hid (seek_step (a:=a) (S:=S) (n:=n) (c:=c) (by rw[HF.out,he];rfl))
  clear he
  have qt:=flags_at (HTT.out.below hB) (m:=m) (by omega)
  cases ht:S.testBit m
  ·rw[ht] at qt
   have E:Hid (seek a S (n+1) c=seek a S n c):=by show _=_;rw[E0.out,←HM8.out,ht];rfl
   have ih1:=IH.out c _ cc _ _ w2 (by have:=HN.out;omega) HC.out (fun j hj hS=>by
    by_cases e:j=m
    ·subst e;rw[ht] at hS;cases hS
    ·exact HCL0.out j (by have:=HM8.out;have:=HN.out;omega) hS) HC8.out (hV.out.below hB) (HTT.out.below hB) (HI.out.below hB)
   rw[E1.out] at ih1
   have IH1:=Lib.hid ih1
   clear ih1 ht
   go_wp2_with fail
   refine IH1.out.mono ?_
   rintro e w3 ⟨r,rfl,o3,hB3⟩
   have O3:=Lib.hid o3
   have hz:=hB.size
   clear o3
   go_wp2_with fail
   go_ret2
   exact ⟨r,by rw[E.out];rfl,by rw[E.out];exact O3.out.lower hz,bgo hB hB3⟩
  ·rw[ht] at qt
   have E:Hid (seek a S (n+1) c=(List.range (9 - n)).flatMap (seekAt a S n c)):=by show _=_;rw[E0.out,←HM8.out,ht];rfl
   clear ht
   go_wp2_with fail
   go_loopw [10] (fun i wr=>∃ k:Nat,k≤m+1∧i=.int .i64 k∧Hid ((List.range k).flatMap (seekAt a S n c)=[])∧Blk wr w.heap.size tAs #[.slice A1 a.facts.length d1,.slice A2 a.atoms.length d2]∧Below w.heap.size w wr) (fun i _=>9 - (intOf i).toNat)
   case atStart=>exact ⟨0,Nat.zero_le _,rfl,rfl,k0,hB⟩
   case round=>
    clear k0 hB q0 l0 qt
    obtain ⟨k,hk,rfl,HP,k0,hB⟩:=hrel
    have q0:=k0.cell
    have l0:=k0.lt
    have hz:=hB.size
    by_cases hlt:k≤m
    ·have hki:(k:Int)≤(m:Int):=by omega
     have hk9:(k:Int)<9:=by omega
     have hkc:=ints_cl (HI.out.below hB) (m:=k) (by rw[HC.out];omega)
     have HNX:Hid ((List.range (k+1)).flatMap (seekAt a S n c)=seekAt a S n c k):=by show _=_;rw[List.range_succ,List.flatMap_append,HP.out];simp
     by_cases hskip:k<m∧cl c k≠k
     ·have HX:Hid (seekAt a S n c k=[]):=by show _=_;rw[seekAt,if_pos (by rw[←HM8.out];exact hskip)]
      have hkm:(k:Int)<(m:Int):=by omega
      have hne:(cl c k != (k:Int))=true:=by simpa using hskip.2
      clear hskip hki hlt
      go_wp2_with fail
      go_round
      case rel=>exact ⟨k+1,by omega,by go_num,by show _=_;rw[HNX.out,HX.out],k0,hB⟩
      case measure=>simp[intOf];omega
     ·have hsk2:k<m→(cl c k != (k:Int))=false:=fun h=>by
       cases Int.decEq (cl c k) k with
       | isTrue h=>simp[h]
       | isFalse h'=>exact absurd ⟨h,h'⟩ hskip
      have HX:Hid (seekAt a S n c k=seek a S n (c.set m k)):=by
       show _=_
       rw[seekAt,←HM8.out,if_neg hskip]
      clear hskip
      have hcs:(c.set m (k:Int)).length=9:=by simpa using HC.out
      have HCS:=Lib.hid hcs
      have hcl':∀ j:Nat,j<9 - n→S.testBit j=true→0≤cl (c.set m (k:Int)) j∧cl (c.set m (k:Int)) j≤j:=fun j hj hSj=>by
       have:=HM8.out;have:=HN.out
       rw[cl_set HC.out (by omega) _ (by omega)]
       split
       ·omega
       ·exact HCL0.out j (by omega) hSj
      have HCL':=Lib.hid hcl'
      have hc8':∀ j:Nat,j<9→cl (c.set m (k:Int)) j≤8:=fun j hj=>by
       rw[cl_set HC.out (by omega) _ (by omega)]
       split
       ·omega
       ·exact HC8.out j hj
      have HC8':=Lib.hid hc8'
      clear hcl' hc8' hcs
      obtain hkm|hkm:k<m∨k=m:=by omega
      case' inl=>have h1:(k:Int)<(m:Int):=by omega
      case' inl=>have h2:=hsk2 hkm
      case' inr=>have h1:¬(k:Int)<(m:Int):=by omega
      all_goals
       clear hkm hsk2
       go_wp2_with (at_builtin;refine appIL (ys:=c) (base:=wr.heap.size) rfl _ _ rfl (v:=.slice (some ⟨wr.heap.size,0,none⟩) 0 0) rfl (IntsO.empty wr rfl) (by rw[HC.out];rfl) (HI.out.below bel) (by rw[HC.out];simp) (by simp) ?_;intro A' c' w5 o5 hg5 hB6;rw[List.nil_append,HC.out] at o5 ⊢;obtain ⟨g,cur,-,rfl,hgb,kg,hcm,hset⟩:=o5.open_ (k:=m) (by rw[HC.out];omega);have qg:=(kg.cell m).trans hcm;have rg:=kg.frozen;have lg:=kg.lt;have HSET:=Lib.hid (hset k);have k5:=Blk.below (g:=w.heap.size) (w:=wr.alloc (.cells #[] tI)) (k0.alloc _) hB6 l0;have hB5:Below w.heap.size w w5:=Below.trans bel (hB6.mono (by omega));have k6:=k5.far (p:=⟨g,m,none⟩) (by simp only;omega) (.int .i64 k);have q6:=k6.cell;clear hset o5 kg hcm q0 hg5)
       have hB7:Below w.heap.size w (w5.setCell ⟨g,m,none⟩ (.int .i64 k)):=hB5.setCell (p:=⟨g,m,none⟩) (by simp only;omega) _
       have hz7:=hB7.size
       have v7:=HSET.out.readsI.2
       have ih1:=IH.out (c.set m (k:Int)) _ c' _ _ _ (by have:=HN.out;omega) HCS.out HCL'.out HC8'.out (hV.out.below hB7) (HTT.out.below hB7) v7
       rw[E1.out] at ih1
       refine ih1.mono ?_
       clear ih1 v7 q6 k5 qg rg
       rintro e w8 ⟨r,rfl,o8,hB8⟩
       have O8:=Lib.hid o8
       have k8:=k6.next hB8
       have hBn:=bgo hB7 hB8
       clear o8 hB8 k6 hB7 hB5 hB6
       cases hem:(seek a S n (c.set m (k:Int))).isEmpty
       ·have hne:seekAt a S n c k≠[]:=by rw[HX.out];intro h;rw[h] at hem;cases hem
        obtain ⟨y,y1,y2⟩:=flatMap_first (N:=9 - n) (by have:=HM8.out;have:=HN.out;omega) HP.out hne
        rw[HX.out] at y1
        have E2:Hid ((seek a S (n+1) c).isEmpty=false∧firstI (seek a S (n+1) c)=firstI (seek a S n (c.set m (k:Int)))):=by
         refine ⟨?_,?_⟩
         ·rw[E.out]
          cases h:(List.range (9 - n)).flatMap (seekAt a S n c) with
          | nil=>rw[h] at y2;cases y2
          | cons _ _=>rfl
         ·unfold firstI;rw[E.out,y1,y2]
        clear hem hne y1 y2
        go_wp2_with fail
        go_ret2
        exact ⟨r,by rw[E2.out.1];rfl,by rw[E2.out.2];exact O8.out.lower hz7,hBn⟩
       ·have HX2:Hid (seekAt a S n c k=[]):=by show _=_;rw[HX.out];simpa using hem
        clear hem
        go_wp2_with fail
        go_round
        case rel=>exact ⟨k+1,by omega,by go_num,by show _=_;rw[HNX.out,HX2.out],k8,hBn⟩
        case measure=>simp[intOf];omega
    ·obtain rfl:k=m+1:=by omega
     have E2:Hid (seek a S (n+1) c=[]):=by show _=_;rw[E.out,show 9 - n=m+1 from by have:=HM8.out;have:=HN.out;omega];exact HP.out
     go_wp2_with fail
     go_ret2
     exact ⟨_,by rw[E2.out];rfl,by rw[E2.out];exact IntsO.lower (IntsO.empty _ rfl) (by omega),bel⟩
end

/- Contracts: the spec's Implies. -/
section
open Go Go.RowKit Go.Proofs
attribute [local go_sem ↓] Go.wp_at_zero Go.wp_at_succ
theorem BoolsO.openI {w:World} {base:Nat} {A:Option Addr} {n c k:Nat} {fs:List Bool} (h:BoolsO w base (.slice A n c) fs) (hk:k<fs.length):∃ g cur,n=fs.length∧A=some ⟨g,0,none⟩∧base≤g∧Blk w g tB cur∧cur[k]? = some (.bool fs[k])∧
  (∀ v:Bool,BoolsO (w.setCell ⟨g,k,none⟩ (.bool v)) base (.slice A n c) (fs.set k v)):=by
 obtain ⟨⟨hl,h2⟩,hL⟩:=h
 rcases h2 with ⟨e,hn⟩|⟨g,cap,cur,e,hb,hh,hn,hm,hs,ht⟩
 ·omega
 ·injection e with e1 e2 e3
  subst e1 e2 e3
  have hK:Blk w g tB cur:=hh
  have hP:Pre cur (encB fs) (fs.length * 1):=by
   intro j hj
   rw[←ht,List.getElem?_take,if_pos hj];simp
  refine ⟨g,cur,rfl,rfl,hb,hK,(hP _ (by omega)).trans (by simp[List.getElem?_eq_getElem hk]),?_⟩
  intro v
  refine ⟨?_,by rw[List.length_set];exact hL⟩
  rw[show encB (fs.set k v)=(encB fs).set k (.bool v) from by simp[encB,List.map_set],List.length_set]
  exact own_of_blk (hK.set_ k (.bool v)) hb (by rw[List.length_set,hl]) (hP.setL k (.bool v) (by rw[hs];exact Nat.mul_le_mul hn (Nat.le_refl _)) (by rw[hl];exact Nat.le_refl _)) hn hm (by simpa using hs)
theorem rowB_ {B:Nat} {w w':World} (h:Below B w w') {g:Nat} (hg:g<B) {cs:Array Value} (hc:∀ i,w.cell? ⟨g,i,none⟩=cs[i]?):∀ i,w'.cell? ⟨g,i,none⟩=cs[i]?:=fun i=>(h.cell (p:=⟨g,i,none⟩) hg).trans (hc i)
theorem c_spec_Implies {lo hi:Nat} (v:Value) (a:Asn) (f:Fct) (w:World) (h:AsnV w lo hi v a) :
  Calls Tryz.prog 223 #[v,f.val] w fun e w'=>e=.returned (.bool (impB a f))∧Below w.heap.size w w':=by
 have hV:=Lib.hid h
 obtain ⟨A1,c1,A2,c2,rfl,h1,h2⟩:=h
 have H1:=Lib.hid h1
 have H2:=Lib.hid h2
 have HE:Hid (impB a f=(a.valid&&f.valid&&(cases a (caseS a (factS f))).all (Fct.fits · f))):=Lib.hid rfl
 obtain ⟨fe,fa,fb⟩:=f
 clear h1 h2
 go_enter Tryz.func223,Tryz.ntmps223
 have k0:Blk ((w.alloc (.cells #[.slice A1 a.facts.length c1,.slice A2 a.atoms.length c2] tAs)).alloc (.cells #[.bool fe,.int .i64 fa,.int .i64 fb] tF)) w.heap.size tAs #[.slice A1 a.facts.length c1,.slice A2 a.atoms.length c2]:=blks
 have k1:Blk ((w.alloc (.cells #[.slice A1 a.facts.length c1,.slice A2 a.atoms.length c2] tAs)).alloc (.cells #[.bool fe,.int .i64 fa,.int .i64 fb] tF)) (w.heap.size+1) tF #[.bool fe,.int .i64 fa,.int .i64 fb]:=blks
 have hB0:Hid (Below w.heap.size w ((w.alloc (.cells #[.slice A1 a.facts.length c1,.slice A2 a.atoms.length c2] tAs)).alloc (.cells #[.bool fe,.int .i64 fa,.int .i64 fb] tF))):=Lib.hid bel
 have hs0:((w.alloc (.cells #[.slice A1 a.facts.length c1,.slice A2 a.atoms.length c2] tAs)).alloc (.cells #[.bool fe,.int .i64 fa,.int .i64 fb] tF)).heap.size=w.heap.size+2:=by simp
 go_wp2_with fail
 generalize ((w.alloc (.cells #[.slice A1 a.facts.length c1,.slice A2 a.atoms.length c2] tAs)).alloc (.cells #[.bool fe,.int .i64 fa,.int .i64 fb] tF))=W at k0 k1 hB0 hs0 ⊢
 refine (c_spec_AssertionValid _ a _ (hV.out.below hB0.out)).mono ?_
 rintro e w1 ⟨rfl,hB1⟩
 replace k0:=k0.next hB1
 replace k1:=k1.next hB1
 have hB:Hid (Below w.heap.size w w1):=Lib.hid (bgo hB0.out hB1)
 have hz1:=hB1.size
 clear hB1 hB0
 (replace qk0:=k0.cell;replace rk0:=k0.frozen;replace lk0:=k0.lt;replace qk1:=k1.cell;replace rk1:=k1.frozen;replace lk1:=k1.lt)
 cases hv:a.valid
 ·go_wp2_with fail
  go_ret
  exact ⟨ret_bool (by rw[HE.out,hv];rfl),hB.out⟩
 have HV:=Lib.hid hv
 clear hv
 go_wp2_with fail
 refine (c_spec_FactValid ⟨fe,fa,fb⟩ _).mono ?_
 rintro e w2 ⟨rfl,hB2⟩
 replace k0:=k0.next hB2
 replace k1:=k1.next hB2
 replace hB:Hid (Below w.heap.size w w2):=Lib.hid (bgo hB.out hB2)
 have hz2:=hB2.size
 clear hB2 qk0 rk0 lk0 qk1 rk1 lk1
 (replace qk0:=k0.cell;replace rk0:=k0.frozen;replace lk0:=k0.lt;replace qk1:=k1.cell;replace rk1:=k1.frozen;replace lk1:=k1.lt)
 cases hf:Fct.valid ⟨fe,fa,fb⟩
 ·go_wp2_with fail
  go_ret
  exact ⟨ret_bool (by rw[HE.out,hf];simp),hB.out⟩
 have HFO:=Fct.valid_ok hf
 have HSEEK:=Lib.hid (imp_seek (f:=⟨fe,fa,fb⟩) HV.out hf)
 have HE2:Hid (impB a ⟨fe,fa,fb⟩=(seek ⟨a.facts++[Fct.mk (!fe) fa fb],a.atoms⟩ ((tset (termsL a)|||1 <<< fa.toNat)|||1 <<< fb.toNat) 8 opened).isEmpty):=Lib.hid (by rw[HE.out,HV.out,hf,HSEEK.out];rfl)
 have HOK:Hid (FactsOk (a.facts++[Fct.mk (!fe) fa fb])∧AtomsOk a.atoms):=Lib.hid ⟨fun g hg=>by
  rw[List.mem_append,List.mem_singleton] at hg
  rcases hg with hg|rfl
  ·exact (Asn.valid_ok HV.out).1 g hg
  ·exact HFO,(Asn.valid_ok HV.out).2⟩
 have hvl:=valid_len HV.out
 have HVL:Hid ((a.facts++[Fct.mk (!fe) fa fb]).length≤40∧a.atoms.length≤6):=Lib.hid ⟨by simp;omega,hvl.2⟩
 have hfl:a.facts.length+1≤1049600:=by omega
 clear hf HSEEK HE hvl
 simp only at HFO
 obtain ⟨⟨ha0,ha8⟩,hb0,hb8⟩:=HFO
 obtain ⟨na,rfl⟩:∃ n:Nat,fa=(n:Int):=⟨fa.toNat,by omega⟩
 obtain ⟨nb,rfl⟩:∃ n:Nat,fb=(n:Int):=⟨fb.toNat,by omega⟩
 have hna:na<9:=by omega
 have hnb:nb<9:=by omega
 have hnai:(na:Int)<9:=by omega
 have hnbi:(nb:Int)<9:=by omega
 have HT:=Lib.hid (termsL_ok HV.out)
 rw[show ((na:Int)).toNat=na from rfl,show ((nb:Int)).toNat=nb from rfl] at HE2
 clear ha0 ha8 hb0 hb8
 go_wp2_with fail
 refine (c_spec_l3Terms _ a _ (hV.out.below hB.out) HT.out).mono ?_
 rintro e w3 ⟨r3,rfl,o3,hB3⟩
 obtain ⟨Tb,ct,rfl,-⟩:=o3.reads
 rw[flagsOf_length] at o3 ⊢
 obtain ⟨S0,hS0⟩:∃ S0,S0=tset (termsL a):=⟨_,rfl⟩
 rw[←hS0] at o3 HE2
 replace k0:=k0.next hB3
 replace k1:=k1.next hB3
 replace hB:Hid (Below w.heap.size w w3):=Lib.hid (bgo hB.out hB3)
 have hz3:=hB3.size
 clear hB3 hS0 qk0 rk0 lk0 qk1 rk1 lk1 HT
 obtain ⟨g,cur,-,rfl,hg,kg,hc,hset⟩:=o3.openI (k:=na) (by rw[flagsOf_length];exact hna)
 have qg:=kg.cell na
 rw[hc] at qg
 have fg:=kg.frozen na
 have lg:=kg.lt
 have hg0:=k0.ne_ kg (by decide)
 have hg1:=k1.ne_ kg (by decide)
 have O4:=Lib.hid (hset true)
 have hlg:w2.heap.size≤g:=hg
 clear hset hc
 (replace qk0:=k0.cell;replace rk0:=k0.frozen;replace lk0:=k0.lt;replace qk1:=k1.cell;replace rk1:=k1.frozen;replace lk1:=k1.lt)
 go_upto_region 5 with fail
 rw[flagsOf_set] at O4
 replace k0:=k0.far (p:=⟨g,na,none⟩) hg0 (.bool true)
 replace k1:=k1.far (p:=⟨g,na,none⟩) hg1 (.bool true)
 replace hB:Hid (Below w.heap.size w (w3.setCell ⟨g,na,none⟩ (.bool true))):=Lib.hid (hB.out.setCell (p:=⟨g,na,none⟩) (by simp only;omega) _)
 have hz4:(w3.setCell ⟨g,na,none⟩ (.bool true)).heap.size=w3.heap.size:=by simp
 clear qg fg kg qk0 rk0 lk0 qk1 rk1 lk1 o3
 generalize (w3.setCell ⟨g,na,none⟩ (.bool true))=W4 at k0 k1 hB hz4 O4 ⊢
 obtain ⟨g',cur',-,eg,-,kg,hc,hset⟩:=O4.out.openI (k:=nb) (by rw[flagsOf_length];exact hnb)
 injection eg with eg
 injection eg with eg
 subst eg
 have qg:=kg.cell nb
 rw[hc] at qg
 have fg:=kg.frozen nb
 have O5:=Lib.hid (hset true)
 clear hset hc
 (replace qk0:=k0.cell;replace rk0:=k0.frozen;replace lk0:=k0.lt;replace qk1:=k1.cell;replace rk1:=k1.frozen;replace lk1:=k1.lt)
 go_upto_region 6 with fail
 rw[flagsOf_set] at O5
 obtain ⟨S1,hS1⟩:∃ S1,S1=(S0|||1 <<< na)|||1 <<< nb:=⟨_,rfl⟩
 rw[←hS1] at O5 HE2
 replace k0:=k0.far (p:=⟨g,nb,none⟩) hg0 (.bool true)
 replace k1:=k1.far (p:=⟨g,nb,none⟩) hg1 (.bool true)
 replace hB:Hid (Below w.heap.size w (W4.setCell ⟨g,nb,none⟩ (.bool true))):=Lib.hid (hB.out.setCell (p:=⟨g,nb,none⟩) (by simp only;omega) _)
 have hz5:(W4.setCell ⟨g,nb,none⟩ (.bool true)).heap.size=W4.heap.size:=by simp
 clear qg fg kg qk0 rk0 lk0 qk1 rk1 lk1 O4 hS1
 generalize (W4.setCell ⟨g,nb,none⟩ (.bool true))=W5 at k0 k1 hB hz5 O5 ⊢
 have T5:=Lib.hid (O5.out.reads)
 clear O5
 (replace qk0:=k0.cell;replace rk0:=k0.frozen;replace lk0:=k0.lt;replace qk1:=k1.cell;replace rk1:=k1.frozen;replace lk1:=k1.lt)
 go_upto_region 7 with fail
 have hbx:Below W5.heap.size W5 (W5.alloc (.cells #[.bool !fe,.int .i64 na,.int .i64 nb] tF)):=bbox (Below.refl _ _) _
 have kn:Blk (W5.alloc (.cells #[.bool !fe,.int .i64 na,.int .i64 nb] tF)) W5.heap.size tF #[.bool !fe,.int .i64 na,.int .i64 nb]:=Blk.new _ _ _
 replace k0:=k0.next hbx
 have HB6:=Lib.hid (bgo hB.out hbx)
 have hz6:(W5.alloc (.cells #[.bool !fe,.int .i64 na,.int .i64 nb] tF)).heap.size=W5.heap.size+1:=by simp
 have T6:Hid (BoolsV (W5.alloc (.cells #[.bool !fe,.int .i64 na,.int .i64 nb] tF)) w2.heap.size W5.heap.size (some ⟨g,0,none⟩) (flagsOf S1)):=Lib.hid (by
  obtain ⟨A,c,e,h⟩:=T5.out
  injection e with e
  subst e
  exact h.below hbx)
 clear T5 hB hbx k1 qk0 rk0 lk0 qk1 rk1 lk1
 have h53:W5.heap.size=w3.heap.size:=by omega
 obtain ⟨xn,hxn⟩:∃ x,x=w3.heap.size:=⟨_,rfl⟩
 rw[h53,←hxn] at kn hz6
 rw[←hxn]
 generalize (W5.alloc (.cells #[.bool !fe,.int .i64 na,.int .i64 nb] tF))=W6 at k0 kn HB6 hz6 T6 ⊢
 have hln:xn<W6.heap.size:=by omega
 have hz56:W5.heap.size≤W6.heap.size:=by omega
 clear hxn h53 hz6
 have hl0:=k0.lt
 have hwW:w.heap.size≤W6.heap.size:=HB6.out.size
 have HATM:=Lib.hid (fun (W:World) (hb:Below w.heap.size w W)=>(show AtomsV W 0 (hi+W.heap.size) A2 a.atoms from (H2.out.below hb).mono (Nat.zero_le _) (by omega)))
 go_cut [7,8] (fun s7 s8 wc=>s8=.bool (!(seek ⟨a.facts++[Fct.mk (!fe) na nb],a.atoms⟩ S1 8 opened).isEmpty)∧Hid (Below w.heap.size w wc))
 case first=>
  go_wp2_with fail
  refine wp_region_noPanic ?_
  refine wp_region_held_drew (S:=(fun w'=>(∀ i,w'.cell? ⟨w.heap.size,i,none⟩=#[.slice A1 a.facts.length c1,.slice A2 a.atoms.length c2][i]?)∧(∀ i,w'.cell? ⟨xn,i,none⟩=#[.bool !fe,.int .i64 na,.int .i64 nb][i]?))) (by kernel_rfl) (⟨k0.cell,kn.cell⟩) (fun hHeld=>?_)
  refine tk2 1 rfl hHeld ?_
  try simp only[zz]
  refine tk2 2 rfl hHeld ?_
  try simp only[zz]
  refine tk2 4 rfl hHeld ?_
  try simp only[zz]
  refine tk2 7 rfl hHeld ?_
  try simp only[zz]
  refine tk2 8 rfl hHeld ?_
  try simp only[zz]
  refine tk2 10 rfl hHeld ?_
  try simp only[zz]
  refine wpAnyH_ready (rs:=[0,5]) (by kernel_rfl) (by simp) ?_
  refine AllReadyH.cons rfl (fun K hK=>?_) (AllReadyH.cons rfl (fun K hK=>?_) (AllReadyH.nil))
  ·skip
   try simp only[zz]
   go_simp
   refine hK.out _ _ ⟨(rowB_ (show Below W6.heap.size W6 _ from bel) (by omega) k0.cell),(rowB_ (show Below W6.heap.size W6 _ from bel) (by omega) kn.cell)⟩ (fun hHeldN=>?_)
   clear hHeld hK K
   have hHeld:=hHeldN
   clear hHeldN
   have hE:Hid (FactsO (W6.drew.alloc (.cells #[] tF)) W6.heap.size (.slice (some ⟨W6.heap.size,0,none⟩) 0 0) []):=Lib.hid (FactsO.empty W6.drew)
   have hbE:Below W6.heap.size W6 (W6.drew.alloc (.cells #[] tF)):=bel
   have HBE:=Lib.hid (HB6.out.trans (hbE.mono hwW))
   have TE:=Lib.hid (T6.out.below hbE)
   have kE0:=k0.next hbE
   have kEn:=kn.next hbE
   have zE:(W6.drew.alloc (.cells #[] tF)).heap.size=W6.heap.size+1:=by simp
   refine wpAnyH_ready (rs:=[3,5]) (by kernel_rfl) (by simp) ?_
   refine AllReadyH.cons rfl (fun K hK=>?_) (AllReadyH.cons rfl (fun K hK=>?_) (AllReadyH.nil))
   ·skip
    refine stepFL (ys:=a.facts) (base:=W6.heap.size) rfl _ _ rfl rfl hE.out rfl (H1.out.below (HBE.out)) (by simpa using Nat.le_of_succ_le hfl) (by first|omega|(simp;done)|(simp;omega)) ?_;intro A3 c3 w3x o3 hg3 hB3
    have kc0:=kE0.below hB3 (by omega)
    have kcn:=kEn.below hB3 (by omega)
    have HBc0:=Lib.hid (HBE.out.trans (hB3.mono hwW))
    have Tc0:=Lib.hid (show BoolsV w3x w2.heap.size W5.heap.size (some ⟨g,0,none⟩) (flagsOf S1) from Rd.keep TE.out fun b h1 h2=>hB3.block b (by omega))
    have z3x:=hg3.size
    simp only[World.size_alloc,World.size_drew] at z3x
    have O3:=Lib.hid o3
    clear hg3 hB3 o3
    refine hK.out _ _ ⟨kc0.cell,kcn.cell⟩ (fun hHeldN=>?_)
    clear hHeld hK K
    have hHeld:=hHeldN
    clear hHeldN
    refine rdc 5 rfl fun K hK=>?_
    try simp only[zz]
    go_simp
    refine hK.out _ _ (⟨(rowB_ (show Below w3x.heap.size w3x _ from bel) (by omega) kc0.cell),(rowB_ (show Below w3x.heap.size w3x _ from bel) (by omega) kcn.cell)⟩) ?_
    clear hHeld hK K
    intro hHeld
    try simp only[zz]
    have hbL:Below w3x.heap.size w3x (w3x.alloc (.cells #[.bool !fe,.int .i64 na,.int .i64 nb] tF)):=bbox (Below.refl _ _) _
    have k0c:=kc0.next hbL
    have knc:=kcn.next hbL
    have HBc:=Lib.hid (bgo HBc0.out hbL)
    have Tc:=Lib.hid (Tc0.out.below hbL)
    have OF:=Lib.hid (O3.out.below hbL)
    have KL:Blk (w3x.alloc (.cells #[.bool !fe,.int .i64 na,.int .i64 nb] tF)) w3x.heap.size tF #[.bool !fe,.int .i64 na,.int .i64 nb]:=Blk.new _ _ _
    clear hbL
    refine rdc 6 rfl fun K hK=>?_
    skip
    (refine stepFL (ys:=[Fct.mk (!fe) na nb]) (base:=W6.heap.size) rfl _ _ rfl rfl OF.out rfl (FactsV.one (f:=Fct.mk (!fe) na nb) KL) (by simpa using hfl) (by first|omega|(simp;done)|(simp;omega)) ?_;intro A6 c6 w6 o6 hg6 hB6;have ka:=k0c.below hB6 hl0;have kb:=knc.below hB6 hln;have HB7:=Lib.hid (HBc.out.trans (hB6.mono hwW));have T7:=Lib.hid (show BoolsV w6 w2.heap.size W5.heap.size (some ⟨g,0,none⟩) (flagsOf S1) from Rd.keep Tc.out fun b h1 h2=>hB6.block b (by omega));have O6:=Lib.hid o6;have z6:=hg6.size;clear o6 hg6 hB6)
    refine hK.out _ _ (⟨ka.cell,kb.cell⟩) ?_
    clear hHeld hK K
    intro hHeld
    try simp only[zz]
    refine tk2 9 rfl hHeld ?_
    try simp only[zz]
    refine rdc 11 rfl fun K hK=>?_
    try simp only[zz]
    (go_simp;refine (c_spec_l5Open _).mono ?_;rintro e w7 ⟨r7,rfl,o7,hB7⟩;obtain ⟨C7,d7,rfl,f7⟩:=o7.reads;have kc:=ka.next hB7;have kd:=kb.next hB7;have HB8:=Lib.hid (bgo HB7.out hB7);have T8:=Lib.hid (T7.out.below hB7);have O8:=Lib.hid (O6.out.below hB7);have F8:=Lib.hid f7;have z7:=hB7.size;clear hB7 o7 f7)
    refine hK.out _ _ (⟨kc.cell,kd.cell⟩) ?_
    clear hHeld hK K
    intro hHeld
    try simp only[zz]
    refine rdc 12 rfl fun K hK=>?_
    try simp only[zz]
    (go_simp;have hA8:AsnV w7 0 (hi+w7.heap.size) (.agg #[.slice A6 (a.facts++[Fct.mk (!fe) na nb]).length c6,.slice A2 a.atoms.length c2]) ⟨a.facts++[Fct.mk (!fe) na nb],a.atoms⟩:=⟨_,_,_,_,rfl,O8.out.readsI.2.mono (Nat.zero_le _) (by omega),(HATM.out _ HB8.out)⟩;have hcall:=c_spec_l5FirstG (a:=⟨a.facts++[Fct.mk (!fe) na nb],a.atoms⟩) (S:=S1) (some ⟨g,0,none⟩) ct HOK HVL 8 opened C7 d7 _ _ w7 (by omega) rfl (openedB.2 _) openedB.1 hA8 T8.out F8.out;simp only[List.length_append,List.length_cons,List.length_nil,Nat.zero_add] at hcall;refine hcall.mono ?_;rintro e w8 ⟨r8,rfl,o8,hB8⟩;have ke:=kc.next hB8;have kf:=kd.next hB8;have HB9:=Lib.hid (bgo HB8.out hB8);clear hB8 o8 hcall hA8)
    refine hK.out _ _ (⟨ke.cell,kf.cell⟩) ?_
    clear hHeld hK K
    intro hHeld
    try simp only[zz]
    refine tk2 13 rfl hHeld ?_
    try simp only[zz]
    refine tk2 14 rfl hHeld ?_
    try simp only[zz]
    refine tk2 15 rfl hHeld ?_
    try simp only[zz]
    refine rdc 16 rfl fun K hK=>?_
    try simp only[zz]
    go_simp
    refine hK.out _ _ (⟨ke.cell,kf.cell⟩) ?_
    clear hHeld hK K
    intro hHeld
    try simp only[zz]
    refine rdc 17 rfl fun K hK=>?_
    try simp only[zz]
    go_simp
    refine hK.out _ _ (⟨ke.cell,kf.cell⟩) ?_
    clear hHeld hK K
    intro hHeld
    try simp only[zz]
    refine wpAnyH_done (by kernel_rfl) ?_ _
    refine NoPanic.normal ?_
    go_wp2_with fail
    go_meet
    case rel=>exact ⟨rfl,HB9⟩
   ·skip
    try simp only[zz]
    go_simp
    refine hK.out _ _ ⟨(rowB_ (show Below W6.heap.size W6 _ from bel) (by omega) k0.cell),(rowB_ (show Below W6.heap.size W6 _ from bel) (by omega) kn.cell)⟩ (fun hHeldN=>?_)
    clear hHeld hK K
    have hHeld:=hHeldN
    clear hHeldN
    have hbL:Below (W6.drew.alloc (.cells #[] tF)).heap.size (W6.drew.alloc (.cells #[] tF)) ((W6.drew.alloc (.cells #[] tF)).alloc (.cells #[.bool !fe,.int .i64 na,.int .i64 nb] tF)):=bbox (Below.refl _ _) _
    have kL:=Blk.new (W6.drew.alloc (.cells #[] tF)) tF #[.bool !fe,.int .i64 na,.int .i64 nb]
    have kL0:=kE0.next hbL
    have kLn:=kEn.next hbL
    have HBL:=Lib.hid (bgo HBE.out hbL)
    have TL:=Lib.hid (TE.out.below hbL)
    have hL:=Lib.hid (hE.out.below hbL)
    refine rdc 3 rfl fun K hK=>?_
    skip
    (refine stepFL (ys:=a.facts) (base:=W6.heap.size) rfl _ _ rfl rfl hL.out rfl (H1.out.below (HBL.out)) (by simpa using Nat.le_of_succ_le hfl) (by first|omega|(simp;done)|(simp;omega)) ?_;intro A3 c3 w3x o3 hg3 hB3;have k0c:=kL0.below hB3 (by omega);have knc:=kLn.below hB3 (by omega);have HBc:=Lib.hid (HBL.out.trans (hB3.mono hwW));have Tc:=Lib.hid (show BoolsV w3x w2.heap.size W5.heap.size (some ⟨g,0,none⟩) (flagsOf S1) from Rd.keep TL.out fun b h1 h2=>hB3.block b (by omega));have KL:=kL.grown hg3 (fun e=>by have e2:(W6.drew.alloc (.cells #[] tF)).heap.size=W6.heap.size:=Option.some.inj e;simp only[World.size_alloc,World.size_drew] at e2;omega);have z3x:=hg3.size;have OF:=Lib.hid o3;clear hg3 hB3 o3)
    refine hK.out _ _ (⟨k0c.cell,knc.cell⟩) ?_
    clear hHeld hK K
    intro hHeld
    try simp only[zz]
    simp only[World.size_alloc,World.size_drew] at KL z3x
    refine rdc 6 rfl fun K hK=>?_
    skip
    (refine stepFL (ys:=[Fct.mk (!fe) na nb]) (base:=W6.heap.size) rfl _ _ rfl rfl OF.out rfl (FactsV.one (f:=Fct.mk (!fe) na nb) KL) (by simpa using hfl) (by first|omega|(simp;done)|(simp;omega)) ?_;intro A6 c6 w6 o6 hg6 hB6;have ka:=k0c.below hB6 hl0;have kb:=knc.below hB6 hln;have HB7:=Lib.hid (HBc.out.trans (hB6.mono hwW));have T7:=Lib.hid (show BoolsV w6 w2.heap.size W5.heap.size (some ⟨g,0,none⟩) (flagsOf S1) from Rd.keep Tc.out fun b h1 h2=>hB6.block b (by omega));have O6:=Lib.hid o6;have z6:=hg6.size;clear o6 hg6 hB6)
    refine hK.out _ _ (⟨ka.cell,kb.cell⟩) ?_
    clear hHeld hK K
    intro hHeld
    try simp only[zz]
    refine tk2 9 rfl hHeld ?_
    try simp only[zz]
    refine rdc 11 rfl fun K hK=>?_
    try simp only[zz]
    (go_simp;refine (c_spec_l5Open _).mono ?_;rintro e w7 ⟨r7,rfl,o7,hB7⟩;obtain ⟨C7,d7,rfl,f7⟩:=o7.reads;have kc:=ka.next hB7;have kd:=kb.next hB7;have HB8:=Lib.hid (bgo HB7.out hB7);have T8:=Lib.hid (T7.out.below hB7);have O8:=Lib.hid (O6.out.below hB7);have F8:=Lib.hid f7;have z7:=hB7.size;clear hB7 o7 f7)
    refine hK.out _ _ (⟨kc.cell,kd.cell⟩) ?_
    clear hHeld hK K
    intro hHeld
    try simp only[zz]
    refine rdc 12 rfl fun K hK=>?_
    try simp only[zz]
    (go_simp;have hA8:AsnV w7 0 (hi+w7.heap.size) (.agg #[.slice A6 (a.facts++[Fct.mk (!fe) na nb]).length c6,.slice A2 a.atoms.length c2]) ⟨a.facts++[Fct.mk (!fe) na nb],a.atoms⟩:=⟨_,_,_,_,rfl,O8.out.readsI.2.mono (Nat.zero_le _) (by omega),(HATM.out _ HB8.out)⟩;have hcall:=c_spec_l5FirstG (a:=⟨a.facts++[Fct.mk (!fe) na nb],a.atoms⟩) (S:=S1) (some ⟨g,0,none⟩) ct HOK HVL 8 opened C7 d7 _ _ w7 (by omega) rfl (openedB.2 _) openedB.1 hA8 T8.out F8.out;simp only[List.length_append,List.length_cons,List.length_nil,Nat.zero_add] at hcall;refine hcall.mono ?_;rintro e w8 ⟨r8,rfl,o8,hB8⟩;have ke:=kc.next hB8;have kf:=kd.next hB8;have HB9:=Lib.hid (bgo HB8.out hB8);clear hB8 o8 hcall hA8)
    refine hK.out _ _ (⟨ke.cell,kf.cell⟩) ?_
    clear hHeld hK K
    intro hHeld
    try simp only[zz]
    refine tk2 13 rfl hHeld ?_
    try simp only[zz]
    refine tk2 14 rfl hHeld ?_
    try simp only[zz]
    refine tk2 15 rfl hHeld ?_
    try simp only[zz]
    refine rdc 16 rfl fun K hK=>?_
    try simp only[zz]
    go_simp
    refine hK.out _ _ (⟨ke.cell,kf.cell⟩) ?_
    clear hHeld hK K
    intro hHeld
    try simp only[zz]
    refine rdc 17 rfl fun K hK=>?_
    try simp only[zz]
    go_simp
    refine hK.out _ _ (⟨ke.cell,kf.cell⟩) ?_
    clear hHeld hK K
    intro hHeld
    try simp only[zz]
    refine wpAnyH_done (by kernel_rfl) ?_ _
    refine NoPanic.normal ?_
    go_wp2_with fail
    go_meet
    case rel=>exact ⟨rfl,HB9⟩
  ·skip
   try simp only[zz]
   go_simp
   refine hK.out _ _ ⟨(rowB_ (show Below W6.heap.size W6 _ from bel) (by omega) k0.cell),(rowB_ (show Below W6.heap.size W6 _ from bel) (by omega) kn.cell)⟩ (fun hHeldN=>?_)
   clear hHeld hK K
   have hHeld:=hHeldN
   clear hHeldN
   have kL:=Blk.new W6.drew tF #[.bool !fe,.int .i64 na,.int .i64 nb]
   refine rdc 0 rfl fun K hK=>?_
   try simp only[zz]
   go_simp
   refine hK.out _ _ (⟨(rowB_ (show Below W6.heap.size W6 _ from bel) (by omega) k0.cell),(rowB_ (show Below W6.heap.size W6 _ from bel) (by omega) kn.cell)⟩) ?_
   clear hHeld hK K
   intro hHeld
   try simp only[zz]
   have hbE:Below W6.heap.size W6 ((W6.drew.alloc (.cells #[.bool !fe,.int .i64 na,.int .i64 nb] tF)).alloc (.cells #[] tF)):=bel
   have kE0:=k0.next hbE
   have kEn:=kn.next hbE
   have kL2:=kL.alloc (.cells #[] tF)
   have HBE:=Lib.hid (HB6.out.trans (hbE.mono hwW))
   have TE:=Lib.hid (T6.out.below hbE)
   have hE:Hid (FactsO ((W6.drew.alloc (.cells #[.bool !fe,.int .i64 na,.int .i64 nb] tF)).alloc (.cells #[] tF)) W6.heap.size (.slice (some ⟨W6.heap.size+1,0,none⟩) 0 0) []):=Lib.hid (by
    have:=(FactsO.empty (W6.drew.alloc (.cells #[.bool !fe,.int .i64 na,.int .i64 nb] tF))).lower (base':=W6.heap.size) (by simp)
    simpa using this)
   have zE:((W6.drew.alloc (.cells #[.bool !fe,.int .i64 na,.int .i64 nb] tF)).alloc (.cells #[] tF)).heap.size=W6.heap.size+2:=by simp
   refine rdc 3 rfl fun K hK=>?_
   skip
   (refine stepFL (ys:=a.facts) (base:=W6.heap.size) rfl _ _ rfl rfl hE.out rfl (H1.out.below (HBE.out)) (by simpa using Nat.le_of_succ_le hfl) (by first|omega|(simp;done)|(simp;omega)) ?_;intro A3 c3 w3x o3 hg3 hB3;have k0c:=kE0.below hB3 (by omega);have knc:=kEn.below hB3 (by omega);have HBc:=Lib.hid (HBE.out.trans (hB3.mono hwW));have Tc:=Lib.hid (show BoolsV w3x w2.heap.size W5.heap.size (some ⟨g,0,none⟩) (flagsOf S1) from Rd.keep TE.out fun b h1 h2=>hB3.block b (by omega));have KL:=kL2.grown hg3 (fun e=>by have e2:W6.heap.size=W6.heap.size+1:=Option.some.inj e;omega);have z3x:=hg3.size;have OF:=Lib.hid o3;clear hg3 hB3 o3)
   refine hK.out _ _ (⟨k0c.cell,knc.cell⟩) ?_
   clear hHeld hK K
   intro hHeld
   try simp only[zz]
   simp only[World.size_alloc,World.size_drew] at z3x
   simp only[World.size_drew] at KL
   refine rdc 6 rfl fun K hK=>?_
   skip
   (refine stepFL (ys:=[Fct.mk (!fe) na nb]) (base:=W6.heap.size) rfl _ _ rfl rfl OF.out rfl (FactsV.one (f:=Fct.mk (!fe) na nb) KL) (by simpa using hfl) (by first|omega|(simp;done)|(simp;omega)) ?_;intro A6 c6 w6 o6 hg6 hB6;have ka:=k0c.below hB6 hl0;have kb:=knc.below hB6 hln;have HB7:=Lib.hid (HBc.out.trans (hB6.mono hwW));have T7:=Lib.hid (show BoolsV w6 w2.heap.size W5.heap.size (some ⟨g,0,none⟩) (flagsOf S1) from Rd.keep Tc.out fun b h1 h2=>hB6.block b (by omega));have O6:=Lib.hid o6;have z6:=hg6.size;clear o6 hg6 hB6)
   refine hK.out _ _ (⟨ka.cell,kb.cell⟩) ?_
   clear hHeld hK K
   intro hHeld
   try simp only[zz]
   refine tk2 9 rfl hHeld ?_
   try simp only[zz]
   refine rdc 11 rfl fun K hK=>?_
   try simp only[zz]
   (go_simp;refine (c_spec_l5Open _).mono ?_;rintro e w7 ⟨r7,rfl,o7,hB7⟩;obtain ⟨C7,d7,rfl,f7⟩:=o7.reads;have kc:=ka.next hB7;have kd:=kb.next hB7;have HB8:=Lib.hid (bgo HB7.out hB7);have T8:=Lib.hid (T7.out.below hB7);have O8:=Lib.hid (O6.out.below hB7);have F8:=Lib.hid f7;have z7:=hB7.size;clear hB7 o7 f7)
   refine hK.out _ _ (⟨kc.cell,kd.cell⟩) ?_
   clear hHeld hK K
   intro hHeld
   try simp only[zz]
   refine rdc 12 rfl fun K hK=>?_
   try simp only[zz]
   (go_simp;have hA8:AsnV w7 0 (hi+w7.heap.size) (.agg #[.slice A6 (a.facts++[Fct.mk (!fe) na nb]).length c6,.slice A2 a.atoms.length c2]) ⟨a.facts++[Fct.mk (!fe) na nb],a.atoms⟩:=⟨_,_,_,_,rfl,O8.out.readsI.2.mono (Nat.zero_le _) (by omega),(HATM.out _ HB8.out)⟩;have hcall:=c_spec_l5FirstG (a:=⟨a.facts++[Fct.mk (!fe) na nb],a.atoms⟩) (S:=S1) (some ⟨g,0,none⟩) ct HOK HVL 8 opened C7 d7 _ _ w7 (by omega) rfl (openedB.2 _) openedB.1 hA8 T8.out F8.out;simp only[List.length_append,List.length_cons,List.length_nil,Nat.zero_add] at hcall;refine hcall.mono ?_;rintro e w8 ⟨r8,rfl,o8,hB8⟩;have ke:=kc.next hB8;have kf:=kd.next hB8;have HB9:=Lib.hid (bgo HB8.out hB8);clear hB8 o8 hcall hA8)
   refine hK.out _ _ (⟨ke.cell,kf.cell⟩) ?_
   clear hHeld hK K
   intro hHeld
   try simp only[zz]
   refine tk2 13 rfl hHeld ?_
   try simp only[zz]
   refine tk2 14 rfl hHeld ?_
   try simp only[zz]
   refine tk2 15 rfl hHeld ?_
   try simp only[zz]
   refine rdc 16 rfl fun K hK=>?_
   try simp only[zz]
   go_simp
   refine hK.out _ _ (⟨ke.cell,kf.cell⟩) ?_
   clear hHeld hK K
   intro hHeld
   try simp only[zz]
   refine rdc 17 rfl fun K hK=>?_
   try simp only[zz]
   go_simp
   refine hK.out _ _ (⟨ke.cell,kf.cell⟩) ?_
   clear hHeld hK K
   intro hHeld
   try simp only[zz]
   refine wpAnyH_done (by kernel_rfl) ?_ _
   refine NoPanic.normal ?_
   go_wp2_with fail
   go_meet
   case rel=>exact ⟨rfl,HB9⟩
 case rest=>
  obtain ⟨rfl,HB9⟩:=hcut
  rw[←HE2.out]
  go_wp2_with fail
  go_ret
  exact ⟨ret_bool (by simp),HB9.out⟩
end

end Go.Proofs.YtmcgbeladjlcpaaGreat
