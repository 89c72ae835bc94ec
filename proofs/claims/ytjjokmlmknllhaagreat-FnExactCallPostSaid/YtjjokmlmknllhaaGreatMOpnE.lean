/- What the reader draws: copies that are changed. -/
import Derived.Test.YtjjokmlmknllhaaGreatDrawB
import Derived.Test.YtjjokmlmknllhaaGreatMImpS
import Derived.Test.YtjjokmlmknllhaaGreatMSymJ
import Derived.Test.YtjjokmlmknllhaaGreatSubst
import Derived.Deep.DeepCutAuto
import Derived.Test.YtjjokmlmknllhaaGreatMAppX
import Derived.Test.YtjjokmlmknllhaaGreatMCmdA
import Derived.Test.YtjjokmlmknllhaaGreatMCallB
import Derived.Test.YtjjokmlmknllhaaGreatMCov
set_option linter.unusedSimpArgs false
set_option linter.unusedVariables false
namespace Go.Proofs.YtjjokmlmknllhaaGreat
open Go Go.RowKit Go.Proofs
end Go.Proofs.YtjjokmlmknllhaaGreat

/- Exposing cells: the helpers of spec. -/
namespace Go.Proofs.YtjjokmlmknllhaaGreat
open Go Go.RowKit Go.Proofs
attribute [local go_sem ↓] Go.wp_at_zero Go.wp_at_succ
set_option maxRecDepth 100000 in
set_option maxHeartbeats 3200000 in
theorem c_l10New {lo hi lo' hi':Nat} (v:Value) (a:Asn) (B:Option Addr) (c K:Nat) (w:World) (h:AsnV w lo hi v a) (h':BoolsV w lo' hi' B (flagsOf K)) (hv:a.valid=true) :
  Calls Tryz.prog 122 #[v,.slice B 9 c] w fun e w'=>e=.returned (.tuple #[.int .i64 (unusedI (tset (termsL a)|||K)),.bool (newT (tset (termsL a)|||K)).isSome])∧Below w.heap.size w w':=by
 have hV:=Lib.hid h
 have HT:=Lib.hid (termsL_ok hv)
 have h'':=Lib.hid h'
 obtain ⟨pb,ob,rfl,lpb⟩:=flags_addr h'
 obtain ⟨A1,c1,A2,c2,rfl,h1,h2⟩:=h
 clear hv h1 h2
 go_enter Tryz.func122,Tryz.ntmps122
 go_wp2_with fail
 refine (c_spec_l3Terms _ a _ (hV.out.below bel) HT.out).mono ?_
 rintro e w1 ⟨r,rfl,oT,hB1⟩
 have hB:=bgo (w:=w) bel hB1
 have fC:=h''.out.below hB
 generalize hTe:tset (termsL a)=T at oT
 have HTE:=Lib.hid hTe
 clear hTe
 obtain ⟨Tb,ct,rfl,fT⟩:=oT.reads
 rw[flagsOf_length]
 obtain ⟨pt,ot,rfl,lpt⟩:=flags_addr fT
 clear hB1 oT h' h''
 go_wp2_with fail
 go_loop [7] (fun i=>∃ k:Nat,5≤k∧k≤9∧i=.int .i64 k∧Hid (∀ j,5≤j→j<k→(T|||K).testBit j=true)) (fun i=>10 - (intOf i).toNat)
 case atStart=>exact ⟨5,by omega,by omega,rfl,Lib.hid fun j h1 h2=>by omega⟩
 case round=>
  obtain ⟨k,h5,h9,rfl,HA⟩:=hrel
  by_cases hlt:k<9
  ·have hki:(k:Int)≤8:=by omega
   have f1:=flags_at fT (m:=k) (by omega)
   have f2:=flags_at fC (m:=k) (by omega)
   have k9:(k:Int)<9:=by omega
   have HBit:Hid ((T|||K).testBit k=(T.testBit k || K.testBit k)):=Lib.hid (Nat.testBit_or ..)
   have HN:Hid ((T|||K).testBit k=true→∀ j,5≤j→j<k+1→(T|||K).testBit j=true):=Lib.hid fun hb j h1 h2=>by
    by_cases e:j=k
    ·rw[e];exact hb
    ·exact HA.out j h1 (by omega)
   cases ht:T.testBit k
   ·cases hc:K.testBit k
    ·have E:=Lib.hid (newT_yes h5 (by omega) HA.out (by rw[HBit.out,ht,hc];rfl))
     rw[ht] at f1
     rw[hc] at f2
     clear ht hc HA HN HBit
     go_wp2_with fail
     go_ret2
     exact ⟨by unfold unusedI;rw[HTE.out,E.out];rfl,hB⟩
    ·have HN2:=Lib.hid (HN.out (by rw[HBit.out,ht,hc];rfl))
     rw[ht] at f1
     rw[hc] at f2
     clear ht hc HA HN HBit
     go_wp2_with fail
     go_round
     case rel=>exact ⟨k+1,by omega,by omega,by go_num,HN2⟩
     case measure=>simp[intOf];omega
   ·have HN2:=Lib.hid (HN.out (by rw[HBit.out,ht];rfl))
    rw[ht] at f1
    clear ht HA HN HBit
    go_wp2_with fail
    go_round
    case rel=>exact ⟨k+1,by omega,by omega,by go_num,HN2⟩
    case measure=>simp[intOf];omega
  ·obtain rfl:k=9:=by omega
   have E:=Lib.hid (newT_no (S:=T|||K) fun j h1 h2=>HA.out j h1 (by omega))
   go_wp2_with fail
   go_ret2
   exact ⟨by unfold unusedI;rw[HTE.out,E.out];rfl,hB⟩
end Go.Proofs.YtjjokmlmknllhaaGreat

/- Symbolic execution: spec.l10Forget. -/
namespace Go.Proofs.YtjjokmlmknllhaaGreat
open Go Go.RowKit Go.Proofs
attribute [local go_sem ↓] Go.wp_at_zero Go.wp_at_succ
theorem AsnV.setT2 {w:World} {lo hi:Nat} {v:Value} {a:Asn} (h:AsnV w lo hi v a) {p:Addr} (hp:hi≤p.block) {q:Addr} (hq:hi≤q.block) (hh:hi≤w.heap.size) (u u':Value):AsnV ((w.setCell p u).setCell q u') lo hi v a:=by
 obtain ⟨A1,c1,A2,c2,e,h1,h2⟩:=h
 exact ⟨A1,c1,A2,c2,e,h1.keepB (((Below.refl hi w).setCell hp u).setCell hq u') (Nat.le_refl _),h2.keepB (((Below.refl hi w).setCell hp u).setCell hq u') (Nat.le_refl _)⟩
end Go.Proofs.YtjjokmlmknllhaaGreat

/- Exposing cells: spec.l10Unfold. -/
namespace Go.Proofs.YtjjokmlmknllhaaGreat
open Go Go.RowKit Go.Proofs
attribute [local go_sem ↓] Go.wp_at_zero Go.wp_at_succ
theorem AsnO.parts {w:World} {b:Nat} {f g:Value} {a:Asn} (h:AsnO w b (.agg #[f,g]) a):FactsO w b f a.facts∧AtomsO w b g a.atoms:=by
 obtain ⟨_,_,e,h1,h2⟩:=h
 injection e with e
 injection e with e
 injection e with e1 e2
 injection e2 with e2 e3
 subst e1 e2
 exact ⟨h1,h2⟩
section
variable {ops:Array Oper} {o:Oper} {a:Act} {K:Act→World→Prop} {Q:Exit→Act→World→Prop} {E:Prop} {w:World} {base lo hi c n m:Nat} {v:Value} {A:Option Addr}
end
def OpC (n:Nat) (a:Asn) (t:Int) (K:Nat):Prop:=∀ (lo hi lo' hi':Nat) (v:Value) (B:Option Addr) (c:Nat) (w:World),AsnC w lo hi v a→BoolsV w lo' hi' B (flagsOf (tins K t))→a.facts.length≤1000→a.atoms.length≤1000→
 Calls Tryz.prog 84 #[v,.int .i64 t,.slice B 9 c,.int .i64 (n:Int)] w fun e w'=>∃ r vs l,e=.returned (.tuple #[r,.bool (exposeF n a t K).isSome])∧A2O w' w.heap.size r vs l∧l.length≤2 ^ n∧(exposeF n a t K=none∨exposeF n a t K=some l)∧Below w.heap.size w w'
def UnC (n:Nat) (a:Asn) (x:Atm) (i:Nat) (t:Int) (K:Nat):Prop:=∀ (lo hi lo' hi':Nat) (v:Value) (B:Option Addr) (c:Nat) (w:World),AsnC w lo hi v a→BoolsV w lo' hi' B (flagsOf (tins K t))→
 Calls Tryz.prog 151 #[v,.int .i64 t,.slice B 9 c,.int .i64 ((n:Int)+1),.int .i64 i] w fun e w'=>∃ r vs l,e=.returned (.tuple #[r,.bool (listF n a x i t K).isSome])∧A2O w' w.heap.size r vs l∧l.length≤2 ^ (n+1)∧(listF n a x i t K=none∨listF n a x i t K=some l)∧Below w.heap.size w w'
end Go.Proofs.YtjjokmlmknllhaaGreat

/- Appending assertions to a list of our own. -/
namespace Go.Proofs.YtjjokmlmknllhaaGreat
open Go Go.RowKit Go.Proofs
attribute [local go_sem ↓] Go.wp_at_zero Go.wp_at_succ
section
variable {ops:Array Oper} {rest:List Oper} {o:Oper} {a:Act} {Q:Exit→Act→World→Prop} {w w0:World} {base mid:Nat} {v v2:Value} {vs vs2:List Value} {ss ss2:List Asn}
end
end Go.Proofs.YtjjokmlmknllhaaGreat

/- What the reader draws: states. -/
namespace Go.Proofs.YtjjokmlmknllhaaGreat
open Go Go.RowKit Go.Proofs
abbrev tSt:Nat:=75
def blankS:Ste:=⟨List.replicate 8 0,List.replicate 8 (-1)⟩
def Dj (v v':Value):Prop:=∀ g,v.ownBlock=some g→v'.ownBlock≠some g
theorem Dj.symm {v v':Value} (h:Dj v v'):Dj v' v:=fun g h1 h2=>h g h2 h1
theorem Dj.new {w:World} {b:Nat} {v:Value} {xs:List Int} (h:IntsO w b v xs) {v':Value} {x:Nat} (he:v'.ownBlock=some x) (hx:w.heap.size≤x):Dj v v':=fun g hg e=>by
 have:=(h.1.lt g hg).2
 rw[he] at e;injection e with e;omega
end Go.Proofs.YtjjokmlmknllhaaGreat

/- What the reader draws: states in which an assertion often holds. -/
namespace Go.Proofs.YtjjokmlmknllhaaGreat
open Go Go.RowKit Go.Proofs
theorem IntsO.cell_ {w:World} {base:Nat} {A:Option Addr} {n c k:Nat} {fs:List Int} (h:IntsO w base (.slice A n c) fs) (hk:k<fs.length):∃ g cur,n=fs.length∧A=some ⟨g,0,none⟩∧base≤g∧Blk w g tI cur∧cur[k]? = some (.int .i64 fs[k])∧
  (∀ v:Int,IntsO (w.setCell ⟨g,k,none⟩ (.int .i64 v)) base (.slice A n c) (fs.set k v)):=by
 obtain ⟨⟨hl,h2⟩,hL⟩:=h
 rcases h2 with ⟨e,hn⟩|⟨g,cap,cur,e,hb,hh,hn,hm,hs,ht⟩
 ·omega
 ·injection e with e1 e2 e3
  subst e1 e2 e3
  have hK:Blk w g tI cur:=hh
  have hP:Pre cur (encI fs) (fs.length * 1):=by
   intro j hj
   rw[←ht,List.getElem?_take,if_pos hj];simp
  refine ⟨g,cur,rfl,rfl,hb,hK,(hP _ (by omega)).trans (by simp[List.getElem?_eq_getElem hk]),?_⟩
  intro v
  refine ⟨?_,by rw[List.length_set];exact hL⟩
  rw[show encI (fs.set k v)=(encI fs).set k (.int .i64 v) from by simp[encI,List.map_set],List.length_set]
  exact own_of_blk (hK.set_ k (.int .i64 v)) hb (by rw[List.length_set,hl]) (hP.setL k (.int .i64 v) (by rw[hs];exact Nat.mul_le_mul hn (Nat.le_refl _)) (by rw[hl];exact Nat.le_refl _)) hn hm (by simpa using hs)
def setV (vs:List Int) (t:Nat) (n:Int):List Int:=if t=0 then vs else vs.set (t - 1) n
end Go.Proofs.YtjjokmlmknllhaaGreat

/- Contracts: impl's copies of states. -/
namespace Go.Proofs.YtjjokmlmknllhaaGreat
open Go Go.RowKit Go.Proofs
def holdsF (s:Ste) (a:Asn):Bool:=(partOf s a).isSome&&(((bitsOf ((partOf s a).getD []):Nat):Int) == (bitsOf (usedL s.heap 8):Nat))
def usedF (s:Ste):List Int:=if s.valid then usedL s.heap 8 else []
end Go.Proofs.YtjjokmlmknllhaaGreat

/- The cells that an assertion describes: in a larger state and in a smaller one, and those of a conjunction. Plain; no program. -/
namespace Go.Proofs.YtjjokmlmknllhaaGreat
open Go Go.RowKit
def Sub (h' h:List Int):Prop:=∀ x,allocB h' x=true→allocB h x=true∧cont h x=cont h' x
/-! states -/
def keepH (h:List Int) (p:Int→Bool):List Int:=(List.range' 1 8).map fun n:Nat=>if p (n:Int) then cont h n else -1
def keepS (s:Ste) (p:Int→Bool):Ste:=⟨s.values,keepH s.heap p⟩
/-! the laws -/
end Go.Proofs.YtjjokmlmknllhaaGreat

/- A state in which a part holds satisfies the assertion; its case. Plain; no program. -/
namespace Go.Proofs.YtjjokmlmknllhaaGreat
open Go Go.RowKit
def caseOfF (s:Ste) (a:Asn):List Int:=canon (tval s.values) (caseS a 0)
def caseOfL (s:Ste) (a:Asn):List Int:=if s.valid&&a.valid then caseOfF s a else []
end Go.Proofs.YtjjokmlmknllhaaGreat

/- Entailment in a valuation: what it means, that it composes, and that it preserves truth. Plain; no program. -/
namespace Go.Proofs.YtjjokmlmknllhaaGreat
open Go Go.RowKit
def EntM (M:Int→Int) (a b:Asn):Prop:=(∀ f∈b.facts,decide (M f.a=M f.b)=f.eq)∧Cover M (a.atoms.filter (fillM M)) (b.atoms.filter (fillM M))
section
variable {M N:Int→Int} {T:Int→Prop} {F G:List Atm}
theorem Clo.same (h0:T 0) (he:∀ s t,T s→T t→(M s=M t↔N s=N t)) {q:Int} (hF:∀ y∈F,T y.a∧T y.b) (hq:T q) (h:Clo M F (M q)):Clo N F (N q):=by
 rcases h with h|⟨y,hy,e⟩
 ·exact .inl ((he _ _ hq h0).1 h)
 ·exact .inr ⟨y,hy,(he _ _ (hF y hy).1 hq).1 e⟩
theorem SegM.same (h0:T 0) (he:∀ s t,T s→T t→(M s=M t↔N s=N t)) (hF:∀ y∈F,T y.a∧T y.b) {q:Int} (hq:T q):∀ (cs:List Atm) (p:Int),T p→(∀ y∈cs,y∈F)→SegM M F (M q) (M p) cs→SegM N F (N q) (N p) cs
 | [],_,_,_,h=>absurd h id
 | y :: cs,p,hp,hm,h=>by
  have hy:=hF y (hm y List.mem_cons_self)
  refine ⟨(he _ _ hy.1 hp).1 h.1,?_⟩
  rcases h.2 with ⟨e,hb⟩|⟨hne,hb,hc,hs⟩
  ·exact .inl ⟨e,(he _ _ hy.2 hq).1 hb⟩
  ·exact .inr ⟨hne,fun e=>hb ((he _ _ hy.2 hq).2 e),fun hk=>(hc hk).same h0 he hF hq,SegM.same h0 he hF hq cs y.b hy.2 (fun z hz=>hm z (List.mem_cons_of_mem _ hz)) hs⟩
theorem Cover.same (h0:T 0) (he:∀ s t,T s→T t→(M s=M t↔N s=N t)) (hF:∀ y∈F,T y.a∧T y.b) (hG:∀ y∈G,T y.a∧T y.b) (h:Cover M F G):Cover N F G:=by
 obtain ⟨g,h1,h2⟩:=h
 refine ⟨g,fun x hx=>?_,h2⟩
 have hm:∀ y∈g x,y∈F:=fun y hy=>h2.mem_iff.2 (List.mem_flatMap.2 ⟨x,hx,hy⟩)
 have hc:=h1 x hx
 unfold CovM at hc ⊢
 split
 ·rename_i hk
  rw[if_pos hk] at hc
  obtain ⟨y,e,e2⟩:=hc
  have hy:=hF y (hm y (by rw[e];simp))
  obtain ⟨e3,e4,e5⟩:=cls_inj e2
  refine ⟨y,e,?_⟩
  unfold clsM
  rw[e3,(he _ _ hy.1 (hG x hx).1).1 e4,(he _ _ hy.2 (hG x hx).2).1 e5]
 ·rename_i hk
  rw[if_neg hk] at hc
  exact SegM.same h0 he hF (hG x hx).2 _ _ (hG x hx).1 hm hc
theorem fill_same (he:∀ s t,T s→T t→(M s=M t↔N s=N t)) {xs:List Atm} (hx:∀ y∈xs,T y.a∧T y.b):xs.filter (fillM M)=xs.filter (fillM N):=by
 refine List.filter_congr fun y hy=>?_
 unfold fillM
 rw[decide_eq_decide.2 (he _ _ (hx y hy).1 (hx y hy).2)]
theorem EntM.same {a b:Asn} (h0:T 0) (he:∀ s t,T s→T t→(M s=M t↔N s=N t)) (ha:∀ y∈a.atoms,T y.a∧T y.b) (hb:∀ y∈b.atoms,T y.a∧T y.b) (hf:∀ f∈b.facts,T f.a∧T f.b) (h:EntM M a b):EntM N a b:=by
 refine ⟨fun f hm=>?_,?_⟩
 ·rw[←h.1 f hm,decide_eq_decide]
  exact (he _ _ (hf f hm).1 (hf f hm).2).symm
 ·rw[←fill_same he ha,←fill_same he hb]
  exact h.2.same h0 he (fun y hy=>ha y (List.mem_filter.1 hy).1) (fun y hy=>hb y (List.mem_filter.1 hy).1)
end
theorem valid_kind {a:Asn} (h:a.valid=true) {x:Atm} (hx:x∈a.atoms):x.kind=1∨x.kind=2:=by
 simp only[Asn.valid,Bool.and_eq_true] at h
 have:=List.all_eq_true.1 h.2.2 x hx
 simp[Atm.valid] at this
 exact this.1.1
section
variable {M:Int→Int} {a b c:Asn}
theorem EntM.trans (h1:EntM M a b) (h2:EntM M b c) (ha:Sat M a) (hb:b.valid=true):EntM M a c:=
 ⟨h2.1,h1.2.trans h2.2 ha.apart (fun y hy=>ha.nil y (List.mem_filter.1 hy).1 (List.mem_filter.1 hy).2) fun z hz=>valid_kind hb (List.mem_filter.1 hz).1⟩
theorem Cover.perm {F G:List Atm} (h:F.Perm G):Cover M F G:=by
 refine ⟨fun x=>[x],fun x hx=>?_,by simpa using h⟩
 unfold CovM
 split
 ·exact ⟨x,rfl,rfl⟩
 ·exact ⟨rfl,.inl ⟨rfl,rfl⟩⟩
theorem EntM.refl (ha:Sat M a):EntM M a a:=⟨ha.facts,Cover.perm (List.Perm.refl _)⟩
end
/-! truth in states -/
def cellsOf (s:Ste) (x:Atm):List Int:=(atomCells s x).getD []
end Go.Proofs.YtjjokmlmknllhaaGreat

/- Exposing a cell is exact: the results entail the assertion, and one of them holds where it does. Plain; no program. -/
namespace Go.Proofs.YtjjokmlmknllhaaGreat
open Go Go.RowKit
section
variable {M:Int→Int} {F G G':List Atm} {a:Asn} {x:Atm} {i:Nat} {t m:Int}
theorem Cover.mk {css:List (List Atm)} (h:Covs M F G css) (hp:F.Perm css.flatten) (hn:(F.map fun y=>M y.a).Nodup):Cover M F G:=by
 have hs:=covs_starts G css h
 obtain ⟨g,g1,g2⟩:=covs_fun G css h (((hp.map fun y=>M y.a).nodup_iff.1 hn).sublist hs)
 exact ⟨g,g2,by rw[←g1];exact hp⟩
end
end Go.Proofs.YtjjokmlmknllhaaGreat

/- Exposing cells: spec.l10Open, spec.ExposeCell. Printed by genOpnO.py. -/
namespace Go.Proofs.YtjjokmlmknllhaaGreat
open Go Go.RowKit Go.Proofs
attribute [local go_sem ↓] Go.wp_at_zero Go.wp_at_succ
end Go.Proofs.YtjjokmlmknllhaaGreat

/- Exposing cells: spec.ExposeCell. -/
namespace Go.Proofs.YtjjokmlmknllhaaGreat
open Go Go.RowKit Go.Proofs
attribute [local go_sem ↓] Go.wp_at_zero Go.wp_at_succ
theorem BoolsO.readsI9 {w:World} {base:Nat} {A:Option Addr} {n c:Nat} {fs:List Bool} (h:BoolsO w base (.slice A n c) fs):BoolsV w base w.heap.size A fs:=by
 obtain ⟨A',c',e,h1⟩:=h.reads
 injection e with e1 e2 e3
 subst e1
 exact h1
end Go.Proofs.YtjjokmlmknllhaaGreat
