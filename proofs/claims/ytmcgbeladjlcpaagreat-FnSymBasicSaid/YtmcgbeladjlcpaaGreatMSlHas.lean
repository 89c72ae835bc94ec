/- Cases: the class lists of an assertion, and the two pruned searches that give them. Plain; no program. -/
import Derived.Test.YtmcgbeladjlcpaaGreatMOpenC
import Derived.RangeFuncWrites
import Derived.RangeFuncLeaves
import Derived.RangeFuncBound
import Derived.RangeFuncCalls
import Derived.WalkKit
import Derived.OwnWalkIn
import Derived.TacticsInMore
import Derived.LoopNIn
import Derived.LoopIn
import Derived.OrdersIn
import Derived.Deep.RegionHeld3
import Derived.BigQuiet
import Derived.Deep.QuietTactic
set_option linter.unusedSimpArgs false
set_option linter.unusedVariables false
set_option maxRecDepth 100000
set_option maxHeartbeats 25600000
namespace Go.Proofs.YtmcgbeladjlcpaaGreat
section
open Go
def cl (c:List Int) (t:Int):Int:=(c[t.toNat]?).getD 0
def Fct.fits (c:List Int) (f:Fct):Bool:=decide (cl c f.a=cl c f.b) == f.eq
def Atm.fill (c:List Int) (x:Atm):Bool:=decide (x.kind=1) || !decide (cl c x.a=cl c x.b)
def Atm.cls (c:List Int) (x:Atm):Atm:=⟨x.kind,cl c x.a,cl c x.b⟩
def filledL (xs:List Atm) (c:List Int):List Atm:=(xs.filter (Atm.fill c)).map (Atm.cls c)
def apartF:List Int→List Atm→Bool
 | _,[]=>true
 | seen,x :: xs=>!decide (x.a=0) && !decide (x.a∈seen)&&apartF (seen++[x.a]) xs
def full (a:Asn) (c:List Int):Bool:=a.facts.all (Fct.fits c)&&apartF [] (filledL a.atoms c)
def gen (S:Nat):Nat→List Int→List (List Int)
 | 0,c=>[c]
 | n+1,c=>if S.testBit (8 - n) then (List.range (9 - n)).flatMap fun k=>if k<8 - n∧cl c k≠k then [] else gen S n (c.set (8 - n) k) else gen S n (c.set (8 - n) (-1))
def zeros:List Int:=[0,0,0,0,0,0,0,0,0]
def opened:List Int:=[0,-1,-1,-1,-1,-1,-1,-1,-1]
def cases (a:Asn) (S:Nat):List (List Int):=(gen S 9 zeros).filter (full a)
def possF (c:List Int) (last:Int) (fs:List Fct):Bool:=fs.all fun f=>!(decide (f.a≤last)&&decide (f.b≤last) && !f.fits c)
def inLast (c:List Int) (last:Int) (x:Atm):Bool:=decide (x.a≤last)&&decide (x.b≤last)&&x.fill c
def possA (c:List Int) (last:Int):List Int→List Atm→Bool
 | _,[]=>true
 | seen,x :: xs=>if inLast c last x then !decide (cl c x.a=0) && !decide (cl c x.a∈seen)&&possA c last (seen++[cl c x.a]) xs else possA c last seen xs
def poss (a:Asn) (c:List Int) (last:Int):Bool:=possF c last a.facts&&possA c last [] a.atoms
def ext (a:Asn) (S:Nat):Nat→List Int→List (List Int)
 | 0,c=>[c]
 | n+1,c=>if S.testBit (8 - n) then (List.range (9 - n)).flatMap fun k=>if k<8 - n∧cl c k≠k then [] else if poss a (c.set (8 - n) k) (8 - n:Nat) then ext a S n (c.set (8 - n) k) else [] else ext a S n (c.set (8 - n) (-1))
def fitsS (c:List Int) (fs:List Fct):Bool:=fs.all fun f=>!(decide (0≤cl c f.a)&&decide (0≤cl c f.b) && !f.fits c)
def earlyF (c:List Int):List Int→List Atm→Bool
 | _,[]=>true
 | seen,x :: xs=>if decide (x.kind=1)&&decide (0≤cl c x.a) then !decide (cl c x.a=0) && !decide (cl c x.a∈seen)&&earlyF c (seen++[cl c x.a]) xs else earlyF c seen xs
def seek (a:Asn) (S:Nat):Nat→List Int→List (List Int)
 | 0,c=>if fitsS c a.facts&&earlyF c [] a.atoms then (if apartF [] (filledL a.atoms c) then [c] else []) else []
 | n+1,c=>if fitsS c a.facts&&earlyF c [] a.atoms then (if S.testBit (8 - n) then (List.range (9 - n)).flatMap fun k=>if k<8 - n∧cl c k≠k then [] else seek a S n (c.set (8 - n) k) else seek a S n c) else []
theorem flatMap_congr' {α β:Type} {l:List α} {f g:α→List β} (h:∀ x∈l,f x=g x):l.flatMap f=l.flatMap g:=by
 induction l with
 | nil=>rfl
 | cons x xs ih=>rw[List.flatMap_cons,List.flatMap_cons,h x List.mem_cons_self,ih fun y hy=>h y (List.mem_cons_of_mem _ hy)]
section
variable {c d:List Int}
theorem cl_set (h:c.length=9) {t:Nat} (ht:t<9) (v:Int) {j:Int} (hj:0≤j):cl (c.set t v) j=if j=t then v else cl c j:=by
 unfold cl
 by_cases e:j=t
 ·subst e
  rw[if_pos rfl,Int.toNat_natCast,List.getElem?_set_self (by omega)];rfl
 ·rw[if_neg e,List.getElem?_set_ne (by omega)]
def Agr (c d:List Int) (last:Int):Prop:=∀ j:Int,0≤j→j≤last→cl d j=cl c j
theorem Agr.fits {f:Fct} {last:Int} (h:Agr c d last) (ha:0≤f.a) (hb:0≤f.b) (h1:f.a≤last) (h2:f.b≤last):f.fits d=f.fits c:=by
 unfold Fct.fits;rw[h _ ha h1,h _ hb h2]
theorem Agr.fill {f:Atm} {last:Int} (h:Agr c d last) (ha:0≤f.a) (hb:0≤f.b) (h1:f.a≤last) (h2:f.b≤last):f.fill d=f.fill c:=by
 unfold Atm.fill;rw[h _ ha h1,h _ hb h2]
def FactsOk (fs:List Fct):Prop:=∀ f∈fs,(0≤f.a∧f.a≤8)∧(0≤f.b∧f.b≤8)
def AtomsOk (xs:List Atm):Prop:=∀ x∈xs,(0≤x.a∧x.a≤8)∧(0≤x.b∧x.b≤8)
theorem Agr.possF {fs:List Fct} {last:Int} (h:Agr c d last) (hf:FactsOk fs):possF d last fs=possF c last fs:=by
 unfold Go.Proofs.YtmcgbeladjlcpaaGreat.possF
 rw[Bool.eq_iff_iff,List.all_eq_true,List.all_eq_true]
 refine forall_congr' fun f=>forall_congr' fun hm=>?_
 obtain ⟨⟨h1,-⟩,⟨h2,-⟩⟩:=hf f hm
 by_cases e1:f.a≤last
 ·by_cases e2:f.b≤last
  ·rw[h.fits h1 h2 e1 e2]
  ·simp[e2]
 ·simp[e1]
theorem Agr.inLast {x:Atm} {last:Int} (h:Agr c d last) (ha:0≤x.a) (hb:0≤x.b):inLast d last x=inLast c last x:=by
 unfold Go.Proofs.YtmcgbeladjlcpaaGreat.inLast
 by_cases e1:x.a≤last
 ·by_cases e2:x.b≤last
  ·rw[h.fill ha hb e1 e2]
  ·simp[e2]
 ·simp[e1]
theorem inLast_le {x:Atm} {last:Int} (h:inLast c last x=true):x.a≤last∧x.b≤last∧x.fill c=true:=by
 simp[inLast] at h;exact ⟨h.1.1,h.1.2,h.2⟩
theorem Agr.possA {last:Int} (h:Agr c d last):∀ (xs:List Atm) (seen:List Int),AtomsOk xs→possA d last seen xs=possA c last seen xs:=by
 intro xs
 induction xs with
 | nil=>intro seen _;rfl
 | cons x xs ih=>
  intro seen hx
  have hx':AtomsOk xs:=fun y hy=>hx y (List.mem_cons_of_mem _ hy)
  obtain ⟨⟨h1,-⟩,⟨h2,-⟩⟩:=hx x List.mem_cons_self
  unfold Go.Proofs.YtmcgbeladjlcpaaGreat.possA
  rw[h.inLast h1 h2]
  cases e:Go.Proofs.YtmcgbeladjlcpaaGreat.inLast c last x
  ·simp only[Bool.false_eq_true,if_false];exact ih _ hx'
  ·rw[if_pos rfl,if_pos rfl,h _ h1 (inLast_le e).1,ih _ hx']
theorem Agr.poss {a:Asn} {last:Int} (h:Agr c d last) (hf:FactsOk a.facts) (hx:AtomsOk a.atoms):poss a d last=poss a c last:=by
 unfold Go.Proofs.YtmcgbeladjlcpaaGreat.poss;rw[h.possF hf,h.possA _ _ hx]
theorem possA_iff (c:List Int) (last:Int):∀ (xs:List Atm) (seen:List Int),possA c last seen xs=true↔
  ((∀ x∈xs,inLast c last x=true→cl c x.a≠0∧cl c x.a∉seen)∧((xs.filter (inLast c last)).map fun x=>cl c x.a).Nodup):=by
 intro xs
 induction xs with
 | nil=>intro seen;simp[possA]
 | cons x xs ih=>
  intro seen
  unfold possA
  cases e:inLast c last x
  ·simp only[Bool.false_eq_true,if_false,ih]
   rw[List.filter_cons_of_neg (by simp[e])]
   constructor
   ·rintro ⟨h1,h2⟩
    refine ⟨fun y hy=>?_,h2⟩
    rcases List.mem_cons.1 hy with rfl|hy
    ·intro h;rw[e] at h;cases h
    ·exact h1 y hy
   ·rintro ⟨h1,h2⟩
    exact ⟨fun y hy=>h1 y (List.mem_cons_of_mem _ hy),h2⟩
  ·rw[if_pos rfl,List.filter_cons_of_pos e,List.map_cons,List.nodup_cons]
   simp only[Bool.and_eq_true,Bool.not_eq_true',decide_eq_false_iff_not,ih]
   constructor
   ·rintro ⟨⟨g1,g2⟩,g3,g4⟩
    refine ⟨fun y hy hl=>?_,?_,g4⟩
    ·rcases List.mem_cons.1 hy with rfl|hy
     ·exact ⟨g1,g2⟩
     ·have:=g3 y hy hl
      exact ⟨this.1,fun h=>this.2 (List.mem_append_left _ h)⟩
    ·intro hm
     obtain ⟨y,hy,ey⟩:=List.mem_map.1 hm
     rw[List.mem_filter] at hy
     exact (g3 y hy.1 hy.2).2 (List.mem_append_right _ (by simp[ey]))
   ·rintro ⟨g1,g2,g3⟩
    have:=g1 x List.mem_cons_self e
    refine ⟨⟨this.1,this.2⟩,fun y hy hl=>?_,g3⟩
    have h2:=g1 y (List.mem_cons_of_mem _ hy) hl
    refine ⟨h2.1,fun h=>?_⟩
    rcases List.mem_append.1 h with h|h
    ·exact h2.2 h
    ·exact g2 (List.mem_map.2 ⟨y,List.mem_filter.2 ⟨hy,hl⟩,by simpa using h⟩)
theorem possA_mono {last last':Int} (hl:last≤last') {xs:List Atm} {seen:List Int} (h:possA c last' seen xs=true):possA c last seen xs=true:=by
 rw[possA_iff] at h ⊢
 have him:∀ x,inLast c last x=true→inLast c last' x=true:=by
  intro x hx
  have:=inLast_le hx
  simp[inLast,this.2.2];omega
 refine ⟨fun x hx hi=>h.1 x hx (him x hi),?_⟩
 refine List.Nodup.sublist ?_ h.2
 apply List.Sublist.map
 have e:xs.filter (inLast c last)=(xs.filter (inLast c last')).filter (inLast c last):=by
  rw[List.filter_filter]
  apply List.filter_congr
  intro x _
  cases e:inLast c last x
  ·simp
  ·simp[him x e]
 rw[e]
 exact List.filter_sublist
theorem possF_mono {last last':Int} (hl:last≤last') {fs:List Fct} (h:possF c last' fs=true):possF c last fs=true:=by
 unfold possF at *
 rw[List.all_eq_true] at h ⊢
 intro f hf
 have:=h f hf
 by_cases e1:f.a≤last
 ·by_cases e2:f.b≤last
  ·have e3:f.a≤last':=by omega
   have e4:f.b≤last':=by omega
   simpa [e1,e2,e3,e4] using this
  ·simp[e2]
 ·simp[e1]
theorem poss_mono {a:Asn} {last last':Int} (hl:last≤last') (h:poss a c last'=true):poss a c last=true:=by
 unfold poss at *
 rw[Bool.and_eq_true] at h ⊢
 exact ⟨possF_mono hl h.1,possA_mono hl h.2⟩
theorem apart_possA:∀ (xs:List Atm) (seen:List Int),AtomsOk xs→apartF seen (filledL xs c)=possA c 8 seen xs:=by
 intro xs
 induction xs with
 | nil=>intro seen _;rfl
 | cons x xs ih=>
  intro seen hx
  have hx':AtomsOk xs:=fun y hy=>hx y (List.mem_cons_of_mem _ hy)
  obtain ⟨⟨-,h1⟩,⟨-,h2⟩⟩:=hx x List.mem_cons_self
  have e:inLast c 8 x=x.fill c:=by simp[inLast,h1,h2]
  unfold possA filledL
  rw[e]
  cases hf:x.fill c
  ·rw[List.filter_cons_of_neg (by simp[hf])]
   simp only[Bool.false_eq_true,if_false]
   exact ih _ hx'
  ·rw[List.filter_cons_of_pos hf,List.map_cons,if_pos rfl]
   unfold apartF
   have:=ih (seen++[cl c x.a]) hx'
   unfold filledL at this
   rw[show (Atm.cls c x).a=cl c x.a from rfl,this]
theorem full_poss {a:Asn} (hf:FactsOk a.facts) (hx:AtomsOk a.atoms):full a c=poss a c 8:=by
 unfold full poss
 rw[apart_possA _ _ hx]
 congr 1
 unfold possF
 rw[Bool.eq_iff_iff,List.all_eq_true,List.all_eq_true]
 refine forall_congr' fun f=>forall_congr' fun hm=>?_
 obtain ⟨⟨-,h1⟩,⟨-,h2⟩⟩:=hf f hm
 simp[h1,h2]
theorem gen_ok (S:Nat):∀ (n:Nat) (c d:List Int),n≤9→c.length=9→d∈gen S n c→d.length=9∧Agr c d (8 - n:Int)∧∀ j:Nat,9 - n≤j→j<9→(S.testBit j=true→0≤cl d j∧cl d j≤j)∧(S.testBit j=false→cl d j = -1):=by
 intro n
 induction n with
 | zero=>
  intro c d _ hc hd
  simp only[gen,List.mem_singleton] at hd
  subst hd
  exact ⟨hc,fun j _ _=>rfl,fun j h1 h2=>by omega⟩
 | succ n ih=>
  intro c d hn hc hd
  have key:∀ v:Int,d∈gen S n (c.set (8 - n) v)→d.length=9∧Agr c d (8 - (n+1:Nat):Int)∧cl d ((8 - n:Nat):Int)=v∧∀ j:Nat,9 - n≤j→j<9→(S.testBit j=true→0≤cl d j∧cl d j≤j)∧(S.testBit j=false→cl d j = -1):=by
   intro v hd
   obtain ⟨h1,h2,h3⟩:=ih _ _ (by omega) (by simpa using hc) hd
   refine ⟨h1,fun j h0 hj=>?_,?_,h3⟩
   ·rw[h2 j h0 (by omega),cl_set hc (by omega) _ h0,if_neg (by omega)]
   ·rw[h2 _ (by omega) (by omega),cl_set hc (by omega) _ (by omega),if_pos rfl]
  unfold gen at hd
  cases e:S.testBit (8 - n)
  ·rw[e] at hd
   simp only[Bool.false_eq_true,if_false] at hd
   obtain ⟨h1,h2,h3,h4⟩:=key _ hd
   refine ⟨h1,h2,fun j hj hj'=>?_⟩
   by_cases ej:j=8 - n
   ·subst ej;exact ⟨fun h=>(by rw[e] at h;cases h),fun _=>h3⟩
   ·exact h4 j (by omega) hj'
  ·rw[e,if_pos rfl,List.mem_flatMap] at hd
   obtain ⟨k,hk,hd⟩:=hd
   rw[List.mem_range] at hk
   split at hd
   ·cases hd
   ·obtain ⟨h1,h2,h3,h4⟩:=key _ hd
    refine ⟨h1,h2,fun j hj hj'=>?_⟩
    by_cases ej:j=8 - n
    ·subst ej;exact ⟨fun _=>by rw[h3];omega,fun h=>by rw[e] at h;cases h⟩
    ·exact h4 j (by omega) hj'
theorem gen_congr (S:Nat):∀ (n:Nat) (c d:List Int),n≤9→c.length=9→d.length=9→Agr c d (8 - n:Int)→gen S n d=gen S n c:=by
 intro n
 induction n with
 | zero=>
  intro c d _ hc hd h
  have:d=c:=by
   apply List.ext_getElem (by omega)
   intro j h1 h2
   have:=h j (by omega) (by omega)
   simpa [cl,List.getElem?_eq_getElem h1,List.getElem?_eq_getElem h2] using this
  rw[this]
 | succ n ih=>
  intro c d hn hc hd h
  have key:∀ v:Int,gen S n (d.set (8 - n) v)=gen S n (c.set (8 - n) v):=by
   intro v
   refine ih _ _ (by omega) (by simpa using hc) (by simpa using hd) fun j h0 hj=>?_
   rw[cl_set hd (by omega) _ h0,cl_set hc (by omega) _ h0]
   split
   ·rfl
   ·exact h j h0 (by omega)
  unfold gen
  rw[key]
  split
  ·apply flatMap_congr'
   intro k hk
   rw[List.mem_range] at hk
   rw[key]
   by_cases hlt:k<8 - n
   ·rw[h k (by omega) (by omega)]
   ·simp[hlt]
  ·rfl
theorem filter_none {α:Type} {p:α→Bool} {l:List α} (h:∀ x∈l,p x=false):l.filter p=[]:=by
 rw[List.filter_eq_nil_iff];intro x hx;simp[h x hx]
theorem ext_eq {a:Asn} {S:Nat} (hf:FactsOk a.facts) (hx:AtomsOk a.atoms) (hS:∀ t:Nat,S.testBit t=false→(∀ f∈a.facts,f.a≠t∧f.b≠t)∧(∀ x∈a.atoms,x.a≠t∧x.b≠t)) :
  ∀ (n:Nat) (c:List Int),n≤9→c.length=9→poss a c (8 - n:Int)=true→ext a S n c=(gen S n c).filter (full a):=by
 intro n
 induction n with
 | zero=>
  intro c _ hc hp
  simp only[ext,gen]
  rw[List.filter_cons_of_pos]
  ·rfl
  ·rw[full_poss hf hx];simpa using hp
 | succ n ih=>
  intro c hn hc hp
  unfold ext gen
  cases e:S.testBit (8 - n)
  ·simp only[Bool.false_eq_true,if_false]
   refine ih _ (by omega) (by simpa using hc) ?_
   obtain ⟨n1,n2⟩:=hS _ e
   have hA:Agr c (c.set (8 - n) (-1)) (8 - (n+1:Nat):Int):=fun j h0 hj=>by rw[cl_set hc (by omega) _ h0,if_neg (by omega)]
   rw[←hA.poss hf hx] at hp
   generalize c.set (8 - n) (-1)=d at hp ⊢
   unfold poss at hp ⊢
   rw[Bool.and_eq_true] at hp ⊢
   constructor
   ·have h1:=hp.1
    unfold possF at h1 ⊢
    rw[List.all_eq_true] at h1 ⊢
    intro f hm
    have h2:=h1 f hm
    have h3:=n1 f hm
    have e1:(f.a≤(8 - (n+1:Nat):Int))↔f.a≤(8 - n:Int):=by omega
    have e2:(f.b≤(8 - (n+1:Nat):Int))↔f.b≤(8 - n:Int):=by omega
    rw[decide_eq_decide.2 e1,decide_eq_decide.2 e2] at h2
    exact h2
   ·have h1:=hp.2
    rw[possA_iff] at h1 ⊢
    have e0:∀ x∈a.atoms,inLast d (8 - n:Int) x=inLast d (8 - (n+1:Nat):Int) x:=by
     intro x hm
     have h3:=n2 x hm
     have e1:(x.a≤(8 - (n+1:Nat):Int))↔x.a≤(8 - n:Int):=by omega
     have e2:(x.b≤(8 - (n+1:Nat):Int))↔x.b≤(8 - n:Int):=by omega
     unfold inLast
     rw[decide_eq_decide.2 e1,decide_eq_decide.2 e2]
    refine ⟨fun x hm hi=>h1.1 x hm (by rw[←e0 x hm];exact hi),?_⟩
    rw[List.filter_congr e0]
    exact h1.2
  ·rw[if_pos rfl,if_pos rfl,List.filter_flatMap]
   apply flatMap_congr'
   intro k hk
   rw[List.mem_range] at hk
   split
   ·rfl
   ·have hn8:((8 - n:Nat):Int)=(8 - n:Int):=by omega
    split
    ·rename_i hps
     rw[hn8] at hps
     exact ih _ (by omega) (by simpa using hc) hps
    ·rename_i hps
     symm
     apply filter_none
     intro d hd
     obtain ⟨-,h2,-⟩:=gen_ok S n _ d (by omega) (by simpa using hc) hd
     cases hfu:full a d
     ·rfl
     ·rw[full_poss hf hx] at hfu
      have:=poss_mono (last:=(8 - n:Int)) (by omega) hfu
      rw[h2.poss hf hx,←hn8] at this
      exact absurd this hps
theorem poss_low {a:Asn} (hf:FactsOk a.facts) (hx:AtomsOk a.atoms):poss a c (-1)=true:=by
 unfold poss
 rw[Bool.and_eq_true]
 constructor
 ·unfold possF
  rw[List.all_eq_true]
  intro f hm
  have:=hf f hm
  have e:¬f.a≤-1:=by omega
  simp[e]
 ·rw[possA_iff]
  have e0:∀ x∈a.atoms,inLast c (-1) x=false:=by
   intro x hm
   have:=hx x hm
   have e:¬x.a≤-1:=by omega
   simp[inLast,e]
  refine ⟨fun x hm hi=>(by rw[e0 x hm] at hi;cases hi),?_⟩
  rw[filter_none e0];simp
theorem ext_cases {a:Asn} {S:Nat} (hf:FactsOk a.facts) (hx:AtomsOk a.atoms) (hS:∀ t:Nat,S.testBit t=false→(∀ f∈a.facts,f.a≠t∧f.b≠t)∧(∀ x∈a.atoms,x.a≠t∧x.b≠t)):ext a S 9 zeros=cases a S:=
 ext_eq hf hx hS 9 zeros (by omega) rfl (poss_low hf hx)
theorem earlyF_iff (c:List Int):∀ (xs:List Atm) (seen:List Int),earlyF c seen xs=true↔
  ((∀ x∈xs,(x.kind=1∧0≤cl c x.a)→cl c x.a≠0∧cl c x.a∉seen)∧((xs.filter fun x=>decide (x.kind=1)&&decide (0≤cl c x.a)).map fun x=>cl c x.a).Nodup):=by
 intro xs
 induction xs with
 | nil=>intro seen;simp[earlyF]
 | cons x xs ih=>
  intro seen
  unfold earlyF
  cases e:(decide (x.kind=1)&&decide (0≤cl c x.a))
  ·simp only[Bool.false_eq_true,if_false,ih]
   have e':¬(x.kind=1∧0≤cl c x.a):=by simpa using e
   rw[List.filter_cons_of_neg (by simp[e])]
   constructor
   ·rintro ⟨h1,h2⟩
    refine ⟨fun y hy=>?_,h2⟩
    rcases List.mem_cons.1 hy with rfl|hy
    ·exact fun h=>absurd h e'
    ·exact h1 y hy
   ·rintro ⟨h1,h2⟩
    exact ⟨fun y hy=>h1 y (List.mem_cons_of_mem _ hy),h2⟩
  ·have e':x.kind=1∧0≤cl c x.a:=by simpa using e
   rw[if_pos rfl,List.filter_cons_of_pos (by simpa using e),List.map_cons,List.nodup_cons]
   simp only[Bool.and_eq_true,Bool.not_eq_true',decide_eq_false_iff_not,ih]
   constructor
   ·rintro ⟨⟨g1,g2⟩,g3,g4⟩
    refine ⟨fun y hy hl=>?_,?_,g4⟩
    ·rcases List.mem_cons.1 hy with rfl|hy
     ·exact ⟨g1,g2⟩
     ·have:=g3 y hy hl
      exact ⟨this.1,fun h=>this.2 (List.mem_append_left _ h)⟩
    ·intro hm
     obtain ⟨y,hy,ey⟩:=List.mem_map.1 hm
     rw[List.mem_filter] at hy
     exact (g3 y hy.1 (by simpa using hy.2)).2 (List.mem_append_right _ (by simp[ey]))
   ·rintro ⟨g1,g2,g3⟩
    have:=g1 x List.mem_cons_self e'
    refine ⟨⟨this.1,this.2⟩,fun y hy hl=>?_,g3⟩
    have h2:=g1 y (List.mem_cons_of_mem _ hy) hl
    refine ⟨h2.1,fun h=>?_⟩
    rcases List.mem_append.1 h with h|h
    ·exact h2.2 h
    ·exact g2 (List.mem_map.2 ⟨y,List.mem_filter.2 ⟨hy,by simpa using hl⟩,by simpa using h⟩)
theorem full_early {a:Asn} (hf:FactsOk a.facts) (hx:AtomsOk a.atoms) (hA:∀ j:Int,0≤j→j≤8→0≤cl c j→cl d j=cl c j) (h:full a d=true):(fitsS c a.facts&&earlyF c [] a.atoms)=true:=by
 have hp:=h
 rw[full_poss hf hx] at hp
 unfold full at h
 unfold poss at hp
 rw[Bool.and_eq_true] at h hp ⊢
 have hF:=List.all_eq_true.1 h.1
 have hP:=(possA_iff _ _ _ _).1 hp.2
 constructor
 ·unfold fitsS
  rw[List.all_eq_true]
  intro f hm
  obtain ⟨⟨a1,a2⟩,⟨b1,b2⟩⟩:=hf f hm
  by_cases e1:0≤cl c f.a
  ·by_cases e2:0≤cl c f.b
   ·have h1:=hF f hm
    unfold Fct.fits at h1 ⊢
    rw[hA _ a1 a2 e1,hA _ b1 b2 e2] at h1
    simp[h1]
   ·simp[e2]
  ·simp[e1]
 ·have him:∀ x∈a.atoms,x.kind=1∧0≤cl c x.a→inLast d 8 x=true∧cl d x.a=cl c x.a:=by
   rintro x hm ⟨h1,h2⟩
   obtain ⟨⟨a1,a2⟩,⟨b1,b2⟩⟩:=hx x hm
   exact ⟨by simp[inLast,a2,b2,Atm.fill,h1],hA _ a1 a2 h2⟩
  rw[earlyF_iff]
  refine ⟨fun x hm hk=>?_,?_⟩
  ·obtain ⟨g1,g2⟩:=him x hm hk
   have:=(hP.1 x hm g1).1
   rw[g2] at this
   exact ⟨this,by simp⟩
  ·have e:((a.atoms.filter fun x=>decide (x.kind=1)&&decide (0≤cl c x.a)).map fun x=>cl c x.a)=((a.atoms.filter fun x=>decide (x.kind=1)&&decide (0≤cl c x.a)).map fun x=>cl d x.a):=by
    apply List.map_congr_left
    intro x hm
    rw[List.mem_filter] at hm
    exact (him x hm.1 (by simpa using hm.2)).2.symm
   rw[e]
   refine List.Nodup.sublist ?_ hP.2
   apply List.Sublist.map
   have e2:(a.atoms.filter fun x=>decide (x.kind=1)&&decide (0≤cl c x.a))=(a.atoms.filter (inLast d 8)).filter fun x=>decide (x.kind=1)&&decide (0≤cl c x.a):=by
    rw[List.filter_filter]
    apply List.filter_congr
    intro x hm
    cases e3:(decide (x.kind=1)&&decide (0≤cl c x.a))
    ·simp
    ·simp[(him x hm (by simpa using e3)).1]
   rw[e2]
   exact List.filter_sublist
theorem seek_eq {a:Asn} {S:Nat} (hf:FactsOk a.facts) (hx:AtomsOk a.atoms) (hS:∀ t:Nat,S.testBit t=false→(∀ f∈a.facts,f.a≠t∧f.b≠t)∧(∀ x∈a.atoms,x.a≠t∧x.b≠t)) :
  ∀ (n:Nat) (c:List Int),n≤9→c.length=9→(∀ j:Nat,9 - n≤j→j<9→cl c j = -1)→(∀ j:Nat,j<9 - n→S.testBit j=true→0≤cl c j)→seek a S n c=(gen S n c).filter (full a):=by
 intro n
 induction n with
 | zero=>
  intro c _ hc _ hp
  simp only[seek,gen]
  have hF:fitsS c a.facts=a.facts.all (Fct.fits c):=by
   unfold fitsS
   rw[Bool.eq_iff_iff,List.all_eq_true,List.all_eq_true]
   refine forall_congr' fun f=>forall_congr' fun hm=>?_
   obtain ⟨⟨a1,a2⟩,⟨b1,b2⟩⟩:=hf f hm
   have k1:0≤cl c f.a:=by
    obtain ⟨t,e⟩:=Int.eq_ofNat_of_zero_le a1
    rw[e];apply hp t (by omega)
    cases h:S.testBit t
    ·exact absurd e ((hS t h).1 f hm).1
    ·rfl
   have k2:0≤cl c f.b:=by
    obtain ⟨t,e⟩:=Int.eq_ofNat_of_zero_le b1
    rw[e];apply hp t (by omega)
    cases h:S.testBit t
    ·exact absurd e ((hS t h).1 f hm).2
    ·rfl
   simp[k1,k2]
  cases hfu:full a c
  ·rw[filter_none (by simpa using hfu)]
   split
   ·rename_i h1
    rw[Bool.and_eq_true,hF] at h1
    rw[if_neg]
    intro h2
    unfold full at hfu
    rw[h1.1,h2] at hfu;cases hfu
   ·rfl
  ·rw[if_pos (full_early hf hx (fun _ _ _ _=>rfl) hfu),List.filter_cons_of_pos hfu,if_pos]
   ·rfl
   ·unfold full at hfu
    rw[Bool.and_eq_true] at hfu;exact hfu.2
 | succ n ih=>
  intro c hn hc hop hp
  unfold seek
  cases hE:(fitsS c a.facts&&earlyF c [] a.atoms)
  ·simp only[Bool.false_eq_true,if_false]
   symm
   apply filter_none
   intro d hd
   obtain ⟨-,h2,-⟩:=gen_ok S (n+1) _ d hn hc hd
   cases hfu:full a d
   ·rfl
   ·have:=full_early (c:=c) hf hx (fun j h0 h8 hj=>?_) hfu
    ·rw[hE] at this;cases this
    ·apply h2 j h0
     by_cases hlt:(8 - (n+1:Nat):Int)<j
     ·obtain ⟨t,e⟩:=Int.eq_ofNat_of_zero_le h0
      have:=hop t (by omega) (by omega)
      rw[e,this] at hj
      omega
     ·omega
  ·rw[if_pos rfl]
   unfold gen
   cases e:S.testBit (8 - n)
   ·simp only[Bool.false_eq_true,if_false]
    have e1:c.set (8 - n) (-1)=c:=by
     have:=hop (8 - n) (by omega) (by omega)
     have hl:8 - n<c.length:=by omega
     have h1:c[8 - n] = -1:=by simpa [cl,List.getElem?_eq_getElem hl] using this
     rw[←h1,List.set_getElem_self]
    rw[e1]
    refine ih _ (by omega) hc (fun j h1 h2=>hop j (by omega) h2) (fun j h1 h2=>?_)
    by_cases ej:j=8 - n
    ·subst ej;rw[e] at h2;cases h2
    ·exact hp j (by omega) h2
   ·rw[if_pos rfl,if_pos rfl,List.filter_flatMap]
    apply flatMap_congr'
    intro k hk
    rw[List.mem_range] at hk
    split
    ·rfl
    ·refine ih _ (by omega) (by simpa using hc) (fun j h1 h2=>?_) (fun j h1 h2=>?_)
     ·rw[cl_set hc (by omega) _ (by omega),if_neg (by omega)]
      exact hop j (by omega) h2
     ·rw[cl_set hc (by omega) _ (by omega)]
      split
      ·omega
      ·exact hp j (by omega) h2
theorem seek_cases {a:Asn} {S:Nat} (hf:FactsOk a.facts) (hx:AtomsOk a.atoms) (h0:S.testBit 0=true) (hS:∀ t:Nat,S.testBit t=false→(∀ f∈a.facts,f.a≠t∧f.b≠t)∧(∀ x∈a.atoms,x.a≠t∧x.b≠t)):seek a S 8 opened=cases a S:=by
 have hop:∀ j:Nat,9 - 8≤j→j<9→cl opened j = -1:=by
  intro j h1 h2
  obtain rfl|rfl|rfl|rfl|rfl|rfl|rfl|rfl:j=1∨j=2∨j=3∨j=4∨j=5∨j=6∨j=7∨j=8:=by omega
  all_goals rfl
 have hcl:∀ j:Nat,j<9 - 8→S.testBit j=true→0≤cl opened j:=by
  intro j h1 _
  obtain rfl:j=0:=by omega
  decide
 rw[seek_eq hf hx hS 8 opened (by omega) rfl hop hcl]
 unfold cases
 congr 1
 show _=(if S.testBit 0 then _ else _)
 rw[if_pos h0]
 show _=(List.range 1).flatMap _
 rw[show List.range 1=[0] from rfl]
 simp only[List.flatMap_cons,List.flatMap_nil,List.append_nil]
 rw[if_neg (by omega)]
 refine gen_congr S 8 (zeros.set 0 0) opened (by omega) rfl rfl fun j h1 h2=>?_
 obtain rfl:j=0:=by omega
 rfl
end
theorem Asn.valid_ok {a:Asn} (h:a.valid=true):FactsOk a.facts∧AtomsOk a.atoms:=by
 simp only[Asn.valid,factsValid,Bool.and_eq_true,List.all_eq_true] at h
 refine ⟨fun f hf=>?_,fun x hx=>?_⟩
 ·have:=h.1.2 f hf
  simp[Fct.valid,isTermB] at this;omega
 ·have:=h.2.2 x hx
  simp[Atm.valid,isTermB] at this;omega
end

/- A loop over an iterator that keeps state of its own in cells of one type T. No program. -/
section
open Go Go.RowKit

def Turn (T : TypeId) (B : Nat) (W : World) (row : Option Nat) : Prop := ∀ r, row = some r → B ≤ r ∧ ∃ o : Obj, W.heap[r]? = some o ∧ (o.isCells = false ∨ ∃ cs, o = .cells cs T (0, 0))
def OwnT {β : Type} (T : TypeId) (B : Nat) (I : β → World → Prop) : Prop := ∀ s W W' row, I s W → W.grownBy W' row → Turn T B W row → I s W'
def TurnC (T : TypeId) (B : Nat) (W : World) (row : Option Nat) : Prop := ∀ r, row = some r → B ≤ r ∧ ∃ cs, W.heap[r]? = some (.cells cs T (0, 0))
def AbT {β : Type} (T : TypeId) (B : Nat) (J : β → World → Prop) : Prop := ∀ s W W' row, J s W → W.grownBy W' row → TurnC T B W row → J s W'
structure Kept (T1 T2 : TypeId) (n₀ : Nat) (W W' : World) : Prop where
  below : Below n₀ W W'
  keep : ∀ (g : Nat) (t : TypeId) (cs : Array Value), (t = T1 ∨ t = T2) → Blk W g t cs → Blk W' g t cs
section
variable {T1 T2 T : TypeId} {n₀ B : Nat} {A W W' W2 : World}
theorem Kept.refl (W : World) : Kept T1 T2 n₀ W W := ⟨Below.refl _ _, fun _ _ _ _ h => h⟩
theorem Kept.trans (h : Kept T1 T2 n₀ A W) (k : Kept T1 T2 n₀ W W') : Kept T1 T2 n₀ A W' := ⟨h.below.trans k.below, fun g t cs ht hb => k.keep g t cs ht (h.keep g t cs ht hb)⟩
theorem Kept.next (h : Below W.heap.size W W') (hn : n₀ ≤ W.heap.size) : Kept T1 T2 n₀ W W' := ⟨h.mono hn, fun _ _ _ _ hb => hb.next h⟩
theorem Kept.alloc (hn : n₀ ≤ W.heap.size) (o : Obj) : Kept T1 T2 n₀ W (W.alloc o) := ⟨(Below.refl _ _).alloc hn _, fun _ _ _ _ hb => hb.alloc o⟩
theorem Kept.set {cs : Array Value} (hk : Blk W B T cs) (hn : n₀ ≤ B) (h1 : T ≠ T1) (h2 : T ≠ T2) (i : Nat) (u : Value) : Kept T1 T2 n₀ W (W.setCell ⟨B, i, none⟩ u) :=
  ⟨(Below.refl _ _).setCell (p := ⟨B, i, none⟩) hn _, fun g t cs ht hb => hb.far (p := ⟨B, i, none⟩) (by
    intro e
    have e : g = B := e
    subst e
    rcases ht with rfl | rfl
    · exact (hb.ne_ hk (fun e => h1 e.symm)) rfl
    · exact (hb.ne_ hk (fun e => h2 e.symm)) rfl) _⟩
theorem Kept.put {l : Nat} {o : Obj} (o' : Obj) (hn : n₀ ≤ l) (hl : W.heap[l]? = some o) (ho : o.isCells = false) : Kept T1 T2 n₀ W (W.putObj l o') :=
  ⟨(Below.refl n₀ W).grown (grownBy_putObj' W l o') (by have := (Array.getElem?_eq_some_iff.1 hl).1; omega) (fun k e => by cases e; omega),
   fun g t cs _ hb => (World.putObj_heap_other (fun e => by subst e; unfold Blk at hb; rw [hl] at hb; cases hb; cases ho)).trans hb⟩
theorem Kept.app {row : Option Nat} (hg : W.grownBy W' row) (hb : Below n₀ W W') (hr : ∀ r, row = some r → ∃ t cs, Blk W r t cs ∧ t ≠ T1 ∧ t ≠ T2) : Kept T1 T2 n₀ W W' :=
  ⟨hb, fun g t cs ht hk => hk.grown hg (fun e => by
    obtain ⟨t', cs', hk', g1, g2⟩ := hr g e.symm
    unfold Blk at hk hk'
    rw [hk] at hk'
    injection hk' with hk'
    injection hk' with _ e2
    subst e2
    rcases ht with h | h
    · exact g1 h
    · exact g2 h)⟩

theorem OwnT.put {β : Type} {I : β → World → Prop} (h : OwnT T B I) {s : β} {l : Nat} {o : Obj} (o' : Obj) (hs : I s W) (hB : B ≤ l) (hl : W.heap[l]? = some o) (ho : o.isCells = false) : I s (W.putObj l o') :=
  h s W _ (some l) hs (grownBy_putObj' W l o') (fun r e => by cases e; exact ⟨hB, o, hl, Or.inl ho⟩)
theorem OwnT.alloc {β : Type} {I : β → World → Prop} (h : OwnT T B I) {s : β} (o : Obj) (hs : I s W) : I s (W.alloc o) :=
  h s W _ none hs (World.grownBy_alloc W o none) (fun r e => by cases e)
theorem grown_of_below {row : Option Nat} (h : Below W.heap.size W W') : W.grownBy W' row := ⟨h.os, h.tape, h.output, h.size, fun k hk _ => h.block k hk⟩
theorem AbT.next {β : Type} {J : β → World → Prop} (h : AbT T B J) {s : β} (hs : J s W) (hb : Below W.heap.size W W') : J s W' := h s W W' none hs (grown_of_below hb) (fun r e => by cases e)
theorem AbT.set {β : Type} {J : β → World → Prop} (h : AbT T B J) {s : β} (hs : J s W) {g : Nat} {cs : Array Value} (hk : Blk W g T cs) (hg : B ≤ g) (i : Nat) (u : Value) : J s (W.setCell ⟨g, i, none⟩ u) :=
  h s W _ (some g) hs ⟨rfl, rfl, rfl, by simp, fun k hk' hne => Below.heap_setCell W ⟨g, i, none⟩ u k (fun e => hne (by rw [e]))⟩ (fun r e => by cases e; exact ⟨hg, cs, hk⟩)

theorem OwnT.and {β : Type} {I I' : β → World → Prop} (h : OwnT T B I) (h' : OwnT T B I') : OwnT T B (fun s W => I s W ∧ I' s W) := fun s W W' row hs hg hr => ⟨h s W W' row hs.1 hg hr, h' s W W' row hs.2 hg hr⟩
theorem Blk.turn {g : Nat} {t : TypeId} {cs : Array Value} {row : Option Nat} (h : Blk W g t cs) (hg : W.grownBy W' row) (hr : Turn T B W row) (ht : t ≠ T ∨ g < B) : Blk W' g t cs :=
  h.grown hg (fun e => by
    obtain ⟨hb, o, ho, hc⟩ := hr g e.symm
    unfold Blk at h
    rw [h] at ho
    cases ho
    rcases hc with hc | ⟨cs', hc⟩
    · cases hc
    · injection hc with _ e2
      rcases ht with ht | ht
      · exact ht e2
      · omega)
theorem Below.turn {row : Option Nat} (h : Below n₀ A W) (hg : W.grownBy W' row) (hr : Turn T B W row) (hn : n₀ ≤ B) (hw : n₀ ≤ W.heap.size) : Below n₀ A W' :=
  h.grown hg hw (fun k e => by have := (hr k e).1; omega)
end

def postT {α : Type} (B : Nat) (Kp : World → World → Prop) (I : List α → World → Prop) (Ix : Code → List α → World → Prop) (xs : List α) (W : World) : Exit → Act → World → Prop
  | .normal, _, W' => KeepsFrom B W W' ∧ Kp W W' ∧ I xs W'
  | .ret, _, W' => KeepsFrom B W W' ∧ Ix .ret xs W'
  | .exit id, _, W' => KeepsFrom B W W' ∧ Ix (.exit id) xs W'
  | .goto t, _, W' => KeepsFrom B W W' ∧ Ix (.goto t) xs W'
  | .panic _, _, _ => False
  | .outgrown, _, _ => False
def SeqT {α : Type} (P : Program) (g : Nat) (lb : Array Value) (encs : α → Array Value) (T : TypeId) (Kp : World → World → Prop) (Adm S Sp : List α → Prop) (w : World) : Prop :=
  ∀ (n l : Nat) (J Jx : List α → World → Prop) (W : World), Below w.heap.size w W → AbT T W.heap.size J → AbT T W.heap.size Jx →
    (∀ m pre x W1, J pre W1 → Adm (pre ++ [x]) → YieldAt Fence.wide m P l (encs x) W1 fun e W' =>
      (e = .returned (.bool true) ∧ J (pre ++ [x]) W' ∧ Kp W1 W') ∨ (e = .returned (.bool false) ∧ Jx (pre ++ [x]) W')) →
    J [] W →
    CallsIn Fence.wide n P g (#[.func (.yield l) #[] #[]] ++ lb) W fun e W' => (∃ v, e = .returned v) ∧ ((∃ xs, S xs ∧ J xs W') ∨ (∃ pre, Sp pre ∧ Jx pre W'))

variable {n : Nat} {P : Program}
theorem wp_rangeT {α : Type} {g : Operand} {ps : Array Tmp} {assign body : Code} {Q : Exit → Act → World → Prop} {a : Act} {w : World}
    {gf : Nat} {lb : Array Value} (hg : a.eval g = .func (.func gf) #[] lb) (eg : ∀ args w, (callFunc gf args).run P w = .ok (.enter gf args) w)
    {encs : α → Array Value} {T : TypeId} {Kp : World → World → Prop} {Adm S Sp : List α → Prop} {w0 : World} (hseq : SeqT P gf lb encs T Kp Adm S Sp w0)
    (hKt : ∀ {A B C : World}, Kp A B → Kp B C → Kp A C) (hKb : ∀ (W : World) (l : Nat) (o o' : Obj), w.heap.size ≤ l → W.heap[l]? = some o → o.isCells = false → Kp W (W.putObj l o')) (hb0 : Below w0.heap.size w0 w) (hps : ∀ x, (encs x).size = ps.size)
    (I : List α → World → Prop) (Ix : Code → List α → World → Prop) (hI : OwnT T w.heap.size I) (hIx : ∀ c, OwnT T w.heap.size (Ix c)) (h0 : I [] w)
    (hround : ∀ (l : Nat) (pre : List α) (x : α) (W : World), w.heap.size ≤ l → I pre W → Adm (pre ++ [x]) →
      assign.wpIn (Fence.wide.inRound l) (n - 1 - 1) P (Exit.then (fun a1 W1 => KeepsFrom w.heap.size W W1 ∧ Kp W W1 ∧ ∀ (o o' : Obj), W1.heap[l]? = some o → o.isCells = false →
        body.wpIn (Fence.wide.inRound l) (n - 1 - 1) P (postT w.heap.size Kp I Ix (pre ++ [x]) (W1.putObj l o')) a1 (W1.putObj l o')) (fun _ _ _ => False)) { tmps := (ps.zip (encs x)).foldl (fun t (p, v) => t.setIfInBounds p v) a.tmps, defers := [] } W)
    (hdone : ∀ (D : Nat) (xs : List α) (W : World), w.heap.size ≤ D → S xs → I xs W → W.heap[D]? = some (.deferred (some [])) → Q .normal { a with defers := { target := .collected D, args := #[] } :: a.defers } W)
    (hstop : ∀ (D : Nat) (c : Code) (pre : List α) (W : World), w.heap.size ≤ D → Sp pre → Ix c pre W → W.heap[D]? = some (.deferred (some [])) → c.wpIn Fence.wide n P Q { a with defers := { target := .collected D, args := #[] } :: a.defers } W) :
    (Code.rangeFunc g ps assign body).wpIn Fence.wide n P Q a w := by
  refine wpIn_rangeFunc fun fn hfn => ?_
  show ∃ (l : Nat) (mark : List Deferred) (w₁ : World) (d : Deferred) (w₁' : World) (f : FuncId) (args : Array Value) (w₂ : World), (Instr.enterLoop fn a.tmps ps assign body none).run P w = .ok (l, mark) w₁ ∧ _
  let rec_ : LoopState → Option Code → Loop := fun st pe => { state := st, pending := pe, fn, tmps := a.tmps, params := ps, assign, body, defers := w.heap.size }
  let W1 := (w.alloc (.deferred (some []))).alloc (.loop (rec_ .ready none))
  have hL1 : W1.heap[w.heap.size + 1]? = some (.loop (rec_ .ready none)) := by
    have := World.alloc_heap_new (w.alloc (.deferred (some []))) (.loop (rec_ .ready none)); rwa [World.size_alloc] at this
  have hK1 : W1.heap[w.heap.size]? = some (.deferred (some [])) := (Below.heap_alloc _ _ _ (by simp)).trans (World.alloc_heap_new w _)
  have hs1 : W1.heap.size = w.heap.size + 1 + 1 := by simp [W1]
  have hcy : ∀ {X Y : World} {row : Option Nat}, TurnC T W1.heap.size X row → Turn T w.heap.size X row := fun h r e => by
    obtain ⟨h1, cs, h2⟩ := h r e
    exact ⟨by omega, _, h2, Or.inr ⟨cs, rfl⟩⟩
  have hst : ∀ {X Y : World} {row : Option Nat} {k : Nat} {o : Obj}, X.grownBy Y row → TurnC T W1.heap.size X row → X.heap[k]? = some o → o.isCells = false → Y.heap[k]? = some o := fun hg' hr hk ho =>
    (hg'.block _ (Array.getElem?_eq_some_iff.1 hk).1 (fun e => by
      obtain ⟨-, cs, h2⟩ := hr _ e.symm
      rw [hk] at h2; cases h2; cases ho)).trans hk
  refine ⟨w.heap.size + 1, [{ target := .collected w.heap.size, args := #[] }], W1, { target := .fn (.func gf) lb, args := #[.func (.yield (w.heap.size + 1)) #[] #[]] }, W1, gf,
    #[.func (.yield (w.heap.size + 1)) #[] #[]] ++ lb, W1, run_enterLoop_outer _ _ _ _ _, ?_, fun _ _ => trivial, ?_, fun h => (by cases h), ?_⟩
  · simp only [resolve, hg]
    simp [go_sem]
  · simp [invoke, go_sem, eg]
  · refine (hseq (n - 1) (w.heap.size + 1)
      (fun pre W => I pre W ∧ W.heap[w.heap.size + 1]? = some (.loop (rec_ .ready none)) ∧ W.heap[w.heap.size]? = some (.deferred (some [])))
      (fun pre W => ∃ c, Ix c pre W ∧ W.heap[w.heap.size + 1]? = some (.loop (rec_ .done (some c))) ∧ W.heap[w.heap.size]? = some (.deferred (some [])))
      W1 (hb0.trans ((((Below.refl _ w).alloc (Nat.le_refl _) _).alloc (by simp) _).mono hb0.size))
      (fun s X Y row hs hg' hr => ⟨hI s X Y row hs.1 hg' (hcy (Y := Y) hr), hst hg' hr hs.2.1 rfl, hst hg' hr hs.2.2 rfl⟩)
      (fun s X Y row hs hg' hr => by
        obtain ⟨c, hc, hl, hk⟩ := hs
        exact ⟨c, hIx c s X Y row hc hg' (hcy (Y := Y) hr), hst hg' hr hl rfl, hst hg' hr hk rfl⟩)
      ?_ ⟨hI.alloc _ (hI.alloc _ h0), hL1, hK1⟩).mono ?_
    · rintro m pre x W ⟨hi, hl, hk⟩ hadm
      have hlt : w.heap.size + 1 < W.heap.size := (Array.getElem?_eq_some_iff.1 hl).1
      have hy := run_yield (P := P) (args := encs x) hl (hps x)
      refine ⟨fn, _, assign, body, hy, ?_⟩
      have hdep : ∀ {m m' : Nat} {l : Nat} {f : FuncId} {tmps : Array Value} {assign body : Code} {w : World} {R : Ending → World → Prop}, RoundIn Fence.wide m P l f tmps assign body w R → RoundIn Fence.wide m' P l f tmps assign body w R :=
        fun h => ⟨h.1, fun c cs _ => h.2 c cs (room_wide _)⟩
      refine hdep (m := n - 1 - 1) (roundIn_of_wpIn trivial (wpIn_mono (hround (w.heap.size + 1) pre x W (by omega) hi hadm) ?_))
      rintro e a2 W2 hp
      cases e with
      | normal =>
        obtain ⟨hkf, hkp, hb⟩ := hp
        have hl1 := hkf.same _ _ (by omega) hl rfl
        have hk1 := hkf.same _ _ (Nat.le_refl _) hk rfl
        refine ⟨_, run_beginRound hl1 rfl, ?_⟩
        have hlt2 : w.heap.size + 1 < W2.heap.size := (Array.getElem?_eq_some_iff.1 hl1).1
        have hl2 : (W2.putObj (w.heap.size + 1) (.loop { rec_ .ready none with state := .busy })).heap[w.heap.size + 1]? = some (.loop { rec_ .ready none with state := .busy }) := World.putObj_heap_same hlt2
        have hk2 : (W2.putObj (w.heap.size + 1) (.loop { rec_ .ready none with state := .busy })).heap[w.heap.size]? = some (.deferred (some [])) := (World.putObj_heap_other (by omega)).trans hk1
        have hw2 : Kp W2 (W2.putObj (w.heap.size + 1) (.loop { rec_ .ready none with state := .busy })) := hKb _ _ _ _ (by omega) hl1 rfl
        refine wpIn_mono (hb _ (.loop { rec_ .ready none with state := .busy }) hl1 rfl) ?_
        have fin : ∀ (jump : Option Code) (W3 : World), KeepsFrom w.heap.size (W2.putObj (w.heap.size + 1) (.loop { rec_ .ready none with state := .busy })) W3 →
            (Instr.endRound (w.heap.size + 1) jump).run P W3 = .ok (.bool jump.isNone) (W3.putObj (w.heap.size + 1) (.loop (rec_ (if jump.isNone then .ready else .done) jump))) ∧
            W3.heap[w.heap.size + 1]? = some (.loop { rec_ .ready none with state := .busy }) ∧
            (W3.putObj (w.heap.size + 1) (.loop (rec_ (if jump.isNone then .ready else .done) jump))).heap[w.heap.size + 1]? = some (.loop (rec_ (if jump.isNone then .ready else .done) jump)) ∧
            (W3.putObj (w.heap.size + 1) (.loop (rec_ (if jump.isNone then .ready else .done) jump))).heap[w.heap.size]? = some (.deferred (some [])) := fun jump W3 hk3 => by
          have hl3 := hk3.same _ _ (by omega) hl2 rfl
          exact ⟨run_endRound (P := P) jump hl3, hl3, World.putObj_heap_same (Array.getElem?_eq_some_iff.1 hl3).1, (World.putObj_heap_other (by omega)).trans (hk3.same _ _ (Nat.le_refl _) hk2 rfl)⟩
        rintro e a3 W3 hp
        cases e with
        | normal =>
          obtain ⟨hk3, hkp3, hi3⟩ := hp
          obtain ⟨hr, hl3, hl4, hk4⟩ := fin none W3 hk3
          exact ⟨_, _, hr, .inl ⟨rfl, ⟨hI.put _ hi3 (by omega) hl3 rfl, hl4, hk4⟩, hKt (hKt (hKt hkp hw2) hkp3) (hKb _ _ _ _ (by omega) hl3 rfl)⟩⟩
        | ret =>
          obtain ⟨hk3, hi3⟩ := hp
          obtain ⟨hr, hl3, hl4, hk4⟩ := fin (some .ret) W3 hk3
          exact ⟨_, _, hr, .inr ⟨rfl, .ret, (hIx _).put _ hi3 (by omega) hl3 rfl, hl4, hk4⟩⟩
        | exit id =>
          obtain ⟨hk3, hi3⟩ := hp
          obtain ⟨hr, hl3, hl4, hk4⟩ := fin (some (.exit id)) W3 hk3
          exact ⟨_, _, hr, .inr ⟨rfl, .exit id, (hIx _).put _ hi3 (by omega) hl3 rfl, hl4, hk4⟩⟩
        | goto t =>
          obtain ⟨hk3, hi3⟩ := hp
          obtain ⟨hr, hl3, hl4, hk4⟩ := fin (some (.goto t)) W3 hk3
          exact ⟨_, _, hr, .inr ⟨rfl, .goto t, (hIx _).put _ hi3 (by omega) hl3 rfl, hl4, hk4⟩⟩
        | panic ch => exact hp.elim
        | outgrown => exact hp.elim
      | ret => exact hp.elim
      | exit id => exact hp.elim
      | goto t => exact hp.elim
      | panic ch => exact hp.elim
      | outgrown => exact hp.elim
    · rintro e W2 ⟨⟨v, rfl⟩, (⟨xs, hS, hi, hl, hk⟩ | ⟨pre, hSp, c, hi, hl, hk⟩)⟩
      · exact ⟨none, _, run_endLoop (P := P) hl (by simp [rec_]), hdone _ xs _ (Nat.le_refl _) hS (hI.put _ hi (by omega) hl rfl) ((World.putObj_heap_other (by omega)).trans hk)⟩
      · exact ⟨some c, _, run_endLoop (P := P) hl (by simp [rec_]), hstop _ c pre _ (Nat.le_refl _) hSp ((hIx c).put _ hi (by omega) hl rfl) ((World.putObj_heap_other (by omega)).trans hk)⟩

/-! ### A region that draws its order, within a round -/
def noDefer (o : Oper) : Bool := match o.op with | .defer _ => false | _ => true
end


/- Matching the filled atoms of two assertions in a case. Plain; no program. -/
section
open Go
def freeAt (atoms:List Atm) (used:List Bool) (c:Int) (k:Nat):Bool:=decide (((atoms[k]?).getD default).a=c) && !((used[k]?).getD true)
def findU (atoms:List Atm) (used:List Bool) (c:Int):Option Nat:=(List.range atoms.length).find? (freeAt atoms used c)
def closedB (atoms:List Atm) (b:Int):Bool:=decide (b=0) || atoms.any fun x=>decide (x.a=b)
def chainF (atoms:List Atm) (b:Int):Nat→List Bool→Int→Option (List Bool)
 | 0,_,_=>none
 | n+1,used,c=>(findU atoms used c).bind fun k=>
   if ((atoms[k]?).getD default).b=b then some (used.set k true)
   else if ((atoms[k]?).getD default).kind=2∧closedB atoms b=false then none
   else chainF atoms b n (used.set k true) ((atoms[k]?).getD default).b
def useOne (atoms:List Atm) (used:List Bool) (x:Atm):Option (List Bool):=
 if x.kind=1 then (findU atoms used x.a).bind fun k=>if (atoms[k]?).getD default=x then some (used.set k true) else none
 else chainF atoms x.b (atoms.length+1) used x.a
def matchF (atoms:List Atm):List Bool→List Atm→Option (List Bool)
 | used,[]=>some used
 | used,x :: xs=>(useOne atoms used x).bind fun u=>matchF atoms u xs
def matchB (atoms goal:List Atm):Bool:=match matchF atoms (List.replicate atoms.length false) goal with|some u=>u.all id|none=>false
def entB (a b:Asn) (c:List Int):Bool:=b.facts.all (Fct.fits c)&&matchB (filledL a.atoms c) (filledL b.atoms c)
end

/- Contracts: the laws' search of a list. -/
section
open Go Go.RowKit Go.Proofs
theorem c_slHas {lo hi:Nat} (A:Option Addr) (c:Nat) (fs:List Int) (n:Int) (w:World) (h:IntsV w lo hi A fs):Calls Tryz.prog 20 #[.slice A fs.length c,.int .i64 n] w fun e w'=>e=.returned (.bool (decide (n∈fs)))∧Below w.heap.size w w':=by
 have H:=Lib.hid h
 have HL:=Lib.hid h.le
 clear h
 go_enter Tryz.func20,Tryz.ntmps20
 go_wp2_with fail
 go_loopw [5] (fun i wr=>∃ k:Nat,k≤fs.length∧i=.int .i64 k∧Hid (decide (n∈fs)=decide (n∈fs.drop k))∧Hid (Below w.heap.size w wr)) (fun i _=>fs.length - (intOf i).toNat)
 case atStart=>exact ⟨0,Nat.zero_le _,rfl,by show _=_;simp,Below.refl _ _⟩
 case round=>
  obtain ⟨k,hk,rfl,HA,HB⟩:=hrel
  have hl:=HL.out
  by_cases hlt:k<fs.length
  ·obtain ⟨b,off,rfl,g0⟩:=(H.out.below HB.out).at hlt
   have HD:Hid (decide (n∈fs.drop k)=(decide (fs[k]=n) || decide (n∈fs.drop (k+1)))):=by
    show _=_
    rw[List.drop_eq_getElem_cons hlt,←Bool.decide_or,decide_eq_decide,List.mem_cons]
    constructor
    ·rintro (h|h)
     ·exact Or.inl h.symm
     ·exact Or.inr h
    ·rintro (h|h)
     ·exact Or.inl h.symm
     ·exact Or.inr h
   have hki:(k:Int)<(fs.length:Int):=by omega
   obtain ⟨f,hf⟩:∃ f,f=fs[k]:=⟨_,rfl⟩
   rw[←hf] at g0 HD
   clear hf
   by_cases f1:f=n
   ·have E:Hid (decide (f=n)=true):=by show _=_;rw[decide_eq_true_eq];exact f1
    rw[f1] at g0
    clear f1
    go_wp2_with fail
    go_ret
    exact ⟨ret_bool (by rw[HA.out,HD.out,E.out];rfl),HB.out⟩
   ·have E:Hid (decide (f=n)=false):=by show _=_;rw[decide_eq_false_iff_not];exact f1
    have e1:(f == n)=false:=by simpa using f1
    clear f1
    go_wp2_with fail
    go_round
    case rel=>exact ⟨k+1,by omega,by go_num,by show _=_;rw[HA.out,HD.out,E.out];rfl,HB.out⟩
    case measure=>simp[intOf];omega
  ·obtain rfl:k=fs.length:=by omega
   have E:Hid (decide (n∈fs)=false):=by show _=_;rw[HA.out,List.drop_length];simp
   go_wp2_with fail
   go_ret
   exact ⟨ret_bool E.out.symm,HB.out⟩
end

end Go.Proofs.YtmcgbeladjlcpaaGreat
