/- Cases: the class lists of an assertion, and the two pruned searches that give them. Plain; no program. -/
import Derived.Test.YtjaohekkmlkinaaGreatMaKit
import Derived.Deep.RegionHeld3
import Derived.Laws.CopyOwn
import Derived.StillTail
import Derived.Deep.RegionHeld
set_option linter.unusedSimpArgs false
set_option linter.unusedVariables false
set_option maxRecDepth 100000
set_option maxHeartbeats 25600000
namespace Go.Proofs.YtjaohekkmlkinaaGreat
section
open Go
def cl (c:List Int) (t:Int):Int:=(c[t.toNat]?).getD 0
def Fct.fits (c:List Int) (f:Fct):Bool:=decide (cl c f.a=cl c f.b) == f.eq
def Atm.fill (c:List Int) (x:Atm):Bool:=decide (x.kind=1) || !decide (cl c x.a=cl c x.b)
def Atm.cls (c:List Int) (x:Atm):Atm:=⟨x.kind,cl c x.a,cl c x.b⟩
def filledL (xs:List Atm) (c:List Int):List Atm:=(xs.filter (Atm.fill c)).map (Atm.cls c)
def apartF:List Int→List Atm→Bool
 | _,[]=>true
 | seen,x :: xs=>!decide (x.a=0) && !decide (x.a∈seen)&&apartF (seen++[x.a]) xs
def full (a:Asn) (c:List Int):Bool:=a.facts.all (Fct.fits c)&&apartF [] (filledL a.atoms c)
def gen (S:Nat):Nat→List Int→List (List Int)
 | 0,c=>[c]
 | n+1,c=>if S.testBit (8 - n) then (List.range (9 - n)).flatMap fun k=>if k<8 - n∧cl c k≠k then [] else gen S n (c.set (8 - n) k) else gen S n (c.set (8 - n) (-1))
def zeros:List Int:=[0,0,0,0,0,0,0,0,0]
def opened:List Int:=[0,-1,-1,-1,-1,-1,-1,-1,-1]
def cases (a:Asn) (S:Nat):List (List Int):=(gen S 9 zeros).filter (full a)
def possF (c:List Int) (last:Int) (fs:List Fct):Bool:=fs.all fun f=>!(decide (f.a≤last)&&decide (f.b≤last) && !f.fits c)
def inLast (c:List Int) (last:Int) (x:Atm):Bool:=decide (x.a≤last)&&decide (x.b≤last)&&x.fill c
def possA (c:List Int) (last:Int):List Int→List Atm→Bool
 | _,[]=>true
 | seen,x :: xs=>if inLast c last x then !decide (cl c x.a=0) && !decide (cl c x.a∈seen)&&possA c last (seen++[cl c x.a]) xs else possA c last seen xs
def poss (a:Asn) (c:List Int) (last:Int):Bool:=possF c last a.facts&&possA c last [] a.atoms
def ext (a:Asn) (S:Nat):Nat→List Int→List (List Int)
 | 0,c=>[c]
 | n+1,c=>if S.testBit (8 - n) then (List.range (9 - n)).flatMap fun k=>if k<8 - n∧cl c k≠k then [] else if poss a (c.set (8 - n) k) (8 - n:Nat) then ext a S n (c.set (8 - n) k) else [] else ext a S n (c.set (8 - n) (-1))
def fitsS (c:List Int) (fs:List Fct):Bool:=fs.all fun f=>!(decide (0≤cl c f.a)&&decide (0≤cl c f.b) && !f.fits c)
def earlyF (c:List Int):List Int→List Atm→Bool
 | _,[]=>true
 | seen,x :: xs=>if decide (x.kind=1)&&decide (0≤cl c x.a) then !decide (cl c x.a=0) && !decide (cl c x.a∈seen)&&earlyF c (seen++[cl c x.a]) xs else earlyF c seen xs
def seek (a:Asn) (S:Nat):Nat→List Int→List (List Int)
 | 0,c=>if fitsS c a.facts&&earlyF c [] a.atoms then (if apartF [] (filledL a.atoms c) then [c] else []) else []
 | n+1,c=>if fitsS c a.facts&&earlyF c [] a.atoms then (if S.testBit (8 - n) then (List.range (9 - n)).flatMap fun k=>if k<8 - n∧cl c k≠k then [] else seek a S n (c.set (8 - n) k) else seek a S n c) else []
theorem flatMap_congr' {α β:Type} {l:List α} {f g:α→List β} (h:∀ x∈l,f x=g x):l.flatMap f=l.flatMap g:=by
 induction l with
 | nil=>rfl
 | cons x xs ih=>rw[List.flatMap_cons,List.flatMap_cons,h x List.mem_cons_self,ih fun y hy=>h y (List.mem_cons_of_mem _ hy)]
section
variable {c d:List Int}
theorem cl_set (h:c.length=9) {t:Nat} (ht:t<9) (v:Int) {j:Int} (hj:0≤j):cl (c.set t v) j=if j=t then v else cl c j:=by
 unfold cl;by_cases e:j=t
 ·subst e;rw[if_pos rfl,Int.toNat_natCast,List.getElem?_set_self (by omega)];rfl
 ·rw[if_neg e,List.getElem?_set_ne (by omega)]
def Agr (c d:List Int) (last:Int):Prop:=∀ j:Int,0≤j→j≤last→cl d j=cl c j
theorem Agr.fits {f:Fct} {last:Int} (h:Agr c d last) (ha:0≤f.a) (hb:0≤f.b) (h1:f.a≤last) (h2:f.b≤last):f.fits d=f.fits c:=by
 unfold Fct.fits;rw[h _ ha h1,h _ hb h2]
theorem Agr.fill {f:Atm} {last:Int} (h:Agr c d last) (ha:0≤f.a) (hb:0≤f.b) (h1:f.a≤last) (h2:f.b≤last):f.fill d=f.fill c:=by
 unfold Atm.fill;rw[h _ ha h1,h _ hb h2]
def FactsOk (fs:List Fct):Prop:=∀ f∈fs,(0≤f.a∧f.a≤8)∧(0≤f.b∧f.b≤8)
def AtomsOk (xs:List Atm):Prop:=∀ x∈xs,(0≤x.a∧x.a≤8)∧(0≤x.b∧x.b≤8)
theorem Agr.possF {fs:List Fct} {last:Int} (h:Agr c d last) (hf:FactsOk fs):possF d last fs=possF c last fs:=by
 unfold Go.Proofs.YtjaohekkmlkinaaGreat.possF;rw[Bool.eq_iff_iff,List.all_eq_true,List.all_eq_true];refine forall_congr' fun f=>forall_congr' fun hm=>?_;obtain ⟨⟨h1,-⟩,⟨h2,-⟩⟩:=hf f hm;by_cases e1:f.a≤last
 ·by_cases e2:f.b≤last
  ·rw[h.fits h1 h2 e1 e2]
  ·simp[e2]
 ·simp[e1]
theorem Agr.inLast {x:Atm} {last:Int} (h:Agr c d last) (ha:0≤x.a) (hb:0≤x.b):inLast d last x=inLast c last x:=by
 unfold Go.Proofs.YtjaohekkmlkinaaGreat.inLast;by_cases e1:x.a≤last
 ·by_cases e2:x.b≤last
  ·rw[h.fill ha hb e1 e2]
  ·simp[e2]
 ·simp[e1]
theorem inLast_le {x:Atm} {last:Int} (h:inLast c last x=true):x.a≤last∧x.b≤last∧x.fill c=true:=by
 simp[inLast] at h;exact ⟨h.1.1,h.1.2,h.2⟩
theorem Agr.possA {last:Int} (h:Agr c d last):∀ (xs:List Atm) (seen:List Int),AtomsOk xs→possA d last seen xs=possA c last seen xs:=by
 intro xs
 induction xs with
 | nil=>intro seen _;rfl
 | cons x xs ih=>
  intro seen hx;have hx':AtomsOk xs:=fun y hy=>hx y (List.mem_cons_of_mem _ hy);obtain ⟨⟨h1,-⟩,⟨h2,-⟩⟩:=hx x List.mem_cons_self;unfold Go.Proofs.YtjaohekkmlkinaaGreat.possA;rw[h.inLast h1 h2];cases e:Go.Proofs.YtjaohekkmlkinaaGreat.inLast c last x
  ·simp only[Bool.false_eq_true,if_false];exact ih _ hx'
  ·rw[if_pos rfl,if_pos rfl,h _ h1 (inLast_le e).1,ih _ hx']
theorem Agr.poss {a:Asn} {last:Int} (h:Agr c d last) (hf:FactsOk a.facts) (hx:AtomsOk a.atoms):poss a d last=poss a c last:=by
 unfold Go.Proofs.YtjaohekkmlkinaaGreat.poss;rw[h.possF hf,h.possA _ _ hx]
theorem possA_iff (c:List Int) (last:Int):∀ (xs:List Atm) (seen:List Int),possA c last seen xs=true↔
  ((∀ x∈xs,inLast c last x=true→cl c x.a≠0∧cl c x.a∉seen)∧((xs.filter (inLast c last)).map fun x=>cl c x.a).Nodup):=by
 intro xs
 induction xs with
 | nil=>intro seen;simp[possA]
 | cons x xs ih=>
  intro seen;unfold possA;cases e:inLast c last x
  ·simp only[Bool.false_eq_true,if_false,ih];rw[List.filter_cons_of_neg (by simp[e])];constructor
   ·rintro ⟨h1,h2⟩;refine ⟨fun y hy=>?_,h2⟩;rcases List.mem_cons.1 hy with rfl|hy
    ·intro h;rw[e] at h;cases h
    ·exact h1 y hy
   ·rintro ⟨h1,h2⟩;exact ⟨fun y hy=>h1 y (List.mem_cons_of_mem _ hy),h2⟩
  ·rw[if_pos rfl,List.filter_cons_of_pos e,List.map_cons,List.nodup_cons];simp only[Bool.and_eq_true,Bool.not_eq_true',decide_eq_false_iff_not,ih];constructor
   ·rintro ⟨⟨g1,g2⟩,g3,g4⟩;refine ⟨fun y hy hl=>?_,?_,g4⟩
    ·rcases List.mem_cons.1 hy with rfl|hy
     ·exact ⟨g1,g2⟩
     ·have:=g3 y hy hl;exact ⟨this.1,fun h=>this.2 (List.mem_append_left _ h)⟩
    ·intro hm;obtain ⟨y,hy,ey⟩:=List.mem_map.1 hm;rw[List.mem_filter] at hy;exact (g3 y hy.1 hy.2).2 (List.mem_append_right _ (by simp[ey]))
   ·rintro ⟨g1,g2,g3⟩;have:=g1 x List.mem_cons_self e;refine ⟨⟨this.1,this.2⟩,fun y hy hl=>?_,g3⟩;have h2:=g1 y (List.mem_cons_of_mem _ hy) hl;refine ⟨h2.1,fun h=>?_⟩;rcases List.mem_append.1 h with h|h
    ·exact h2.2 h
    ·exact g2 (List.mem_map.2 ⟨y,List.mem_filter.2 ⟨hy,hl⟩,by simpa using h⟩)
theorem possA_mono {last last':Int} (hl:last≤last') {xs:List Atm} {seen:List Int} (h:possA c last' seen xs=true):possA c last seen xs=true:=by
 rw[possA_iff] at h ⊢
 have him:∀ x,inLast c last x=true→inLast c last' x=true:=by
  intro x hx;have:=inLast_le hx;simp[inLast,this.2.2];omega
 refine ⟨fun x hx hi=>h.1 x hx (him x hi),?_⟩;refine List.Nodup.sublist ?_ h.2;apply List.Sublist.map
 have e:xs.filter (inLast c last)=(xs.filter (inLast c last')).filter (inLast c last):=by
  rw[List.filter_filter];apply List.filter_congr;intro x _;cases e:inLast c last x
  ·simp
  ·simp[him x e]
 rw[e];exact List.filter_sublist
theorem possF_mono {last last':Int} (hl:last≤last') {fs:List Fct} (h:possF c last' fs=true):possF c last fs=true:=by
 unfold possF at *;rw[List.all_eq_true] at h ⊢;intro f hf;have:=h f hf;by_cases e1:f.a≤last
 ·by_cases e2:f.b≤last
  ·have e3:f.a≤last':=by omega
   have e4:f.b≤last':=by omega
   simpa[e1,e2,e3,e4] using this
  ·simp[e2]
 ·simp[e1]
theorem poss_mono {a:Asn} {last last':Int} (hl:last≤last') (h:poss a c last'=true):poss a c last=true:=by
 unfold poss at *;rw[Bool.and_eq_true] at h ⊢;exact ⟨possF_mono hl h.1,possA_mono hl h.2⟩
theorem apart_possA:∀ (xs:List Atm) (seen:List Int),AtomsOk xs→apartF seen (filledL xs c)=possA c 8 seen xs:=by
 intro xs
 induction xs with
 | nil=>intro seen _;rfl
 | cons x xs ih=>
  intro seen hx;have hx':AtomsOk xs:=fun y hy=>hx y (List.mem_cons_of_mem _ hy);obtain ⟨⟨-,h1⟩,⟨-,h2⟩⟩:=hx x List.mem_cons_self;have e:inLast c 8 x=x.fill c:=by simp[inLast,h1,h2]
  unfold possA filledL;rw[e];cases hf:x.fill c
  ·rw[List.filter_cons_of_neg (by simp[hf])];simp only[Bool.false_eq_true,if_false];exact ih _ hx'
  ·rw[List.filter_cons_of_pos hf,List.map_cons,if_pos rfl];unfold apartF;have:=ih (seen++[cl c x.a]) hx';unfold filledL at this;rw[show (Atm.cls c x).a=cl c x.a from rfl,this]
theorem full_poss {a:Asn} (hf:FactsOk a.facts) (hx:AtomsOk a.atoms):full a c=poss a c 8:=by
 unfold full poss;rw[apart_possA _ _ hx]
 congr 1
 unfold possF;rw[Bool.eq_iff_iff,List.all_eq_true,List.all_eq_true];refine forall_congr' fun f=>forall_congr' fun hm=>?_;obtain ⟨⟨-,h1⟩,⟨-,h2⟩⟩:=hf f hm;simp[h1,h2]
theorem gen_ok (S:Nat):∀ (n:Nat) (c d:List Int),n≤9→c.length=9→d∈gen S n c→d.length=9∧Agr c d (8 - n:Int)∧∀ j:Nat,9 - n≤j→j<9→(S.testBit j=true→0≤cl d j∧cl d j≤j)∧(S.testBit j=false→cl d j = -1):=by
 intro n
 induction n with
 | zero=>
  intro c d _ hc hd;simp only[gen,List.mem_singleton] at hd;subst hd;exact ⟨hc,fun j _ _=>rfl,fun j h1 h2=>by omega⟩
 | succ n ih=>
  intro c d hn hc hd
  have key:∀ v:Int,d∈gen S n (c.set (8 - n) v)→d.length=9∧Agr c d (8 - (n+1:Nat):Int)∧cl d ((8 - n:Nat):Int)=v∧∀ j:Nat,9 - n≤j→j<9→(S.testBit j=true→0≤cl d j∧cl d j≤j)∧(S.testBit j=false→cl d j = -1):=by
   intro v hd;obtain ⟨h1,h2,h3⟩:=ih _ _ (by omega) (by simpa using hc) hd;refine ⟨h1,fun j h0 hj=>?_,?_,h3⟩
   ·rw[h2 j h0 (by omega),cl_set hc (by omega) _ h0,if_neg (by omega)]
   ·rw[h2 _ (by omega) (by omega),cl_set hc (by omega) _ (by omega),if_pos rfl]
  unfold gen at hd;cases e:S.testBit (8 - n)
  ·rw[e] at hd;simp only[Bool.false_eq_true,if_false] at hd;obtain ⟨h1,h2,h3,h4⟩:=key _ hd;refine ⟨h1,h2,fun j hj hj'=>?_⟩;by_cases ej:j=8 - n
   ·subst ej;exact ⟨fun h=>(by rw[e] at h;cases h),fun _=>h3⟩
   ·exact h4 j (by omega) hj'
  ·rw[e,if_pos rfl,List.mem_flatMap] at hd;obtain ⟨k,hk,hd⟩:=hd;rw[List.mem_range] at hk
   split at hd
   ·cases hd
   ·obtain ⟨h1,h2,h3,h4⟩:=key _ hd;refine ⟨h1,h2,fun j hj hj'=>?_⟩;by_cases ej:j=8 - n
    ·subst ej;exact ⟨fun _=>by rw[h3];omega,fun h=>by rw[e] at h;cases h⟩
    ·exact h4 j (by omega) hj'
theorem gen_congr (S:Nat):∀ (n:Nat) (c d:List Int),n≤9→c.length=9→d.length=9→Agr c d (8 - n:Int)→gen S n d=gen S n c:=by
 intro n
 induction n with
 | zero=>
  intro c d _ hc hd h
  have:d=c:=by
   apply List.ext_getElem (by omega);intro j h1 h2;have:=h j (by omega) (by omega);simpa[cl,List.getElem?_eq_getElem h1,List.getElem?_eq_getElem h2] using this
  rw[this]
 | succ n ih=>
  intro c d hn hc hd h
  have key:∀ v:Int,gen S n (d.set (8 - n) v)=gen S n (c.set (8 - n) v):=by
   intro v;refine ih _ _ (by omega) (by simpa using hc) (by simpa using hd) fun j h0 hj=>?_;rw[cl_set hd (by omega) _ h0,cl_set hc (by omega) _ h0]
   split
   ·rfl
   ·exact h j h0 (by omega)
  unfold gen;rw[key]
  split
  ·apply flatMap_congr';intro k hk;rw[List.mem_range] at hk;rw[key];by_cases hlt:k<8 - n
   ·rw[h k (by omega) (by omega)]
   ·simp[hlt]
  ·rfl
theorem filter_none {α:Type} {p:α→Bool} {l:List α} (h:∀ x∈l,p x=false):l.filter p=[]:=by
 rw[List.filter_eq_nil_iff];intro x hx;simp[h x hx]
theorem ext_eq {a:Asn} {S:Nat} (hf:FactsOk a.facts) (hx:AtomsOk a.atoms) (hS:∀ t:Nat,S.testBit t=false→(∀ f∈a.facts,f.a≠t∧f.b≠t)∧(∀ x∈a.atoms,x.a≠t∧x.b≠t)) :
  ∀ (n:Nat) (c:List Int),n≤9→c.length=9→poss a c (8 - n:Int)=true→ext a S n c=(gen S n c).filter (full a):=by
 intro n
 induction n with
 | zero=>
  intro c _ hc hp;simp only[ext,gen];rw[List.filter_cons_of_pos]
  ·rfl
  ·rw[full_poss hf hx];simpa using hp
 | succ n ih=>
  intro c hn hc hp;unfold ext gen;cases e:S.testBit (8 - n)
  ·simp only[Bool.false_eq_true,if_false];refine ih _ (by omega) (by simpa using hc) ?_;obtain ⟨n1,n2⟩:=hS _ e;have hA:Agr c (c.set (8 - n) (-1)) (8 - (n+1:Nat):Int):=fun j h0 hj=>by rw[cl_set hc (by omega) _ h0,if_neg (by omega)]
   rw[←hA.poss hf hx] at hp;generalize c.set (8 - n) (-1)=d at hp ⊢;unfold poss at hp ⊢;rw[Bool.and_eq_true] at hp ⊢;constructor
   ·have h1:=hp.1;unfold possF at h1 ⊢;rw[List.all_eq_true] at h1 ⊢;intro f hm;have h2:=h1 f hm;have h3:=n1 f hm;have e1:(f.a≤(8 - (n+1:Nat):Int))↔f.a≤(8 - n:Int):=by omega
    have e2:(f.b≤(8 - (n+1:Nat):Int))↔f.b≤(8 - n:Int):=by omega
    rw[decide_eq_decide.2 e1,decide_eq_decide.2 e2] at h2;exact h2
   ·have h1:=hp.2;rw[possA_iff] at h1 ⊢
    have e0:∀ x∈a.atoms,inLast d (8 - n:Int) x=inLast d (8 - (n+1:Nat):Int) x:=by
     intro x hm;have h3:=n2 x hm;have e1:(x.a≤(8 - (n+1:Nat):Int))↔x.a≤(8 - n:Int):=by omega
     have e2:(x.b≤(8 - (n+1:Nat):Int))↔x.b≤(8 - n:Int):=by omega
     unfold inLast;rw[decide_eq_decide.2 e1,decide_eq_decide.2 e2]
    refine ⟨fun x hm hi=>h1.1 x hm (by rw[←e0 x hm];exact hi),?_⟩;rw[List.filter_congr e0];exact h1.2
  ·rw[if_pos rfl,if_pos rfl,List.filter_flatMap];apply flatMap_congr';intro k hk;rw[List.mem_range] at hk
   split
   ·rfl
   ·have hn8:((8 - n:Nat):Int)=(8 - n:Int):=by omega
    split
    ·rename_i hps;rw[hn8] at hps;exact ih _ (by omega) (by simpa using hc) hps
    ·rename_i hps
     symm
     apply filter_none;intro d hd;obtain ⟨-,h2,-⟩:=gen_ok S n _ d (by omega) (by simpa using hc) hd;cases hfu:full a d
     ·rfl
     ·rw[full_poss hf hx] at hfu;have:=poss_mono (last:=(8 - n:Int)) (by omega) hfu;rw[h2.poss hf hx,←hn8] at this;exact absurd this hps
theorem poss_low {a:Asn} (hf:FactsOk a.facts) (hx:AtomsOk a.atoms):poss a c (-1)=true:=by
 unfold poss;rw[Bool.and_eq_true];constructor
 ·unfold possF;rw[List.all_eq_true];intro f hm;have:=hf f hm;have e:¬f.a≤-1:=by omega
  simp[e]
 ·rw[possA_iff]
  have e0:∀ x∈a.atoms,inLast c (-1) x=false:=by
   intro x hm;have:=hx x hm;have e:¬x.a≤-1:=by omega
   simp[inLast,e]
  refine ⟨fun x hm hi=>(by rw[e0 x hm] at hi;cases hi),?_⟩;rw[filter_none e0];simp
theorem ext_cases {a:Asn} {S:Nat} (hf:FactsOk a.facts) (hx:AtomsOk a.atoms) (hS:∀ t:Nat,S.testBit t=false→(∀ f∈a.facts,f.a≠t∧f.b≠t)∧(∀ x∈a.atoms,x.a≠t∧x.b≠t)):ext a S 9 zeros=cases a S:=
 ext_eq hf hx hS 9 zeros (by omega) rfl (poss_low hf hx)
theorem earlyF_iff (c:List Int):∀ (xs:List Atm) (seen:List Int),earlyF c seen xs=true↔
  ((∀ x∈xs,(x.kind=1∧0≤cl c x.a)→cl c x.a≠0∧cl c x.a∉seen)∧((xs.filter fun x=>decide (x.kind=1)&&decide (0≤cl c x.a)).map fun x=>cl c x.a).Nodup):=by
 intro xs
 induction xs with
 | nil=>intro seen;simp[earlyF]
 | cons x xs ih=>
  intro seen;unfold earlyF;cases e:(decide (x.kind=1)&&decide (0≤cl c x.a))
  ·simp only[Bool.false_eq_true,if_false,ih];have e':¬(x.kind=1∧0≤cl c x.a):=by simpa using e
   rw[List.filter_cons_of_neg (by simp[e])];constructor
   ·rintro ⟨h1,h2⟩;refine ⟨fun y hy=>?_,h2⟩;rcases List.mem_cons.1 hy with rfl|hy
    ·exact fun h=>absurd h e'
    ·exact h1 y hy
   ·rintro ⟨h1,h2⟩;exact ⟨fun y hy=>h1 y (List.mem_cons_of_mem _ hy),h2⟩
  ·have e':x.kind=1∧0≤cl c x.a:=by simpa using e
   rw[if_pos rfl,List.filter_cons_of_pos (by simpa using e),List.map_cons,List.nodup_cons];simp only[Bool.and_eq_true,Bool.not_eq_true',decide_eq_false_iff_not,ih];constructor
   ·rintro ⟨⟨g1,g2⟩,g3,g4⟩;refine ⟨fun y hy hl=>?_,?_,g4⟩
    ·rcases List.mem_cons.1 hy with rfl|hy
     ·exact ⟨g1,g2⟩
     ·have:=g3 y hy hl;exact ⟨this.1,fun h=>this.2 (List.mem_append_left _ h)⟩
    ·intro hm;obtain ⟨y,hy,ey⟩:=List.mem_map.1 hm;rw[List.mem_filter] at hy;exact (g3 y hy.1 (by simpa using hy.2)).2 (List.mem_append_right _ (by simp[ey]))
   ·rintro ⟨g1,g2,g3⟩;have:=g1 x List.mem_cons_self e';refine ⟨⟨this.1,this.2⟩,fun y hy hl=>?_,g3⟩;have h2:=g1 y (List.mem_cons_of_mem _ hy) hl;refine ⟨h2.1,fun h=>?_⟩;rcases List.mem_append.1 h with h|h
    ·exact h2.2 h
    ·exact g2 (List.mem_map.2 ⟨y,List.mem_filter.2 ⟨hy,by simpa using hl⟩,by simpa using h⟩)
theorem full_early {a:Asn} (hf:FactsOk a.facts) (hx:AtomsOk a.atoms) (hA:∀ j:Int,0≤j→j≤8→0≤cl c j→cl d j=cl c j) (h:full a d=true):(fitsS c a.facts&&earlyF c [] a.atoms)=true:=by
 have hp:=h;rw[full_poss hf hx] at hp;unfold full at h;unfold poss at hp;rw[Bool.and_eq_true] at h hp ⊢;have hF:=List.all_eq_true.1 h.1;have hP:=(possA_iff _ _ _ _).1 hp.2;constructor
 ·unfold fitsS;rw[List.all_eq_true];intro f hm;obtain ⟨⟨a1,a2⟩,⟨b1,b2⟩⟩:=hf f hm;by_cases e1:0≤cl c f.a
  ·by_cases e2:0≤cl c f.b
   ·have h1:=hF f hm;unfold Fct.fits at h1 ⊢;rw[hA _ a1 a2 e1,hA _ b1 b2 e2] at h1;simp[h1]
   ·simp[e2]
  ·simp[e1]
 ·have him:∀ x∈a.atoms,x.kind=1∧0≤cl c x.a→inLast d 8 x=true∧cl d x.a=cl c x.a:=by
   rintro x hm ⟨h1,h2⟩;obtain ⟨⟨a1,a2⟩,⟨b1,b2⟩⟩:=hx x hm;exact ⟨by simp[inLast,a2,b2,Atm.fill,h1],hA _ a1 a2 h2⟩
  rw[earlyF_iff];refine ⟨fun x hm hk=>?_,?_⟩
  ·obtain ⟨g1,g2⟩:=him x hm hk;have:=(hP.1 x hm g1).1;rw[g2] at this;exact ⟨this,by simp⟩
  ·have e:((a.atoms.filter fun x=>decide (x.kind=1)&&decide (0≤cl c x.a)).map fun x=>cl c x.a)=((a.atoms.filter fun x=>decide (x.kind=1)&&decide (0≤cl c x.a)).map fun x=>cl d x.a):=by
    apply List.map_congr_left;intro x hm;rw[List.mem_filter] at hm;exact (him x hm.1 (by simpa using hm.2)).2.symm
   rw[e];refine List.Nodup.sublist ?_ hP.2;apply List.Sublist.map
   have e2:(a.atoms.filter fun x=>decide (x.kind=1)&&decide (0≤cl c x.a))=(a.atoms.filter (inLast d 8)).filter fun x=>decide (x.kind=1)&&decide (0≤cl c x.a):=by
    rw[List.filter_filter];apply List.filter_congr;intro x hm;cases e3:(decide (x.kind=1)&&decide (0≤cl c x.a))
    ·simp
    ·simp[(him x hm (by simpa using e3)).1]
   rw[e2];exact List.filter_sublist
theorem seek_eq {a:Asn} {S:Nat} (hf:FactsOk a.facts) (hx:AtomsOk a.atoms) (hS:∀ t:Nat,S.testBit t=false→(∀ f∈a.facts,f.a≠t∧f.b≠t)∧(∀ x∈a.atoms,x.a≠t∧x.b≠t)) :
  ∀ (n:Nat) (c:List Int),n≤9→c.length=9→(∀ j:Nat,9 - n≤j→j<9→cl c j = -1)→(∀ j:Nat,j<9 - n→S.testBit j=true→0≤cl c j)→seek a S n c=(gen S n c).filter (full a):=by
 intro n
 induction n with
 | zero=>
  intro c _ hc _ hp;simp only[seek,gen]
  have hF:fitsS c a.facts=a.facts.all (Fct.fits c):=by
   unfold fitsS;rw[Bool.eq_iff_iff,List.all_eq_true,List.all_eq_true];refine forall_congr' fun f=>forall_congr' fun hm=>?_;obtain ⟨⟨a1,a2⟩,⟨b1,b2⟩⟩:=hf f hm
   have k1:0≤cl c f.a:=by
    obtain ⟨t,e⟩:=Int.eq_ofNat_of_zero_le a1;rw[e];apply hp t (by omega);cases h:S.testBit t
    ·exact absurd e ((hS t h).1 f hm).1
    ·rfl
   have k2:0≤cl c f.b:=by
    obtain ⟨t,e⟩:=Int.eq_ofNat_of_zero_le b1;rw[e];apply hp t (by omega);cases h:S.testBit t
    ·exact absurd e ((hS t h).1 f hm).2
    ·rfl
   simp[k1,k2]
  cases hfu:full a c
  ·rw[filter_none (by simpa using hfu)]
   split
   ·rename_i h1;rw[Bool.and_eq_true,hF] at h1;rw[if_neg];intro h2;unfold full at hfu;rw[h1.1,h2] at hfu;cases hfu
   ·rfl
  ·rw[if_pos (full_early hf hx (fun _ _ _ _=>rfl) hfu),List.filter_cons_of_pos hfu,if_pos]
   ·rfl
   ·unfold full at hfu;rw[Bool.and_eq_true] at hfu;exact hfu.2
 | succ n ih=>
  intro c hn hc hop hp;unfold seek;cases hE:(fitsS c a.facts&&earlyF c [] a.atoms)
  ·simp only[Bool.false_eq_true,if_false]
   symm
   apply filter_none;intro d hd;obtain ⟨-,h2,-⟩:=gen_ok S (n+1) _ d hn hc hd;cases hfu:full a d
   ·rfl
   ·have:=full_early (c:=c) hf hx (fun j h0 h8 hj=>?_) hfu
    ·rw[hE] at this;cases this
    ·apply h2 j h0;by_cases hlt:(8 - (n+1:Nat):Int)<j
     ·obtain ⟨t,e⟩:=Int.eq_ofNat_of_zero_le h0;have:=hop t (by omega) (by omega);rw[e,this] at hj;omega
     ·omega
  ·rw[if_pos rfl];unfold gen;cases e:S.testBit (8 - n)
   ·simp only[Bool.false_eq_true,if_false]
    have e1:c.set (8 - n) (-1)=c:=by
     have:=hop (8 - n) (by omega) (by omega);have hl:8 - n<c.length:=by omega
     have h1:c[8 - n] = -1:=by simpa[cl,List.getElem?_eq_getElem hl] using this
     rw[←h1,List.set_getElem_self]
    rw[e1];refine ih _ (by omega) hc (fun j h1 h2=>hop j (by omega) h2) (fun j h1 h2=>?_);by_cases ej:j=8 - n
    ·subst ej;rw[e] at h2;cases h2
    ·exact hp j (by omega) h2
   ·rw[if_pos rfl,if_pos rfl,List.filter_flatMap];apply flatMap_congr';intro k hk;rw[List.mem_range] at hk
    split
    ·rfl
    ·refine ih _ (by omega) (by simpa using hc) (fun j h1 h2=>?_) (fun j h1 h2=>?_)
     ·rw[cl_set hc (by omega) _ (by omega),if_neg (by omega)];exact hop j (by omega) h2
     ·rw[cl_set hc (by omega) _ (by omega)]
      split
      ·omega
      ·exact hp j (by omega) h2
theorem seek_cases {a:Asn} {S:Nat} (hf:FactsOk a.facts) (hx:AtomsOk a.atoms) (h0:S.testBit 0=true) (hS:∀ t:Nat,S.testBit t=false→(∀ f∈a.facts,f.a≠t∧f.b≠t)∧(∀ x∈a.atoms,x.a≠t∧x.b≠t)):seek a S 8 opened=cases a S:=by
 have hop:∀ j:Nat,9 - 8≤j→j<9→cl opened j = -1:=by
  intro j h1 h2;obtain rfl|rfl|rfl|rfl|rfl|rfl|rfl|rfl:j=1∨j=2∨j=3∨j=4∨j=5∨j=6∨j=7∨j=8:=by omega
  all_goals rfl
 have hcl:∀ j:Nat,j<9 - 8→S.testBit j=true→0≤cl opened j:=by
  intro j h1 _;obtain rfl:j=0:=by omega
  decide
 rw[seek_eq hf hx hS 8 opened (by omega) rfl hop hcl];unfold cases
 congr 1
 show _=(if S.testBit 0 then _ else _);rw[if_pos h0];show _=(List.range 1).flatMap _;rw[show List.range 1=[0] from rfl];simp only[List.flatMap_cons,List.flatMap_nil,List.append_nil];rw[if_neg (by omega)];refine gen_congr S 8 (zeros.set 0 0) opened (by omega) rfl rfl fun j h1 h2=>?_;obtain rfl:j=0:=by omega
 rfl
end
theorem Asn.valid_ok {a:Asn} (h:a.valid=true):FactsOk a.facts∧AtomsOk a.atoms:=by
 simp only[Asn.valid,factsValid,Bool.and_eq_true,List.all_eq_true] at h;refine ⟨fun f hf=>?_,fun x hx=>?_⟩
 ·have:=h.1.2 f hf;simp[Fct.valid,jq] at this;omega
 ·have:=h.2.2 x hx;simp[Atm.valid,jq] at this;omega
def freeAt (atoms:List Atm) (used:List Bool) (c:Int) (k:Nat):Bool:=decide (((atoms[k]?).getD default).a=c) && !((used[k]?).getD true)
def findU (atoms:List Atm) (used:List Bool) (c:Int):Option Nat:=(List.range atoms.length).find? (freeAt atoms used c)
def closedB (atoms:List Atm) (b:Int):Bool:=decide (b=0) || atoms.any fun x=>decide (x.a=b)
def chainF (atoms:List Atm) (b:Int):Nat→List Bool→Int→Option (List Bool)
 | 0,_,_=>none
 | n+1,used,c=>(findU atoms used c).bind fun k=>
   if ((atoms[k]?).getD default).b=b then some (used.set k true)
   else if ((atoms[k]?).getD default).kind=2∧closedB atoms b=false then none
   else chainF atoms b n (used.set k true) ((atoms[k]?).getD default).b
def useOne (atoms:List Atm) (used:List Bool) (x:Atm):Option (List Bool):=
 if x.kind=1 then (findU atoms used x.a).bind fun k=>if (atoms[k]?).getD default=x then some (used.set k true) else none
 else chainF atoms x.b (atoms.length+1) used x.a
def matchF (atoms:List Atm):List Bool→List Atm→Option (List Bool)
 | used,[]=>some used
 | used,x :: xs=>(useOne atoms used x).bind fun u=>matchF atoms u xs
def matchB (atoms goal:List Atm):Bool:=match matchF atoms (List.replicate atoms.length false) goal with|some u=>u.all id|none=>false
def entB (a b:Asn) (c:List Int):Bool:=b.facts.all (Fct.fits c)&&matchB (filledL a.atoms c) (filledL b.atoms c)
theorem range_find_some {n k:Nat} {p:Nat→Bool} (hk:k<n) (hp:p k=true) (hb:∀ j,j<k→p j=false):(List.range n).find? p=some k:=by
 rw[List.find?_range_eq_some];refine ⟨hp,by simpa using hk,fun j hj=>by simp[hb j hj]⟩
theorem range_find_none {n:Nat} {p:Nat→Bool} (hb:∀ j,j<n→p j=false):(List.range n).find? p=none:=by
 rw[List.find?_eq_none];intro j hj;rw[List.mem_range] at hj;simp[hb j hj]
theorem findU_some {atoms:List Atm} {used:List Bool} {c:Int} {k:Nat} (h:findU atoms used c=some k):k<atoms.length∧freeAt atoms used c k=true:=by
 unfold findU at h;have h1:=List.mem_of_find?_eq_some h;exact ⟨by simpa using h1,List.find?_some h⟩
theorem freeAt_used {atoms:List Atm} {used:List Bool} {c:Int} {k:Nat} (h:freeAt atoms used c k=true):k<used.length∧used[k]? = some false:=by
 unfold freeAt at h
 cases e:used[k]? with
 | none=>rw[e] at h;simp at h
 | some u=>
  rw[e] at h;have:=(List.getElem?_eq_some_iff.1 e).1;cases u
  ·exact ⟨this,rfl⟩
  ·simp at h
theorem count_take {used:List Bool} {k:Nat} (h:used[k]? = some false):(used.set k true).count true=used.count true+1:=by
 induction used generalizing k with
 | nil=>simp at h
 | cons u us ih=>
  cases k with
  | zero=>simp at h;subst h;simp
  | succ k=>
   simp only[List.set_cons_succ,List.count_cons];rw[ih (by simpa using h)];omega
theorem count_all {used:List Bool}:(used.count true=used.length)↔used.all id=true:=by
 induction used with
 | nil=>simp
 | cons u us ih=>
  have:=List.count_le_length (a:=true) (l:=us);cases u
  ·simp;omega
  ·simp only[List.count_cons,beq_self_eq_true,if_true,List.length_cons,List.all_cons,id_eq,Bool.true_and];rw[←ih];omega
theorem chainF_len {atoms:List Atm} {b:Int}:∀ (n:Nat) (used:List Bool) (c:Int) (u:List Bool),chainF atoms b n used c=some u→u.length=used.length:=by
 intro n
 induction n with
 | zero=>intro used c u h;cases h
 | succ n ih=>
  intro used c u h;unfold chainF at h;rw[Option.bind_eq_some_iff] at h;obtain ⟨k,hk,h⟩:=h
  split at h
  ·cases h;simp
  ·split at h
   ·cases h
   ·rw[ih _ _ _ h];simp
theorem useOne_len {atoms:List Atm} {used:List Bool} {x:Atm} {u:List Bool} (h:useOne atoms used x=some u):u.length=used.length:=by
 unfold useOne at h
 split at h
 ·rw[Option.bind_eq_some_iff] at h;obtain ⟨k,hk,h⟩:=h
  split at h
  ·cases h;simp
  ·cases h
 ·exact chainF_len _ _ _ _ h
end
section
open Go Go.RowKit Go.Proofs
def idxL (fl:List Bool) (k:Nat):List Int:=((List.range k).filter fun n=>fl.getD n false).map fun n:Nat=>(n:Int)
theorem idxL_succ (fl:List Bool) (k:Nat):idxL fl (k+1)=idxL fl k++if fl.getD k false then [(k:Int)] else []:=by
 unfold idxL;rw[List.range_succ,List.filter_append,List.map_append,List.filter_cons,List.filter_nil];cases fl.getD k false<;>rfl
theorem idxL_length (fl:List Bool) (k:Nat):(idxL fl k).length≤k:=by
 unfold idxL;rw[List.length_map];exact Nat.le_trans (List.length_filter_le _ _) (by simp)
theorem c_spec_l3List {lo hi:Nat} (A:Option Addr) (c:Nat) (fl:List Bool) (w:World) (h:BoolsV w lo hi A fl) (hl9:fl.length≤9):Calls Tryz.prog 84 #[.slice A fl.length c] w fun e w'=>∃ r,e=.returned r∧IntsO w' w.heap.size r (idxL fl fl.length)∧Below w.heap.size w w':=by
 (go_enter Tryz.func84,Tryz.ntmps84);go_wp2
 go_loopw [3,4] (fun o i wr=>∃ (k:Nat) (A:Option Addr) (c:Nat),k≤fl.length∧i=.int .i64 k∧o=.slice A (idxL fl k).length c∧IntsO wr w.heap.size (.slice A (idxL fl k).length c) (idxL fl k)∧Below w.heap.size w wr) (fun _ i _=>fl.length - (intOf i).toNat)
 case atStart=>exact ⟨0,_,_,by omega,rfl,rfl,IntsO.empty w rfl,bel⟩
 case round=>
  obtain ⟨k,A,c,hk,rfl,rfl,hO,hB⟩:=hrel;have hlen:=idxL_length fl k;by_cases h8:k<fl.length
  ·obtain ⟨b,off,rfl,c0⟩:=(h.bz hB).at h8;have HC:=ax (idxL_succ fl k);have hg:fl.getD k false=fl[k]:=by simp[h8]
   cases ht:fl[k]
   ·have HG:=ax (hg.trans ht);rw[ht] at c0;clear ht hg;(go_wp2_with fail)
    go_round
    case rel=>
     have e:idxL fl (k+1)=idxL fl k:=by rw[HC.o,HG.o];simp
     exact ⟨k+1,A,c,by omega,by go_num,by rw[e],by rw[e];exact hO,hB⟩
    case measure=>simp[intOf];omega
   ·have HG:=ax (hg.trans ht);rw[ht] at c0;clear ht hg;(go_wp2_with (at_builtin;refine appI rfl _ _ rfl (v:=.slice A (idxL fl k).length c) rfl (hO.abv (Abv.alloc (Abv.refl 0 _) _) (Nat.zero_le _)) wr.heap.size _ rfl (cell_box wr _ _) (by omega) (by simp;have:=hB.size;omega) ?_;intro g' c' w2 hO2 hg2 hB3))
    go_round
    case rel=>
     have e:idxL fl (k+1)=idxL fl k++[(k:Int)]:=by rw[HC.o,HG.o];simp
     exact ⟨k+1,some ⟨g',0,none⟩,c',by omega,by go_num,by rw[e,List.length_append];rfl,by rw[e];simpa using hO2,Below.trans (bbox hB _) hB3⟩
    case measure=>simp[intOf];omega
  ·obtain rfl:k=fl.length:=by omega
   go_wp2;go_ret;exact ⟨_,rfl,hO,hB⟩
def zj (S:Nat):List Bool:=(List.range 9).map fun i=>S.testBit i
theorem zjB (S:Nat):(zj S).length=9:=by simp[zj]
theorem flagsOf_get (S k:Nat) (hk:k<9):(zj S)[k]? = some (S.testBit k):=by simp[zj,hk]
theorem flagsOf_set (S n:Nat):(zj S).set n true=zj (S|||1 <<< n):=by
 apply List.ext_getElem?;intro j;simp only[zj,List.getElem?_set,List.getElem?_map,List.length_map,List.length_range];by_cases hj:j<9
 ·rw[List.getElem?_range hj];simp only[Option.map_some,Nat.testBit_or,Nat.one_shiftLeft,Nat.testBit_two_pow];by_cases e:n=j
  ·subst e;simp[hj]
  ·simp[e]
 ·rw[List.getElem?_eq_none (by simp;omega)];by_cases e:n=j
  ·subst e;simp[hj]
  ·simp[e]
theorem flags_cell (S:Nat) (cs:Array Value) (he:cs=(encB (zj S)).toArray) {k:Nat} (hk:k<9):cs[k]? = some (.bool (S.testBit k)):=by
 subst he;simp[encB,flagsOf_get S k hk]
theorem flags_upd (S n:Nat):((encB (zj S)).toArray).setIfInBounds n (.bool true)=(encB (zj (S|||1 <<< n))).toArray:=by
 rw[←flagsOf_set,encB,encB,List.map_set];simp
end
section
open Go Go.RowKit
def swp (x y t:Int):Int:=if t=x then y else t
def Fct.sub (x y:Int) (f:Fct):Fct:=⟨f.eq,swp x y f.a,swp x y f.b⟩
def Atm.sub (x y:Int) (f:Atm):Atm:=⟨f.kind,swp x y f.a,swp x y f.b⟩
def substA (x y:Int) (a:Asn):Asn:=⟨a.facts.map (Fct.sub x y),a.atoms.map (Atm.sub x y)⟩
def upto {α:Type} (f:α→α) (k:Nat) (L:List α):List α:=(L.map f).take k++L.drop k
theorem upto_length {α:Type} (f:α→α) (k:Nat) (L:List α):(upto f k L).length=L.length:=by simp[upto];omega
theorem upto_zero {α:Type} (f:α→α) (L:List α):upto f 0 L=L:=by simp[upto]
theorem upto_full {α:Type} (f:α→α) (L:List α):upto f L.length L=L.map f:=by simp[upto,List.take_of_length_le]
theorem upto_get {α:Type} (f:α→α) (k:Nat) (L:List α) (h:k<L.length):(upto f k L)[k]'(by rw[upto_length];exact h)=L[k]:=by
 have:(upto f k L)[k]? = some L[k]:=by
  rw[upto,List.getElem?_append_right (by simp;omega)];simp[show min k L.length=k from by omega,List.getElem?_eq_getElem h]
 rw[List.getElem?_eq_getElem (by rw[upto_length];exact h)] at this;exact Option.some.inj this
theorem upto_set {α:Type} (f:α→α) (k:Nat) (L:List α) (h:k<L.length):(upto f k L).set k (f L[k])=upto f (k+1) L:=by
 apply List.ext_getElem?;intro j;simp only[upto,List.getElem?_set,List.getElem?_append,List.getElem?_take,List.getElem?_map,List.getElem?_drop,List.length_append,List.length_take,List.length_map,List.length_drop];have e1:min k L.length=k:=by omega
 have e2:min (k+1) L.length=k+1:=by omega
 rw[e1,e2];by_cases hj:k=j
 ·subst hj;rw[if_pos rfl,if_pos (by omega),if_pos (by omega),if_pos (by omega),List.getElem?_eq_getElem h];rfl
 ·rw[if_neg hj];by_cases h1:j<k
  ·rw[if_pos h1,if_pos h1,if_pos (by omega),if_pos (by omega)]
  ·rw[if_neg h1,if_neg (by omega),show k+(j - k)=j from by omega,show k+1+(j - (k+1))=j from by omega]
def logB (t:Int):Bool:=decide (4<t∧t≤8)
def free (K:Nat) (t:Int):Bool:=logB t && !K.testBit t.toNat
def subOf (K:Nat) (f:Fct):Option (Int×Int):=
 if f.eq && !(f.a == f.b) then (if free K f.a then some (f.a,f.b) else if free K f.b then some (f.b,f.a) else none) else none
def subStep (K:Nat) (fs:List Fct):Option (Int×Int):=fs.findSome? (subOf K)
theorem subStep_cons (K:Nat) (fs:List Fct) (k:Nat) (hk:k<fs.length):subStep K (fs.drop k)=(subOf K fs[k]).or (subStep K (fs.drop (k+1))):=by
 rw[List.drop_eq_getElem_cons hk,subStep,List.findSome?_cons];cases subOf K fs[k]<;>rfl
theorem subOf_spec {K:Nat} {f:Fct} {x t:Int} (h:subOf K f=some (x,t)):free K x=true∧x≠t∧((x=f.a∧t=f.b)∨(x=f.b∧t=f.a)):=by
 unfold subOf at h
 split at h
 ·rename_i hc;simp at hc
  split at h
  ·rename_i hf;simp at h;obtain ⟨rfl,rfl⟩:=h;exact ⟨hf,hc.2,Or.inl ⟨rfl,rfl⟩⟩
  ·split at h
   ·rename_i hf;simp at h;obtain ⟨rfl,rfl⟩:=h;exact ⟨hf,fun e=>hc.2 e.symm,Or.inr ⟨rfl,rfl⟩⟩
   ·cases h
 ·cases h
def left (K:Nat) (a:Asn):List Nat:=(List.range 9).filter fun n=>free K (n:Int)&&decide ((n:Int)∈mz a)
theorem termsL_facts {a:Asn} {f:Fct} (h:f∈a.facts):f.a∈mz a∧f.b∈mz a:=by
 simp only[mz,List.mem_append,List.mem_flatMap];exact ⟨Or.inl ⟨f,h,by simp[factT]⟩,Or.inl ⟨f,h,by simp[factT]⟩⟩
theorem termsL_subst {a:Asn} {x y n:Int} (h:n∈mz (substA x y a)):(n∈mz a∧n≠x)∨(n=y∧x∈mz a):=by
 simp only[mz,substA,List.mem_append,List.mem_flatMap,List.mem_map] at h ⊢;rcases h with ⟨g,⟨f,hf,rfl⟩,hn⟩|⟨g,⟨f,hf,rfl⟩,hn⟩
 ·simp only[factT,Fct.sub,swp,List.mem_cons,List.not_mem_nil,or_false] at hn;rcases hn with hn|hn<;>split at hn
  ·rename_i e;exact Or.inr ⟨hn,Or.inl ⟨f,hf,by simp[factT,e]⟩⟩
  ·rename_i e;exact Or.inl ⟨Or.inl ⟨f,hf,by simp[factT,hn]⟩,fun h=>e (by omega)⟩
  ·rename_i e;exact Or.inr ⟨hn,Or.inl ⟨f,hf,by simp[factT,e]⟩⟩
  ·rename_i e;exact Or.inl ⟨Or.inl ⟨f,hf,by simp[factT,hn]⟩,fun h=>e (by omega)⟩
 ·simp only[atomT,Atm.sub,swp,List.mem_cons,List.not_mem_nil,or_false] at hn;rcases hn with hn|hn<;>split at hn
  ·rename_i e;exact Or.inr ⟨hn,Or.inr ⟨f,hf,by simp[atomT,e]⟩⟩
  ·rename_i e;exact Or.inl ⟨Or.inr ⟨f,hf,by simp[atomT,hn]⟩,fun h=>e (by omega)⟩
  ·rename_i e;exact Or.inr ⟨hn,Or.inr ⟨f,hf,by simp[atomT,e]⟩⟩
  ·rename_i e;exact Or.inl ⟨Or.inr ⟨f,hf,by simp[atomT,hn]⟩,fun h=>e (by omega)⟩
theorem filter_lt {α:Type} (p q:α→Bool) (x:α):∀ (l:List α),x∈l→(∀ y∈l,p y=true→q y=true)→p x=false→q x=true→(l.filter p).length<(l.filter q).length:=by
 intro l
 induction l with
 | nil=>intro h;cases h
 | cons y l ih=>
  intro h hpq hp hq
  have hle:(l.filter p).length≤(l.filter q).length:=by
   clear ih
   have:∀ l:List α,(∀ y∈l,p y=true→q y=true)→(l.filter p).length≤(l.filter q).length:=by
    intro l;induction l with
    | nil=>intro _;exact Nat.le_refl _
    | cons z l ih=>
     intro h;have:=ih fun y hy=>h y (List.mem_cons_of_mem _ hy);have hz:=h z List.mem_cons_self;rw[List.filter_cons,List.filter_cons];cases hp:p z<;>cases hq:q z<;>simp_all<;>omega
   exact this l fun y hy=>hpq y (List.mem_cons_of_mem _ hy)
  rw[List.filter_cons,List.filter_cons];rcases List.mem_cons.1 h with rfl|h
  ·simp[hp,hq];omega
  ·have h1:=ih h (fun y hy=>hpq y (List.mem_cons_of_mem _ hy)) hp hq;have hy:=hpq y List.mem_cons_self;cases hp':p y<;>cases hq':q y<;>simp_all<;>omega
theorem left_lt {K:Nat} {a:Asn} {x t:Int} (h:subStep K a.facts=some (x,t)):(left K (substA x t a)).length<(left K a).length:=by
 obtain ⟨f,hf,hs⟩:=List.exists_of_findSome?_eq_some h;obtain ⟨h1,h2,h3⟩:=subOf_spec hs
 have hl:4<x∧x≤8:=by
  unfold free at h1;simp only[Bool.and_eq_true] at h1;simpa[logB] using h1.1
 obtain ⟨m,rfl⟩:=Int.eq_ofNat_of_zero_le (show 0≤x by omega);have hm:=termsL_facts hf
 have hx:(m:Int)∈mz a:=by
  rcases h3 with ⟨e,_⟩|⟨e,_⟩
  ·rw[e];exact hm.1
  ·rw[e];exact hm.2
 have ht:t∈mz a:=by
  rcases h3 with ⟨_,e⟩|⟨_,e⟩
  ·rw[e];exact hm.2
  ·rw[e];exact hm.1
 refine filter_lt _ _ m _ (by simp;omega) ?_ ?_ ?_
 ·intro y hy hp;simp only[Bool.and_eq_true,decide_eq_true_eq] at hp ⊢;refine ⟨hp.1,?_⟩;rcases termsL_subst hp.2 with ⟨h,_⟩|⟨h,_⟩
  ·exact h
  ·rw[h];exact ht
 ·simp only[Bool.and_eq_false_iff,decide_eq_false_iff_not];refine Or.inr fun hc=>?_;rcases termsL_subst hc with ⟨_,h⟩|⟨h,_⟩
  ·exact h rfl
  ·exact h2 h
 ·simp only[Bool.and_eq_true,decide_eq_true_eq];exact ⟨h1,hx⟩
def subAll (K:Nat) (a:Asn):Asn:=
 match _h:subStep K a.facts with
 | none=>a
 | some (x,t)=>subAll K (substA x t a)
termination_by (left K a).length
decreasing_by exact left_lt _h
theorem subAll_none {K:Nat} {a:Asn} (h:subStep K a.facts=none):subAll K a=a:=by
 rw[subAll];split
 ·rfl
 ·rename_i e;rw[h] at e;cases e
theorem subAll_some {K:Nat} {a:Asn} {x t:Int} (h:subStep K a.facts=some (x,t)):subAll K a=subAll K (substA x t a):=by
 rw[subAll];split
 ·rename_i e;rw[h] at e;cases e
 ·rename_i e;rw[h] at e;simp at e;obtain ⟨rfl,rfl⟩:=e;rfl
def okTerm (K:Nat) (t:Int):Bool:=decide (t≤4) || K.testBit t.toNat
def okFact (K:Nat) (f:Fct):Bool:=okTerm K f.a&&okTerm K f.b
def nfF (f:Fct):Fct:=if f.b<f.a then ⟨f.eq,f.b,f.a⟩ else f
def nfStep (acc:List Fct) (f:Fct):List Fct:=if f.eq&&(f.a == f.b) then acc else if acc.contains (nfF f) then acc else acc++[nfF f]
def nfA (x:Atm):Bool:=x.kind != 2 || x.a != x.b
def normalF (a:Asn):Asn:=⟨a.facts.foldl nfStep [],a.atoms.filter nfA⟩
def tidyF (K:Nat) (a:Asn):Asn:=
 let b:=subAll K a
 normalF ⟨b.facts.filter (okFact (K|||tset (mz ⟨[],b.atoms⟩))),b.atoms⟩
theorem nfStep_length (acc:List Fct) (f:Fct):(nfStep acc f).length≤acc.length+1:=by
 unfold nfStep;split
 ·omega
 ·split<;>simp
theorem foldl_drop_step {α β:Type} (g:β→α→β) (xs:List α) (k:Nat) (hk:k<xs.length) (b:β):(xs.drop k).foldl g b=(xs.drop (k+1)).foldl g (g b xs[k]):=by
 rw[List.drop_eq_getElem_cons hk];rfl
theorem filter_take {α:Type} (p:α→Bool) (xs:List α) (k:Nat) (hk:k<xs.length):(xs.take (k+1)).filter p=(xs.take k).filter p++if p xs[k] then [xs[k]] else []:=by
 rw[List.take_succ_eq_append_getElem hk,List.filter_append,List.filter_cons,List.filter_nil]
theorem sub_valid {x y:Int} {a:Asn} (h:a.valid=true) (hy:jq y=true):(substA x y a).valid=true:=by
 simp only[Asn.valid,factsValid,substA,Bool.and_eq_true,decide_eq_true_eq,List.length_map,List.all_map] at h ⊢
 have hs:∀ t,jq t=true→jq (swp x y t)=true:=fun t ht=>by
  unfold swp
  split
  ·exact hy
  ·exact ht
 refine ⟨⟨h.1.1,?_⟩,h.2.1,?_⟩
 ·have:=h.1.2;rw[List.all_eq_true] at this ⊢;intro f hf;have:=this f hf;simp only[Fct.valid,Bool.and_eq_true,Function.comp,Fct.sub] at this ⊢;exact ⟨hs _ this.1,hs _ this.2⟩
 ·have:=h.2.2;rw[List.all_eq_true] at this ⊢;intro f hf;have:=this f hf;simp only[Atm.valid,Bool.and_eq_true,Function.comp,Atm.sub] at this ⊢;exact ⟨⟨this.1.1,hs _ this.1.2⟩,hs _ this.2⟩
theorem subAll_valid {K:Nat}:∀ (n:Nat) (a:Asn),(left K a).length≤n→a.valid=true→(subAll K a).valid=true:=by
 intro n
 induction n with
 | zero=>
  intro a hn hv
  cases h:subStep K a.facts with
  | none=>rw[subAll_none h];exact hv
  | some p=>obtain ⟨x,t⟩:=p;have:=left_lt h;omega
 | succ n ih=>
  intro a hn hv
  cases h:subStep K a.facts with
  | none=>rw[subAll_none h];exact hv
  | some p=>
   obtain ⟨x,t⟩:=p;rw[subAll_some h];refine ih _ (by have:=left_lt h;omega) (sub_valid hv ?_);obtain ⟨f,hf,hs⟩:=List.exists_of_findSome?_eq_some h
   have hfv:f.valid=true:=by
    simp only[Asn.valid,factsValid,Bool.and_eq_true] at hv;exact List.all_eq_true.1 hv.1.2 f hf
   simp only[Fct.valid,Bool.and_eq_true] at hfv;rcases (subOf_spec hs).2.2 with ⟨_,e⟩|⟨_,e⟩<;>rw[e]
   ·exact hfv.2
   ·exact hfv.1
def logS (S:Nat):Nat:=S >>> 5 <<< 5
theorem logS_bit (S n:Nat):(logS S).testBit n=(decide (5≤n)&&S.testBit n):=by
 unfold logS;rw[Nat.testBit_shiftLeft,Nat.testBit_shiftRight];by_cases h:5≤n
 ·simp[h,show 5+(n - 5)=n from by omega]
 ·simp[h]
theorem okFact_iff {K:Nat} {f:Fct} (hv:f.valid=true):okFact K f=true↔∀ n,(logS (tins (tins 0 f.a) f.b)).testBit n=true→K.testBit n=true:=by
 have hv':=hv;simp only[Fct.valid,Bool.and_eq_true] at hv';have h1:=zjA.1 hv'.1;have h2:=zjA.1 hv'.2;constructor
 ·intro h n hn;simp only[logS_bit,tins_bit,Nat.zero_testBit,Bool.false_or,Bool.and_eq_true,Bool.or_eq_true,decide_eq_true_eq] at hn;simp only[okFact,okTerm,Bool.and_eq_true,Bool.or_eq_true,decide_eq_true_eq] at h;obtain ⟨h5,⟨_,e⟩|⟨_,e⟩⟩:=hn
  ·rcases h.1 with h|h
   ·omega
   ·rw[e] at h;simpa using h
  ·rcases h.2 with h|h
   ·omega
   ·rw[e] at h;simpa using h
 ·intro h;simp only[okFact,okTerm,Bool.and_eq_true,Bool.or_eq_true,decide_eq_true_eq];refine ⟨?_,?_⟩
  ·by_cases h5:f.a≤4
   ·exact Or.inl h5
   ·refine Or.inr (h _ ?_);simp only[logS_bit,tins_bit,Nat.zero_testBit,Bool.false_or,Bool.and_eq_true,Bool.or_eq_true,decide_eq_true_eq];exact ⟨by omega,Or.inl ⟨hv'.1,by omega⟩⟩
  ·by_cases h5:f.b≤4
   ·exact Or.inl h5
   ·refine Or.inr (h _ ?_);simp only[logS_bit,tins_bit,Nat.zero_testBit,Bool.false_or,Bool.and_eq_true,Bool.or_eq_true,decide_eq_true_eq];exact ⟨by omega,Or.inr ⟨hv'.2,by omega⟩⟩
end
section
open Go Go.RowKit Go.Proofs
attribute [local go_sem ↓] Go.wp_at_zero Go.wp_at_succ
theorem termsL_ok {a:Asn} (h:a.valid=true):∀ t∈mz a,jq t=true:=by
 simp only[Asn.valid,factsValid,Bool.and_eq_true,List.all_eq_true] at h;intro t ht;simp only[mz,List.mem_append,List.mem_flatMap] at ht;rcases ht with ⟨f,hf,ht⟩|⟨f,hf,ht⟩
 ·have:=h.1.2 f hf;simp only[Fct.valid,Bool.and_eq_true] at this;simp only[factT,List.mem_cons,List.not_mem_nil,or_false] at ht;rcases ht with rfl|rfl
  ·exact this.1
  ·exact this.2
 ·have:=h.2.2 f hf;simp only[Atm.valid,Bool.and_eq_true] at this;simp only[atomT,List.mem_cons,List.not_mem_nil,or_false] at ht;rcases ht with rfl|rfl
  ·exact this.1.2
  ·exact this.2
theorem termsL_atoms {a:Asn} {k:Nat} (h:k<a.atoms.length):a.atoms[k].a∈mz a∧a.atoms[k].b∈mz a:=by
 simp only[mz,List.mem_append,List.mem_flatMap];exact ⟨Or.inr ⟨_,List.getElem_mem h,by simp[atomT]⟩,Or.inr ⟨_,List.getElem_mem h,by simp[atomT]⟩⟩
theorem tins_flags (S m:Nat) (hm:m≤8):((encB (zj S)).toArray).setIfInBounds m (.bool true)=(encB (zj (tins S (m:Int)))).toArray:=by
 rw[flags_upd,tins,if_pos (zjA.2 (by omega)),Int.toNat_natCast]
theorem BoolsO.ofBlk {w:World} {g base S:Nat} (h:Blk w g tB (encB (zj S)).toArray) (hb:base≤g):BoolsO w base (.slice (some ⟨g,0,none⟩) 9 9) (zj S):=
 ⟨own_of_blk (n:=9) (cap:=9) h hb (by simp[zj]) (by intro j hj;simp) (Nat.le_refl _) (by decide) (by simp[zj]),by simp[zj,Lim]⟩
theorem mkB9 (w:World):(Instr.makeSlice 124 (.int .i64 9) (.int .i64 9)).run Tryz.prog w=.ok (.slice (some ⟨w.heap.size,0,none⟩) 9 9) (w.alloc (.cells (encB (zj 0)).toArray tB)):=
 (mkB 9 (by decide) w).trans (by rw[show (madeCells #[.bool false] (9 * 1))=(encB (zj 0)).toArray from by kernel_rfl])
theorem flags_at {w:World} {lo hi b o K m:Nat} (h:BoolsV w lo hi (some ⟨b,o,none⟩) (zj K)) (hm:m≤8):w.cell? ⟨b,o+m,none⟩=some (.bool (K.testBit m)):=by
 have:=h.cl (k:=m) (by rw[zjB];omega);rw[this];have e:=flagsOf_get K m (by omega);rw[List.getElem?_eq_getElem (by rw[zjB];omega)] at e;rw[Option.some.inj e]
theorem flags_addr {w:World} {lo hi K:Nat} {A:Option Addr} (h:BoolsV w lo hi A (zj K)):∃ b o,A=some ⟨b,o,none⟩∧b<w.heap.size:=h.blt (k:=0) (by rw[zjB];omega)
theorem c_l3Swap (t x y:Int) (w:World):Calls Tryz.prog 293 #[.int .i64 t,.int .i64 x,.int .i64 y] w fun e w'=>e=.returned (.int .i64 (swp x y t))∧w=w':=by
 by_cases h:t=x
 ·have hb:(t == x)=true:=by simpa using h
  have HS:aJ (swp x y t=y):=by simp[aJ,swp,h]
  clear h;(go_enter Tryz.func293,Tryz.ntmps293);go_wp2;go_ret;exact ⟨ret_int HS.o.symm,rfl⟩
 ·have hb:(t == x)=false:=by simpa using h
  have HS:aJ (swp x y t=t):=by simp[aJ,swp,h]
  clear h;(go_enter Tryz.func293,Tryz.ntmps293);go_wp2;go_ret;exact ⟨ret_int HS.o.symm,rfl⟩
theorem c_spec_l10Busy {lo hi:Nat} (A:Option Addr) (c:Nat) (xs:List Int) (w:World) (h:IntsV w lo hi A xs):Calls Tryz.prog 109 #[.slice A xs.length c] w fun e w'=>∃ r,e=.returned r∧BoolsO w' w.heap.size r (zj (tset xs))∧Below w.heap.size w w':=by
 have hl:=h.le;have hmk:=mkB9;have HT:aJ (tset xs=xs.foldl tins 0):=by show _=_;unfold tset;rfl
 (go_enter Tryz.func109,Tryz.ntmps109);go_wp2;clear hmk
 go_loopw [4] (fun i wr=>∃ (k T:Nat),k≤xs.length∧i=.int .i64 k∧aJ (tset xs=(xs.drop k).foldl tins T)∧Blk wr w.heap.size tB (encB (zj T)).toArray∧Below w.heap.size w wr) (fun i _=>xs.length - (intOf i).toNat)
 case atStart=>exact ⟨0,0,Nat.zero_le _,rfl,HT.o,blks,bel⟩
 case round=>
  obtain ⟨k,T,hk,rfl,HA,k0,hB⟩:=hrel;by_cases hlt:k<xs.length
  ·obtain ⟨b,off,rfl,c0⟩:=(h.bz hB).at hlt;have HD:=ax (foldl_step tins T xs k hlt);have hne:=block_lt_of_cell c0;cases ht:jq xs[k]
   ·have HS:aJ (tins T xs[k]=T):=by simp[aJ,tins,ht]
    go_wp2_with (go_at_call 174;refine (c_spec_l1Is _ _).mono ?_;rintro e w' ⟨rfl,rfl⟩)
    go_round
    case rel=>exact ⟨k+1,T,by omega,by go_num,by show _=_;rw[HA.o,HD.o,HS.o],k0,hB⟩
    case measure=>simp[intOf];omega
   ·have hb:=zjA.1 ht;obtain ⟨m,hm⟩:=Int.eq_ofNat_of_zero_le hb.1;have HM:=ax hm;have m8:m≤8:=by omega
    have m8':(m:Int)<9:=by omega
    rw[hm] at c0 ht;have q3:wr.cell? ⟨w.heap.size,m,none⟩=some (.bool (T.testBit m)):=(k0.cell m).trans (flags_cell T _ rfl (by omega));have r3:=k0.frozen;clear hm hb;(go_wp2_with (go_at_call 174;refine (c_spec_l1Is _ _).mono ?_;rintro e w' ⟨rfl,rfl⟩))
    go_round
    case rel=>
     refine ⟨k+1,tins T xs[k],by omega,by go_num,by show _=_;rw[HA.o,HD.o],?_,bel⟩;rw[HM.o,←tins_flags _ _ m8];exact k0.set_ _ _
    case measure=>simp[intOf];omega
  ·obtain rfl:k=xs.length:=by omega
   go_wp2;go_ret;refine ⟨_,rfl,?_,hB⟩;rw[HA.o,List.drop_length];exact BoolsO.ofBlk k0 (Nat.le_refl _)
theorem flags2 (T m1 m2:Nat) (h1:m1≤8) (h2:m2≤8):(((encB (zj T)).toArray).setIfInBounds m1 (.bool true)).setIfInBounds m2 (.bool true)=(encB (zj (tins (tins T (m1:Int)) (m2:Int)))).toArray:=by
 rw[tins_flags _ _ h1,tins_flags _ _ h2]
theorem Blk.two {w:World} {g T m1 m2:Nat} (h:Blk w g tB (encB (zj T)).toArray) (h1:m1≤8) (h2:m2≤8):Blk ((w.setCell ⟨g,m1,none⟩ (.bool true)).setCell ⟨g,m2,none⟩ (.bool true)) g tB (encB (zj (tins (tins T (m1:Int)) (m2:Int)))).toArray:=by
 rw[←flags2 _ _ _ h1 h2];exact (h.set_ _ _).set_ _ _
theorem Blk.twice {w:World} {g T m1:Nat} (h:Blk w g tB (encB (zj T)).toArray) (h1:m1≤8):Blk (w.setCell ⟨g,m1,none⟩ (.bool true)) g tB (encB (zj (tins (tins T (m1:Int)) (m1:Int)))).toArray:=by
 rw[←tins_flags _ _ h1,←tins_flags _ _ h1]
 have e:∀ (a:Array Value) (i:Nat) (u:Value),(a.setIfInBounds i u).setIfInBounds i u=a.setIfInBounds i u:=by
  intro a i u;apply Array.ext_getElem?;intro j;by_cases e:i=j
  ·subst e;rw[Array.getElem?_setIfInBounds_self,Array.size_setIfInBounds,Array.getElem?_setIfInBounds_self]
  ·rw[Array.getElem?_setIfInBounds_ne e]
 rw[e];exact h.set_ _ _
theorem c_spec_l3Terms {lo hi:Nat} (v:Value) (a:Asn) (w:World) (h:AsnV w lo hi v a) (hv:∀ t∈mz a,jq t=true):Calls Tryz.prog 85 #[v] w fun e w'=>∃ r,e=.returned r∧BoolsO w' w.heap.size r (zj (tset (mz a)))∧Below w.heap.size w w':=by
 obtain ⟨A1,c1,A2,c2,rfl,h1,h2⟩:=h;have hl1:=h1.le;have hl2:=h2.le;have hmk:=mkB9;have HV:=ax hv;have HT:=ax (tset_terms a);clear hv;(go_enter Tryz.func85,Tryz.ntmps85);go_wp2;clear hmk
 go_loopw [4] (fun i wr=>∃ (k T:Nat),k≤a.facts.length∧i=.int .i64 k∧aJ (a.facts.foldl (fun S f=>tins (tins S f.a) f.b) 0=(a.facts.drop k).foldl (fun S f=>tins (tins S f.a) f.b) T)∧Blk wr w.heap.size 37 #[.slice A1 a.facts.length c1,.slice A2 a.atoms.length c2]∧Blk wr (w.heap.size+1) tB (encB (zj T)).toArray∧Below w.heap.size w wr) (fun i _=>a.facts.length - (intOf i).toNat)
 case atStart=>exact ⟨0,0,Nat.zero_le _,rfl,rfl,blks,blks,bel⟩
 case round=>
  obtain ⟨k,T,hk,rfl,HA,k0,k1,hB⟩:=hrel;have qk0:=k0.cell;by_cases hlt:k<a.facts.length
  ·obtain ⟨b,off,rfl,hbl⟩:=h1.blt hlt;obtain ⟨g0,g1,g2⟩:=(h1.bz hB).cl hlt;have HD:=ax (foldl_step (fun S (f:Fct)=>tins (tins S f.a) f.b) T a.facts k hlt);have hm:=termsL_facts (List.getElem_mem hlt);have b1:=zjA.1 (HV.o _ hm.1);have b2:=zjA.1 (HV.o _ hm.2);obtain ⟨m1,e1⟩:=Int.eq_ofNat_of_zero_le b1.1;obtain ⟨m2,e2⟩:=Int.eq_ofNat_of_zero_le b2.1;have E1:=ax e1;have E2:=ax e2;rw[e1] at g1;rw[e2] at g2;have m18:(m1:Int)<9:=by omega
   have m28:(m2:Int)<9:=by omega
   have q1:wr.cell? ⟨w.heap.size+1,m1,none⟩=some (.bool (T.testBit m1)):=(k1.cell m1).trans (flags_cell T _ rfl (by omega));have q2:wr.cell? ⟨w.heap.size+1,m2,none⟩=some (.bool (T.testBit m2)):=(k1.cell m2).trans (flags_cell T _ rfl (by omega));have r3:=k1.frozen;clear e1 e2 hm b1 b2;by_cases he:m1=m2
   ·subst he;(go_wp2_with fail)
    go_round
    case rel=>
     refine ⟨k+1,tins (tins T (m1:Int)) (m1:Int),by omega,by go_num,by show _=_;rw[HA.o,HD.o,E1.o,E2.o],?_,?_,bel⟩
     ·first|exact k0.far (by simp) _|exact (k0.far (by simp) _).far (by simp) _
     ·first|exact k1.twice (by omega)|exact k1.two (by omega) (by omega)
    case measure=>simp[intOf];omega
   ·have he2:=Ne.symm he;(go_wp2_with fail)
    go_round
    case rel=>
     refine ⟨k+1,tins (tins T (m1:Int)) (m2:Int),by omega,by go_num,by show _=_;rw[HA.o,HD.o,E1.o,E2.o],(k0.far (by simp) _).far (by simp) _,k1.two (by omega) (by omega),bel⟩
    case measure=>simp[intOf];omega
  ·obtain rfl:k=a.facts.length:=by omega
   have HA2:=ax (show a.facts.foldl (fun S f=>tins (tins S f.a) f.b) 0=T by rw[HA.o,List.drop_length];rfl);(go_wp2_with fail)
   go_loopw [5] (fun i wx=>∃ (k T':Nat),k≤a.atoms.length∧i=.int .i64 k∧aJ (a.atoms.foldl (fun S f=>tins (tins S f.a) f.b) T=(a.atoms.drop k).foldl (fun S f=>tins (tins S f.a) f.b) T')∧Blk wx w.heap.size 37 #[.slice A1 a.facts.length c1,.slice A2 a.atoms.length c2]∧Blk wx (w.heap.size+1) tB (encB (zj T')).toArray∧Below w.heap.size w wx) (fun i _=>a.atoms.length - (intOf i).toNat)
   case atStart=>exact ⟨0,T,Nat.zero_le _,rfl,rfl,k0,k1,hB⟩
   case round=>
    clear k0 qk0 k1 hB;obtain ⟨k,T',hk,rfl,HB,k0,k1,hB⟩:=hrel;have qk0:=k0.cell;by_cases hlt2:k<a.atoms.length
    ·obtain ⟨b,off,rfl,hbl⟩:=h2.blt hlt2;obtain ⟨g0,g1,g2⟩:=(h2.bz hB).cl hlt2;have HD:=ax (foldl_step (fun S (f:Atm)=>tins (tins S f.a) f.b) T' a.atoms k hlt2);have hm:=termsL_atoms hlt2;have b1:=zjA.1 (HV.o _ hm.1);have b2:=zjA.1 (HV.o _ hm.2);obtain ⟨m1,e1⟩:=Int.eq_ofNat_of_zero_le b1.1;obtain ⟨m2,e2⟩:=Int.eq_ofNat_of_zero_le b2.1;have E1:=ax e1;have E2:=ax e2;rw[e1] at g1;rw[e2] at g2;have m18:(m1:Int)<9:=by omega
     have m28:(m2:Int)<9:=by omega
     have q1:wr.cell? ⟨w.heap.size+1,m1,none⟩=some (.bool (T'.testBit m1)):=(k1.cell m1).trans (flags_cell T' _ rfl (by omega));have q2:wr.cell? ⟨w.heap.size+1,m2,none⟩=some (.bool (T'.testBit m2)):=(k1.cell m2).trans (flags_cell T' _ rfl (by omega));have r3:=k1.frozen;clear e1 e2 hm b1 b2;by_cases he:m1=m2
     ·subst he;(go_wp2_with fail)
      go_round
      case rel=>
       refine ⟨k+1,tins (tins T' (m1:Int)) (m1:Int),by omega,by go_num,by show _=_;rw[HB.o,HD.o,E1.o,E2.o],?_,?_,bel⟩
       ·first|exact k0.far (by simp) _|exact (k0.far (by simp) _).far (by simp) _
       ·first|exact k1.twice (by omega)|exact k1.two (by omega) (by omega)
      case measure=>simp[intOf];omega
     ·have he2:=Ne.symm he;(go_wp2_with fail)
      go_round
      case rel=>
       refine ⟨k+1,tins (tins T' (m1:Int)) (m2:Int),by omega,by go_num,by show _=_;rw[HB.o,HD.o,E1.o,E2.o],(k0.far (by simp) _).far (by simp) _,k1.two (by omega) (by omega),bel⟩
      case measure=>simp[intOf];omega
    ·obtain rfl:k=a.atoms.length:=by omega
     (go_wp2_with fail);go_ret;refine ⟨_,rfl,?_,hB⟩;rw[HT.o,HA2.o,HB.o,List.drop_length];exact BoolsO.ofBlk k1 (by omega)
theorem c_spec_l3Star {lo hi lo' hi':Nat} (v v':Value) (a b:Asn) (w:World) (h:AsnV w lo hi v a) (h':AsnV w lo' hi' v' b) (hn1:a.facts.length+b.facts.length≤1049600) (hn2:a.atoms.length+b.atoms.length≤1049600) :
  Calls Tryz.prog 110 #[v,v'] w fun e w'=>∃ r,e=.returned r∧AsnO w' w.heap.size r (starA a b)∧Below w.heap.size w w':=by
 obtain ⟨A1,c1,A2,c2,rfl,h1,h2⟩:=h;obtain ⟨A3,c3,A4,c4,rfl,h3,h4⟩:=h';(go_enter Tryz.func110,Tryz.ntmps110);have kk:=blk3 w 37 37 37 #[.slice A1 a.facts.length c1,.slice A2 a.atoms.length c2] #[.slice A3 b.facts.length c3,.slice A4 b.atoms.length c4] #[.slice none 0 0,.slice none 0 0];have hB:Below w.heap.size w (((w.alloc (.cells #[.slice A1 a.facts.length c1,.slice A2 a.atoms.length c2] 37)).alloc (.cells #[.slice A3 b.facts.length c3,.slice A4 b.atoms.length c4] 37)).alloc (.cells #[.slice none 0 0,.slice none 0 0] 37)):=bel;obtain ⟨k0,k1,k2⟩:=kk;(go_wp2_with fail);have hz:=k2.lt;generalize (((w.alloc (.cells #[.slice A1 a.facts.length c1,.slice A2 a.atoms.length c2] 37)).alloc (.cells #[.slice A3 b.facts.length c3,.slice A4 b.atoms.length c4] 37)).alloc (.cells #[.slice none 0 0,.slice none 0 0] 37))=W at k0 k1 k2 hB hz ⊢;have tok3:True:=trivial;have tok6:True:=trivial;have tok10:True:=trivial;have tok13:True:=trivial
 go_region_held3 (fun w'=>(∀ i,w'.cell? ⟨w.heap.size,i,none⟩=#[.slice A1 a.facts.length c1,.slice A2 a.atoms.length c2][i]?)∧(∀ i,w'.cell? ⟨w.heap.size+1,i,none⟩=#[.slice A3 b.facts.length c3,.slice A4 b.atoms.length c4][i]?))
  (exact ⟨Blk.cell blks,Blk.cell blks⟩)
  (first
   | (have _t:=tok3;clear _t tok3;refine stepFL (xs:=[]) rfl _ _ rfl rfl (FactsO.ofBlk (base:=w.heap.size) blks (by first|omega|(simp;omega))) rfl (h1.bz bel) (by first|omega|(simp;omega)) (by first|omega|(simp;omega)) ?_;intro F1 e1 w1 hO1 hg1 hB1;have hBw1:Below w.heap.size w w1:=Below.trans bel hB1;simp only[List.nil_append] at hO1;have m10:=Blk.zm (g:=w.heap.size) (hg:=hg1) blks (FactsO.ofBlk (base:=w.heap.size) blks (by first|omega|(simp;omega))).1 (by decide);have m11:=Blk.zm (g:=w.heap.size+1) (hg:=hg1) blks (FactsO.ofBlk (base:=w.heap.size) blks (by first|omega|(simp;omega))).1 (by decide);have m12:=Blk.zm (g:=w.heap.size+1+1) (hg:=hg1) blks (FactsO.ofBlk (base:=w.heap.size) blks (by first|omega|(simp;omega))).1 (by decide);have lt1:=m12.lt;(try (have za:Blk w1 (W.heap.size+1) tA #[]:=?zz;case zz=>(refine Blk.zm (hg:=hg1) ?_ (FactsO.ofBlk (base:=w.heap.size) blks (by first|omega|(simp;omega))).1 (by decide);(repeat (first|(with_reducible assumption)|(with_reducible exact Blk.new _ _ _)|((with_reducible apply Blk.far);(case hp=>(first|exact Nat.le_refl _|(simp;done)|(simp;omega)|(simp only;omega)|omega)))|(with_reducible apply Blk.set_)|((with_reducible refine Blk.newE ?_);(simp;done))|(with_reducible apply Blk.alloc)|(with_reducible apply Blk.drew)|(with_reducible apply Blk.drewN)));done)));(try (have za:Blk w1 W.heap.size tA #[]:=?zz;case zz=>(refine Blk.zm (hg:=hg1) ?_ (FactsO.ofBlk (base:=w.heap.size) blks (by first|omega|(simp;omega))).1 (by decide);(repeat (first|(with_reducible assumption)|(with_reducible exact Blk.new _ _ _)|((with_reducible apply Blk.far);(case hp=>(first|exact Nat.le_refl _|(simp;done)|(simp;omega)|(simp only;omega)|omega)))|(with_reducible apply Blk.set_)|((with_reducible refine Blk.newE ?_);(simp;done))|(with_reducible apply Blk.alloc)|(with_reducible apply Blk.drew)|(with_reducible apply Blk.drewN)));done))))
   | (have _t:=tok6;clear _t tok6;refine stepFL (xs:=a.facts) rfl _ _ rfl rfl (FactsO.bz (w:=w1) hO1 bel) rfl (h3.bz bel) (by first|omega|(simp;omega)) (by first|omega|(simp;omega)) ?_;intro F2 e2 w2 hO2 hg2 hB2;have hBw2:Below w.heap.size w w2:=Below.trans bel hB2;have m20:=Blk.zm (g:=w.heap.size) (hg:=hg2) blks (FactsO.bz (w:=w1) hO1 bel).1 (by decide);have m21:=Blk.zm (g:=w.heap.size+1) (hg:=hg2) blks (FactsO.bz (w:=w1) hO1 bel).1 (by decide);have m22:=Blk.zm (g:=w.heap.size+1+1) (hg:=hg2) blks (FactsO.bz (w:=w1) hO1 bel).1 (by decide);have lt2:=m22.lt;(try (have zb:Blk w2 w1.heap.size tA #[]:=?zz;case zz=>(refine Blk.zm (hg:=hg2) ?_ (FactsO.bz (w:=w1) hO1 bel).1 (by decide);(repeat (first|(with_reducible assumption)|(with_reducible exact Blk.new _ _ _)|((with_reducible apply Blk.far);(case hp=>(first|exact Nat.le_refl _|(simp;done)|(simp;omega)|(simp only;omega)|omega)))|(with_reducible apply Blk.set_)|((with_reducible refine Blk.newE ?_);(simp;done))|(with_reducible apply Blk.alloc)|(with_reducible apply Blk.drew)|(with_reducible apply Blk.drewN)));done)));(try (have zb:=Blk.zm (hg:=hg2) (Blk.nz za bel) (FactsO.bz (w:=w1) hO1 bel).1 (by decide))))
   | (have _t:=tok10;clear _t tok10;refine stepAL (xs:=[]) rfl _ _ rfl rfl (AtomsO.ofBlk (base:=w.heap.size) blks (by first|omega|(simp;omega))) rfl (h2.bz bel) (by first|omega|(simp;omega)) (by first|omega|(simp;omega)) ?_;intro F3 e3 w3 hO3 hg3 hB3;have hBw3:Below w.heap.size w w3:=Below.trans bel hB3;simp only[List.nil_append] at hO3;have m30:=Blk.zm (g:=w.heap.size) (hg:=hg3) blks (AtomsO.ofBlk (base:=w.heap.size) blks (by first|omega|(simp;omega))).1 (by decide);have m31:=Blk.zm (g:=w.heap.size+1) (hg:=hg3) blks (AtomsO.ofBlk (base:=w.heap.size) blks (by first|omega|(simp;omega))).1 (by decide);have m32:=Blk.zm (g:=w.heap.size+1+1) (hg:=hg3) blks (AtomsO.ofBlk (base:=w.heap.size) blks (by first|omega|(simp;omega))).1 (by decide);have lt3:=m32.lt;have hP3:=FactsO.grownA (FactsO.bz (w:=w2) hO2 bel) (AtomsO.ofBlk (base:=w.heap.size) blks (by first|omega|(simp;omega))) hg3)
   | (have _t:=tok13;clear _t tok13;refine stepAL (xs:=a.atoms) rfl _ _ rfl rfl (AtomsO.bz (w:=w3) hO3 bel) rfl (h4.bz bel) (by first|omega|(simp;omega)) (by first|omega|(simp;omega)) ?_;intro F4 e4 w4 hO4 hg4 hB4;have hBw4:Below w.heap.size w w4:=Below.trans bel hB4;have m40:=Blk.zm (g:=w.heap.size) (hg:=hg4) blks (AtomsO.bz (w:=w3) hO3 bel).1 (by decide);have m41:=Blk.zm (g:=w.heap.size+1) (hg:=hg4) blks (AtomsO.bz (w:=w3) hO3 bel).1 (by decide);have m42:=Blk.zm (g:=w.heap.size+1+1) (hg:=hg4) blks (AtomsO.bz (w:=w3) hO3 bel).1 (by decide);have lt4:=m42.lt;have hP4:=FactsO.grownA (FactsO.bz (w:=w3) hP3 bel) (AtomsO.bz (w:=w3) hO3 bel) hg4;have c42:=m42.cell;have f42:=m42.frozen))
 all_goals
  (go_wp2_with fail);refine bodyPost_ret (v:=.agg #[.slice F2 (a.facts++b.facts).length e2,.slice F4 (a.atoms++b.atoms).length e4]) (by simp[results,Tryz.results110,go_sem,c42]) rfl ⟨_,rfl,⟨_,_,rfl,?_,?_⟩,bel⟩
  ·exact (hP4.setT m42 (by decide) _ _).setT (m42.set_ _ _) (by decide) _ _
  ·exact (hO4.setT m42 (by decide) _ _).setT (m42.set_ _ _) (by decide) _ _
def disjB (T C:Nat):Bool:=(List.range 9).all fun n=>!(T.testBit n&&C.testBit n)
theorem disjB_iff {T C:Nat} (hT:T<512):(C &&& T=0)↔disjB T C=true:=by
 unfold disjB;rw[List.all_eq_true];constructor
 ·intro h n _;have:=congrArg (fun s=>Nat.testBit s n) h;simp only[Nat.testBit_and,Nat.zero_testBit] at this;rw[Bool.and_comm,this];rfl
 ·intro h;apply Nat.eq_of_testBit_eq;intro n;rw[Nat.testBit_and,Nat.zero_testBit];by_cases hn:n<9
  ·have hq:=h n (List.mem_range.mpr hn);cases h1:T.testBit n<;>cases h2:C.testBit n<;>simp_all
  ·have:T.testBit n=false:=Nat.testBit_lt_two_pow (Nat.lt_of_lt_of_le hT (Nat.pow_le_pow_right (n:=2) (by decide) (show 9≤n by omega)));rw[this,Bool.and_false]
theorem c_spec_l11Free {lo hi lo' hi':Nat} (v:Value) (a:Asn) (B:Option Addr) (c C:Nat) (w:World) (h:AsnV w lo hi v a) (h':BoolsV w lo' hi' B (zj C)) (hv:a.valid=true) :
  Calls Tryz.prog 108 #[v,.slice B 9 c] w fun e w'=>e=.returned (.bool (disjB (tset (mz a)) C))∧Below w.heap.size w w':=by
 have hV:=ax h;have HT:=ax (termsL_ok hv);have h'':=ax h';obtain ⟨pb,ob,rfl,lpb⟩:=flags_addr h';obtain ⟨A1,c1,A2,c2,rfl,h1,h2⟩:=h;clear hv;(go_enter Tryz.func108,Tryz.ntmps108);(go_wp2_with fail);refine (c_spec_l3Terms _ a _ (hV.o.bz bel) HT.o).mono ?_;rintro e w1 ⟨r,rfl,oT,hB1⟩;have hB:=bgo (w:=w) bel hB1;have fC:=h''.o.bz hB;generalize hTe:tset (mz a)=T at oT;have HTE:=ax hTe;clear hTe;obtain ⟨Tb,ct,rfl,fT⟩:=oT.rj;rw[zjB];obtain ⟨pt,ot,rfl,lpt⟩:=flags_addr fT;clear hB1 oT h' h'';have HD:aJ (disjB T C=(List.range 9).all fun n=>!(T.testBit n&&C.testBit n)):=rfl;(go_wp2_with fail)
 go_loop [6] (fun i=>∃ k:Nat,k≤9∧i=.int .i64 k∧aJ (disjB T C=((List.range 9).drop k).all fun n=>!(T.testBit n&&C.testBit n))) (fun i=>9 - (intOf i).toNat)
 case atStart=>exact ⟨0,by omega,rfl,HD.o⟩
 case round=>
  obtain ⟨k,hk,rfl,HA⟩:=hrel;by_cases hlt:k<9
  ·have HN:aJ (((List.range 9).drop k).all (fun n=>!(T.testBit n&&C.testBit n))=(!(T.testBit k&&C.testBit k)&&((List.range 9).drop (k+1)).all fun n=>!(T.testBit n&&C.testBit n))):=by
    show _=_;rw[all_drop _ (List.range 9) k (by simpa using hlt)];simp
   have f1:=flags_at fT (m:=k) (by omega);have f2:=flags_at fC (m:=k) (by omega);have k9:(k:Int)<9:=by omega
   cases ht:T.testBit k
   ·rw[ht] at f1;have HZ:=ax ht;clear ht;(go_wp2_with fail)
    go_round
    case rel=>exact ⟨k+1,by omega,by go_num,by show _=_;rw[HA.o,HN.o,HZ.o];rfl⟩
    case measure=>simp[intOf];omega
   ·cases hc:C.testBit k
    all_goals
     rw[ht] at f1;rw[hc] at f2;have HZ:=ax ht;have HC:=ax hc;clear ht hc;(go_wp2_with fail)
    ·go_round
     case rel=>exact ⟨k+1,by omega,by go_num,by show _=_;rw[HA.o,HN.o,HZ.o,HC.o];rfl⟩
     case measure=>simp[intOf];omega
    ·go_ret;exact ⟨zjD (by rw[HTE.o,HA.o,HN.o,HZ.o,HC.o];rfl),hB⟩
  ·obtain rfl:k=9:=by omega
   (go_wp2_with fail);go_ret;exact ⟨zjD (by rw[HTE.o,HA.o];rfl),hB⟩
end
section
open Go
section
variable {P:Program} {md:Region.Mode} {S:World→Prop} {Q:Exit→Act→World→Prop}
def lastQ (P:Program) (st:Oper) (Q:Exit→Act→World→Prop):Exit→Act→World→Prop
 | .normal,a,w=>Oper.wp P st a w (Q .normal) Q
 | e,a,w=>Q e a w
def nopOf (st:Oper):Oper:={ st with op:=.assign (.const undef),dst:=none,guard:=none }
theorem wp_monoQ {o:Oper} {a:Act} {w:World} {K K':Act→World→Prop} {Q Q':Exit→Act→World→Prop} (hK:∀ a w,K a w→K' a w)
  (hQ:∀ c a w,Q (.panic c) a w→Q' (.panic c) a w) (hL:LetsOut Q→LetsOut Q') (hh:o.wp P a w K Q):o.wp P a w K' Q':=by
 unfold Oper.wp at *;generalize (execOp a.eval o).run P w=r at *
 cases r with
 | ok n w'=>
  cases n<;>simp only[Oper.upon] at hh ⊢<;>
   first
    | exact hK _ _ hh
    | exact Calls.mono hh (fun e w'' he=>by cases e<;>first|exact hK _ _ he|exact hQ _ _ _ he|exact hL he)
    | exact Rows.mono hh (fun _ _ he=>hK _ _ he)
 | halt x w'=>cases x<;>simp only[Oper.upon] at hh ⊢<;>first|exact hQ _ _ _ hh|exact hh
theorem ready_push (l:List Oper) (st:Oper) (listed:Array Bool):Region.ready md (l++[nopOf st]).toArray listed=Region.ready md (l++[st]).toArray listed:=by
 unfold Region.ready;simp only[List.size_toArray,List.length_append,List.length_cons,List.length_nil];apply List.filter_congr;intro i hi
 congr 1
 simp only[List.getElem?_toArray,List.getElem?_append]
 split
 ·rfl
 ·rcases Nat.eq_zero_or_pos (i - l.length) with h|h
  ·rw[h];rfl
  ·rw[List.getElem?_eq_none (by simp;omega),List.getElem?_eq_none (by simp;omega)]
def topoB (md:Region.Mode) (ops:Array Oper):Bool:=
 (List.range ops.size).all fun i=>match ops[i]? with|some o=>o.after.all fun e=>!Region.binds md e || decide (e.on<i)|none=>true
theorem ready_some {ops:Array Oper} (ht:topoB md ops=true) {listed:Array Bool} (hsz:listed.size=ops.size) {z:Nat} (hz:z<ops.size) (hun:listed.getD z true=false):Region.ready md ops listed≠[]:=by
 have:∀ n z,z<n→z<ops.size→listed.getD z true=false→∃ i,i∈Region.ready md ops listed:=by
  intro n
  induction n with
  | zero=>intro z h;omega
  | succ n ih=>
   intro z hzn hz hun;by_cases hm:∃ j,j<z∧listed.getD j true=false
   ·obtain ⟨j,hj,hju⟩:=hm;exact ih j (by omega) (by omega) hju
   ·refine ⟨z,mem_ready.2 ⟨hun,ops[z],Array.getElem?_eq_getElem hz,fun e he hb=>?_⟩⟩;have h1:=List.all_eq_true.1 ht z (by simpa using hz);rw[Array.getElem?_eq_getElem hz] at h1;simp only[Array.all_eq_true_iff_forall_mem] at h1;have h2:=h1 e he;rw[hb] at h2;simp at h2;cases h3:listed.getD e.on true
    ·exact absurd ⟨e.on,h2,h3⟩ hm
    ·have h4:e.on<listed.size:=by omega
     simp[h4] at h3 ⊢;exact h3
 obtain ⟨i,hi⟩:=this (z+1) z (Nat.lt_succ_self _) hz hun;intro h;rw[h] at hi;cases hi
theorem wpAny_of_last {l:List Oper} {st:Oper} (hg:(l.all fun o=>o.guard.isNone)=true) (hst:st.guard.isNone=true)
  (hs:Region.sinkB md (l++[st]).toArray l.length=true) (hc:Region.chainB md (l++[st]).toArray l.length=true) (ht:topoB md (l++[st]).toArray=true) :
  ∀ (f:Nat) (listed:Array Bool) (a:Act) (w:World),HeadInv md (l++[st]).toArray l.length listed→
   wpAnyH P md (l++[nopOf st]).toArray (lastQ P st Q) S f listed a w→wpAny P md (l++[st]).toArray Q f listed a w:=by
 have hsz:(l++[st]).toArray.size=l.length+1:=by simp
 have hzs:(l++[st]).toArray[l.length]? = some st:=by simp
 have hzn:(l++[nopOf st]).toArray[l.length]? = some (nopOf st):=by simp
 intro f
 induction f with
 | zero=>
  intro listed a w inv h;have hun:=inv.tail l.length (Nat.le_refl _) (by omega);exact absurd ((ready_push l st listed).symm.trans h.1) (ready_some ht inv.size (by omega) hun)
 | succ f ih=>
  intro listed a w inv h;have hun:=inv.tail l.length (Nat.le_refl _) (by omega);refine ⟨fun h0=>absurd h0 (ready_some ht inv.size (by omega) hun),fun i hi=>?_⟩;have hi':i∈Region.ready md (l++[nopOf st]).toArray listed:=by rw[ready_push];exact hi
  have h1:=h.2 i hi';obtain ⟨_,oi,hoi,_⟩:=mem_ready.1 hi;have hil:i<l.length+1:=by have:=(Array.getElem?_eq_some_iff.1 hoi).1;omega
  by_cases hiz:i=l.length
  ·subst hiz
   have hall:∀ j,j<l.length→listed.getD j true=true:=by
    intro j hj;cases hu:listed.getD j true
    ·exact absurd hi (tail_waits hs hc (by omega) inv _ j rfl hj hu l.length (Nat.le_refl _))
    ·rfl
   have hnil:Region.ready md (l++[st]).toArray (listed.setIfInBounds l.length true)=[]:=by
    rw[List.eq_nil_iff_forall_not_mem];intro j hj;obtain ⟨hju,oj,hoj,_⟩:=mem_ready.1 hj;have hjl:j<l.length+1:=by have:=(Array.getElem?_eq_some_iff.1 hoj).1;omega
    by_cases e:l.length=j
    ·subst e;have:l.length<listed.size:=by have:=inv.size;omega
     simp[this] at hju
    ·rw[getD_set_ne true e,hall j (by omega)] at hju;cases hju
   unfold wpOp at h1 ⊢;simp only[hzn,hzs] at h1 ⊢;have hw1:Region.wanted (nopOf st) (yielded (l++[nopOf st]).toArray a.tmps)=true:=by simp[Region.wanted,nopOf]
   have hgs:st.guard=none:=by simpa using hst
   have hw2:Region.wanted st (yielded (l++[st]).toArray a.tmps)=true:=by simp[Region.wanted,hgs]
   rw[hw1,if_pos rfl] at h1;rw[hw2,if_pos rfl];refine Or.inl ?_
   have h2:wpAnyH P md (l++[nopOf st]).toArray (lastQ P st Q) S f (listed.setIfInBounds l.length true) a w:=by
    rcases h1 with h1|⟨h1,_⟩
    ·unfold Oper.wp at h1;simp[nopOf,execOp,Oper.upon,Act.put,Act.eval] at h1;exact h1.2
    ·simp[Oper.asks,nopOf,execOp] at h1;exact absurd h1 (by intro h;cases h;rename_i h;cases h)
   have h3:lastQ P st Q .normal a w:=by
    rw[←ready_push] at hnil
    cases f with
    | zero=>exact h2.2
    | succ f=>exact h2.1 hnil
   refine Oper.wp_mono (fun a' w' hq=>?_) h3
   cases f with
   | zero=>exact ⟨hnil,hq⟩
   | succ f=>exact ⟨fun _=>hq,by rw[hnil];simp⟩
  ·have hlt:i<l.length:=by omega
   have e1:(l++[st]).toArray[i]? = some l[i]:=by simp[List.getElem?_append,hlt]
   have e2:(l++[nopOf st]).toArray[i]? = some l[i]:=by simp[List.getElem?_append,hlt]
   have hgi:l[i].guard=none:=by have:=List.all_eq_true.1 hg l[i] (List.getElem_mem hlt);simpa using this
   unfold wpOp at h1 ⊢;simp only[e1,e2] at h1 ⊢;have hw1:Region.wanted l[i] (yielded (l++[nopOf st]).toArray a.tmps)=true:=by simp[Region.wanted,hgi]
   have hw2:Region.wanted l[i] (yielded (l++[st]).toArray a.tmps)=true:=by simp[Region.wanted,hgi]
   rw[hw1,if_pos rfl] at h1;rw[hw2,if_pos rfl];rcases h1 with h1|⟨h1,h2⟩
   ·exact Or.inl (wp_monoQ (K:=fun a' w'=>S w'∧wpAnyH P md (l++[nopOf st]).toArray (lastQ P st Q) S f (listed.setIfInBounds i true) a' w') (fun a' w' hk=>ih _ _ _ (inv.set hi hlt) hk.2) (fun c a w h=>h) (fun h=>h) h1)
   ·exact Or.inr ⟨h1,h2⟩
theorem wp_region_last {l:List Oper} {st:Oper} {id:Nat} {a:Act} {w:World} (hm:P.follows .mixedOrders=true) (hg:(l.all fun o=>o.guard.isNone)=true) (hst:st.guard.isNone=true)
  (hs:Region.sinkB .any (l++[st]).toArray l.length=true) (hc:Region.chainB .any (l++[st]).toArray l.length=true) (ht:topoB .any (l++[st]).toArray=true) (hS:S w.drew)
  (h:S w.drew→wpAnyH P .any (l++[nopOf st]).toArray (lastQ P st Q) S (l.length+1) (Array.replicate (l.length+1) false) a w.drew):(Code.region id (l++[st]).toArray true).wp P Q a w:=by
 refine wp_region_any hm ?_;have e:(l++[st]).toArray.size=l.length+1:=by simp
 rw[e];refine wpAny_of_last hg hst hs hc ht _ _ _ _ ⟨by simp,fun j oj _ hl=>?_,fun t _ ht=>?_⟩ (h hS)
 ·rw[getD_replicate_false] at hl;cases hl
 ·exact getD_in (by simpa using ht) (getD_replicate_false _ _)
def lastB (L:List Oper):Bool:=
 match L.getLast? with
 | none=>false
 | some st=>(L.dropLast.all fun o=>o.guard.isNone)&&st.guard.isNone&&Region.sinkB .any L.toArray L.dropLast.length&&Region.chainB .any L.toArray L.dropLast.length&&topoB .any L.toArray
theorem wp_region_last' {L:List Oper} {id:Nat} {a:Act} {w:World} (hne:L≠[]) (hm:P.follows .mixedOrders=true) (hB:lastB L=true) (hS:S w.drew)
  (h:S w.drew→wpAnyH P .any (L.dropLast++[nopOf (L.getLast hne)]).toArray (lastQ P (L.getLast hne) Q) S L.length (Array.replicate L.length false) a w.drew):(Code.region id L.toArray true).wp P Q a w:=by
 have e:L.dropLast++[L.getLast hne]=L:=List.dropLast_concat_getLast hne;unfold lastB at hB;rw[List.getLast?_eq_some_getLast hne] at hB;simp only[Bool.and_eq_true] at hB;obtain ⟨⟨⟨⟨h1,h2⟩,h3⟩,h4⟩,h5⟩:=hB;have hl:L.dropLast.length+1=L.length:=by have:=congrArg List.length e;simpa using this
 have key:=wp_region_last (P:=P) (S:=S) (Q:=Q) (l:=L.dropLast) (st:=L.getLast hne) (id:=id) (a:=a) (w:=w) hm h1 h2 (by rw[e];exact h3) (by rw[e];exact h4) (by rw[e];exact h5) hS (by rw[hl];exact h)
 rwa [e] at key
end
end
section
open Go Go.RowKit Go.Proofs
attribute [local go_sem ↓] Go.wp_at_zero Go.wp_at_succ
theorem FactsV.one' {w:World} {g:Nat} {e:Bool} {x y:Int} (h:Blk w g tF #[.bool e,.int .i64 x,.int .i64 y]):FactsV w g (g+1) (some ⟨g,0,none⟩) [⟨e,x,y⟩]:=FactsV.one (f:=⟨e,x,y⟩) h
theorem AtomsV.one' {w:World} {g:Nat} {e:Int} {x y:Int} (h:Blk w g tA #[.int .i64 e,.int .i64 x,.int .i64 y]):AtomsV w g (g+1) (some ⟨g,0,none⟩) [⟨e,x,y⟩]:=AtomsV.one (f:=⟨e,x,y⟩) h
theorem map_take {α β:Type} (f:α→β) (xs:List α) (k:Nat) (hk:k<xs.length):(xs.take (k+1)).map f=(xs.take k).map f++[f xs[k]]:=by
 rw[List.take_succ_eq_append_getElem hk,List.map_append];rfl
theorem c_spec_l3Subst {lo hi:Nat} (v:Value) (a:Asn) (x y:Int) (w:World) (h:AsnV w lo hi v a) :
  Calls Tryz.prog 274 #[v,.int .i64 x,.int .i64 y] w fun e w'=>∃ r,e=.returned r∧AsnO w' w.heap.size r (substA x y a)∧Below w.heap.size w w':=by
 obtain ⟨A1,c1,A2,c2,rfl,h1,h2⟩:=h;have l1:=h1.le;have l2:=h2.le;(go_enter Tryz.func274,Tryz.ntmps274);obtain ⟨k0,k1,k2⟩:=blk3 w 37 37 37 #[.slice A1 a.facts.length c1,.slice A2 a.atoms.length c2] #[.slice none 0 0,.slice none 0 0] #[.slice none 0 0,.slice none 0 0];(go_wp2_with fail)
 go_loopw [8] (fun i wr=>∃ (k:Nat) (A:Option Addr) (c:Nat),k≤a.facts.length∧i=.int .i64 k∧FactsO wr (w.heap.size+1+1+1) (.slice A k c) ((a.facts.take k).map (Fct.sub x y))∧
  Blk wr w.heap.size 37 #[.slice A1 a.facts.length c1,.slice A2 a.atoms.length c2]∧Blk wr (w.heap.size+1) 37 #[.slice none 0 0,.slice none 0 0]∧Blk wr (w.heap.size+1+1) 37 #[.slice A k c,.slice none 0 0]∧Below w.heap.size w wr) (fun i _=>a.facts.length - (intOf i).toNat)
 case atStart=>exact ⟨0,none,0,Nat.zero_le _,rfl,FactsO.nil _ _,k0,k1,k2,bel⟩
 case round=>
  clear k0 k1 k2;obtain ⟨k,A,c,hk,rfl,of,k0,k1,k2,hB⟩:=hrel;(replace qk0:=k0.z;replace qk1:=k1.cell;replace rk1:=k1.frozen;replace lk1:=k1.lt;replace qk2:=k2.z);by_cases hlt:k<a.facts.length
  ·obtain ⟨b,off,rfl,hbl⟩:=h1.blt hlt;obtain ⟨g0,g1,g2⟩:=(h1.bz hB).cl hlt;have HT:=ax (map_take (Fct.sub x y) a.facts k hlt);have HL:aJ (((a.facts.take k).map (Fct.sub x y)).length=k):=by simp[aJ];omega
   have hL2:(List.map (Fct.sub x y) (List.take k a.facts)).length≤1049599:=by rw[HL.o];omega
   have hwz:=hB.size;(go_wp2_with fail);have kf:=Blk.new wr tF #[.bool a.facts[k].eq,.int .i64 a.facts[k].a,.int .i64 a.facts[k].b];refine wp_region_noPanic ?_;refine wp_region_last' (S:=(fun w'=>(∀ i,w'.cell? ⟨w.heap.size+1+1,i,none⟩=#[.slice A k c,.slice none 0 0][i]?)∧(∀ i,w'.cell? ⟨wr.heap.size,i,none⟩=#[.bool a.facts[k].eq,.int .i64 a.facts[k].a,.int .i64 a.facts[k].b][i]?))) (by simp) (by kernel_rfl) (by kernel_rfl) (⟨Blk.cell blks,Blk.cell blks⟩) (fun aH=>?_);simp only[List.dropLast,List.getLast,nopOf,List.cons_append,List.nil_append,List.length_cons,List.length_nil,Nat.zero_add,Nat.reduceAdd];refine tk2 0 rfl aH (h:=tk2 1 rfl aH (h:=tk2 2 rfl aH (h:=?_)));(try simp only[zz]);refine tk2 3 rfl aH (h:=tk2 4 rfl aH (h:=tk2 5 rfl aH (h:=?_)));(try simp only[zz]);refine tk2 6 rfl aH (h:=tk2 7 rfl aH (h:=tk2 9 rfl aH (h:=?_)));(try simp only[zz]);refine tk2 10 rfl aH (h:=tk2 11 rfl aH (h:=tk2 12 rfl aH (h:=?_)));refine rdc 8 rfl fun K hK=>?_;(try simp only[zz]);(go_simp;refine (c_l3Swap _ _ _ _).mono ?_;rintro e w' ⟨rfl,rfl⟩);refine hK.out _ _ (⟨Blk.cell blks,Blk.cell blks⟩) ?_;clear aH hK K;intro aH;refine rdc 13 rfl fun K hK=>?_;(try simp only[zz]);(go_simp;refine (c_l3Swap _ _ _ _).mono ?_;rintro e w' ⟨rfl,rfl⟩);refine hK.out _ _ (⟨Blk.cell blks,Blk.cell blks⟩) ?_;clear aH hK K;intro aH;(try simp only[zz]);refine tk2 14 rfl aH (h:=?_);refine rdc 15 rfl fun K hK=>?_;(try simp only[zz]);go_simp;refine hK.out _ _ (⟨Blk.cell blks,Blk.cell blks⟩) ?_;clear aH hK K;intro aH;(try simp only[zz]);refine rdc 16 rfl fun K hK=>?_;skip;(refine stepFL (base:=w.heap.size+1+1+1) (xs:=(a.facts.take k).map (Fct.sub x y)) rfl _ _ rfl rfl (FactsO.bz (w:=wr) of bel) rfl (FactsV.one' blks) (by simp;omega) (by simp;omega) ?_;intro A' c' w2 of2 hg2 hB3;have z2:=Blk.zm (g:=w.heap.size+1+1) (hg:=hg2) blks (FactsO.bz (w:=wr) of bel).1 (by decide);have z2c:=z2.cell;have z2f:=z2.frozen;have zf:Blk w2 wr.heap.size tF #[.bool a.facts[k].eq,.int .i64 a.facts[k].a,.int .i64 a.facts[k].b]:=Blk.grown blks hg2 (fun e=>absurd (of.1.lt _ e.symm).2 (Nat.lt_irrefl _)));refine hK.out _ _ (⟨z2c,zf.cell⟩) ?_;clear aH hK K;intro aH;(try simp only[zz]);refine tk2 17 rfl aH (h:=?_);(try simp only[zz]);refine rdc 18 rfl fun K hK=>?_;go_simp;refine hK.out _ _ (⟨z2c,zf.cell⟩) (fun aH=>?_);clear hK K;refine wpAnyH_done (by kernel_rfl) ?_ _;unfold lastQ;go_simp;refine NoPanic.normal ?_;have z0:=Blk.zm (g:=w.heap.size) (hg:=hg2) blks (FactsO.bz (w:=wr) of bel).1 (by decide);have z1:=Blk.zm (g:=w.heap.size+1) (hg:=hg2) blks (FactsO.bz (w:=wr) of bel).1 (by decide);have hBw2:Below w.heap.size w w2:=Below.trans bel (hB3.mono (by omega));(go_wp2_with fail);have of3:=of2.setT z2 (by decide) 0 (.slice A' (List.map (Fct.sub x y) (List.take k a.facts)++[Fct.sub x y a.facts[k]]).length c');rw[show (⟨a.facts[k].eq,swp x y a.facts[k].a,swp x y a.facts[k].b⟩:Fct)=Fct.sub x y a.facts[k] from rfl] at of3;rw[←HT.o] at of3;simp only[List.length_map,List.length_take,Nat.min_eq_left (show k+1≤a.facts.length from hlt)] at of3
   go_round
   case rel=>exact ⟨k+1,A',c',by omega,by go_num,of3,z0.far (by simp only[];omega) _,z1.far (by simp only[];omega) _,z2.set_ 0 _,bel⟩
   case measure=>simp[intOf];omega
  ·obtain rfl:k=a.facts.length:=by omega
   rw[List.take_length] at of;(go_wp2_with fail)
   go_loopw [10] (fun i wr=>∃ (k:Nat) (B:Option Addr) (d:Nat),k≤a.atoms.length∧i=.int .i64 k∧FactsO wr (w.heap.size+1+1+1) (.slice A a.facts.length c) (a.facts.map (Fct.sub x y))∧AtomsO wr (w.heap.size+1+1+1) (.slice B k d) ((a.atoms.take k).map (Atm.sub x y))∧
    Blk wr w.heap.size 37 #[.slice A1 a.facts.length c1,.slice A2 a.atoms.length c2]∧Blk wr (w.heap.size+1) 37 #[.slice none 0 0,.slice none 0 0]∧Blk wr (w.heap.size+1+1) 37 #[.slice A a.facts.length c,.slice B k d]∧Below w.heap.size w wr) (fun i _=>a.atoms.length - (intOf i).toNat)
   case atStart=>exact ⟨0,none,0,Nat.zero_le _,rfl,of,AtomsO.nil _ _,k0,k1,k2,bel⟩
   case round=>
    clear k0 k1 k2 of hB qk0 qk1 rk1 lk1 qk2;obtain ⟨k,B,d,hk,rfl,og,of,k0,k1,k2,hB⟩:=hrel;(replace qk0:=k0.z;replace qk1:=k1.cell;replace rk1:=k1.frozen;replace lk1:=k1.lt;replace qk2:=k2.z);by_cases hlt:k<a.atoms.length
    ·obtain ⟨b,off,rfl,hbl⟩:=h2.blt hlt;obtain ⟨g0,g1,g2⟩:=(h2.bz hB).cl hlt;have HT:=ax (map_take (Atm.sub x y) a.atoms k hlt);have HL:aJ (((a.atoms.take k).map (Atm.sub x y)).length=k):=by simp[aJ];omega
     have hL2:(List.map (Atm.sub x y) (List.take k a.atoms)).length≤1049599:=by rw[HL.o];omega
     have hwz:=hB.size;(go_wp2_with fail);have kf:=Blk.new wr tA #[.int .i64 a.atoms[k].kind,.int .i64 a.atoms[k].a,.int .i64 a.atoms[k].b];refine wp_region_noPanic ?_;refine wp_region_last' (S:=(fun w'=>(∀ i,w'.cell? ⟨w.heap.size+1+1,i,none⟩=#[.slice A a.facts.length c,.slice B k d][i]?)∧(∀ i,w'.cell? ⟨wr.heap.size,i,none⟩=#[.int .i64 a.atoms[k].kind,.int .i64 a.atoms[k].a,.int .i64 a.atoms[k].b][i]?))) (by simp) (by kernel_rfl) (by kernel_rfl) (⟨Blk.cell blks,Blk.cell blks⟩) (fun aH=>?_);simp only[List.dropLast,List.getLast,nopOf,List.cons_append,List.nil_append,List.length_cons,List.length_nil,Nat.zero_add,Nat.reduceAdd];refine tk2 0 rfl aH (h:=tk2 1 rfl aH (h:=tk2 2 rfl aH (h:=?_)));(try simp only[zz]);refine tk2 3 rfl aH (h:=tk2 4 rfl aH (h:=tk2 5 rfl aH (h:=?_)));(try simp only[zz]);refine tk2 6 rfl aH (h:=tk2 7 rfl aH (h:=tk2 9 rfl aH (h:=?_)));(try simp only[zz]);refine tk2 10 rfl aH (h:=tk2 11 rfl aH (h:=tk2 12 rfl aH (h:=?_)));refine rdc 8 rfl fun K hK=>?_;(try simp only[zz]);(go_simp;refine (c_l3Swap _ _ _ _).mono ?_;rintro e w' ⟨rfl,rfl⟩);refine hK.out _ _ (⟨Blk.cell blks,Blk.cell blks⟩) ?_;clear aH hK K;intro aH;refine rdc 13 rfl fun K hK=>?_;(try simp only[zz]);(go_simp;refine (c_l3Swap _ _ _ _).mono ?_;rintro e w' ⟨rfl,rfl⟩);refine hK.out _ _ (⟨Blk.cell blks,Blk.cell blks⟩) ?_;clear aH hK K;intro aH;(try simp only[zz]);refine tk2 14 rfl aH (h:=?_);refine rdc 15 rfl fun K hK=>?_;(try simp only[zz]);go_simp;refine hK.out _ _ (⟨Blk.cell blks,Blk.cell blks⟩) ?_;clear aH hK K;intro aH;(try simp only[zz]);refine rdc 16 rfl fun K hK=>?_;skip;(refine stepAL (base:=w.heap.size+1+1+1) (xs:=(a.atoms.take k).map (Atm.sub x y)) rfl _ _ rfl rfl (AtomsO.bz (w:=wr) of bel) rfl (AtomsV.one' blks) (by simp;omega) (by simp;omega) ?_;intro A' c' w2 of2 hg2 hB3;have z2:=Blk.zm (g:=w.heap.size+1+1) (hg:=hg2) blks (AtomsO.bz (w:=wr) of bel).1 (by decide);have z2c:=z2.cell;have z2f:=z2.frozen;have zf:Blk w2 wr.heap.size tA #[.int .i64 a.atoms[k].kind,.int .i64 a.atoms[k].a,.int .i64 a.atoms[k].b]:=Blk.grown blks hg2 (fun e=>absurd (of.1.lt _ e.symm).2 (Nat.lt_irrefl _)));refine hK.out _ _ (⟨z2c,zf.cell⟩) ?_;clear aH hK K;intro aH;(try simp only[zz]);refine tk2 17 rfl aH (h:=?_);(try simp only[zz]);refine rdc 18 rfl fun K hK=>?_;go_simp;refine hK.out _ _ (⟨z2c,zf.cell⟩) (fun aH=>?_);clear hK K;refine wpAnyH_done (by kernel_rfl) ?_ _;unfold lastQ;go_simp;refine NoPanic.normal ?_;have z0:=Blk.zm (g:=w.heap.size) (hg:=hg2) blks (AtomsO.bz (w:=wr) of bel).1 (by decide);have z1:=Blk.zm (g:=w.heap.size+1) (hg:=hg2) blks (AtomsO.bz (w:=wr) of bel).1 (by decide);have hBw2:Below w.heap.size w w2:=Below.trans bel (hB3.mono (by omega));(go_wp2_with fail);have of3:=of2.setT z2 (by decide) 1 (.slice A' (List.map (Atm.sub x y) (List.take k a.atoms)++[Atm.sub x y a.atoms[k]]).length c');rw[show (⟨a.atoms[k].kind,swp x y a.atoms[k].a,swp x y a.atoms[k].b⟩:Atm)=Atm.sub x y a.atoms[k] from rfl] at of3;rw[←HT.o] at of3;simp only[List.length_map,List.length_take,Nat.min_eq_left (show k+1≤a.atoms.length from hlt)] at of3
     go_round
     case rel=>exact ⟨k+1,A',c',by omega,by go_num,(FactsO.grownA (og.bz bel) (AtomsO.bz (w:=wr) of bel) hg2).setT z2 (by decide) _ _,of3,z0.far (by simp only[];omega) _,z1.far (by simp only[];omega) _,z2.set_ 1 _,bel⟩
     case measure=>simp[intOf];omega
    ·obtain rfl:k=a.atoms.length:=by omega
     rw[List.take_length] at of;(go_wp2_with fail);refine bodyPost_ret (v:=.agg #[.slice A a.facts.length c,.slice B a.atoms.length d]) (by simp[results,Tryz.results274,go_sem,qk1]) rfl ⟨_,rfl,?_,bel⟩;refine ⟨_,_,rfl,?_,?_⟩
     ·simpa[substA] using ((og.setT k1 (by decide) 0 (.slice A a.facts.length c)).setT (k1.set_ _ _) (by decide) 1 (.slice B a.atoms.length d)).bq (show w.heap.size≤w.heap.size+1+1+1 by omega)
     ·simpa[substA] using ((of.setT k1 (by decide) 0 (.slice A a.facts.length c)).setT (k1.set_ _ _) (by decide) 1 (.slice B a.atoms.length d)).bq (show w.heap.size≤w.heap.size+1+1+1 by omega)
end
end Go.Proofs.YtjaohekkmlkinaaGreat
