/- Cases: the class lists of an assertion, and the two pruned searches that give them. Plain; no program. -/
import Derived.Test.YtjaohekkmlkinaaGreatMbRow
import Derived.Deep.RegionHeld3
set_option linter.unusedSimpArgs false
set_option linter.unusedVariables false
set_option maxRecDepth 100000
set_option maxHeartbeats 25600000
namespace Go.Proofs.YtjaohekkmlkinaaGreat
section
open Go
def cl (c:List Int) (t:Int):Int:=(c[t.toNat]?).getD 0
def Fct.fits (c:List Int) (f:Fct):Bool:=decide (cl c f.a=cl c f.b) == f.eq
def Atm.fill (c:List Int) (x:Atm):Bool:=decide (x.kind=1) || !decide (cl c x.a=cl c x.b)
def Atm.cls (c:List Int) (x:Atm):Atm:=⟨x.kind,cl c x.a,cl c x.b⟩
def filledL (xs:List Atm) (c:List Int):List Atm:=(xs.filter (Atm.fill c)).map (Atm.cls c)
def apartF:List Int→List Atm→Bool
 | _,[]=>true
 | seen,x :: xs=>!decide (x.a=0) && !decide (x.a∈seen)&&apartF (seen++[x.a]) xs
def full (a:Asn) (c:List Int):Bool:=a.facts.all (Fct.fits c)&&apartF [] (filledL a.atoms c)
def gen (S:Nat):Nat→List Int→List (List Int)
 | 0,c=>[c]
 | n+1,c=>if S.testBit (8 - n) then (List.range (9 - n)).flatMap fun k=>if k<8 - n∧cl c k≠k then [] else gen S n (c.set (8 - n) k) else gen S n (c.set (8 - n) (-1))
def zeros:List Int:=[0,0,0,0,0,0,0,0,0]
def opened:List Int:=[0,-1,-1,-1,-1,-1,-1,-1,-1]
def cases (a:Asn) (S:Nat):List (List Int):=(gen S 9 zeros).filter (full a)
def possF (c:List Int) (last:Int) (fs:List Fct):Bool:=fs.all fun f=>!(decide (f.a≤last)&&decide (f.b≤last) && !f.fits c)
def inLast (c:List Int) (last:Int) (x:Atm):Bool:=decide (x.a≤last)&&decide (x.b≤last)&&x.fill c
def possA (c:List Int) (last:Int):List Int→List Atm→Bool
 | _,[]=>true
 | seen,x :: xs=>if inLast c last x then !decide (cl c x.a=0) && !decide (cl c x.a∈seen)&&possA c last (seen++[cl c x.a]) xs else possA c last seen xs
def poss (a:Asn) (c:List Int) (last:Int):Bool:=possF c last a.facts&&possA c last [] a.atoms
def ext (a:Asn) (S:Nat):Nat→List Int→List (List Int)
 | 0,c=>[c]
 | n+1,c=>if S.testBit (8 - n) then (List.range (9 - n)).flatMap fun k=>if k<8 - n∧cl c k≠k then [] else if poss a (c.set (8 - n) k) (8 - n:Nat) then ext a S n (c.set (8 - n) k) else [] else ext a S n (c.set (8 - n) (-1))
def fitsS (c:List Int) (fs:List Fct):Bool:=fs.all fun f=>!(decide (0≤cl c f.a)&&decide (0≤cl c f.b) && !f.fits c)
def earlyF (c:List Int):List Int→List Atm→Bool
 | _,[]=>true
 | seen,x :: xs=>if decide (x.kind=1)&&decide (0≤cl c x.a) then !decide (cl c x.a=0) && !decide (cl c x.a∈seen)&&earlyF c (seen++[cl c x.a]) xs else earlyF c seen xs
def seek (a:Asn) (S:Nat):Nat→List Int→List (List Int)
 | 0,c=>if fitsS c a.facts&&earlyF c [] a.atoms then (if apartF [] (filledL a.atoms c) then [c] else []) else []
 | n+1,c=>if fitsS c a.facts&&earlyF c [] a.atoms then (if S.testBit (8 - n) then (List.range (9 - n)).flatMap fun k=>if k<8 - n∧cl c k≠k then [] else seek a S n (c.set (8 - n) k) else seek a S n c) else []
theorem flatMap_congr' {α β:Type} {l:List α} {f g:α→List β} (h:∀ x∈l,f x=g x):l.flatMap f=l.flatMap g:=by
 induction l with
 | nil=>rfl
 | cons x xs ih=>rw[List.flatMap_cons,List.flatMap_cons,h x List.mem_cons_self,ih fun y hy=>h y (List.mem_cons_of_mem _ hy)]
section
variable {c d:List Int}
theorem cl_set (h:c.length=9) {t:Nat} (ht:t<9) (v:Int) {j:Int} (hj:0≤j):cl (c.set t v) j=if j=t then v else cl c j:=by
 unfold cl;by_cases e:j=t
 ·subst e;rw[if_pos rfl,Int.toNat_natCast,List.getElem?_set_self (by omega)];rfl
 ·rw[if_neg e,List.getElem?_set_ne (by omega)]
def Agr (c d:List Int) (last:Int):Prop:=∀ j:Int,0≤j→j≤last→cl d j=cl c j
theorem Agr.fits {f:Fct} {last:Int} (h:Agr c d last) (ha:0≤f.a) (hb:0≤f.b) (h1:f.a≤last) (h2:f.b≤last):f.fits d=f.fits c:=by
 unfold Fct.fits;rw[h _ ha h1,h _ hb h2]
theorem Agr.fill {f:Atm} {last:Int} (h:Agr c d last) (ha:0≤f.a) (hb:0≤f.b) (h1:f.a≤last) (h2:f.b≤last):f.fill d=f.fill c:=by
 unfold Atm.fill;rw[h _ ha h1,h _ hb h2]
def FactsOk (fs:List Fct):Prop:=∀ f∈fs,(0≤f.a∧f.a≤8)∧(0≤f.b∧f.b≤8)
def AtomsOk (xs:List Atm):Prop:=∀ x∈xs,(0≤x.a∧x.a≤8)∧(0≤x.b∧x.b≤8)
theorem Agr.possF {fs:List Fct} {last:Int} (h:Agr c d last) (hf:FactsOk fs):possF d last fs=possF c last fs:=by
 unfold Go.Proofs.YtjaohekkmlkinaaGreat.possF;rw[Bool.eq_iff_iff,List.all_eq_true,List.all_eq_true];refine forall_congr' fun f=>forall_congr' fun hm=>?_;obtain ⟨⟨h1,-⟩,⟨h2,-⟩⟩:=hf f hm;by_cases e1:f.a≤last
 ·by_cases e2:f.b≤last
  ·rw[h.fits h1 h2 e1 e2]
  ·simp[e2]
 ·simp[e1]
theorem Agr.inLast {x:Atm} {last:Int} (h:Agr c d last) (ha:0≤x.a) (hb:0≤x.b):inLast d last x=inLast c last x:=by
 unfold Go.Proofs.YtjaohekkmlkinaaGreat.inLast;by_cases e1:x.a≤last
 ·by_cases e2:x.b≤last
  ·rw[h.fill ha hb e1 e2]
  ·simp[e2]
 ·simp[e1]
theorem inLast_le {x:Atm} {last:Int} (h:inLast c last x=true):x.a≤last∧x.b≤last∧x.fill c=true:=by
 simp[inLast] at h;exact ⟨h.1.1,h.1.2,h.2⟩
theorem Agr.possA {last:Int} (h:Agr c d last):∀ (xs:List Atm) (seen:List Int),AtomsOk xs→possA d last seen xs=possA c last seen xs:=by
 intro xs
 induction xs with
 | nil=>intro seen _;rfl
 | cons x xs ih=>
  intro seen hx;have hx':AtomsOk xs:=fun y hy=>hx y (List.mem_cons_of_mem _ hy);obtain ⟨⟨h1,-⟩,⟨h2,-⟩⟩:=hx x List.mem_cons_self;unfold Go.Proofs.YtjaohekkmlkinaaGreat.possA;rw[h.inLast h1 h2];cases e:Go.Proofs.YtjaohekkmlkinaaGreat.inLast c last x
  ·simp only[Bool.false_eq_true,if_false];exact ih _ hx'
  ·rw[if_pos rfl,if_pos rfl,h _ h1 (inLast_le e).1,ih _ hx']
theorem Agr.poss {a:Asn} {last:Int} (h:Agr c d last) (hf:FactsOk a.facts) (hx:AtomsOk a.atoms):poss a d last=poss a c last:=by
 unfold Go.Proofs.YtjaohekkmlkinaaGreat.poss;rw[h.possF hf,h.possA _ _ hx]
theorem possA_iff (c:List Int) (last:Int):∀ (xs:List Atm) (seen:List Int),possA c last seen xs=true↔
  ((∀ x∈xs,inLast c last x=true→cl c x.a≠0∧cl c x.a∉seen)∧((xs.filter (inLast c last)).map fun x=>cl c x.a).Nodup):=by
 intro xs
 induction xs with
 | nil=>intro seen;simp[possA]
 | cons x xs ih=>
  intro seen;unfold possA;cases e:inLast c last x
  ·simp only[Bool.false_eq_true,if_false,ih];rw[List.filter_cons_of_neg (by simp[e])];constructor
   ·rintro ⟨h1,h2⟩;refine ⟨fun y hy=>?_,h2⟩;rcases List.mem_cons.1 hy with rfl|hy
    ·intro h;rw[e] at h;cases h
    ·exact h1 y hy
   ·rintro ⟨h1,h2⟩;exact ⟨fun y hy=>h1 y (List.mem_cons_of_mem _ hy),h2⟩
  ·rw[if_pos rfl,List.filter_cons_of_pos e,List.map_cons,List.nodup_cons];simp only[Bool.and_eq_true,Bool.not_eq_true',decide_eq_false_iff_not,ih];constructor
   ·rintro ⟨⟨g1,g2⟩,g3,g4⟩;refine ⟨fun y hy hl=>?_,?_,g4⟩
    ·rcases List.mem_cons.1 hy with rfl|hy
     ·exact ⟨g1,g2⟩
     ·have:=g3 y hy hl;exact ⟨this.1,fun h=>this.2 (List.mem_append_left _ h)⟩
    ·intro hm;obtain ⟨y,hy,ey⟩:=List.mem_map.1 hm;rw[List.mem_filter] at hy;exact (g3 y hy.1 hy.2).2 (List.mem_append_right _ (by simp[ey]))
   ·rintro ⟨g1,g2,g3⟩;have:=g1 x List.mem_cons_self e;refine ⟨⟨this.1,this.2⟩,fun y hy hl=>?_,g3⟩;have h2:=g1 y (List.mem_cons_of_mem _ hy) hl;refine ⟨h2.1,fun h=>?_⟩;rcases List.mem_append.1 h with h|h
    ·exact h2.2 h
    ·exact g2 (List.mem_map.2 ⟨y,List.mem_filter.2 ⟨hy,hl⟩,by simpa using h⟩)
theorem possA_mono {last last':Int} (hl:last≤last') {xs:List Atm} {seen:List Int} (h:possA c last' seen xs=true):possA c last seen xs=true:=by
 rw[possA_iff] at h ⊢
 have him:∀ x,inLast c last x=true→inLast c last' x=true:=by
  intro x hx;have:=inLast_le hx;simp[inLast,this.2.2];omega
 refine ⟨fun x hx hi=>h.1 x hx (him x hi),?_⟩;refine List.Nodup.sublist ?_ h.2;apply List.Sublist.map
 have e:xs.filter (inLast c last)=(xs.filter (inLast c last')).filter (inLast c last):=by
  rw[List.filter_filter];apply List.filter_congr;intro x _;cases e:inLast c last x
  ·simp
  ·simp[him x e]
 rw[e];exact List.filter_sublist
theorem possF_mono {last last':Int} (hl:last≤last') {fs:List Fct} (h:possF c last' fs=true):possF c last fs=true:=by
 unfold possF at *;rw[List.all_eq_true] at h ⊢;intro f hf;have:=h f hf;by_cases e1:f.a≤last
 ·by_cases e2:f.b≤last
  ·have e3:f.a≤last':=by omega
   have e4:f.b≤last':=by omega
   simpa[e1,e2,e3,e4] using this
  ·simp[e2]
 ·simp[e1]
theorem poss_mono {a:Asn} {last last':Int} (hl:last≤last') (h:poss a c last'=true):poss a c last=true:=by
 unfold poss at *;rw[Bool.and_eq_true] at h ⊢;exact ⟨possF_mono hl h.1,possA_mono hl h.2⟩
theorem apart_possA:∀ (xs:List Atm) (seen:List Int),AtomsOk xs→apartF seen (filledL xs c)=possA c 8 seen xs:=by
 intro xs
 induction xs with
 | nil=>intro seen _;rfl
 | cons x xs ih=>
  intro seen hx;have hx':AtomsOk xs:=fun y hy=>hx y (List.mem_cons_of_mem _ hy);obtain ⟨⟨-,h1⟩,⟨-,h2⟩⟩:=hx x List.mem_cons_self;have e:inLast c 8 x=x.fill c:=by simp[inLast,h1,h2]
  unfold possA filledL;rw[e];cases hf:x.fill c
  ·rw[List.filter_cons_of_neg (by simp[hf])];simp only[Bool.false_eq_true,if_false];exact ih _ hx'
  ·rw[List.filter_cons_of_pos hf,List.map_cons,if_pos rfl];unfold apartF;have:=ih (seen++[cl c x.a]) hx';unfold filledL at this;rw[show (Atm.cls c x).a=cl c x.a from rfl,this]
theorem full_poss {a:Asn} (hf:FactsOk a.facts) (hx:AtomsOk a.atoms):full a c=poss a c 8:=by
 unfold full poss;rw[apart_possA _ _ hx]
 congr 1
 unfold possF;rw[Bool.eq_iff_iff,List.all_eq_true,List.all_eq_true];refine forall_congr' fun f=>forall_congr' fun hm=>?_;obtain ⟨⟨-,h1⟩,⟨-,h2⟩⟩:=hf f hm;simp[h1,h2]
theorem gen_ok (S:Nat):∀ (n:Nat) (c d:List Int),n≤9→c.length=9→d∈gen S n c→d.length=9∧Agr c d (8 - n:Int)∧∀ j:Nat,9 - n≤j→j<9→(S.testBit j=true→0≤cl d j∧cl d j≤j)∧(S.testBit j=false→cl d j = -1):=by
 intro n
 induction n with
 | zero=>
  intro c d _ hc hd;simp only[gen,List.mem_singleton] at hd;subst hd;exact ⟨hc,fun j _ _=>rfl,fun j h1 h2=>by omega⟩
 | succ n ih=>
  intro c d hn hc hd
  have key:∀ v:Int,d∈gen S n (c.set (8 - n) v)→d.length=9∧Agr c d (8 - (n+1:Nat):Int)∧cl d ((8 - n:Nat):Int)=v∧∀ j:Nat,9 - n≤j→j<9→(S.testBit j=true→0≤cl d j∧cl d j≤j)∧(S.testBit j=false→cl d j = -1):=by
   intro v hd;obtain ⟨h1,h2,h3⟩:=ih _ _ (by omega) (by simpa using hc) hd;refine ⟨h1,fun j h0 hj=>?_,?_,h3⟩
   ·rw[h2 j h0 (by omega),cl_set hc (by omega) _ h0,if_neg (by omega)]
   ·rw[h2 _ (by omega) (by omega),cl_set hc (by omega) _ (by omega),if_pos rfl]
  unfold gen at hd;cases e:S.testBit (8 - n)
  ·rw[e] at hd;simp only[Bool.false_eq_true,if_false] at hd;obtain ⟨h1,h2,h3,h4⟩:=key _ hd;refine ⟨h1,h2,fun j hj hj'=>?_⟩;by_cases ej:j=8 - n
   ·subst ej;exact ⟨fun h=>(by rw[e] at h;cases h),fun _=>h3⟩
   ·exact h4 j (by omega) hj'
  ·rw[e,if_pos rfl,List.mem_flatMap] at hd;obtain ⟨k,hk,hd⟩:=hd;rw[List.mem_range] at hk
   split at hd
   ·cases hd
   ·obtain ⟨h1,h2,h3,h4⟩:=key _ hd;refine ⟨h1,h2,fun j hj hj'=>?_⟩;by_cases ej:j=8 - n
    ·subst ej;exact ⟨fun _=>by rw[h3];omega,fun h=>by rw[e] at h;cases h⟩
    ·exact h4 j (by omega) hj'
theorem gen_congr (S:Nat):∀ (n:Nat) (c d:List Int),n≤9→c.length=9→d.length=9→Agr c d (8 - n:Int)→gen S n d=gen S n c:=by
 intro n
 induction n with
 | zero=>
  intro c d _ hc hd h
  have:d=c:=by
   apply List.ext_getElem (by omega);intro j h1 h2;have:=h j (by omega) (by omega);simpa[cl,List.getElem?_eq_getElem h1,List.getElem?_eq_getElem h2] using this
  rw[this]
 | succ n ih=>
  intro c d hn hc hd h
  have key:∀ v:Int,gen S n (d.set (8 - n) v)=gen S n (c.set (8 - n) v):=by
   intro v;refine ih _ _ (by omega) (by simpa using hc) (by simpa using hd) fun j h0 hj=>?_;rw[cl_set hd (by omega) _ h0,cl_set hc (by omega) _ h0]
   split
   ·rfl
   ·exact h j h0 (by omega)
  unfold gen;rw[key]
  split
  ·apply flatMap_congr';intro k hk;rw[List.mem_range] at hk;rw[key];by_cases hlt:k<8 - n
   ·rw[h k (by omega) (by omega)]
   ·simp[hlt]
  ·rfl
theorem filter_none {α:Type} {p:α→Bool} {l:List α} (h:∀ x∈l,p x=false):l.filter p=[]:=by
 rw[List.filter_eq_nil_iff];intro x hx;simp[h x hx]
theorem ext_eq {a:Asn} {S:Nat} (hf:FactsOk a.facts) (hx:AtomsOk a.atoms) (hS:∀ t:Nat,S.testBit t=false→(∀ f∈a.facts,f.a≠t∧f.b≠t)∧(∀ x∈a.atoms,x.a≠t∧x.b≠t)) :
  ∀ (n:Nat) (c:List Int),n≤9→c.length=9→poss a c (8 - n:Int)=true→ext a S n c=(gen S n c).filter (full a):=by
 intro n
 induction n with
 | zero=>
  intro c _ hc hp;simp only[ext,gen];rw[List.filter_cons_of_pos]
  ·rfl
  ·rw[full_poss hf hx];simpa using hp
 | succ n ih=>
  intro c hn hc hp;unfold ext gen;cases e:S.testBit (8 - n)
  ·simp only[Bool.false_eq_true,if_false];refine ih _ (by omega) (by simpa using hc) ?_;obtain ⟨n1,n2⟩:=hS _ e;have hA:Agr c (c.set (8 - n) (-1)) (8 - (n+1:Nat):Int):=fun j h0 hj=>by rw[cl_set hc (by omega) _ h0,if_neg (by omega)]
   rw[←hA.poss hf hx] at hp;generalize c.set (8 - n) (-1)=d at hp ⊢;unfold poss at hp ⊢;rw[Bool.and_eq_true] at hp ⊢;constructor
   ·have h1:=hp.1;unfold possF at h1 ⊢;rw[List.all_eq_true] at h1 ⊢;intro f hm;have h2:=h1 f hm;have h3:=n1 f hm;have e1:(f.a≤(8 - (n+1:Nat):Int))↔f.a≤(8 - n:Int):=by omega
    have e2:(f.b≤(8 - (n+1:Nat):Int))↔f.b≤(8 - n:Int):=by omega
    rw[decide_eq_decide.2 e1,decide_eq_decide.2 e2] at h2;exact h2
   ·have h1:=hp.2;rw[possA_iff] at h1 ⊢
    have e0:∀ x∈a.atoms,inLast d (8 - n:Int) x=inLast d (8 - (n+1:Nat):Int) x:=by
     intro x hm;have h3:=n2 x hm;have e1:(x.a≤(8 - (n+1:Nat):Int))↔x.a≤(8 - n:Int):=by omega
     have e2:(x.b≤(8 - (n+1:Nat):Int))↔x.b≤(8 - n:Int):=by omega
     unfold inLast;rw[decide_eq_decide.2 e1,decide_eq_decide.2 e2]
    refine ⟨fun x hm hi=>h1.1 x hm (by rw[←e0 x hm];exact hi),?_⟩;rw[List.filter_congr e0];exact h1.2
  ·rw[if_pos rfl,if_pos rfl,List.filter_flatMap];apply flatMap_congr';intro k hk;rw[List.mem_range] at hk
   split
   ·rfl
   ·have hn8:((8 - n:Nat):Int)=(8 - n:Int):=by omega
    split
    ·rename_i hps;rw[hn8] at hps;exact ih _ (by omega) (by simpa using hc) hps
    ·rename_i hps
     symm
     apply filter_none;intro d hd;obtain ⟨-,h2,-⟩:=gen_ok S n _ d (by omega) (by simpa using hc) hd;cases hfu:full a d
     ·rfl
     ·rw[full_poss hf hx] at hfu;have:=poss_mono (last:=(8 - n:Int)) (by omega) hfu;rw[h2.poss hf hx,←hn8] at this;exact absurd this hps
theorem poss_low {a:Asn} (hf:FactsOk a.facts) (hx:AtomsOk a.atoms):poss a c (-1)=true:=by
 unfold poss;rw[Bool.and_eq_true];constructor
 ·unfold possF;rw[List.all_eq_true];intro f hm;have:=hf f hm;have e:¬f.a≤-1:=by omega
  simp[e]
 ·rw[possA_iff]
  have e0:∀ x∈a.atoms,inLast c (-1) x=false:=by
   intro x hm;have:=hx x hm;have e:¬x.a≤-1:=by omega
   simp[inLast,e]
  refine ⟨fun x hm hi=>(by rw[e0 x hm] at hi;cases hi),?_⟩;rw[filter_none e0];simp
theorem ext_cases {a:Asn} {S:Nat} (hf:FactsOk a.facts) (hx:AtomsOk a.atoms) (hS:∀ t:Nat,S.testBit t=false→(∀ f∈a.facts,f.a≠t∧f.b≠t)∧(∀ x∈a.atoms,x.a≠t∧x.b≠t)):ext a S 9 zeros=cases a S:=
 ext_eq hf hx hS 9 zeros (by omega) rfl (poss_low hf hx)
theorem earlyF_iff (c:List Int):∀ (xs:List Atm) (seen:List Int),earlyF c seen xs=true↔
  ((∀ x∈xs,(x.kind=1∧0≤cl c x.a)→cl c x.a≠0∧cl c x.a∉seen)∧((xs.filter fun x=>decide (x.kind=1)&&decide (0≤cl c x.a)).map fun x=>cl c x.a).Nodup):=by
 intro xs
 induction xs with
 | nil=>intro seen;simp[earlyF]
 | cons x xs ih=>
  intro seen;unfold earlyF;cases e:(decide (x.kind=1)&&decide (0≤cl c x.a))
  ·simp only[Bool.false_eq_true,if_false,ih];have e':¬(x.kind=1∧0≤cl c x.a):=by simpa using e
   rw[List.filter_cons_of_neg (by simp[e])];constructor
   ·rintro ⟨h1,h2⟩;refine ⟨fun y hy=>?_,h2⟩;rcases List.mem_cons.1 hy with rfl|hy
    ·exact fun h=>absurd h e'
    ·exact h1 y hy
   ·rintro ⟨h1,h2⟩;exact ⟨fun y hy=>h1 y (List.mem_cons_of_mem _ hy),h2⟩
  ·have e':x.kind=1∧0≤cl c x.a:=by simpa using e
   rw[if_pos rfl,List.filter_cons_of_pos (by simpa using e),List.map_cons,List.nodup_cons];simp only[Bool.and_eq_true,Bool.not_eq_true',decide_eq_false_iff_not,ih];constructor
   ·rintro ⟨⟨g1,g2⟩,g3,g4⟩;refine ⟨fun y hy hl=>?_,?_,g4⟩
    ·rcases List.mem_cons.1 hy with rfl|hy
     ·exact ⟨g1,g2⟩
     ·have:=g3 y hy hl;exact ⟨this.1,fun h=>this.2 (List.mem_append_left _ h)⟩
    ·intro hm;obtain ⟨y,hy,ey⟩:=List.mem_map.1 hm;rw[List.mem_filter] at hy;exact (g3 y hy.1 (by simpa using hy.2)).2 (List.mem_append_right _ (by simp[ey]))
   ·rintro ⟨g1,g2,g3⟩;have:=g1 x List.mem_cons_self e';refine ⟨⟨this.1,this.2⟩,fun y hy hl=>?_,g3⟩;have h2:=g1 y (List.mem_cons_of_mem _ hy) hl;refine ⟨h2.1,fun h=>?_⟩;rcases List.mem_append.1 h with h|h
    ·exact h2.2 h
    ·exact g2 (List.mem_map.2 ⟨y,List.mem_filter.2 ⟨hy,by simpa using hl⟩,by simpa using h⟩)
theorem full_early {a:Asn} (hf:FactsOk a.facts) (hx:AtomsOk a.atoms) (hA:∀ j:Int,0≤j→j≤8→0≤cl c j→cl d j=cl c j) (h:full a d=true):(fitsS c a.facts&&earlyF c [] a.atoms)=true:=by
 have hp:=h;rw[full_poss hf hx] at hp;unfold full at h;unfold poss at hp;rw[Bool.and_eq_true] at h hp ⊢;have hF:=List.all_eq_true.1 h.1;have hP:=(possA_iff _ _ _ _).1 hp.2;constructor
 ·unfold fitsS;rw[List.all_eq_true];intro f hm;obtain ⟨⟨a1,a2⟩,⟨b1,b2⟩⟩:=hf f hm;by_cases e1:0≤cl c f.a
  ·by_cases e2:0≤cl c f.b
   ·have h1:=hF f hm;unfold Fct.fits at h1 ⊢;rw[hA _ a1 a2 e1,hA _ b1 b2 e2] at h1;simp[h1]
   ·simp[e2]
  ·simp[e1]
 ·have him:∀ x∈a.atoms,x.kind=1∧0≤cl c x.a→inLast d 8 x=true∧cl d x.a=cl c x.a:=by
   rintro x hm ⟨h1,h2⟩;obtain ⟨⟨a1,a2⟩,⟨b1,b2⟩⟩:=hx x hm;exact ⟨by simp[inLast,a2,b2,Atm.fill,h1],hA _ a1 a2 h2⟩
  rw[earlyF_iff];refine ⟨fun x hm hk=>?_,?_⟩
  ·obtain ⟨g1,g2⟩:=him x hm hk;have:=(hP.1 x hm g1).1;rw[g2] at this;exact ⟨this,by simp⟩
  ·have e:((a.atoms.filter fun x=>decide (x.kind=1)&&decide (0≤cl c x.a)).map fun x=>cl c x.a)=((a.atoms.filter fun x=>decide (x.kind=1)&&decide (0≤cl c x.a)).map fun x=>cl d x.a):=by
    apply List.map_congr_left;intro x hm;rw[List.mem_filter] at hm;exact (him x hm.1 (by simpa using hm.2)).2.symm
   rw[e];refine List.Nodup.sublist ?_ hP.2;apply List.Sublist.map
   have e2:(a.atoms.filter fun x=>decide (x.kind=1)&&decide (0≤cl c x.a))=(a.atoms.filter (inLast d 8)).filter fun x=>decide (x.kind=1)&&decide (0≤cl c x.a):=by
    rw[List.filter_filter];apply List.filter_congr;intro x hm;cases e3:(decide (x.kind=1)&&decide (0≤cl c x.a))
    ·simp
    ·simp[(him x hm (by simpa using e3)).1]
   rw[e2];exact List.filter_sublist
theorem seek_eq {a:Asn} {S:Nat} (hf:FactsOk a.facts) (hx:AtomsOk a.atoms) (hS:∀ t:Nat,S.testBit t=false→(∀ f∈a.facts,f.a≠t∧f.b≠t)∧(∀ x∈a.atoms,x.a≠t∧x.b≠t)) :
  ∀ (n:Nat) (c:List Int),n≤9→c.length=9→(∀ j:Nat,9 - n≤j→j<9→cl c j = -1)→(∀ j:Nat,j<9 - n→S.testBit j=true→0≤cl c j)→seek a S n c=(gen S n c).filter (full a):=by
 intro n
 induction n with
 | zero=>
  intro c _ hc _ hp;simp only[seek,gen]
  have hF:fitsS c a.facts=a.facts.all (Fct.fits c):=by
   unfold fitsS;rw[Bool.eq_iff_iff,List.all_eq_true,List.all_eq_true];refine forall_congr' fun f=>forall_congr' fun hm=>?_;obtain ⟨⟨a1,a2⟩,⟨b1,b2⟩⟩:=hf f hm
   have k1:0≤cl c f.a:=by
    obtain ⟨t,e⟩:=Int.eq_ofNat_of_zero_le a1;rw[e];apply hp t (by omega);cases h:S.testBit t
    ·exact absurd e ((hS t h).1 f hm).1
    ·rfl
   have k2:0≤cl c f.b:=by
    obtain ⟨t,e⟩:=Int.eq_ofNat_of_zero_le b1;rw[e];apply hp t (by omega);cases h:S.testBit t
    ·exact absurd e ((hS t h).1 f hm).2
    ·rfl
   simp[k1,k2]
  cases hfu:full a c
  ·rw[filter_none (by simpa using hfu)]
   split
   ·rename_i h1;rw[Bool.and_eq_true,hF] at h1;rw[if_neg];intro h2;unfold full at hfu;rw[h1.1,h2] at hfu;cases hfu
   ·rfl
  ·rw[if_pos (full_early hf hx (fun _ _ _ _=>rfl) hfu),List.filter_cons_of_pos hfu,if_pos]
   ·rfl
   ·unfold full at hfu;rw[Bool.and_eq_true] at hfu;exact hfu.2
 | succ n ih=>
  intro c hn hc hop hp;unfold seek;cases hE:(fitsS c a.facts&&earlyF c [] a.atoms)
  ·simp only[Bool.false_eq_true,if_false]
   symm
   apply filter_none;intro d hd;obtain ⟨-,h2,-⟩:=gen_ok S (n+1) _ d hn hc hd;cases hfu:full a d
   ·rfl
   ·have:=full_early (c:=c) hf hx (fun j h0 h8 hj=>?_) hfu
    ·rw[hE] at this;cases this
    ·apply h2 j h0;by_cases hlt:(8 - (n+1:Nat):Int)<j
     ·obtain ⟨t,e⟩:=Int.eq_ofNat_of_zero_le h0;have:=hop t (by omega) (by omega);rw[e,this] at hj;omega
     ·omega
  ·rw[if_pos rfl];unfold gen;cases e:S.testBit (8 - n)
   ·simp only[Bool.false_eq_true,if_false]
    have e1:c.set (8 - n) (-1)=c:=by
     have:=hop (8 - n) (by omega) (by omega);have hl:8 - n<c.length:=by omega
     have h1:c[8 - n] = -1:=by simpa[cl,List.getElem?_eq_getElem hl] using this
     rw[←h1,List.set_getElem_self]
    rw[e1];refine ih _ (by omega) hc (fun j h1 h2=>hop j (by omega) h2) (fun j h1 h2=>?_);by_cases ej:j=8 - n
    ·subst ej;rw[e] at h2;cases h2
    ·exact hp j (by omega) h2
   ·rw[if_pos rfl,if_pos rfl,List.filter_flatMap];apply flatMap_congr';intro k hk;rw[List.mem_range] at hk
    split
    ·rfl
    ·refine ih _ (by omega) (by simpa using hc) (fun j h1 h2=>?_) (fun j h1 h2=>?_)
     ·rw[cl_set hc (by omega) _ (by omega),if_neg (by omega)];exact hop j (by omega) h2
     ·rw[cl_set hc (by omega) _ (by omega)]
      split
      ·omega
      ·exact hp j (by omega) h2
theorem seek_cases {a:Asn} {S:Nat} (hf:FactsOk a.facts) (hx:AtomsOk a.atoms) (h0:S.testBit 0=true) (hS:∀ t:Nat,S.testBit t=false→(∀ f∈a.facts,f.a≠t∧f.b≠t)∧(∀ x∈a.atoms,x.a≠t∧x.b≠t)):seek a S 8 opened=cases a S:=by
 have hop:∀ j:Nat,9 - 8≤j→j<9→cl opened j = -1:=by
  intro j h1 h2;obtain rfl|rfl|rfl|rfl|rfl|rfl|rfl|rfl:j=1∨j=2∨j=3∨j=4∨j=5∨j=6∨j=7∨j=8:=by omega
  all_goals rfl
 have hcl:∀ j:Nat,j<9 - 8→S.testBit j=true→0≤cl opened j:=by
  intro j h1 _;obtain rfl:j=0:=by omega
  decide
 rw[seek_eq hf hx hS 8 opened (by omega) rfl hop hcl];unfold cases
 congr 1
 show _=(if S.testBit 0 then _ else _);rw[if_pos h0];show _=(List.range 1).flatMap _;rw[show List.range 1=[0] from rfl];simp only[List.flatMap_cons,List.flatMap_nil,List.append_nil];rw[if_neg (by omega)];refine gen_congr S 8 (zeros.set 0 0) opened (by omega) rfl rfl fun j h1 h2=>?_;obtain rfl:j=0:=by omega
 rfl
end
theorem Asn.valid_ok {a:Asn} (h:a.valid=true):FactsOk a.facts∧AtomsOk a.atoms:=by
 simp only[Asn.valid,factsValid,Bool.and_eq_true,List.all_eq_true] at h;refine ⟨fun f hf=>?_,fun x hx=>?_⟩
 ·have:=h.1.2 f hf;simp[Fct.valid,jq] at this;omega
 ·have:=h.2.2 x hx;simp[Atm.valid,jq] at this;omega
def freeAt (atoms:List Atm) (used:List Bool) (c:Int) (k:Nat):Bool:=decide (((atoms[k]?).getD default).a=c) && !((used[k]?).getD true)
def findU (atoms:List Atm) (used:List Bool) (c:Int):Option Nat:=(List.range atoms.length).find? (freeAt atoms used c)
def closedB (atoms:List Atm) (b:Int):Bool:=decide (b=0) || atoms.any fun x=>decide (x.a=b)
def chainF (atoms:List Atm) (b:Int):Nat→List Bool→Int→Option (List Bool)
 | 0,_,_=>none
 | n+1,used,c=>(findU atoms used c).bind fun k=>
   if ((atoms[k]?).getD default).b=b then some (used.set k true)
   else if ((atoms[k]?).getD default).kind=2∧closedB atoms b=false then none
   else chainF atoms b n (used.set k true) ((atoms[k]?).getD default).b
def useOne (atoms:List Atm) (used:List Bool) (x:Atm):Option (List Bool):=
 if x.kind=1 then (findU atoms used x.a).bind fun k=>if (atoms[k]?).getD default=x then some (used.set k true) else none
 else chainF atoms x.b (atoms.length+1) used x.a
def matchF (atoms:List Atm):List Bool→List Atm→Option (List Bool)
 | used,[]=>some used
 | used,x :: xs=>(useOne atoms used x).bind fun u=>matchF atoms u xs
def matchB (atoms goal:List Atm):Bool:=match matchF atoms (List.replicate atoms.length false) goal with|some u=>u.all id|none=>false
def entB (a b:Asn) (c:List Int):Bool:=b.facts.all (Fct.fits c)&&matchB (filledL a.atoms c) (filledL b.atoms c)
theorem range_find_some {n k:Nat} {p:Nat→Bool} (hk:k<n) (hp:p k=true) (hb:∀ j,j<k→p j=false):(List.range n).find? p=some k:=by
 rw[List.find?_range_eq_some];refine ⟨hp,by simpa using hk,fun j hj=>by simp[hb j hj]⟩
theorem range_find_none {n:Nat} {p:Nat→Bool} (hb:∀ j,j<n→p j=false):(List.range n).find? p=none:=by
 rw[List.find?_eq_none];intro j hj;rw[List.mem_range] at hj;simp[hb j hj]
theorem findU_some {atoms:List Atm} {used:List Bool} {c:Int} {k:Nat} (h:findU atoms used c=some k):k<atoms.length∧freeAt atoms used c k=true:=by
 unfold findU at h;have h1:=List.mem_of_find?_eq_some h;exact ⟨by simpa using h1,List.find?_some h⟩
theorem freeAt_used {atoms:List Atm} {used:List Bool} {c:Int} {k:Nat} (h:freeAt atoms used c k=true):k<used.length∧used[k]? = some false:=by
 unfold freeAt at h
 cases e:used[k]? with
 | none=>rw[e] at h;simp at h
 | some u=>
  rw[e] at h;have:=(List.getElem?_eq_some_iff.1 e).1;cases u
  ·exact ⟨this,rfl⟩
  ·simp at h
theorem count_take {used:List Bool} {k:Nat} (h:used[k]? = some false):(used.set k true).count true=used.count true+1:=by
 induction used generalizing k with
 | nil=>simp at h
 | cons u us ih=>
  cases k with
  | zero=>simp at h;subst h;simp
  | succ k=>
   simp only[List.set_cons_succ,List.count_cons];rw[ih (by simpa using h)];omega
theorem count_all {used:List Bool}:(used.count true=used.length)↔used.all id=true:=by
 induction used with
 | nil=>simp
 | cons u us ih=>
  have:=List.count_le_length (a:=true) (l:=us);cases u
  ·simp;omega
  ·simp only[List.count_cons,beq_self_eq_true,if_true,List.length_cons,List.all_cons,id_eq,Bool.true_and];rw[←ih];omega
theorem chainF_len {atoms:List Atm} {b:Int}:∀ (n:Nat) (used:List Bool) (c:Int) (u:List Bool),chainF atoms b n used c=some u→u.length=used.length:=by
 intro n
 induction n with
 | zero=>intro used c u h;cases h
 | succ n ih=>
  intro used c u h;unfold chainF at h;rw[Option.bind_eq_some_iff] at h;obtain ⟨k,hk,h⟩:=h
  split at h
  ·cases h;simp
  ·split at h
   ·cases h
   ·rw[ih _ _ _ h];simp
theorem useOne_len {atoms:List Atm} {used:List Bool} {x:Atm} {u:List Bool} (h:useOne atoms used x=some u):u.length=used.length:=by
 unfold useOne at h
 split at h
 ·rw[Option.bind_eq_some_iff] at h;obtain ⟨k,hk,h⟩:=h
  split at h
  ·cases h;simp
  ·cases h
 ·exact chainF_len _ _ _ _ h
end
section
open Go Go.RowKit Go.Proofs
def idxL (fl:List Bool) (k:Nat):List Int:=((List.range k).filter fun n=>fl.getD n false).map fun n:Nat=>(n:Int)
theorem idxL_succ (fl:List Bool) (k:Nat):idxL fl (k+1)=idxL fl k++if fl.getD k false then [(k:Int)] else []:=by
 unfold idxL;rw[List.range_succ,List.filter_append,List.map_append,List.filter_cons,List.filter_nil];cases fl.getD k false<;>rfl
theorem idxL_length (fl:List Bool) (k:Nat):(idxL fl k).length≤k:=by
 unfold idxL;rw[List.length_map];exact Nat.le_trans (List.length_filter_le _ _) (by simp)
theorem c_spec_l3List {lo hi:Nat} (A:Option Addr) (c:Nat) (fl:List Bool) (w:World) (h:BoolsV w lo hi A fl) (hl9:fl.length≤9):Calls Tryz.prog 84 #[.slice A fl.length c] w fun e w'=>∃ r,e=.returned r∧IntsO w' w.heap.size r (idxL fl fl.length)∧Below w.heap.size w w':=by
 (go_enter Tryz.func84,Tryz.ntmps84);go_wp2
 go_loopw [3,4] (fun o i wr=>∃ (k:Nat) (A:Option Addr) (c:Nat),k≤fl.length∧i=.int .i64 k∧o=.slice A (idxL fl k).length c∧IntsO wr w.heap.size (.slice A (idxL fl k).length c) (idxL fl k)∧Below w.heap.size w wr) (fun _ i _=>fl.length - (intOf i).toNat)
 case atStart=>exact ⟨0,_,_,by omega,rfl,rfl,IntsO.empty w rfl,bel⟩
 case round=>
  obtain ⟨k,A,c,hk,rfl,rfl,hO,hB⟩:=hrel;have hlen:=idxL_length fl k;by_cases h8:k<fl.length
  ·obtain ⟨b,off,rfl,c0⟩:=(h.bz hB).at h8;have HC:=ax (idxL_succ fl k);have hg:fl.getD k false=fl[k]:=by simp[h8]
   cases ht:fl[k]
   ·have HG:=ax (hg.trans ht);rw[ht] at c0;clear ht hg;(go_wp2_with fail)
    go_round
    case rel=>
     have e:idxL fl (k+1)=idxL fl k:=by rw[HC.o,HG.o];simp
     exact ⟨k+1,A,c,by omega,by go_num,by rw[e],by rw[e];exact hO,hB⟩
    case measure=>simp[intOf];omega
   ·have HG:=ax (hg.trans ht);rw[ht] at c0;clear ht hg;(go_wp2_with (at_builtin;refine appI rfl _ _ rfl (v:=.slice A (idxL fl k).length c) rfl (hO.abv (Abv.alloc (Abv.refl 0 _) _) (Nat.zero_le _)) wr.heap.size _ rfl (cell_box wr _ _) (by omega) (by simp;have:=hB.size;omega) ?_;intro g' c' w2 hO2 hg2 hB3))
    go_round
    case rel=>
     have e:idxL fl (k+1)=idxL fl k++[(k:Int)]:=by rw[HC.o,HG.o];simp
     exact ⟨k+1,some ⟨g',0,none⟩,c',by omega,by go_num,by rw[e,List.length_append];rfl,by rw[e];simpa using hO2,Below.trans (bbox hB _) hB3⟩
    case measure=>simp[intOf];omega
  ·obtain rfl:k=fl.length:=by omega
   go_wp2;go_ret;exact ⟨_,rfl,hO,hB⟩
def zj (S:Nat):List Bool:=(List.range 9).map fun i=>S.testBit i
theorem zjB (S:Nat):(zj S).length=9:=by simp[zj]
theorem flagsOf_get (S k:Nat) (hk:k<9):(zj S)[k]? = some (S.testBit k):=by simp[zj,hk]
theorem flagsOf_set (S n:Nat):(zj S).set n true=zj (S|||1 <<< n):=by
 apply List.ext_getElem?;intro j;simp only[zj,List.getElem?_set,List.getElem?_map,List.length_map,List.length_range];by_cases hj:j<9
 ·rw[List.getElem?_range hj];simp only[Option.map_some,Nat.testBit_or,Nat.one_shiftLeft,Nat.testBit_two_pow];by_cases e:n=j
  ·subst e;simp[hj]
  ·simp[e]
 ·rw[List.getElem?_eq_none (by simp;omega)];by_cases e:n=j
  ·subst e;simp[hj]
  ·simp[e]
theorem flags_cell (S:Nat) (cs:Array Value) (he:cs=(encB (zj S)).toArray) {k:Nat} (hk:k<9):cs[k]? = some (.bool (S.testBit k)):=by
 subst he;simp[encB,flagsOf_get S k hk]
theorem flags_upd (S n:Nat):((encB (zj S)).toArray).setIfInBounds n (.bool true)=(encB (zj (S|||1 <<< n))).toArray:=by
 rw[←flagsOf_set,encB,encB,List.map_set];simp
end
section
open Go Go.RowKit
def swp (x y t:Int):Int:=if t=x then y else t
def Fct.sub (x y:Int) (f:Fct):Fct:=⟨f.eq,swp x y f.a,swp x y f.b⟩
def Atm.sub (x y:Int) (f:Atm):Atm:=⟨f.kind,swp x y f.a,swp x y f.b⟩
def substA (x y:Int) (a:Asn):Asn:=⟨a.facts.map (Fct.sub x y),a.atoms.map (Atm.sub x y)⟩
def logB (t:Int):Bool:=decide (4<t∧t≤8)
def free (K:Nat) (t:Int):Bool:=logB t && !K.testBit t.toNat
def left (K:Nat) (a:Asn):List Nat:=(List.range 9).filter fun n=>free K (n:Int)&&decide ((n:Int)∈mz a)
theorem termsL_facts {a:Asn} {f:Fct} (h:f∈a.facts):f.a∈mz a∧f.b∈mz a:=by
 simp only[mz,List.mem_append,List.mem_flatMap];exact ⟨Or.inl ⟨f,h,by simp[factT]⟩,Or.inl ⟨f,h,by simp[factT]⟩⟩
def nfF (f:Fct):Fct:=if f.b<f.a then ⟨f.eq,f.b,f.a⟩ else f
def nfStep (acc:List Fct) (f:Fct):List Fct:=if f.eq&&(f.a == f.b) then acc else if acc.contains (nfF f) then acc else acc++[nfF f]
def nfA (x:Atm):Bool:=x.kind != 2 || x.a != x.b
def normalF (a:Asn):Asn:=⟨a.facts.foldl nfStep [],a.atoms.filter nfA⟩
end
end Go.Proofs.YtjaohekkmlkinaaGreat
