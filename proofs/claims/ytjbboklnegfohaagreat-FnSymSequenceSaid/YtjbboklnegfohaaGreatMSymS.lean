/- Symbolic execution: impl.SymBasic. Printed by genSymM.py. -/
import Derived.Test.YtjbboklnegfohaaGreatMSymL
import Derived.BigQuiet
import Derived.Deep.QuietTactic
import Derived.Deep.DeepCutAuto
import Derived.IntWalk
set_option linter.unusedSimpArgs false
set_option linter.unusedVariables false
set_option maxRecDepth 100000
set_option maxHeartbeats 25600000
namespace Go.Proofs.YtjbboklnegfohaaGreat
open List (getElem_mem getElem_set length_append length_cons length_map length_set length_take range take_length)
section
open Go Go.RowKit Go.Proofs
attribute [local go_sem ↓] Go.wp_at_zero Go.wp_at_succ
def Me(k A B:Int)(t:aF)(i:au)(body els:ay):Bool:=iC t i body els&&fieldsB k A B
theorem vN{k A B:Int}{t:aF}{i:au}{body els:ay}(h:Me k A B t i body els=true):jq A=true/\jq B=true/\(1<=k/\k<=5):=by
 unfold Me fieldsB at h;rw[Bool.and_eq_true] at h;have hp:∀x,iF x=true->jq x=true:=fun x hx=>by simp[iF] at hx;simp[jq];omega
 have h0:jq 0=true:=by decide
 have h2:=h.2
 split at h2
 ·rw[Bool.and_eq_true] at h2;exact⟨hp _ h2.1,h2.2,by omega⟩
 ·split at h2
  ·rw[Bool.and_eq_true] at h2;exact⟨h2.1,h2.2,by omega⟩
  ·split at h2
   ·rw[Bool.and_eq_true,decide_eq_true_eq] at h2;exact⟨hp _ h2.1,by rw[h2.2];exact h0,by omega⟩
   ·split at h2
    ·rw[Bool.and_eq_true,decide_eq_true_eq] at h2;exact⟨h2.1,by rw[h2.2];exact h0,by omega⟩
    ·cases h2
end
section
open Go Go.RowKit Go.Proofs
def aF.neg(f:aF):aF:=⟨!f.eq,f.a,f.b⟩
def dS(C:au->Int×List au):List au->List au->Int×List au
 | [],acc=>(0,acc)
 | a :: xs,acc=>if (C a).1≠0 then ((C a).1,[]) else if 24<acc.length+(C a).2.length then (1,[]) else dS C xs (acc++(C a).2)
def DJ(a:au)(f:aF)(B:List au->Int×List au)(acc:List au):Int×List au:=
 if (cK a f).valid then (if dE (cK a f) then (if (B [cK a f]).1≠0 then ((B [cK a f]).1,[]) else (0,acc++(B [cK a f]).2)) else (0,acc)) else (1,[])
def DK(a:au)(t:aF)(B E:List au->Int×List au):Int×List au:=if (DJ a t B []).1≠0 then DJ a t B [] else DJ a t.neg E (DJ a t B []).2
def uF(i:au)(t:aF)(B:List au->Int×List au):Bool:=
 (cK i t).valid&&(!dE (cK i t) || (decide ((B [cK i t]).1=0)&&(B [cK i t]).2.all fun p=>mU p i))
def rY(C:Nat)(g:aF):Bool:=!C.testBit g.a.toNat && !C.testBit g.b.toNat
def DL(a i:au)(t:aF)(C:Nat)(f:au):au:=⟨(a.facts.filter (rY C)++i.facts)++[t.neg],i.atoms++f.atoms⟩
def iW(a i:au)(t:aF)(C:Nat)(B:List au->Int×List au):Int×au:=
 match iP a i with
 | none=>(3,⟨[],[]⟩)
 | some f=>if aO (mz f) &&& C≠0 then (3,⟨[],[]⟩) else if uF i t B then (if (DL a i t C f).valid then (0,DL a i t C f) else (1,⟨[],[]⟩)) else (4,⟨[],[]⟩)
def xY(K:Nat)(k A B:Int)(a:au):Int×List au:=
 match eH a k A B (fo K A B) with
 | none=>(1,[])
 | some l=>(0,l.map (bL K))
def uG(lp:Bool)(K:Nat)(a i:au)(t:aF)(C:Nat)(B:List au->Int×List au):Int×List au:=
 if lp then (if (iW a i t C B).1≠0 then ((iW a i t C B).1,[]) else (0,[bL K (iW a i t C B).2])) else (1,[])
def pz(lp:Bool)(K:Nat)(k A B:Int)(t:aF)(i:au)(C:Nat)(BX EX:List au->Int×List au)(a:au):Int×List au:=
 if k=6 then DK a t BX EX else if k=7 then uG lp K a i t C BX else xY K k A B a
def ay.exe(lp:Bool)(K:Nat):ay->List au->Int×List au
 | .nil,now=>(0,now)
 | .cons k a b t i body els r,now=>
  if (dS (pz lp K k a b t i (body.fold oW 0) (body.exe lp K) (els.exe lp K)) now []).1≠0 then (dS (pz lp K k a b t i (body.fold oW 0) (body.exe lp K) (els.exe lp K)) now [])
  else r.exe lp K (dS (pz lp K k a b t i (body.fold oW 0) (body.exe lp K) (els.exe lp K)) now []).2
structure iD (n:Nat) (q:Int×List au):Prop where
 code:0<=q.1/\q.1<=4
 nil:q.1≠0->q.2=[]
 len:q.2.length<=n
 ok:∀b∈q.2,b.valid=true
theorem iD.err{n:Nat}{c:Int}(h:0<=c/\c<=4):iD n (c,[]):=⟨h,fun _=>rfl,Nat.zero_le _,fun _ h=>by cases h⟩
theorem iD.mono{n m:Nat}{q:Int×List au}(h:iD n q)(e:n<=m):iD m q:=⟨h.code,h.nil,Nat.le_trans h.len e,h.ok⟩
theorem FO{C:au->Int×List au}(hC:∀a:au,a.valid=true->iD 128 (C a)):∀(xs acc:List au),(∀a∈xs,a.valid=true)->(∀a∈acc,a.valid=true)->acc.length<=24->iD 24 (dS C xs acc)
 | [],acc,_,h2,h3=>⟨by simp[dS],fun _=>by simp[dS] at*,h3,h2⟩
 | a :: xs,acc,h1,h2,h3=>by
  have hc:=hC a (h1 a List.mem_cons_self);unfold dS
  split
  ·exact iD.err hc.code
  split
  ·exact iD.err (by decide)
  ·refine FO hC xs _ (fun b hb=>h1 b (List.mem_cons_of_mem _ hb)) (fun b hb=>?_) (by simp;omega);rcases List.mem_append.1 hb with hb|hb
   ·exact h2 b hb
   ·exact hc.ok b hb
theorem J3{a:au}{f:aF}{B:List au->Int×List au}{acc:List au}{n:Nat}(hB:∀x:au,x.valid=true->iD 24 (B [x]))(h2:∀b∈acc,b.valid=true)(hl:acc.length<=n):iD (n+24) (DJ a f B acc):=by
 unfold DJ
 split
 ·rename_i hv;have hb:=hB _ hv
  split
  ·split
   ·exact iD.err hb.code
   ·refine⟨by simp,fun h=>absurd rfl h,by simp;have:=hb.len;omega,fun x hx=>?_⟩;rcases List.mem_append.1 hx with hx|hx
    ·exact h2 x hx
    ·exact hb.ok x hx
  ·exact⟨by simp,fun h=>absurd rfl h,by simp;omega,h2⟩
 ·exact iD.err (by decide)
theorem SG{a:au}{t:aF}{B E:List au->Int×List au}(hB:∀x:au,x.valid=true->iD 24 (B [x]))(hE:∀x:au,x.valid=true->iD 24 (E [x])):iD 48 (DK a t B E):=by
 have h1:=J3 (a:=a) (f:=t) (acc:=[]) (n:=0) hB (fun _ h=>by cases h) (Nat.le_refl _);unfold DK
 split
 ·exact h1.mono (by omega)
 ·exact J3 (n:=24) hE h1.ok (by have:=h1.len;omega)
theorem FP{a i:au}{t:aF}{C:Nat}{B:List au->Int×List au}:(0<=(iW a i t C B).1/\(iW a i t C B).1<=4)/\((iW a i t C B).1=0->(iW a i t C B).2.valid=true)/\((iW a i t C B).1≠0->(iW a i t C B).2=⟨[],[]⟩):=by
 unfold iW
 split
 ·exact⟨by simp,by simp,by simp⟩
 ·split
  ·exact⟨by simp,by simp,by simp⟩
  ·split
   ·split
    ·rename_i h;exact⟨by simp,fun _=>h,by simp⟩
    ·exact⟨by simp,by simp,by simp⟩
   ·exact⟨by simp,by simp,by simp⟩
theorem Qa{K:Nat}{k A B:Int}{a:au}(hv:a.valid=true)(hB:k=3->jq B=true):iD 128 (xY K k A B a):=by
 unfold xY
 split
 ·exact iD.err (by decide)
 ·rename_i l h;obtain⟨h1,h2⟩:=yJ hv hB h;refine⟨by simp,fun h=>absurd rfl h,by simpa using h1,fun b hb=>?_⟩;obtain⟨c,hc,rfl⟩:=List.mem_map.1 hb;exact zY (h2 c hc)
theorem DN{lp:Bool}{K:Nat}{k A B:Int}{t:aF}{i:au}{C:Nat}{BX EX:List au->Int×List au}(hB:∀x:au,x.valid=true->iD 24 (BX [x]))(hE:∀x:au,x.valid=true->iD 24 (EX [x]))(hk:k=3->jq B=true){a:au}(hv:a.valid=true):iD 128 (pz lp K k A B t i C BX EX a):=by
 unfold pz
 split
 ·exact(SG hB hE).mono (by omega)
 split
 ·unfold uG;obtain⟨h1,h2,-⟩:=FP (a:=a) (i:=i) (t:=t) (C:=C) (B:=BX)
  split
  ·split
   ·exact iD.err h1
   ·rename_i hq;refine⟨by simp,fun h=>absurd rfl h,by simp,fun b hb=>?_⟩;obtain rfl:=List.mem_singleton.1 hb;exact zY (h2 (by omega))
  ·exact iD.err (by decide)
 ·exact Qa hv hk
theorem lL{k a b:Int}{t:aF}{i:au}{body els:ay}(h:dK k a b t i body els=true)(hk:k=3):jq b=true:=by
 subst hk;rw[jM (by decide) (by decide)] at h;have hok:Me 3 a b t i body els=true:=h;exact(vN hok).2.1
theorem ay.DR{lp:Bool}{K:Nat}:∀(L:ay) (d:Nat) (now:List au),L.shape d=true->(∀a∈now,a.valid=true)->now.length<=24->iD 24 (L.exe lp K now)
 | .nil,_,now,_,h1,h2=>⟨by simp[ay.exe],fun h=>by simp[ay.exe] at h,h2,h1⟩
 | .cons k a b t i body els r,d,now,hs,h1,h2=>by
  simp only[ay.shape,Bool.and_eq_true,decide_eq_true_eq] at hs;obtain⟨-,hf,hb,he,hr⟩:=hs;have hB:∀x:au,x.valid=true->iD 24 (body.exe lp K [x]):=fun x hx=>ay.DR body _ [x] hb (fun y hy=>by obtain rfl:=List.mem_singleton.1 hy;exact hx) (by simp);have hE:∀x:au,x.valid=true->iD 24 (els.exe lp K [x]):=fun x hx=>ay.DR els _ [x] he (fun y hy=>by obtain rfl:=List.mem_singleton.1 hy;exact hx) (by simp);have h3:=FO (C:=pz lp K k a b t i (body.fold oW 0) (body.exe lp K) (els.exe lp K)) (fun x hx=>DN hB hE (lL hf) hx) now [] h1 (fun _ h=>by cases h) (by simp);simp only[ay.exe]
  split
  ·exact h3
  ·exact ay.DR r d _ hr h3.ok h3.len
theorem ay.lv{lp:Bool}{K:Nat}{L:ay}{d:Nat}(hs:L.shape d=true){x:au}(hx:x.valid=true):iD 24 (L.exe lp K [x]):=ay.DR L d [x] hs (fun y hy=>by obtain rfl:=List.mem_singleton.1 hy;exact hx) (by simp)
theorem IJ{n:Nat}{l:List au}(hl:l.length<=n)(hn:n<=200)(h:∀b∈l,b.valid=true):qZ l<=16777216:=by
 have:=Dv (n:=12) (m:=6) (ss:=l) fun s hs=>tT (h s hs);omega
theorem rZ{a:au}{t:aF}:(cK a t.neg).valid=(cK a t).valid:=by
 have h1:(a.facts++[t.neg]).all aF.valid=(a.facts++[t]).all aF.valid:=by rw[List.all_append,List.all_append];rfl
 have h2:(a.facts++[t.neg]).length=(a.facts++[t]).length:=by simp
 unfold cK au.valid aS;rw[h1,h2]
end
section
open Go Go.RowKit
/-! the filled atoms stay the same -/
/-! Us atoms VR themselves -/
/-! no further terms -/
def gZ(a:au):List Int:=if a.valid then ((range 9).filter fun n=>(aO (mz a)).testBit n).map fun n:Nat=>(n:Int) else []
theorem FQ{a:au}(hv:a.valid=true){s:Int}:s∈gZ a↔∃n:Nat,n<9/\(aO (mz a)).testBit n=true/\(n:Int)=s:=by
 unfold gZ;rw[if_pos hv];simp[and_assoc]
end
section
open Go Go.RowKit Go.Proofs
end
section
open Go Go.RowKit Go.Proofs
attribute [local go_sem ↓] Go.wp_at_zero Go.wp_at_succ
theorem rq{lo hi:Nat}(v:Value)(a:au)(w:World)(h:aM w lo hi v a) :
  Calls Tryz.prog 9 #[v] w fun e w'=>∃r,e=.returned r/\aD w' w.heap.size r (gZ a)/\Below w.heap.size w w':=by
 have hV:=ax h;obtain⟨A1,c1,A2,c2,rfl,-,-⟩:=h;(go_enter Tryz.func9,Tryz.ntmps9);have k0:ae (w.alloc (.cells #[.slice A1 a.facts.length c1,.slice A2 a.atoms.length c2] aC)) w.heap.size aC #[.slice A1 a.facts.length c1,.slice A2 a.atoms.length c2]:=az;(go_wp2_with fail);refine(jz _ a _ (hV.o.bz aj)).mono ?_;rintro e w1 ⟨rfl,hB1⟩;have hB:Below w.heap.size w w1:=aP (w:=w) aj hB1;replace k0:=k0.nz hB1;(replace bT:=k0.z);clear hB1;have hz:=hB.size;cases ha:a.valid
 ·have E:aJ (gZ a=[]):=by show _=_;simp[gZ,ha]
  clear ha;go_wp2;go_ret;exact⟨_,rfl,by rw[E.o];exact aD.nil _ _,aj⟩
 ·have E:aJ (gZ a=dw (aO (mz a)) 9):=by show _=_;simp[gZ,ha,dw]
  clear ha;(go_wp2_with fail);refine(di _ a _ (hV.o.bz hB)).mono ?_;rintro e w2 ⟨rfl,hB2⟩;replace hB:=aP hB hB2;replace k0:=k0.nz hB2;clear hB2;(go_wp2_with fail);refine(qN (aO (mz a)) _ (dI _)).mono ?_;rintro e w3 ⟨r,rfl,o3,hB3⟩;have O3:=ax (o3.bq hB.size);replace hB:=aP hB hB3;clear hB3 o3 k0 bT;go_wp2;go_ret;exact⟨r,rfl,by rw[E.o];exact O3.o,hB⟩
end
section
open Go Go.RowKit Go.Proofs
def ay.marks:ay->Nat
 | .nil=>0
 | .cons _ _ _ _ i body els r=>6+3 * i.facts.length+3 * i.atoms.length+body.marks+els.marks+r.marks
end
section
open Go Go.RowKit Go.Proofs Go.ChangeShapes Go.WideShapes Go.ChangeAt Go.Deep
section
variable{H:Type}{enc:TypeId×Value->H}{w:World}{base:Nat}{spare:Nat->Bool}{held:Bool}
end
end
section
open Go Go.RowKit Go.Proofs
def tN(w:World)(lo hi:Nat)(A:Option Addr)(L:ay):Prop:=bH w lo hi A L/\L.len+L.cost<=1048576
section
variable{w w':World}{lo hi bJ hi' a b:Nat}{v:Value}{A:Option Addr}{L:ay}
theorem tN.bz(h:tN w lo hi A L)(hb:Below w.heap.size w w'):tN w' lo hi A L:=⟨h.1.bz hb,h.2⟩
theorem tN.mono(h:tN w lo hi A L)(e1:bJ<=lo)(e2:hi<=hi'):tN w bJ hi' A L:=⟨h.1.mono e1 e2,h.2⟩
theorem tN.len(h:tN w lo hi A L):L.len<=1049600:=by have:=h.2;omega
theorem tN.small(h:tN w lo hi A L):L.small 1049600:=ay.mZ (by have:=h.2;omega)
theorem tN.sz(h:tN w lo hi A L):L.sz<=1049600:=by have:=h.2;have:=ay.yK L;omega
end
section
variable{w w':World}{lo hi bJ hi' a b:Nat}{v:Value}{A:Option Addr}{L:ay}
end
end
section
open Go Go.RowKit Go.Proofs
attribute [local go_sem ↓] Go.wp_at_zero Go.wp_at_succ
structure SH where
 k:Int
 a:Int
 b:Int
 t:aF
 i:au
 body:ay
 els:ay
def SH.cost(x:SH):Nat:=Vf x.i x.body x.els
def SH.marks(x:SH):Nat:=3 * x.i.facts.length+3 * x.i.atoms.length+x.body.marks+x.els.marks
section
variable{w w':World}{lo hi bJ hi' a b:Nat}{v:Value}{x:SH}
end
end
section
open Go Go.RowKit Go.Proofs
def jf(a:au)(L:ay)(ks:List Int):Nat:=(aO ks|||lG (aO (mz a)))|||lG (L.fold Dx 0)
def pE(a:au)(L:ay)(ks:List Int):Option (List au):=if a.valid&&L.prog then (if (L.exe false (jf a L ks) [a]).1=0 then some (L.exe false (jf a L ks) [a]).2 else none) else none
def SH.one(x:SH):ay:=.cons x.k x.a x.b x.t x.i x.body x.els .nil
theorem FR(a:au)(L:ay)(ks:List Int):jf a L ks<512:=
 Nat.or_lt_two_pow (n:=9) (Nat.or_lt_two_pow (n:=9) (dI _) (sS (dI _))) (sS (ay.gD (fun S k a b t i h=>uA h k a b t i) L (by decide)))
theorem yP{L:ay}(h:L.prog=true):L.shape 4=true/\L.sz<=16:=by
 unfold ay.prog at h;rw[Bool.and_eq_true,decide_eq_true_eq] at h;exact h
theorem yQ{lp:Bool}{a:au}{L:ay}{K:Nat}(hv:a.valid=true)(hp:L.prog=true):iD 24 (L.exe lp K [a]):=ay.lv (yP hp).1 hv
theorem FT(a:au)(L:ay)(ks:List Int):((pE a L ks).getD []).length<=24/\∀b∈(pE a L ks).getD [],b.valid=true:=by
 unfold pE
 split
 ·rename_i h;rw[Bool.and_eq_true] at h;have:=yQ (lp:=false) (K:=jf a L ks) h.1 h.2
  split
  ·exact⟨this.len,this.ok⟩
  ·exact⟨Nat.zero_le _,fun _ h=>by cases h⟩
 ·exact⟨Nat.zero_le _,fun _ h=>by cases h⟩
theorem FU(a:au)(L:ay)(ks:List Int):qZ ((pE a L ks).getD [])<=16777216:=IJ (FT a L ks).1 (by decide) (FT a L ks).2
end
section
open Go Go.RowKit Go.Proofs
attribute [local go_sem ↓] Go.wp_at_zero Go.wp_at_succ
def Au(w:World)(A:Option Addr)(ss:List au):Prop:=∀(k:Nat) (_:k<ss.length),∃b o B c D d,A=some ⟨b,o,none⟩/\b<w.heap.size/\w.cell? ⟨b,o+k*2,none⟩=some (.slice B ss[k].facts.length c)/\w.cell? ⟨b,o+k*2+1,none⟩=some (.slice D ss[k].atoms.length d)/\eB w 0 w.heap.size (.agg #[.slice B ss[k].facts.length c,.slice D ss[k].atoms.length d]) ss[k]
theorem eB.Ah{w:World}{lo hi:Nat}{v:Value}{a:au}(h:eB w lo hi v a)(hh:hi<=w.heap.size):eB w 0 w.heap.size v a:=by
 obtain⟨A1,c1,A2,c2,e,h1,h2,h3⟩:=h;exact⟨A1,c1,A2,c2,e,h1.mono dJ hh,h2.mono dJ hh,h3⟩
theorem Au.bz{w w':World}{A:Option Addr}{ss:List au}(h:Au w A ss)(hb:Below w.heap.size w w'):Au w' A ss:=fun k hk=>by
 obtain⟨b,o,B,c,D,d,e,lb,g0,g1,hC⟩:=h k hk;exact⟨b,o,B,c,D,d,e,Nat.lt_of_lt_of_le lb hb.size,(hb.cell (p:=⟨b,_,none⟩) lb).trans g0,(hb.cell (p:=⟨b,_,none⟩) lb).trans g1,(hC.bz hb).Ah hb.size⟩
theorem bg.now{w:World}{base n c:Nat}{A:Option Addr}{vs:List Value}{ss:List au}(h:bg w base (.slice A n c) vs ss):Au w A ss:=fun k hk=>by
 obtain⟨b,o,B,c,D,d,e,lb,g0,g1,hC⟩:=h.Xw hk;exact⟨b,o,B,c,D,d,e,lb,g0,g1,hC.Ah bn⟩
theorem Au.one{w:World}{g:Nat}{s1 s2:Value}{s:au}(hk:ae w g aC #[s1,s2])(h:eB w 0 w.heap.size (.agg #[s1,s2]) s):Au w (some ⟨g,0,none⟩) [s]:=fun k hk1=>by
 have e:k=0:=by simp at hk1;exact hk1
 subst e;have h':=h;obtain⟨A1,c1,A2,c2,ev,-⟩:=h';injection ev with ev;injection ev with ev;injection ev with ev1 ZR;injection ZR with ZR;subst ev1;subst ZR;exact⟨g,0,A1,c1,A2,c2,rfl,hk.lt,by rw[hk.cell];rfl,by rw[hk.cell];rfl,h⟩
theorem Cv:∀(ss:List au) (j:Nat) (s:au),j<ss.length->bN (ss.set j s)=((bN ss).set (j*2) (.inl s.facts)).set (j*2+1) (.inr s.atoms)
 | x :: ss,0,s,_=>by simp[bN]
 | x :: ss,j+1,s,h=>by
  have ih:=Cv ss j s (by simpa using h);have e1:bN (x :: ss)=.inl x.facts :: .inr x.atoms :: bN ss:=rfl;have e2:bN ((x :: ss).set (j+1) s)=.inl x.facts :: .inr x.atoms :: bN (ss.set j s):=rfl;rw[e1,e2,ih,show (j+1)*2=j*2+1+1 by omega];rfl
theorem bg.put{w:World}{base n c j:Nat}{A:Option Addr}{vs:List Value}{ss:List au}(h:bg w base (.slice A n c) vs ss)(hj:j<ss.length):∃g,A=some ⟨g,0,none⟩/\base<=g/\(∃cur,ae w g aC cur/\j*2+1<cur.size)/\
  ∀(s1 s2:Value) (s:au) (mid:Nat),aI w mid (.agg #[s1,s2]) s->base<=mid->(∀(k:Nat) (hk:k<vs.length),Bw vs[k] mid)->bg ((w.setCell ⟨g,j*2,none⟩ s1).setCell ⟨g,j*2+1,none⟩ s2) base (.slice A n c) ((vs.set (j*2) s1).set (j*2+1) s2) (ss.set j s):=by
 have hlen:=h.els.len;have hrl:=sQ ss;obtain⟨hl,h2⟩:=h.row;rcases h2 with ⟨e,hn⟩|⟨g,cap,cur,e,hb,hh,hn,hm,hs,ht⟩
 ·omega
 ·injection e with e1 e2 e3;subst e1 e2 e3;have hK:ae w g aC cur:=hh
  have hP:Pre cur vs (ss.length * 2):=by
   intro i hi;rw[<-ht,List.getElem?_take,if_pos hi];simp
  have hsz:ss.length * 2<=cur.size:=by rw[hs];exact Nat.mul_le_mul hn bn
  refine⟨g,rfl,hb,⟨cur,hK,by omega⟩,fun s1 s2 s mid hS Xr hU=>?_⟩;have ers:=Cv ss j s hj;have hK1:=hK.ag (j*2) s1;refine⟨?_,by rw[length_set];exact h.lim,⟨?_,fun k k1 k2=>?_,fun i k hi hk hik x hx1 hx2=>?_⟩⟩
  ·rw[length_set];refine ed (hK1.ag (j*2+1) s2) hb (by simp[hl]) ?_ hn hm (by simpa using hs);have hP1:=hP.Hm (j*2) s1 hsz (by omega);exact hP1.Hm (j*2+1) s2 (by simpa using hsz) (by simp;omega)
  ·rw[ers];simp[hlen]
  ·obtain⟨_,_,e,n1,n2⟩:=hS;injection e with e;injection e with e;injection e with e1 e2;injection e2 with e2 e3;subst e1 e2;have n1':gY w base s1 (.inl s.facts):=gY.bq (show gY w mid s1 (.inl s.facts) from n1) Xr;have n2':gY w base s2 (.inr s.atoms):=gY.bq (show gY w mid s2 (.inr s.atoms) from n2) Xr;have up:∀ {u:Value} {r:om},gY w base u r->gY ((w.setCell ⟨g,j*2,none⟩ s1).setCell ⟨g,j*2+1,none⟩ s2) base u r:=fun hu=>(hu.aA hK (by decide) (by decide) _ _).aA hK1 (by decide) (by decide) _ _;simp only[length_set] at k1;have k2':k<(bN ss).length:=by omega
   generalize (w.setCell ⟨g,j*2,none⟩ s1).setCell ⟨g,j*2+1,none⟩ s2=W' at up⊢
   have key:∀(r:om),(bN (ss.set j s))[k]? = some r->gY W' base (((vs.set (j*2) s1).set (j*2+1) s2)[k]'(by simpa using k1)) r:=fun r hr=>by
    rw[ers] at hr;by_cases c2:k=j*2+1
    ·subst c2;rw[List.getElem?_set_self (by simpa using k2')] at hr;obtain rfl:=Option.some.inj hr;rw[List.getElem_set_self];exact up n2'
    ·rw[List.getElem?_set_ne (by omega)] at hr;rw[List.getElem_set_ne (by omega)];by_cases c1:k=j*2
     ·subst c1;rw[List.getElem?_set_self (by simpa using k2')] at hr;obtain rfl:=Option.some.inj hr;rw[List.getElem_set_self];exact up n1'
     ·rw[List.getElem?_set_ne (by omega),List.getElem?_eq_getElem k2'] at hr;rw[List.getElem_set_ne (by omega)];obtain rfl:=Option.some.inj hr;exact up (h.els.at_ k k1 k2')
   exact key _ (List.getElem?_eq_getElem k2)
  ·obtain⟨_,_,e,n1,n2⟩:=hS;injection e with e;injection e with e;injection e with e1 e2;injection e2 with e2 e3;subst e1 e2;have t1:∀y,s1.ownBlock=some y->mid<=y:=fun y hy=>(n1.1.lt y hy).1;have t2:∀y,s2.ownBlock=some y->mid<=y:=fun y hy=>(n2.1.lt y hy).1;simp only[length_set] at hi hk;rw[getElem_set,getElem_set] at hx1 hx2
   have cl:∀(q:Nat) (hq:q<vs.length),(if j*2+1=q then s2 else if j*2=q then s1 else vs[q]).ownBlock=some x->(q=j*2+1/\s2.ownBlock=some x)\/(q=j*2/\s1.ownBlock=some x)\/((q≠j*2+1/\q≠j*2)/\vs[q].ownBlock=some x):=fun q hq hh=>by
    by_cases d2:j*2+1=q
    ·rw[if_pos d2] at hh;exact .inl ⟨d2.symm,hh⟩
    ·rw[if_neg d2] at hh;by_cases d1:j*2=q
     ·rw[if_pos d1] at hh;exact .inr (.inl ⟨d1.symm,hh⟩)
     ·rw[if_neg d1] at hh;exact .inr (.inr ⟨⟨fun e=>d2 e.symm,fun e=>d1 e.symm⟩,hh⟩)
   rcases cl i hi (by simpa only[getElem_set] using hx1) with ⟨a1,b1⟩|⟨a1,b1⟩|⟨a1,b1⟩<;>rcases cl k hk (by simpa only[getElem_set] using hx2) with ⟨a2,b2⟩|⟨a2,b2⟩|⟨a2,b2⟩
   ·omega
   ·omega
   ·have:=hU k hk x b2;have:=t2 x b1;omega
   ·exact own_ne n1.1 n2.1 (by decide) x b1 b2
   ·omega
   ·have:=hU k hk x b2;have:=t1 x b1;omega
   ·have:=hU i hi x b1;have:=t2 x b2;omega
   ·have:=hU i hi x b1;have:=t1 x b2;omega
   ·exact h.els.apart i k hi hk hik x b1 b2
theorem IK(A:Option Addr)(c:Nat)(ss:List au)(w:World)(h:Au w A ss)(hl:ss.length<=1000) :
  Calls Tryz.prog 49 #[.slice A ss.length c] w fun e w'=>∃r vs,e=.returned r/\bg w' w.heap.size r vs ss/\Below w.heap.size w w':=by
 have hmk:=QQ ss.length (by unfold il;omega);have QC:=MX w ss.length (by omega);have HO0:aJ (bg (w.alloc (.cells (madeCells #[.slice none 0 0,.slice none 0 0] (ss.length * 2)) aC)) w.heap.size (.slice (some ⟨w.heap.size,0,none⟩) 0 ss.length) [] []):=ax ⟨QC,by simp[il],gH.nil _ _⟩;have H:=ax h;clear h QC;(go_enter Tryz.func49,Tryz.ntmps49);(go_wp2_with fail)
 go_loopw [3,11] (fun rs i wr=>∃(j:Nat) (R:Option Addr) (r:Nat) (us:List Value),j<=ss.length/\i=.int .i64 j/\rs=.slice R j r/\aJ (bg wr w.heap.size (.slice R j r) us (ss.take j))/\aJ (Below w.heap.size w wr)) (fun _ i _=>ss.length - (intOf i).toNat)
 case atStart=>exact⟨0,some ⟨w.heap.size,0,none⟩,ss.length,[],dJ,rfl,rfl,by rw[List.take_zero];exact HO0,ai aU _⟩
 case round=>
  obtain⟨j,R,r,us,hj,rfl,rfl,HO,HB⟩:=hrel;have xx:=HB.o.size;by_cases hlt:j<ss.length
  ·obtain⟨b,o,P,p,Q,q,rfl,lb,g0,g1,hC⟩:=H.o.bz HB.o j hlt;have HT:aJ (ss.take (j+1)=ss.take j++[ss[j]]):=ax (List.take_succ_eq_append_getElem hlt);obtain⟨s,hs⟩:∃s,s=ss[j]:=⟨_,rfl⟩;rw[<-hs] at g0 g1 hC HT;have HC:=ax hC;have hji:(j:Int)<(ss.length:Int):=by omega
   have HL:aJ ((ss.take j).length=j):=ax (by rw[length_take];omega);clear hs hC;(go_wp2_with fail);refine(cz _ s _ (HC.o.V.bz (ai aU _))).mono ?_;rintro e w2 ⟨r2,rfl,oS,hB2⟩;obtain⟨F,f,G,g,rfl⟩:=oS.I.form;have OS:=ax oS;have hbx:Below wr.heap.size wr (wr.alloc (.cells #[.slice P s.facts.length p,.slice Q s.atoms.length q] aC)):=ai aU _;have HB2:=ax (hbx.trans (hB2.mono hbx.size));have hz2:=HB2.o.size;have BA:aJ (bg wr w.heap.size (.slice R j r) us (ss.take j)):=HO;have hjl:aJ ((ss.take j).length+1<=1049600):=ax (by rw[HL.o];omega);clear oS hB2 hbx g0 g1 HO;(go_wp2_with (at_builtin;refine vK (w0:=wr) (base:=w.heap.size) (mid:=wr.heap.size) (mX:=[s]) rfl _ _ rfl rfl BA.o (ai HB2.o _) xx (bg.one (g:=w2.heap.size) (ae.dA (by simp)) (by omega) (aI.bz (aI.bq OS.o (by simp)) (ai aU _))) bn rfl hjl.o ?_;intro A3 c3 w3 hO3 hg3 hB3;have O3:=ax hO3;have HB3:=ax (((HB.o.trans (HB2.o.mono xx)).trans (Below.mono (ai aU (.cells #[.slice F s.facts.length f,.slice G s.atoms.length g] aC)) (by omega))).trans hB3);clear hO3 hg3 hB3;rw[<-HT.o] at O3;simp only[length_cons,List.length_nil,Nat.zero_add] at O3⊢;rw[HL.o] at O3⊢))
   go_round
   case rel=>exact⟨j+1,A3,c3,_,by omega,by go_num,rfl,O3.o,HB3.o⟩
   case measure=>simp[intOf];omega
  ·obtain rfl:j=ss.length:=by omega
   have BA:aJ (bg wr w.heap.size (.slice R ss.length r) us ss):=ax (by have:=HO.o;rwa [take_length] at this);clear HO;go_wp2;go_ret;exact⟨_,us,rfl,BA.o,HB.o⟩
theorem Av(a:Nat)(ha:a<9223372036854775808):(BitVec.ofInt 64 (a:Int)).toNat=a:=by
 rw[BitVec.ofInt_natCast,BitVec.toNat_ofNat];exact Nat.mod_eq_of_lt (by omega)
theorem FV(a b:Nat)(ha:a<9223372036854775808)(hb:b<9223372036854775808):bits .and .i64 (a:Int) (b:Int)=((a &&& b:Nat):Int):=by
 have hx:a &&& b<2 ^ 63:=Nat.and_lt_two_pow _ (by omega);show IntKind.i64.wrap ((BitVec.ofInt 64 (a:Int) &&& BitVec.ofInt 64 (b:Int)).toNat:Int)=_;rw[BitVec.toNat_and,Av a ha,Av b hb];simp[IntKind.wrap,IntKind.bits,IntKind.signed];omega
theorem SI(m k:Nat)(hm:m<9223372036854775808):(bits .and .i64 ((m:Int) / 2 ^ k) 1 == 1)=m.testBit k:=by
 have e:((m:Int) / 2 ^ k)=((m / 2 ^ k:Nat):Int):=by simp
 have h:m / 2 ^ k<9223372036854775808:=Nat.lt_of_le_of_lt (Nat.div_le_self _ _) hm;rw[e,show (1:Int)=((1:Nat):Int) from rfl,FV _ _ h (by decide),Nat.and_one_is_mod,Nat.testBit_eq_decide_div_mod_eq,Bool.eq_iff_iff];simp;omega
theorem IL(m:Nat)(xs:List aL)(k:Nat)(hk:k<xs.length):jY m 0 (xs.take (k+1))=jY m 0 (xs.take k)++if m.testBit k then [xs[k]] else []:=by
 have gen:∀(ys:List aL) (y:aL) (i:Nat),jY m i (ys++[y])=jY m i ys++if m.testBit (i+ys.length) then [y] else []:=by
  intro ys y
  induction ys with
  | nil=>intro i;simp[jY]
  | cons z zs ih=>
   intro i;simp only[List.cons_append,jY,ih,length_cons];rw[show i+1+zs.length=i+(zs.length+1) by omega]
   split<;>simp
 rw[List.take_succ_eq_append_getElem hk,gen,length_take,Nat.zero_add,Nat.min_eq_left (by omega)]
theorem xH{lo hi:Nat}(v:Value)(a:au)(m:Nat)(w:World)(h:aM w lo hi v a)(hm:m<=1000000)(hla:a.atoms.length<=60) :
  Calls Tryz.prog 125 #[v,.int .i64 m] w fun e w'=>∃r,e=.returned r/\aI w' w.heap.size r (nQ a m)/\Below w.heap.size w w':=by
 obtain⟨A1,c1,A2,c2,rfl,-,h2⟩:=h;have H2:=ax h2;have hl:=h2.le;clear h2;(go_enter Tryz.func125,Tryz.ntmps125);obtain⟨-,k4,k5⟩:=wD w aC aC aC #[.slice A1 a.facts.length c1,.slice A2 a.atoms.length c2] #[.slice none 0 0,.slice none 0 0] #[.slice none 0 0,.slice none 0 0];have HB:aJ (Below w.heap.size w (((w.alloc (.cells #[.slice A1 a.facts.length c1,.slice A2 a.atoms.length c2] aC)).alloc (.cells #[.slice none 0 0,.slice none 0 0] aC)).alloc (.cells #[.slice none 0 0,.slice none 0 0] aC))):=ax aj;(go_wp2_with fail);generalize (((w.alloc (.cells #[.slice A1 a.facts.length c1,.slice A2 a.atoms.length c2] aC)).alloc (.cells #[.slice none 0 0,.slice none 0 0] aC)).alloc (.cells #[.slice none 0 0,.slice none 0 0] aC))=W at k4 k5 HB⊢
 go_loopw [11] (fun i wr=>∃(k:Nat) (acc:List aL) (A:Option Addr) (c:Nat),k<=a.atoms.length/\i=.int .i64 k/\aJ (acc=jY m 0 (a.atoms.take k))/\acc.length<=k/\af wr (w.heap.size+1+1+1) (.slice A acc.length c) acc/\ae wr (w.heap.size+1) aC #[.slice none 0 0,.slice none 0 0]/\ae wr (w.heap.size+1+1) aC #[.slice none 0 0,.slice A acc.length c]/\aJ (Below w.heap.size w wr)) (fun i _=>a.atoms.length - (intOf i).toNat)
 case atStart=>exact⟨0,[],none,0,dJ,rfl,by simp[aJ,jY],bn,af.nil _ _,k4,k5,HB⟩
 case round=>
  clear k4 k5 HB;obtain⟨k,acc,A,c,hk,rfl,mG,hal,of,k4,k5,HB⟩:=hrel;by_cases hlt:k<a.atoms.length
  ·obtain⟨b,off,rfl,g0,g1,g2⟩:=(H2.o.bz HB.o).at hlt;have hki:(k:Int)<(a.atoms.length:Int):=by omega
   have HS:=ax (IL m a.atoms k hlt);obtain⟨x,hx⟩:∃x,x=a.atoms[k]:=⟨_,rfl⟩;rw[<-hx] at g0 g1 g2 HS;have hbit:=SI m k (by omega);have hk64:min k 64=k:=by omega
   have hbx:Below wr.heap.size wr (wr.alloc (.cells #[.int .i64 x.kind,.int .i64 x.a,.int .i64 x.b] tA)):=ai aU _;have k41:=k4.nz hbx;have k51:=k5.nz hbx;have l5:=k51.lt;have HB1:=bF HB hbx;have rf:=of.bz hbx;clear hx;cases hb:m.testBit k
   ·rw[hb] at hbit;have HA2:aJ (acc=jY m 0 (a.atoms.take (k+1))):=ax (by rw[HS.o,hb,<-mG.o];simp);clear hb HS;(replace ZS:=k51.z);(go_wp2_with fail)
    go_round
    case rel=>exact⟨k+1,acc,A,c,by omega,by go_num,HA2,by omega,rf,k41,k51,HB1⟩
    case measure=>simp[intOf];omega
   ·rw[hb] at hbit;have HA2:aJ (acc++[x]=jY m 0 (a.atoms.take (k+1))):=ax (by rw[HS.o,hb,<-mG.o];simp);clear hb HS;have kx:=ae.new wr tA #[.int .i64 x.kind,.int .i64 x.a,.int .i64 x.b];have hz1:(wr.alloc (.cells #[.int .i64 x.kind,.int .i64 x.a,.int .i64 x.b] tA)).heap.size=wr.heap.size+1:=by simp
    have hzB:=HB.o.size;have hl0:=k5.lt;(replace Fz:=k41.z;replace ZS:=k51.z;replace uk:=kx.z);(go_wp2_with (at_builtin;refine qG (ys:=[x]) rfl _ _ rfl (v:=.slice A acc.length c) rfl (rf.bz (ai aU _)) rfl (aB.one (f:=x) (ae.dA (by simp))) (by simp;omega) (by simp;omega) ?_;intro A' c' w5 lQ hg2 bW;have z5:=ae.zm (g:=w.heap.size+1+1) (k51.alloc _) (rf.bz (ai aU _)).1 hg2 (by decide);have z4:=ae.zm (g:=w.heap.size+1) (k41.alloc _) (rf.bz (ai aU _)).1 hg2 (by decide);have z5c:=z5.cell;have z5f:=z5.frozen;have z5l:=z5.lt))
    go_round
    case rel=>
     refine⟨k+1,acc++[x],A',c',by omega,by go_num,HA2,by simp;omega,?_,z4.far (by simp only[];omega) _,?_,?_⟩
     ·simpa using lQ.aA z5 (by decide) _ _
     ·simpa using z5.ag 1 (.slice A' (acc.length+1) c')
     ·have hb5:=bW.mono (show w.heap.size<=w.heap.size+1+1+1 by omega);exact ax (iq ((ai HB1.o _).trans hb5) (w.heap.size+1+1) 1 _)
    case measure=>simp[intOf];omega
  ·obtain rfl:k=a.atoms.length:=by omega
   have hacc:acc=jY m 0 a.atoms:=by have:=mG.o;rwa [take_length] at this
   subst hacc;have hBl:=HB.o;(replace eZ:=k4.cell;replace VS:=k4.frozen;replace OM:=k4.lt;replace pG:=k5.z);go_wp2;refine bodyPost_ret (v:=.agg #[.slice none 0 0,.slice A (jY m 0 a.atoms).length c]) (by simp[results,Tryz.results125,go_sem,eZ,OM]) rfl ⟨_,rfl,⟨_,_,rfl,ah.nil _ _,?_⟩,?_⟩
   ·exact((of.aA k4 (by decide) 0 _).aA (k4.ag 0 _) (by decide) 1 _).bq
   ·exact(iq (iq hBl (w.heap.size+1) 0 _) (w.heap.size+1) 1 _)
theorem aI.setW{w:World}{base:Nat}{v:Value}{a:au}(h:aI w base v a){g:Nat}{cs:Array Value}(hk:ae w g aC cs)(u0 u1:Value):aI ((w.setCell ⟨g,0,none⟩ u0).setCell ⟨g,1,none⟩ u1) base v a:=by
 obtain⟨fv,av,e,p1,p2⟩:=h;have k1:=hk.ag 0 u0;exact⟨fv,av,e,(p1.aA hk (by decide) _ _).aA k1 (by decide) _ _,(p2.aA hk (by decide) _ _).aA k1 (by decide) _ _⟩
theorem Qb{lo hi bJ hi':Nat}(g g':Nat)(a b:au)(A1 A2 A3 A4:Option Addr)(c1 c2 c3 c4 m:Nat)(w:World)(ha:aM w lo hi (.agg #[.slice A1 a.facts.length c1,.slice A2 a.atoms.length c2]) a)(hb:aM w bJ hi' (.agg #[.slice A3 b.facts.length c3,.slice A4 b.atoms.length c4]) b)(hhi:hi<=w.heap.size)(hv:a.valid=true)(hv':b.valid=true)(hm:m<=1000000)
  (k1:ae w g aC #[.slice A1 a.facts.length c1,.slice A2 a.atoms.length c2]) (k2:ae w g' aC #[.slice A3 b.facts.length c3,.slice A4 b.atoms.length c4]) :
  Calls Tryz.prog 123 #[.int .i64 m,.pointer (some ⟨g',0,none⟩),.pointer (some ⟨g,0,none⟩)] w fun e w'=>e=.returned (.bool (Md a b m))/\Below w.heap.size w w':=by
 have HA:=ax ha;have HB:=ax hb;have HE:=ax (MN hv hv' m);have hla:=(tT hv).2;obtain⟨fb,La⟩:∃x,x=Md a b m:=⟨_,rfl⟩;obtain⟨P,hP⟩:∃P,P=nQ a m:=⟨_,rfl⟩;obtain⟨q,hq⟩:∃q,q=(qH b (nQ a m)).isSome:=⟨_,rfl⟩;obtain⟨C,hC⟩:∃C,C=(qH b (nQ a m)).getD ⟨[],[]⟩:=⟨_,rfl⟩;rw[<-La,<-hq,<-hC] at HE;rw[<-La];have CS:aJ (∀ {lo hi bJ hi':Nat} (v v':Value) (W:World),aM W lo hi v b->aM W bJ hi' v' P->Calls Tryz.prog 124 #[v,v'] W fun e w'=>∃r,e=.returned (.tuple #[r,.bool q])/\aI w' W.heap.size r C/\Below W.heap.size W w'):=ax fun v v' W h1 h2=>by rw[hq,hC,<-hP];exact ED v v' b P W h1 h2
 have CP:aJ (∀ {lo hi:Nat} (v:Value) (W:World),aM W lo hi v a->Calls Tryz.prog 125 #[v,.int .i64 m] W fun e w'=>∃r,e=.returned r/\aI w' W.heap.size r P/\Below W.heap.size W w'):=ax fun v W h=>by rw[hP];exact xH v a m W h hm (by omega)
 clear La hP hq hC hv hv' ha hb;have Un:=k1.lt;have hlg':=k2.lt;(go_enter Tryz.func123,Tryz.ntmps123);have q1:=k1.cell;have q2:=k2.cell;(go_upto_region 1 with fail)
 go_cut [5,6] (fun s5 s6 wc=>∃(x:Nat) (F:Option Addr) (f:Nat) (G:Option Addr) (e:Nat),s5=.pointer (some ⟨x,0,none⟩)/\s6=.bool q/\ae wc x aC #[.slice F C.facts.length f,.slice G C.atoms.length e]/\aM wc 0 wc.heap.size (.agg #[.slice F C.facts.length f,.slice G C.atoms.length e]) C/\aJ (Below w.heap.size w wc))
 case first=>
  go_wp2;refine lS (S:=(fun w'=>(∀j,w'.cell? ⟨g',j,none⟩=#[.slice A3 b.facts.length c3,.slice A4 b.atoms.length c4][j]?)/\(∀j,w'.cell? ⟨g,j,none⟩=#[.slice A1 a.facts.length c1,.slice A2 a.atoms.length c2][j]?))) (⟨k2.drew.cell,k1.drew.cell⟩) fun aH=>?_;have hB0:Below w.heap.size w w.drew:=aU.drew;refine yU 0 1 2 ?_;refine wB 3 8 rfl rfl (fun K hK=>?_) fun K hK=>?_
  ·(try simp only[zz]);(go_simp;refine(CP.o _ _ (HA.o.bz hB0)).mono ?_;rintro e w1 ⟨r1,rfl,o1,hB1⟩;obtain⟨F1,f1,G1,e1,rfl⟩:=o1.I.form;replace hB1:Below w.heap.size w w1:=aP hB0 hB1);refine hK.out _ _ (⟨(k2.nz hB1).cell,(k1.nz hB1).cell⟩) ?_;clear aH hK K;intro aH;(try simp only[zz]);have hP1:=o1.rj;refine wB 4 8 rfl rfl (fun K hK=>?_) fun K hK=>?_
   ·(try simp only[zz]);(go_simp;refine(CS.o _ _ _ (HB.o.bz hB1) hP1).mono ?_;rintro e w2 ⟨r2,rfl,o2,hB2⟩;obtain⟨F,f,G,e,rfl⟩:=o2.I.form;replace hB2:Below w.heap.size w w2:=aP hB1 hB2);refine hK.out _ _ (⟨(k2.nz hB2).cell,(k1.nz hB2).cell⟩) ?_;clear aH hK K;intro aH;refine yU 5 6 7 ?_;refine aX 8 rfl fun K hK=>?_;(try simp only[zz]);go_simp;refine hK.out _ _ (⟨(k2.nz (ai hB2 (.cells #[.slice none 0 0,.slice none 0 0] aC))).cell,(k1.nz (ai hB2 (.cells #[.slice none 0 0,.slice none 0 0] aC))).cell⟩) ?_;clear aH hK K;intro aH;refine aX 9 rfl fun K hK=>?_;(try simp only[zz]);go_simp;refine hK.out _ _ (⟨(k2.nz (ai hB2 (.cells #[.slice F C.facts.length f,.slice G C.atoms.length e] aC))).cell,(k1.nz (ai hB2 (.cells #[.slice F C.facts.length f,.slice G C.atoms.length e] aC))).cell⟩) ?_;clear aH hK K;intro aH;refine jh 10 ?_;refine jP ?_;(go_wp2_with fail);go_meet
    case rel=>exact⟨w2.heap.size,F,f,G,e,rfl,rfl,ae.new _ _ _,(o2.rj.bz (ai aU _)).mono dJ (by simp),ax (ai hB2 _)⟩
   ·(try simp only[zz]);go_simp;refine hK.out _ _ (⟨(k2.nz (ai hB1 (.cells #[.slice none 0 0,.slice none 0 0] aC))).cell,(k1.nz (ai hB1 (.cells #[.slice none 0 0,.slice none 0 0] aC))).cell⟩) ?_;clear aH hK K;intro aH;(try simp only[zz]);have kb:=ae.new w1 aC #[.slice none 0 0,.slice none 0 0];have hb:=ai hB1 (.cells #[.slice none 0 0,.slice none 0 0] aC);have hP2:=hP1.bz (ai (Below.refl _ w1) (.cells #[.slice none 0 0,.slice none 0 0] aC));refine aX 4 rfl fun K hK=>?_;(try simp only[zz]);(go_simp;refine(CS.o _ _ _ (HB.o.bz hb) hP2).mono ?_;rintro e w2 ⟨r2,rfl,o2,hB2⟩;obtain⟨F,f,G,e,rfl⟩:=o2.I.form;have Ns:=kb.nz hB2;replace hB2:Below w.heap.size w w2:=aP hb hB2);refine hK.out _ _ (⟨(k2.nz hB2).cell,(k1.nz hB2).cell⟩) ?_;clear aH hK K;intro aH;refine yU 5 6 7 ?_;have hlb:=Ns.lt;have ql:=Ns.cell;have rl:=Ns.frozen;have hle:w.heap.size<=w1.heap.size:=by first|exact bn|exact hB1.size
    have hn1:g≠w1.heap.size:=by omega
    have hn2:g'≠w1.heap.size:=by omega
    refine aX 9 rfl fun K hK=>?_;(try simp only[zz]);go_simp;refine hK.out _ _ (⟨(((k2.nz hB2).far (p:=⟨w1.heap.size,0,none⟩) (fun e=>hn2 e) (.slice F C.facts.length f)).far (p:=⟨w1.heap.size,1,none⟩) (fun e=>hn2 e) (.slice G C.atoms.length e)).cell,(((k1.nz hB2).far (p:=⟨w1.heap.size,0,none⟩) (fun e=>hn1 e) (.slice F C.facts.length f)).far (p:=⟨w1.heap.size,1,none⟩) (fun e=>hn1 e) (.slice G C.atoms.length e)).cell⟩) ?_;clear aH hK K;intro aH;refine jh 10 ?_;refine jP ?_;(go_wp2_with fail);go_meet
    case rel=>exact⟨w1.heap.size,F,f,G,e,rfl,rfl,(Ns.ag 0 (.slice F C.facts.length f)).ag 1 (.slice G C.atoms.length e),(aI.setW o2 Ns _ _).rj.mono dJ (by simp),ax ((hB2.setCell (p:=⟨w1.heap.size,0,none⟩) hle _).setCell (p:=⟨w1.heap.size,1,none⟩) hle _)⟩
  ·(try simp only[zz]);go_simp;refine hK.out _ _ (⟨(k2.nz (ai hB0 (.cells #[.slice none 0 0,.slice none 0 0] aC))).cell,(k1.nz (ai hB0 (.cells #[.slice none 0 0,.slice none 0 0] aC))).cell⟩) ?_;clear aH hK K;intro aH;(try simp only[zz]);have kb:ae (w.drew.alloc (.cells #[.slice none 0 0,.slice none 0 0] aC)) w.heap.size aC #[.slice none 0 0,.slice none 0 0]:=ae.new w.drew _ _;have hb:=ai hB0 (.cells #[.slice none 0 0,.slice none 0 0] aC);refine aX 3 rfl fun K hK=>?_;(try simp only[zz]);(go_simp;refine(CP.o _ _ (HA.o.bz hb)).mono ?_;rintro e w1 ⟨r1,rfl,o1,hB1⟩;obtain⟨F1,f1,G1,e1,rfl⟩:=o1.I.form;have kb1:=kb.nz hB1;replace hB1:Below w.heap.size w w1:=aP hb hB1);refine hK.out _ _ (⟨(k2.nz hB1).cell,(k1.nz hB1).cell⟩) ?_;clear aH hK K;intro aH;(try simp only[zz]);have hP1:=o1.rj;refine aX 4 rfl fun K hK=>?_;(try simp only[zz]);(go_simp;refine(CS.o _ _ _ (HB.o.bz hB1) hP1).mono ?_;rintro e w2 ⟨r2,rfl,o2,hB2⟩;obtain⟨F,f,G,e,rfl⟩:=o2.I.form;have Ns:=kb1.nz hB2;replace hB2:Below w.heap.size w w2:=aP hB1 hB2);refine hK.out _ _ (⟨(k2.nz hB2).cell,(k1.nz hB2).cell⟩) ?_;clear aH hK K;intro aH;refine yU 5 6 7 ?_;have hlb:=Ns.lt;have ql:=Ns.cell;have rl:=Ns.frozen;have hle:w.heap.size<=w.heap.size:=by first|exact bn|exact hB1.size
   have hn1:g≠w.heap.size:=by omega
   have hn2:g'≠w.heap.size:=by omega
   refine aX 9 rfl fun K hK=>?_;(try simp only[zz]);go_simp;refine hK.out _ _ (⟨(((k2.nz hB2).far (p:=⟨w.heap.size,0,none⟩) (fun e=>hn2 e) (.slice F C.facts.length f)).far (p:=⟨w.heap.size,1,none⟩) (fun e=>hn2 e) (.slice G C.atoms.length e)).cell,(((k1.nz hB2).far (p:=⟨w.heap.size,0,none⟩) (fun e=>hn1 e) (.slice F C.facts.length f)).far (p:=⟨w.heap.size,1,none⟩) (fun e=>hn1 e) (.slice G C.atoms.length e)).cell⟩) ?_;clear aH hK K;intro aH;refine jh 10 ?_;refine jP ?_;(go_wp2_with fail);go_meet
   case rel=>exact⟨w.heap.size,F,f,G,e,rfl,rfl,(Ns.ag 0 (.slice F C.facts.length f)).ag 1 (.slice G C.atoms.length e),(aI.setW o2 Ns _ _).rj.mono dJ (by simp),ax ((hB2.setCell (p:=⟨w.heap.size,0,none⟩) hle _).setCell (p:=⟨w.heap.size,1,none⟩) hle _)⟩
 case rest=>
  obtain⟨x,F,f,G,e,rfl,rfl,kx,hC,hB⟩:=hcut;have kg:=k1.nz hB.o;have hzB:=hB.o.size;(replace uk:=kx.z;replace Xx:=kg.z);cases q
  ·have E:fb=false:=by rw[HE.o];rfl
   go_wp2;go_ret;exact⟨dz E.symm,hB.o⟩
  ·have E:aJ (fb=mU a C):=by show _=_;rw[HE.o];rfl
   (go_wp2_with fail);refine(rP _ _ a C _ (HA.o.bz hB.o) hC (by omega) bn).mono ?_;rintro e w2 ⟨rfl,hB2⟩;rw[<-E.o];go_wp2;go_ret;exact⟨rfl,aP hB.o hB2⟩
theorem Lm{lo hi bJ hi':Nat}(g g':Nat)(a b:au)(A1 A2 A3 A4:Option Addr)(c1 c2 c3 c4:Nat)(w:World)(ha:aM w lo hi (.agg #[.slice A1 a.facts.length c1,.slice A2 a.atoms.length c2]) a)(hb:aM w bJ hi' (.agg #[.slice A3 b.facts.length c3,.slice A4 b.atoms.length c4]) b)(hhi:hi<=w.heap.size)(hv:a.valid=true)(hv':b.valid=true)
  (k1:ae w g aC #[.slice A1 a.facts.length c1,.slice A2 a.atoms.length c2]) (k2:ae w g' aC #[.slice A3 b.facts.length c3,.slice A4 b.atoms.length c4]) :
  Calls Tryz.prog 122 #[.int .i64 a.atoms.length,.func (.func 123) #[] #[.pointer (some ⟨g',0,none⟩),.pointer (some ⟨g,0,none⟩)]] w fun e w'=>e=.returned (.tuple #[.int .i64 ((MM a b).getD 0:Nat),.bool (MM a b).isSome])/\Below w.heap.size w w':=by
 have HA:=ax ha;have HB:=ax hb;have hla:=(tT hv).2;have HV:=ax hv;have XD:=ax hv';have K1:=ax k1;have K2:=ax k2;obtain⟨n,hn⟩:∃n,n=a.atoms.length:=⟨_,rfl⟩;obtain⟨N,hN⟩:∃N:Nat,N=2 ^ n:=⟨_,rfl⟩;have hN64:N<=64:=by rw[hN];exact Nat.pow_le_pow_right (n:=2) (by decide) (show n<=6 by omega)
 have HM:aJ (MM a b=rQ (Md a b) (N - 0) 0):=ax (by rw[hN,hn];rfl);have hp:(2:Int) ^ n=(N:Int):=by rw[hN];simp
 have hn64:min n 64=n:=by omega
 rw[<-hn] at hla;replace hN:=ax hN;clear ha hb hv hv' k1 k2;(go_enter Tryz.func122,Tryz.ntmps122);rw[<-hn];replace hn:=ax hn;(go_wp2_with fail)
 go_loopw [6] (fun i wr=>∃k:Nat,k<=N/\i=.int .i64 k/\aJ (MM a b=rQ (Md a b) (N - k) k)/\aJ (Below w.heap.size w wr)) (fun i _=>N - (intOf i).toNat)
 case atStart=>exact⟨0,dJ,rfl,HM,ax aU⟩
 case round=>
  clear HM;obtain⟨k,hk,rfl,HM,hB⟩:=hrel;by_cases hlt:k<N
  ·have hki:(k:Int)<(N:Int):=by omega
   (go_wp2_with fail);refine(Qb g g' a b A1 A2 A3 A4 c1 c2 c3 c4 k wr (HA.o.bz hB.o) (HB.o.bz hB.o) (by have:=hB.o.size;omega) HV.o XD.o (by omega) (K1.o.nz hB.o) (K2.o.nz hB.o)).mono ?_;rintro e w1 ⟨rfl,hB1⟩;have hBw:=bF hB hB1;have HS:aJ (MM a b=if Md a b k then some k else rQ (Md a b) (N - (k+1)) (k+1)):=ax (by rw[HM.o,Ik hlt]);clear hB1;cases hp:Md a b k
   ·have Uc:aJ (MM a b=rQ (Md a b) (N - (k+1)) (k+1)):=ax (by rw[HS.o,hp];rfl);clear hp HM HS;(go_wp2_with fail)
    go_round
    case rel=>exact⟨k+1,by omega,by go_num,Uc,hBw⟩
    case measure=>simp[intOf];omega
   ·have E:aJ (MM a b=some k):=ax (by rw[HS.o,hp];rfl);clear hp HM HS;go_wp2;go_ret2;exact⟨by rw[E.o];rfl,hBw.o⟩
  ·obtain rfl:k=N:=by omega
   have E:aJ (MM a b=none):=ax (by rw[HM.o,Nat.sub_self];rfl);go_wp2;go_ret2;exact⟨by rw[E.o];rfl,hB.o⟩
theorem FW{a b:au}(h:a.valid=false):iP a b=none:=by unfold iP;rw[h];rfl
theorem FX{a b:au}(h:a.valid=true)(h':b.valid=false):iP a b=none:=by unfold iP;rw[h,h'];rfl
theorem Lp{a b:au}(h:a.valid=true)(h':b.valid=true):iP a b=(MM a b).map (nQ a):=by unfold iP;rw[h,h'];rfl
theorem Aw{lo hi bJ hi':Nat}(v v':Value)(a b:au)(w:World)(h:aM w lo hi v a)(h':aM w bJ hi' v' b)(hhi:hi<=w.heap.size) :
  Calls Tryz.prog 95 #[v,v'] w fun e w'=>∃r,e=.returned (.tuple #[r,.bool (iP a b).isSome])/\aI w' w.heap.size r ((iP a b).getD ⟨[],[]⟩)/\Below w.heap.size w w':=by
 have HA:=ax h;have HB:=ax h';obtain⟨A1,c1,A2,c2,rfl,-,-⟩:=h;obtain⟨A3,c3,A4,c4,rfl,-,-⟩:=h';have H1:=ax (@FW a b);have H2:=ax (@FX a b);have H3:=ax (@Lp a b);obtain⟨k1,k2,k4⟩:=wD w aC aC aC #[.slice A1 a.facts.length c1,.slice A2 a.atoms.length c2] #[.slice A3 b.facts.length c3,.slice A4 b.atoms.length c4] #[.slice none 0 0,.slice none 0 0];have hB:Below w.heap.size w (((w.alloc (.cells #[.slice A1 a.facts.length c1,.slice A2 a.atoms.length c2] aC)).alloc (.cells #[.slice A3 b.facts.length c3,.slice A4 b.atoms.length c4] aC)).alloc (.cells #[.slice none 0 0,.slice none 0 0] aC)):=aj;(go_enter Tryz.func95,Tryz.ntmps95);(go_upto_region 1 with fail);generalize (((w.alloc (.cells #[.slice A1 a.facts.length c1,.slice A2 a.atoms.length c2] aC)).alloc (.cells #[.slice A3 b.facts.length c3,.slice A4 b.atoms.length c4] aC)).alloc (.cells #[.slice none 0 0,.slice none 0 0] aC))=W at k1 k2 k4 hB⊢;(replace fI:=k1.z;replace lZ:=k2.z;replace eZ:=k4.cell;replace VS:=k4.frozen;replace OM:=k4.lt);(go_wp2_with fail);refine(jz _ a _ (HA.o.bz hB)).mono ?_;rintro e w1 ⟨rfl,hB1⟩;(replace hB:=aP hB hB1;replace k1:=k1.nz hB1;replace fI:=k1.z;replace k2:=k2.nz hB1;replace lZ:=k2.z;replace k4:=k4.nz hB1;replace eZ:=k4.cell;replace VS:=k4.frozen;replace OM:=k4.lt);clear hB1;cases ha:a.valid
 ·have E:=ax (H1.o ha);clear ha H1 H2 H3;go_wp2;refine bodyPost_ret (v:=.tuple #[.agg #[.slice none 0 0,.slice none 0 0],.bool false]) (by simp[results,Tryz.results95,go_sem,eZ,OM]) rfl ⟨_,by rw[E.o];rfl,by rw[E.o];exact aI.zero _ _,aj⟩
 have HV:=ax ha;clear ha;(go_wp2_with fail);refine(jz _ b _ (HB.o.bz hB)).mono ?_;rintro e w2 ⟨rfl,hB2⟩;(replace hB:=aP hB hB2;replace k1:=k1.nz hB2;replace fI:=k1.z;replace k2:=k2.nz hB2;replace lZ:=k2.z;replace k4:=k4.nz hB2;replace eZ:=k4.cell;replace VS:=k4.frozen;replace OM:=k4.lt);clear hB2;cases hb:b.valid
 ·have E:=ax (H2.o HV.o hb);clear hb H1 H2 H3;go_wp2;refine bodyPost_ret (v:=.tuple #[.agg #[.slice none 0 0,.slice none 0 0],.bool false]) (by simp[results,Tryz.results95,go_sem,eZ,OM]) rfl ⟨_,by rw[E.o];rfl,by rw[E.o];exact aI.zero _ _,aj⟩
 have XD:=ax hb;have E:=ax (H3.o HV.o XD.o);have hla:=(tT HV.o).2;clear hb H1 H2 H3;(go_wp2_with fail);refine(Lm _ _ a b A1 A2 A3 A4 c1 c2 c3 c4 _ (HA.o.bz hB) (HB.o.bz hB) (by have:=hB.size;omega) HV.o XD.o k1 k2).mono ?_;rintro e w3 ⟨rfl,hB3⟩;have hz:=hB.size;(replace hB:=aP hB hB3;replace k1:=k1.nz hB3;replace fI:=k1.z;replace k2:=k2.nz hB3;replace lZ:=k2.z;replace k4:=k4.nz hB3;replace eZ:=k4.cell;replace VS:=k4.frozen;replace OM:=k4.lt);clear hB3
 cases hm:MM a b with
 | none=>
  rw[hm] at E;clear hm;go_wp2;refine bodyPost_ret (v:=.tuple #[.agg #[.slice none 0 0,.slice none 0 0],.bool false]) (by simp[results,Tryz.results95,go_sem,eZ,OM]) rfl ⟨_,by rw[E.o];rfl,by rw[E.o];exact aI.zero _ _,aj⟩
 | some m=>
  rw[hm] at E
  have ZT:m<=1000000:=by
   have h1:=(zV hm).2.1;have h2:2 ^ a.atoms.length<=2 ^ 6:=Nat.pow_le_pow_right (by decide) hla;omega
  clear hm;(go_wp2_with fail);refine(xH _ a m _ (HA.o.bz hB) ZT (by omega)).mono ?_;rintro e w4 ⟨r,rfl,o,hB4⟩;have Dp:=hB.size;(replace hB:=aP hB hB4;replace k4:=k4.nz hB4;replace eZ:=k4.cell;replace VS:=k4.frozen;replace OM:=k4.lt);clear hB4 k1 k2 fI lZ;obtain⟨F,f,G,g,rfl⟩:=o.I.form;have O:=ax o;clear o;go_wp2;refine bodyPost_ret (v:=.tuple #[.agg #[.slice F (nQ a m).facts.length f,.slice G (nQ a m).atoms.length g],.bool true]) (by simp[results,Tryz.results95,go_sem,eZ,OM]) rfl ⟨_,by rw[E.o];rfl,?_,aj⟩;rw[E.o];exact(aI.setW O.o k4 _ _).bq
end
section
open Go Go.RowKit Go.Proofs
abbrev xZ:Nat:=48
theorem Qc(S g:Nat)(hS:S<512)(k a b:Int)(t:aF)(i:au)(A1 A2 A3 A4:Option Addr)(c1 c2 c3 c4:Nat)(body els:ay)(w:World)(hK:ae w g xZ #[.int .u16 (S:Nat)]) :
  Calls Tryz.prog 127 #[.agg #[.int .i64 k,.int .i64 a,.int .i64 b,.bool t.eq,.int .i64 t.a,.int .i64 t.b,.slice A1 i.facts.length c1,.slice A2 i.atoms.length c2,.slice A3 body.len c3,.slice A4 els.len c4],.pointer (some ⟨g,0,none⟩)] w fun e w'=>(∃v,e=.returned v)/\ae w' g xZ #[.int .u16 (oW S k a b t i:Nat)]/\Mk (fun x=>x=g) w w':=by
 have hg:=hK.lt;have q0:=hK.cell 0;have r0:=hK.frozen 0;by_cases hk:k=1\/k=2\/k=4
 ·have HE:=ax (show oW S k a b t i=aQ S a from if_pos hk);replace hK:=ax hK;have ZU:g≠w.heap.size:=by omega
  rcases hk with rfl|rfl|rfl
  all_goals
   (go_enter Tryz.func127,Tryz.ntmps127);(go_wp2_with fail);refine(aY S a _ hS).mono ?_;rintro e w' ⟨rfl,rfl⟩;(go_wp2_with fail)
   go_end0
   refine⟨⟨_,rfl⟩,?_,(((Mk.refl (fun x=>x=g) _).set (x:=⟨g,0,none⟩) rfl _).trans (Mk.iy (ai aU _)))⟩;rw[HE.o];exact(hK.o.ag 0 _).alloc _
 ·have HE:=ax (show oW S k a b t i=S from if_neg hk);replace hK:=ax hK;have k1:(k == 1)=false:=beq_false_of_ne fun e=>hk (.inl e);have k2:(k == 2)=false:=beq_false_of_ne fun e=>hk (.inr (.inl e));have k4:(k == 4)=false:=beq_false_of_ne fun e=>hk (.inr (.inr e));clear hk;(go_enter Tryz.func127,Tryz.ntmps127);(go_wp2_with fail)
  go_end0
  refine⟨⟨_,rfl⟩,?_,Mk.iy (ai aU _)⟩;rw[HE.o];exact hK.o.alloc _
theorem Qd{lo hi:Nat}(S g:Nat)(hS:S<512)(k a b:Int)(t:aF)(i:au)(A1 A2 A3 A4:Option Addr)(c1 c2 c3 c4:Nat)(body els:ay)(w:World)(hA:aM w lo hi (.agg #[.slice A1 i.facts.length c1,.slice A2 i.atoms.length c2]) i)(hK:ae w g xZ #[.int .u16 (S:Nat)]) :
  Calls Tryz.prog 47 #[.agg #[.int .i64 k,.int .i64 a,.int .i64 b,.bool t.eq,.int .i64 t.a,.int .i64 t.b,.slice A1 i.facts.length c1,.slice A2 i.atoms.length c2,.slice A3 body.len c3,.slice A4 els.len c4],.pointer (some ⟨g,0,none⟩)] w fun e w'=>(∃v,e=.returned v)/\ae w' g xZ #[.int .u16 (Dx S k a b t i:Nat)]/\Mk (fun x=>x=g) w w':=by
 have hg:=hK.lt;replace hA:=ax hA;obtain⟨S1,hS1⟩:∃x,x=aQ S a:=⟨_,rfl⟩;obtain⟨S2,hS2⟩:∃x,x=aQ S1 b:=⟨_,rfl⟩;obtain⟨S3,uB⟩:∃x,x=aQ S2 t.a:=⟨_,rfl⟩;obtain⟨S4,yc⟩:∃x,x=aQ S3 t.b:=⟨_,rfl⟩;have l1:S1<512:=by rw[hS1];exact bC hS _
 have l2:S2<512:=by rw[hS2];exact bC l1 _
 have l3:S3<512:=by rw[uB];exact bC l2 _
 have l4:S4<512:=by rw[yc];exact bC l3 _
 obtain⟨T,hT⟩:∃x,x=aO (mz i):=⟨_,rfl⟩;have lT:T<512:=by rw[hT];exact dI _
 have HE:aJ (Dx S k a b t i=S4|||T):=by show _=_;rw[yc,uB,hS2,hS1,hT];rfl
 have hU:=u16_or_nat S4 T (by omega) (by omega);replace hS1:=ax hS1;replace hS2:=ax hS2;replace uB:=ax uB;replace yc:=ax yc;replace hT:=ax hT;(go_enter Tryz.func47,Tryz.ntmps47);have k0:ae (w.alloc (.cells #[.int .i64 k,.int .i64 a,.int .i64 b,.bool t.eq,.int .i64 t.a,.int .i64 t.b,.slice A1 i.facts.length c1,.slice A2 i.atoms.length c2,.slice A3 body.len c3,.slice A4 els.len c4] tC)) w.heap.size tC #[.int .i64 k,.int .i64 a,.int .i64 b,.bool t.eq,.int .i64 t.a,.int .i64 t.b,.slice A1 i.facts.length c1,.slice A2 i.atoms.length c2,.slice A3 body.len c3,.slice A4 els.len c4]:=ae.new _ _ _;have k1:ae (w.alloc (.cells #[.int .i64 k,.int .i64 a,.int .i64 b,.bool t.eq,.int .i64 t.a,.int .i64 t.b,.slice A1 i.facts.length c1,.slice A2 i.atoms.length c2,.slice A3 body.len c3,.slice A4 els.len c4] tC)) g xZ #[.int .u16 (S:Nat)]:=hK.alloc _;have ZU:g≠w.heap.size:=by omega
 go_wp2;refine wp_region_noPanic ?_;refine bQ (S:=(fun w'=>(∀j,w'.cell? ⟨w.heap.size,j,none⟩=#[.int .i64 k,.int .i64 a,.int .i64 b,.bool t.eq,.int .i64 t.a,.int .i64 t.b,.slice A1 i.facts.length c1,.slice A2 i.atoms.length c2,.slice A3 body.len c3,.slice A4 els.len c4][j]?)/\(∀j,w'.cell? ⟨g,j,none⟩=#[Value.int .u16 (S:Nat)][j]?)/\(∀j,w'.frozen? ⟨g,j,none⟩=false))) (by simp) (by kernel_rfl) (by kernel_rfl) (⟨k0.cell,k1.cell,k1.frozen⟩) (fun aH=>?_);simp only[List.dropLast,List.getLast,gP,List.cons_append,List.nil_append,length_cons,List.length_nil,Nat.zero_add,Nat.reduceAdd];refine jQ 0 1 2 4 5 ?_;refine jQ 7 8 9 11 12 ?_;refine yU 13 15 16 ?_;refine aX 3 rfl fun K hK=>?_;(try simp only[zz]);(go_simp;refine(aY S a _ hS).mono ?_;rintro e w1 ⟨rfl,rfl⟩;rw[<-hS1.o]);refine hK.out _ _ (⟨k0.cell,k1.cell,k1.frozen⟩) ?_;clear aH hK K;intro aH;refine aX 6 rfl fun K hK=>?_;(try simp only[zz]);(go_simp;refine(aY S1 b _ l1).mono ?_;rintro e w1 ⟨rfl,rfl⟩;rw[<-hS2.o]);refine hK.out _ _ (⟨k0.cell,k1.cell,k1.frozen⟩) ?_;clear aH hK K;intro aH;refine aX 10 rfl fun K hK=>?_;(try simp only[zz]);(go_simp;refine(aY S2 t.a _ l2).mono ?_;rintro e w1 ⟨rfl,rfl⟩;rw[<-uB.o]);refine hK.out _ _ (⟨k0.cell,k1.cell,k1.frozen⟩) ?_;clear aH hK K;intro aH;refine aX 14 rfl fun K hK=>?_;(try simp only[zz]);(go_simp;refine(aY S3 t.b _ l3).mono ?_;rintro e w1 ⟨rfl,rfl⟩;rw[<-yc.o]);refine hK.out _ _ (⟨k0.cell,k1.cell,k1.frozen⟩) ?_;clear aH hK K;intro aH;refine aX 17 rfl fun K hK=>?_;(try simp only[zz]);(go_simp;refine(di _ i _ (hA.o.bz aj)).mono ?_;rintro e w5 ⟨rfl,bW⟩;rw[<-hT.o];replace k0:=ae.nz (g:=w.heap.size) az bW;replace k1:=ae.nz (g:=g) (t:=xZ) (cs:=#[.int .u16 (S:Nat)]) az bW;have tJ:=aP (w:=w) aj bW);refine hK.out _ _ (⟨k0.cell,k1.cell,k1.frozen⟩) ?_;clear aH hK K;intro aH;refine jh 18 ?_;refine aX 19 rfl fun K hK=>?_;go_simp;refine hK.out _ _ (⟨k0.cell,k1.cell,k1.frozen⟩) (fun aH=>?_);clear hK K;refine wpAnyH_done (by kernel_rfl) ?_ _;unfold mi;go_simp;refine NoPanic.normal ?_;(go_wp2_with fail)
 go_end0
 refine⟨⟨_,rfl⟩,?_,((Mk.iy (p:=fun x=>x=g) tJ).set (x:=⟨g,0,none⟩) rfl _)⟩;rw[HE.o];exact k1.ag 0 _
theorem IM:∀(N:Nat) (L:ay),L.sz<N->∀(A:Option Addr) (c lo hi gS S:Nat) (w:World),bH w lo hi A L->L.len<=1049600->L.small 1049600->hi<=gS->S<512->ae w gS xZ #[.int .u16 (S:Nat)]->
  Calls Tryz.prog 46 #[.slice A L.len c,.func (.func 127) #[] #[.pointer (some ⟨gS,0,none⟩)]] w fun e w'=>(∃v,e=.returned v)/\ae w' gS xZ #[.int .u16 (L.fold oW S:Nat)]/\Mk (fun x=>x=gS) w w':=by
 intro N
 induction N with
 | zero=>intro L h;omega
 | succ N IH=>
  intro L hsz A c lo hi gS S w hV hlen hsm yf hS hK;replace IH:=ax IH;replace hsm:=ax hsm;replace hsz:=ax hsz;obtain⟨n,hn⟩:∃n,n=L.len:=⟨_,rfl⟩;rw[<-hn];rw[<-hn] at hlen;replace hn:=ax hn;have hgl:=hK.lt;replace hV:=ax hV;(go_enter Tryz.func46,Tryz.ntmps46);(go_wp2_with fail)
  go_loopw [8] (fun x wr=>∃(j S1:Nat),j<=n/\x=.int .i64 j/\S1<512/\aJ (L.fold oW S=(L.drop j).fold oW S1)/\ae wr gS xZ #[.int .u16 (S1:Nat)]/\Mk (fun x=>x=gS) w wr) (fun x _=>n - (intOf x).toNat)
  case atStart=>exact⟨0,S,dJ,rfl,hS,ax rfl,hK,Mk.refl _ _⟩
  case round=>
   clear hK;obtain⟨j,S1,hj,rfl,hS1,HR,kS,hM⟩:=hrel;by_cases hlt:j<n
   ·have hpos:0<(L.drop j).len:=by rw[ay.iT,<-hn.o];omega
    obtain⟨k,a,b,t,i,body,els,r,eL⟩:=ay.dF hpos;obtain⟨bl,o,rfl,-,-,hAt⟩:=(hV.o.Lb hM yf hgl) (by rw[<-hn.o];omega);have hD:=hAt.drop j;have hS:=ay.fG j hsm.o;have hZ:=ay.kv j L;have hDs:=ay.ik j L eL;have iU:=HR.o;rw[eL] at hD hS hZ iU;obtain⟨⟨p0,p1,p2,p3,p4,p5⟩,⟨A6,c6,p6,g6⟩,⟨A7,c7,p7,g7⟩,⟨A8,c8,p8,g8⟩,⟨A9,c9,p9,g9⟩,-⟩:=hD;obtain⟨s1,s2,s3,s4,s5,s6,-⟩:=hS;simp only[ay.sz] at hZ;have hbs:body.sz<N:=by have:=hsz.o;omega
    have hes:els.sz<N:=by have:=hsz.o;omega
    have gA:aJ (aM wr lo hi (.agg #[.slice A6 i.facts.length c6,.slice A7 i.atoms.length c7]) i):=⟨_,_,_,_,rfl,⟨g6,s1⟩,⟨g7,s2⟩⟩;have gB:aJ (bH wr lo hi A8 body):=g8;have gE:aJ (bH wr lo hi A9 els):=g9;rw[ay.fold,<-hDs] at iU;obtain⟨S2,hS2⟩:∃x,x=oW S1 k a b t i:=⟨_,rfl⟩;have l2:S2<512:=by rw[hS2];exact Dy hS1 k a b t i
    obtain⟨S3,uB⟩:∃x,x=body.fold oW S2:=⟨_,rfl⟩;have l3:S3<512:=by rw[uB];exact ay.gD (fun S k a b t i h=>Dy h k a b t i) body l2
    obtain⟨S4,yc⟩:∃x,x=els.fold oW S3:=⟨_,rfl⟩;have l4:S4<512:=by rw[yc];exact ay.gD (fun S k a b t i h=>Dy h k a b t i) els l3
    rw[<-hS2,<-uB,<-yc] at iU;replace iU:=ax iU;replace hS2:=ax hS2;replace uB:=ax uB;replace yc:=ax yc;replace hbs:=ax hbs;replace hes:=ax hes;replace s5:=ax s5;replace s6:=ax s6;have yg:=kS.lt;have Nt:wr.heap.size≠gS:=by omega
    clear hZ hpos hAt g6 g7 g8 g9 HR hDs eL;(go_wp2_with fail);refine(Qc S1 gS hS1 k a b t i A6 A7 A8 A9 c6 c7 c8 c9 body els _ (kS.alloc _)).mono ?_;rintro e w1 ⟨⟨v1,rfl⟩,SK,hM1⟩;rw[<-hS2.o] at SK;have hW:Mk (fun x=>x=gS) wr w1:=(Mk.iy (ai aU _)).trans hM1;have k0:ae w1 wr.heap.size tC #[.int .i64 k,.int .i64 a,.int .i64 b,.bool t.eq,.int .i64 t.a,.int .i64 t.b,.slice A6 i.facts.length c6,.slice A7 i.atoms.length c7,.slice A8 body.len c8,.slice A9 els.len c9]:=hM1.blk (ae.new _ _ _) Nt;have q0:=k0.cell;have l0:=k0.lt;clear hM1 kS gA p0 p1 p2 p3 p4 p5 p6 p7 p8 p9;(go_wp2_with fail);refine(IH.o body hbs.o A8 c8 lo hi gS S2 w1 (gB.o.Lb hW yf yg) s3 s5.o yf l2 SK).mono ?_;rintro e w2 ⟨⟨v2,rfl⟩,Qe,hM2⟩;rw[<-uB.o] at Qe;replace hW:=hW.trans hM2;replace k0:=hM2.blk k0 Nt;replace q0:=k0.cell;replace l0:=k0.lt;clear hM2 SK;(go_wp2_with fail);refine(IH.o els hes.o A9 c9 lo hi gS S3 w2 (gE.o.Lb hW yf yg) s4 s6.o yf l3 Qe).mono ?_;rintro e w3 ⟨⟨v3,rfl⟩,IP,MK⟩;rw[<-yc.o] at IP;replace hW:=hW.trans MK;clear MK Qe k0 q0 l0;(go_wp2_with fail)
    go_round
    case rel=>exact⟨j+1,S4,by omega,by go_num,l4,iU,IP,hM.trans hW⟩
    case measure=>simp[intOf];omega
   ·go_wp2_with fail
    go_end0
    obtain rfl:j=n:=by omega
    have e1:L.drop j=.nil:=by rw[hn.o];exact ay.jw L
    have h2:=HR.o;rw[e1] at h2;exact⟨⟨_,rfl⟩,by rw[h2];exact kS,hM⟩
theorem IQ:∀(N:Nat) (L:ay),L.sz<N->∀(A:Option Addr) (c lo hi gS S:Nat) (w:World),bH w lo hi A L->L.len<=1049600->L.small 1049600->hi<=gS->S<512->ae w gS xZ #[.int .u16 (S:Nat)]->
  Calls Tryz.prog 46 #[.slice A L.len c,.func (.func 47) #[] #[.pointer (some ⟨gS,0,none⟩)]] w fun e w'=>(∃v,e=.returned v)/\ae w' gS xZ #[.int .u16 (L.fold Dx S:Nat)]/\Mk (fun x=>x=gS) w w':=by
 intro N
 induction N with
 | zero=>intro L h;omega
 | succ N IH=>
  intro L hsz A c lo hi gS S w hV hlen hsm yf hS hK;replace IH:=ax IH;replace hsm:=ax hsm;replace hsz:=ax hsz;obtain⟨n,hn⟩:∃n,n=L.len:=⟨_,rfl⟩;rw[<-hn];rw[<-hn] at hlen;replace hn:=ax hn;have hgl:=hK.lt;replace hV:=ax hV;(go_enter Tryz.func46,Tryz.ntmps46);(go_wp2_with fail)
  go_loopw [8] (fun x wr=>∃(j S1:Nat),j<=n/\x=.int .i64 j/\S1<512/\aJ (L.fold Dx S=(L.drop j).fold Dx S1)/\ae wr gS xZ #[.int .u16 (S1:Nat)]/\Mk (fun x=>x=gS) w wr) (fun x _=>n - (intOf x).toNat)
  case atStart=>exact⟨0,S,dJ,rfl,hS,ax rfl,hK,Mk.refl _ _⟩
  case round=>
   clear hK;obtain⟨j,S1,hj,rfl,hS1,HR,kS,hM⟩:=hrel;by_cases hlt:j<n
   ·have hpos:0<(L.drop j).len:=by rw[ay.iT,<-hn.o];omega
    obtain⟨k,a,b,t,i,body,els,r,eL⟩:=ay.dF hpos;obtain⟨bl,o,rfl,-,-,hAt⟩:=(hV.o.Lb hM yf hgl) (by rw[<-hn.o];omega);have hD:=hAt.drop j;have hS:=ay.fG j hsm.o;have hZ:=ay.kv j L;have hDs:=ay.ik j L eL;have iU:=HR.o;rw[eL] at hD hS hZ iU;obtain⟨⟨p0,p1,p2,p3,p4,p5⟩,⟨A6,c6,p6,g6⟩,⟨A7,c7,p7,g7⟩,⟨A8,c8,p8,g8⟩,⟨A9,c9,p9,g9⟩,-⟩:=hD;obtain⟨s1,s2,s3,s4,s5,s6,-⟩:=hS;simp only[ay.sz] at hZ;have hbs:body.sz<N:=by have:=hsz.o;omega
    have hes:els.sz<N:=by have:=hsz.o;omega
    have gA:aJ (aM wr lo hi (.agg #[.slice A6 i.facts.length c6,.slice A7 i.atoms.length c7]) i):=⟨_,_,_,_,rfl,⟨g6,s1⟩,⟨g7,s2⟩⟩;have gB:aJ (bH wr lo hi A8 body):=g8;have gE:aJ (bH wr lo hi A9 els):=g9;rw[ay.fold,<-hDs] at iU;obtain⟨S2,hS2⟩:∃x,x=Dx S1 k a b t i:=⟨_,rfl⟩;have l2:S2<512:=by rw[hS2];exact uA hS1 k a b t i
    obtain⟨S3,uB⟩:∃x,x=body.fold Dx S2:=⟨_,rfl⟩;have l3:S3<512:=by rw[uB];exact ay.gD (fun S k a b t i h=>uA h k a b t i) body l2
    obtain⟨S4,yc⟩:∃x,x=els.fold Dx S3:=⟨_,rfl⟩;have l4:S4<512:=by rw[yc];exact ay.gD (fun S k a b t i h=>uA h k a b t i) els l3
    rw[<-hS2,<-uB,<-yc] at iU;replace iU:=ax iU;replace hS2:=ax hS2;replace uB:=ax uB;replace yc:=ax yc;replace hbs:=ax hbs;replace hes:=ax hes;replace s5:=ax s5;replace s6:=ax s6;have yg:=kS.lt;have Nt:wr.heap.size≠gS:=by omega
    clear hZ hpos hAt g6 g7 g8 g9 HR hDs eL;(go_wp2_with fail);refine(Qd S1 gS hS1 k a b t i A6 A7 A8 A9 c6 c7 c8 c9 body els _ (gA.o.bz aj) (kS.alloc _)).mono ?_;rintro e w1 ⟨⟨v1,rfl⟩,SK,hM1⟩;rw[<-hS2.o] at SK;have hW:Mk (fun x=>x=gS) wr w1:=(Mk.iy (ai aU _)).trans hM1;have k0:ae w1 wr.heap.size tC #[.int .i64 k,.int .i64 a,.int .i64 b,.bool t.eq,.int .i64 t.a,.int .i64 t.b,.slice A6 i.facts.length c6,.slice A7 i.atoms.length c7,.slice A8 body.len c8,.slice A9 els.len c9]:=hM1.blk (ae.new _ _ _) Nt;have q0:=k0.cell;have l0:=k0.lt;clear hM1 kS gA p0 p1 p2 p3 p4 p5 p6 p7 p8 p9;(go_wp2_with fail);refine(IH.o body hbs.o A8 c8 lo hi gS S2 w1 (gB.o.Lb hW yf yg) s3 s5.o yf l2 SK).mono ?_;rintro e w2 ⟨⟨v2,rfl⟩,Qe,hM2⟩;rw[<-uB.o] at Qe;replace hW:=hW.trans hM2;replace k0:=hM2.blk k0 Nt;replace q0:=k0.cell;replace l0:=k0.lt;clear hM2 SK;(go_wp2_with fail);refine(IH.o els hes.o A9 c9 lo hi gS S3 w2 (gE.o.Lb hW yf yg) s4 s6.o yf l3 Qe).mono ?_;rintro e w3 ⟨⟨v3,rfl⟩,IP,MK⟩;rw[<-yc.o] at IP;replace hW:=hW.trans MK;clear MK Qe k0 q0 l0;(go_wp2_with fail)
    go_round
    case rel=>exact⟨j+1,S4,by omega,by go_num,l4,iU,IP,hM.trans hW⟩
    case measure=>simp[intOf];omega
   ·go_wp2_with fail
    go_end0
    obtain rfl:j=n:=by omega
    have e1:L.drop j=.nil:=by rw[hn.o];exact ay.jw L
    have h2:=HR.o;rw[e1] at h2;exact⟨⟨_,rfl⟩,by rw[h2];exact kS,hM⟩
theorem wV{lo hi:Nat}(L:ay)(A:Option Addr)(c:Nat)(w:World)(hV:bH w lo hi A L)(hhi:hi<=w.heap.size)(hlen:L.len<=1049600)(hsm:L.small 1049600) :
  Calls Tryz.prog 96 #[.slice A L.len c] w fun e w'=>e=.returned (.int .u16 (L.fold oW 0:Nat))/\Below w.heap.size w w':=by
 replace hV:=ax hV;replace hsm:=ax hsm;(go_enter Tryz.func96,Tryz.ntmps96);(go_wp2_with fail);refine(IM _ L (Nat.lt_succ_self _) A c lo hi w.heap.size 0 _ (hV.o.bz aj) hlen hsm.o hhi (by decide) (ae.new _ _ _)).mono ?_;rintro e w1 ⟨⟨v1,rfl⟩,kS,hM⟩;have hB:Below w.heap.size w w1:=Below.trans (ai aU _) (hM.bz (fun k hk=>by omega) (by simp));have q0:=kS.cell 0;have l0:=kS.lt;clear hM;go_wp2;go_ret;exact⟨rfl,hB⟩
theorem pI{lo hi:Nat}(L:ay)(A:Option Addr)(c:Nat)(w:World)(hV:bH w lo hi A L)(hhi:hi<=w.heap.size)(hlen:L.len<=1049600)(hsm:L.small 1049600) :
  Calls Tryz.prog 21 #[.slice A L.len c] w fun e w'=>e=.returned (.int .u16 (lG (L.fold Dx 0):Nat))/\Below w.heap.size w w':=by
 replace hV:=ax hV;replace hsm:=ax hsm;(go_enter Tryz.func21,Tryz.ntmps21);(go_wp2_with fail);refine(IQ _ L (Nat.lt_succ_self _) A c lo hi w.heap.size 0 _ (hV.o.bz aj) hlen hsm.o hhi (by decide) (ae.new _ _ _)).mono ?_;rintro e w1 ⟨⟨v1,rfl⟩,kS,hM⟩;have hB:Below w.heap.size w w1:=Below.trans (ai aU _) (hM.bz (fun k hk=>by omega) (by simp));have q0:=kS.cell 0;have l0:=kS.lt;clear hM;(go_wp2_with fail);refine(ky _ _ (ay.gD (fun S k a b t i h=>uA h k a b t i) L (by decide))).mono ?_;rintro e w3 ⟨rfl,rfl⟩;go_wp2;go_ret;exact⟨rfl,hB⟩
theorem tO{lo hi:Nat}(L:ay)(A:Option Addr)(c:Nat)(w:World)(hV:bH w lo hi A L)(hhi:hi<=w.heap.size)(hlen:L.len<=1049600)(hsm:L.small 1049600) :
  Calls Tryz.prog 8 #[.slice A L.len c] w fun e w'=>∃r,e=.returned r/\aD w' w.heap.size r (eO L)/\Below w.heap.size w w':=by
 replace hV:=ax hV;replace hsm:=ax hsm;(go_enter Tryz.func8,Tryz.ntmps8);(go_wp2_with fail);refine(mq L A c _ hV.o hlen hsm.o).mono ?_;rintro e w1 ⟨rfl,hB1⟩;cases hp:L.prog
 ·have HE:=ax (show eO L=[] by unfold eO;rw[hp];rfl);clear hp;go_wp2;go_ret;exact⟨_,rfl,by rw[HE.o];exact aD.nil _ _,hB1⟩
 have HE:=ax (show eO L=dw (lG (L.fold Dx 0)) 9 by unfold eO;rw[if_pos hp];rw[<-mM];rfl);clear hp;have hz:=hB1.size;(go_wp2_with fail);refine(pI L A c _ (hV.o.bz hB1) (by omega) hlen hsm.o).mono ?_;rintro e w2 ⟨rfl,hB2⟩;have hB:=aP hB1 hB2;have hz2:=hB2.size;(go_wp2_with fail);refine(qN _ _ (sS (ay.gD (fun S k a b t i h=>uA h k a b t i) L (by decide)))).mono ?_;rintro e w3 ⟨r,rfl,o,hB3⟩;go_wp2;go_ret;refine⟨_,rfl,?_,aP hB hB3⟩;rw[HE.o];exact o.bq
def VT(h:List Int):Option Nat:=(range 8).find? fun k:Nat=>!zn h ((k:Int)+1)
def Nu(s:wh)(k a b:Int):wh×Int:=
 if k=1 then (⟨s.values.set (a - 1).toNat (uj s.values b),s.heap⟩,0)
 else if k=2 then if zn s.heap (uj s.values b) then (⟨s.values.set (a - 1).toNat (cont s.heap (uj s.values b)),s.heap⟩,0) else (s,1)
 else if k=3 then if zn s.heap (uj s.values a) then (⟨s.values,s.heap.set (uj s.values a - 1).toNat (uj s.values b)⟩,0) else (s,1)
 else if k=4 then match VT s.heap with
  | some n=>(⟨s.values.set (a - 1).toNat ((n:Int)+1),s.heap.set n 0⟩,0)
  | none=>(s,2)
 else if zn s.heap (uj s.values a) then (⟨s.values,s.heap.set (uj s.values a - 1).toNat (-1)⟩,0) else (s,1)
def Ra(R:wh->Nat->wh×Int×Nat)(t:aF):Nat->wh->Nat->wh×Int×Nat
 | 0,s,f=>(s,3,f)
 | n+1,s,f=>if t.holds s.values then
   (if (R s f).2.1≠0 then R s f else if (R s f).2.2<1 then ((R s f).1,3,(R s f).2.2) else Ra R t n (R s f).1 ((R s f).2.2 - 1))
  else (s,0,f)
def ZV(k a b:Int)(t:aF)(RB RE:wh->Nat->wh×Int×Nat)(s:wh)(f:Nat):wh×Int×Nat:=
 if k=6 then (if t.holds s.values then RB s f else RE s f) else if k=7 then Ra RB t (f+1) s f else ((Nu s k a b).1,(Nu s k a b).2,f)
def Qf(k a b:Int)(t:aF)(RB RE:wh->Nat->wh×Int×Nat)(s:wh)(f:Nat):wh×Int×Nat:=
 if f<1 then (s,3,f) else ZV k a b t RB RE s (f - 1)
def ay.run:ay->wh->Nat->wh×Int×Nat
 | .nil,s,f=>(s,0,f)
 | .cons k a b t _ body els r,s,f=>
  if (Qf k a b t body.run els.run s f).2.1≠0 then Qf k a b t body.run els.run s f else r.run (Qf k a b t body.run els.run s f).1 (Qf k a b t body.run els.run s f).2.2
section
variable{B:Nat}{w a b:World}
end
end
section
open Go Go.RowKit Go.Proofs
attribute [local go_sem ↓] Go.wp_at_zero Go.wp_at_succ
theorem SL{lo hi bJ hi':Nat}(v v':Value)(a b:au)(w:World)(h:aM w lo hi v a)(h':aM w bJ hi' v' b)(hhi:hi<=w.heap.size)(RS:hi'<=w.heap.size):Calls Tryz.prog 126 #[v,v'] w fun e w'=>e=.returned (.bool (mU a b))/\Below w.heap.size w w':=rP v v' a b w h h' hhi RS
theorem FY{lo hi:Nat}(v:Value)(b:au)(A:Option Addr)(c:Nat)(ss:List au)(w:World)(h:Au w A ss)(hb:aM w lo hi v b)(hhi:hi<=w.heap.size)(hl:ss.length<=1000) :
  Calls Tryz.prog 128 #[.slice A ss.length c,v] w fun e w'=>e=.returned (.bool (ss.all fun p=>mU p b))/\Below w.heap.size w w':=by
 have H:=ax h;have HV:=ax hb;obtain⟨B1,d1,B2,d2,rfl,-⟩:=hb;clear h;(go_enter Tryz.func128,Tryz.ntmps128);(go_upto_region 1 with fail);refine bx1 (w:=w) (F:=Code.wp _ _ _ _) ?_;rintro W0 k3 HB0 -;replace HB0:=ax HB0;(go_wp2_with fail)
 go_loopw [9] (fun i wr=>∃j:Nat,j<=ss.length/\i=.int .i64 j/\aJ (∀p∈ss.take j,mU p b=true)/\aJ (Below w.heap.size w wr)/\ae wr w.heap.size aC #[.slice B1 b.facts.length d1,.slice B2 b.atoms.length d2]) (fun i _=>ss.length - (intOf i).toNat)
 case atStart=>exact⟨0,dJ,rfl,ax (by intro p hp;simp at hp),HB0,k3⟩
 case round=>
  clear k3;obtain⟨j,hj,rfl,HA,HB,k3⟩:=hrel;have xx:=HB.o.size;(replace fq:=k3.z);by_cases hlt:j<ss.length
  ·obtain⟨g,o,P,p,Q,q,rfl,lb,g0,g1,hC⟩:=H.o.bz HB.o j hlt;have HT:aJ (ss.take (j+1)=ss.take j++[ss[j]]):=ax (List.take_succ_eq_append_getElem hlt);have HM:aJ (ss[j]∈ss):=ax (getElem_mem hlt);obtain⟨s,hs⟩:∃s,s=ss[j]:=⟨_,rfl⟩;rw[<-hs] at g0 g1 hC HT HM;have HC:=ax hC;have hji:(j:Int)<(ss.length:Int):=by omega
   clear hs hC;(go_wp2_with fail);refine(SL _ _ s b _ (HC.o.V.bz (ai aU _)) (HV.o.bz (ai HB.o _)) (by simp) (by simp;omega)).mono ?_;rintro e w2 ⟨rfl,hB2⟩;have HB2:=ax (aP (ai HB.o (.cells #[.slice P s.facts.length p,.slice Q s.atoms.length q] aC)) hB2);have k32:=(k3.alloc (.cells #[.slice P s.facts.length p,.slice Q s.atoms.length q] aC)).nz hB2;clear hB2 g0 g1 k3;cases he:mU s b
   ·have E:aJ ((ss.all fun p=>mU p b)=false):=ax (by rw[List.all_eq_false];exact⟨s,HM.o,by simp[he]⟩);clear he;go_wp2;go_ret;exact⟨dz E.o.symm,HB2.o⟩
   ·have HA2:aJ (∀p∈ss.take (j+1),mU p b=true):=ax fun p hp=>by
     rw[HT.o] at hp;rcases List.mem_append.1 hp with hp|hp
     ·exact HA.o p hp
     ·obtain rfl:=List.mem_singleton.1 hp;exact he
    clear he;(go_wp2_with fail)
    go_round
    case rel=>exact⟨j+1,by omega,by go_num,HA2,HB2,k32⟩
    case measure=>simp[intOf];omega
  ·obtain rfl:j=ss.length:=by omega
   have E:aJ ((ss.all fun p=>mU p b)=true):=ax (by rw[List.all_eq_true];intro p hp;exact HA.o p (by rwa [take_length]));go_wp2;go_ret;exact⟨dz E.o.symm,HB.o⟩
def uH(lp:Bool)(K:Nat)(L:ay):Prop:=∀(lo hi lo1 hi1:Nat) (v:Value) (a:au) (A:Option Addr) (c:Nat) (w:World),eB w lo hi v a->hi<=w.heap.size->a.valid=true->bH w lo1 hi1 A L->hi1<=w.heap.size->
 Calls Tryz.prog 22 #[.agg #[.int .u16 K,.bool lp],v,.slice A L.len c] w fun e w'=>∃r vs,e=.returned (.tuple #[r,.int .i64 (L.exe lp K [a]).1])/\bg w' w.heap.size r vs (L.exe lp K [a]).2/\Below w.heap.size w w'
theorem DT{lo hi:Nat}(v:Value)(a:au)(w:World)(h:aM w lo hi v a)(hhi:hi<=w.heap.size):Calls Tryz.prog 94 #[v] w fun e w'=>e=.returned (.bool (dE a))/\Below w.heap.size w w':=nO v a w h hhi
theorem FZ{lo hi lo1 hi1:Nat}(lp:Bool)(K:Nat)(v:Value)(k a b:Int)(t:aF)(i:au)(A1 A2 A3 A4:Option Addr)(n1 n2 n4 d1 d2 d3 d4 d:Nat)(body:ay)(w:World)(h:aM w lo hi v i)(hhi:hi<=w.heap.size)(hil:i.facts.length<=1000)(hS:body.shape d=true)(hL:uH lp K body)(hB:bH w lo1 hi1 A3 body)(hhi1:hi1<=w.heap.size) :
  Calls Tryz.prog 97 #[.agg #[.int .u16 K,.bool lp],v,.agg #[.int .i64 k,.int .i64 a,.int .i64 b,.bool t.eq,.int .i64 t.a,.int .i64 t.b,.slice A1 n1 d1,.slice A2 n2 d2,.slice A3 body.len d3,.slice A4 n4 d4]] w fun e w'=>e=.returned (.bool (uF i t (body.exe lp K)))/\Below w.heap.size w w':=by
 have HV:=ax h;obtain⟨B1,e1,B2,e2,rfl,-⟩:=h;have HC:=ax hB;have HL:=ax hL;have HX:aJ (∀x:au,x.valid=true->iD 24 (body.exe lp K [x])):=ax fun x hx=>ay.lv hS hx;have E0:aJ (uF i t (body.exe lp K)=((cK i t).valid&&(!dE (cK i t) || (decide ((body.exe lp K [cK i t]).1=0)&&(body.exe lp K [cK i t]).2.all fun p=>mU p i)))):=rfl;clear hB hL hS;generalize uF i t (body.exe lp K)=res at E0⊢;(go_enter Tryz.func97,Tryz.ntmps97);obtain⟨k3,k4,k5⟩:=wD w 54 aC tC #[.int .u16 K,.bool lp] #[.slice B1 i.facts.length e1,.slice B2 i.atoms.length e2] #[.int .i64 k,.int .i64 a,.int .i64 b,.bool t.eq,.int .i64 t.a,.int .i64 t.b,.slice A1 n1 d1,.slice A2 n2 d2,.slice A3 body.len d3,.slice A4 n4 d4];have HB:aJ (Below w.heap.size w (((w.alloc (.cells #[.int .u16 K,.bool lp] 54)).alloc (.cells #[.slice B1 i.facts.length e1,.slice B2 i.atoms.length e2] aC)).alloc (.cells #[.int .i64 k,.int .i64 a,.int .i64 b,.bool t.eq,.int .i64 t.a,.int .i64 t.b,.slice A1 n1 d1,.slice A2 n2 d2,.slice A3 body.len d3,.slice A4 n4 d4] tC))):=ax (ai (ai (ai aU _) _) _);have hz:(((w.alloc (.cells #[.int .u16 K,.bool lp] 54)).alloc (.cells #[.slice B1 i.facts.length e1,.slice B2 i.atoms.length e2] aC)).alloc (.cells #[.int .i64 k,.int .i64 a,.int .i64 b,.bool t.eq,.int .i64 t.a,.int .i64 t.b,.slice A1 n1 d1,.slice A2 n2 d2,.slice A3 body.len d3,.slice A4 n4 d4] tC)).heap.size=w.heap.size+3:=by simp
 (go_upto_region 1 with fail);generalize (((w.alloc (.cells #[.int .u16 K,.bool lp] _)).alloc (.cells #[.slice B1 i.facts.length e1,.slice B2 i.atoms.length e2] _)).alloc (.cells #[.int .i64 k,.int .i64 a,.int .i64 b,.bool t.eq,.int .i64 t.a,.int .i64 t.b,.slice A1 n1 d1,.slice A2 n2 d2,.slice A3 body.len d3,.slice A4 n4 d4] _))=W at*;(replace fq:=k3.z;replace eZ:=k4.z;replace pG:=k5.z);(go_wp2_with fail);refine(jC _ i t _ (HV.o.bz HB.o) (by omega)).mono ?_;rintro e w1 ⟨r1,rfl,o1,hB1⟩;obtain⟨y,hy⟩:∃y,y=cK i t:=⟨_,rfl⟩;rw[<-hy] at o1 E0;clear hy;have HB1:=bF HB hB1;have hz1:=hB1.size;replace k3:=k3.nz hB1;replace k4:=k4.nz hB1;replace k5:=k5.nz hB1;have O1:=ax o1.C;obtain⟨F,f,G,g,rfl⟩:=o1.I.form;have k7:=ae.new w1 aC #[.slice F y.facts.length f,.slice G y.atoms.length g];have l7:=k7.lt;have Lj:=ax (ai (Below.refl _ w1) (.cells #[.slice F y.facts.length f,.slice G y.atoms.length g] aC));replace k3:=k3.nz Lj.o;replace k4:=k4.nz Lj.o;replace k5:=k5.nz Lj.o;clear o1 hB1 fq eZ pG;(go_upto_region 2 with fail);generalize (w1.alloc (.cells #[.slice F y.facts.length f,.slice G y.atoms.length g] _))=W1 at*;(replace fq:=k3.z;replace eZ:=k4.z;replace pG:=k5.z;replace ZW:=k7.z);(go_wp2_with fail);refine(jz _ y _ (O1.o.V.bz Lj.o)).mono ?_;rintro e w2 ⟨rfl,hB2⟩;have HB2:=ax (aP (aP HB1.o Lj.o) hB2);have HBY:=bF Lj hB2;have hz2:=hB2.size;(replace k3:=k3.nz hB2;replace fq:=k3.z;replace k4:=k4.nz hB2;replace eZ:=k4.z;replace k5:=k5.nz hB2;replace pG:=k5.z;replace k7:=k7.nz hB2;replace ZW:=k7.z);clear hB2;cases hv:y.valid
 ·have E:aJ (res=false):=ax (by rw[E0.o,hv];rfl);clear hv;go_wp2;go_ret;exact⟨dz E.o.symm,HB2.o⟩
 (go_wp2_with fail);refine(DT _ y _ (O1.o.V.bz HBY.o) (by omega)).mono ?_;rintro e w3 ⟨rfl,hB3⟩;have HB3:=bF HB2 hB3;have HBZ:=bF HBY hB3;have hz3:=hB3.size;(replace k3:=k3.nz hB3;replace fq:=k3.z;replace k4:=k4.nz hB3;replace eZ:=k4.z;replace k5:=k5.nz hB3;replace pG:=k5.z;replace k7:=k7.nz hB3;replace ZW:=k7.z);clear hB3;cases hc:dE y
 ·have E:aJ (res=true):=ax (by rw[E0.o,hv,hc];rfl);clear hv hc;go_wp2;go_ret;exact⟨dz E.o.symm,HB3.o⟩
 have Nv:=ax hv;(go_wp2_with fail);refine(HL.o _ _ _ _ _ y A3 d3 _ (O1.o.bz HBZ.o) (by omega) Nv.o (HC.o.bz HB3.o) (by omega)).mono ?_;rintro e w4 ⟨r4,vs,rfl,o4,hB4⟩;have HR:=ax (HX.o y Nv.o);have E:aJ (res=(decide ((body.exe lp K [y]).1=0)&&(body.exe lp K [y]).2.all fun p=>mU p i)):=ax (by rw[E0.o,hv,hc];rfl);have mJ:=bF HB3 hB4;have Dp:=hB4.size;(replace k3:=k3.nz hB4;replace fq:=k3.z;replace k4:=k4.nz hB4;replace eZ:=k4.z;replace k5:=k5.nz hB4;replace pG:=k5.z;replace k7:=k7.nz hB4;replace ZW:=k7.z);clear hB4 hv hc HX HL HC E0;generalize body.exe lp K [y]=P at*;obtain⟨code,ps⟩:=P;obtain⟨R,r,rfl⟩:=o4.form;have ON:=ax o4.now;have hpl:ps.length<=1000:=Nat.le_trans HR.o.len (by decide);clear o4;simp only at E⊢;by_cases h0:code=0
 ·subst h0;(go_wp2_with fail);refine(FY _ i R r ps _ ON.o (HV.o.bz mJ.o) (by omega) hpl).mono ?_;rintro e w5 ⟨rfl,bW⟩;have E2:aJ (res=ps.all fun p=>mU p i):=ax (by rw[E.o];simp);have wm:=bF mJ bW;clear bW E;obtain⟨q,hq⟩:∃q,q=ps.all fun p=>mU p i:=⟨_,rfl⟩;rw[<-hq] at E2⊢;clear hq;go_wp2;go_ret;exact⟨dz E2.o.symm,wm.o⟩
 ·have E2:aJ (res=false):=ax (by rw[E.o];simp[h0]);have Ut:(code == 0)=false:=beq_false_of_ne h0;clear E h0;go_wp2;go_ret;exact⟨dz E2.o.symm,mJ.o⟩
theorem Cw(t:aF)(w:World):Calls Tryz.prog 92 #[t.val] w fun e w'=>e=.returned t.neg.val/\Below w.heap.size w w':=by
 (go_enter Tryz.func92,Tryz.ntmps92);obtain⟨k1,k2⟩:=Dh w tF tF #[.bool t.eq,.int .i64 t.a,.int .i64 t.b] #[.bool false,.int .i64 0,.int .i64 0];(replace fI:=k1.z;replace lZ:=k2.cell;replace Ag:=k2.frozen;replace xC:=k2.lt);go_wp2;refine bodyPost_ret (v:=t.neg.val) (by simp[results,Tryz.results92,go_sem,lZ,xC,aF.neg]) rfl ⟨rfl,aj⟩
theorem ae.Lr{w w':World}{B g:Nat}{t:TypeId}{cs:Array Value}(h:ae w g t cs)(hb:Below B w w')(hg:g<B):ae w' g t cs:=(hb.block g hg).trans h
theorem VU(f g:aF)(w:World):(Instr.index 127 (.agg #[.bool f.eq,.int .i64 f.a,.int .i64 f.b,.bool g.eq,.int .i64 g.a,.int .i64 g.b]) (.int .i64 0)).run Tryz.prog w=.ok f.val w/\(Instr.index 127 (.agg #[.bool f.eq,.int .i64 f.a,.int .i64 f.b,.bool g.eq,.int .i64 g.a,.int .i64 g.b]) (.int .i64 1)).run Tryz.prog w=.ok g.val w:=by
 have h:=Tryz.underlying127;have h2:=Tryz.underlying71
 constructor<;>simp[Instr.index,run_underlying h,run_underlying h2,asIntOf,go_sem,part,isAgg]
theorem IU{lo hi lo1 hi1:Nat}(lp:Bool)(K:Nat)(v:Value)(x:au)(k a b:Int)(t:aF)(A1 A2 A3 A4:Option Addr)(n1 n2 d1 d2 d3 d4 d:Nat)(body els:ay)(w:World)(h:eB w lo hi v x)(hhi:hi<=w.heap.size)(hxl:x.facts.length<=1000)(hS:body.shape d=true)(hS':els.shape d=true)(hL:uH lp K body)(hL':uH lp K els)(hB:bH w lo1 hi1 A3 body)(hB':bH w lo1 hi1 A4 els)(hhi1:hi1<=w.heap.size) :
  Calls Tryz.prog 73 #[.agg #[.int .u16 K,.bool lp],v,.agg #[.int .i64 k,.int .i64 a,.int .i64 b,.bool t.eq,.int .i64 t.a,.int .i64 t.b,.slice A1 n1 d1,.slice A2 n2 d2,.slice A3 body.len d3,.slice A4 els.len d4]] w fun e w'=>∃r vs,e=.returned (.tuple #[r,.int .i64 (DK x t (body.exe lp K) (els.exe lp K)).1])/\bg w' w.heap.size r vs (DK x t (body.exe lp K) (els.exe lp K)).2/\Below w.heap.size w w':=by
 have HV:=ax h;obtain⟨B1,e1,B2,e2,rfl,-⟩:=h;have HC:=ax hB;have HC':=ax hB';have HL:=ax hL;have Mb:=ax hL';have HX:aJ (∀x:au,x.valid=true->iD 24 (body.exe lp K [x])):=ax fun x hx=>ay.lv hS hx;have OO:aJ (∀x:au,x.valid=true->iD 24 (els.exe lp K [x])):=ax fun x hx=>ay.lv hS' hx;obtain⟨W1,hW1⟩:∃W1,W1=DJ x t (body.exe lp K) []:=⟨_,rfl⟩;obtain⟨W2,hW2⟩:∃W2,W2=DJ x t.neg (els.exe lp K) W1.2:=⟨_,rfl⟩;obtain⟨res,hres⟩:∃q,q=DK x t (body.exe lp K) (els.exe lp K):=⟨_,rfl⟩;have ER:aJ (res=if W1.1≠0 then W1 else W2):=ax (by rw[hres,hW2,hW1];rfl);have EW1:aJ (W1=if (cK x t).valid then (if dE (cK x t) then (if (body.exe lp K [cK x t]).1≠0 then ((body.exe lp K [cK x t]).1,[]) else (0,[]++(body.exe lp K [cK x t]).2)) else (0,[])) else (1,[])):=ax hW1;have EW2:aJ (W2=if (cK x t.neg).valid then (if dE (cK x t.neg) then (if (els.exe lp K [cK x t.neg]).1≠0 then ((els.exe lp K [cK x t.neg]).1,[]) else (0,W1.2++(els.exe lp K [cK x t.neg]).2)) else (0,W1.2)) else (1,[])):=ax hW2;rw[<-hres];clear hB hB' hL hL' hS hS' hW1 hW2 hres;(go_enter Tryz.func73,Tryz.ntmps73);obtain⟨k3,k4,k5⟩:=wD w 54 aC tC #[.int .u16 K,.bool lp] #[.slice B1 x.facts.length e1,.slice B2 x.atoms.length e2] #[.int .i64 k,.int .i64 a,.int .i64 b,.bool t.eq,.int .i64 t.a,.int .i64 t.b,.slice A1 n1 d1,.slice A2 n2 d2,.slice A3 body.len d3,.slice A4 els.len d4];have HB:aJ (Below w.heap.size w (((w.alloc (.cells #[.int .u16 K,.bool lp] 54)).alloc (.cells #[.slice B1 x.facts.length e1,.slice B2 x.atoms.length e2] aC)).alloc (.cells #[.int .i64 k,.int .i64 a,.int .i64 b,.bool t.eq,.int .i64 t.a,.int .i64 t.b,.slice A1 n1 d1,.slice A2 n2 d2,.slice A3 body.len d3,.slice A4 els.len d4] tC))):=ax (ai (ai (ai aU _) _) _);have hz:(((w.alloc (.cells #[.int .u16 K,.bool lp] 54)).alloc (.cells #[.slice B1 x.facts.length e1,.slice B2 x.atoms.length e2] aC)).alloc (.cells #[.int .i64 k,.int .i64 a,.int .i64 b,.bool t.eq,.int .i64 t.a,.int .i64 t.b,.slice A1 n1 d1,.slice A2 n2 d2,.slice A3 body.len d3,.slice A4 els.len d4] tC)).heap.size=w.heap.size+3:=by simp
 (go_upto_region 2 with fail);generalize (((w.alloc (.cells #[.int .u16 K,.bool lp] _)).alloc (.cells #[.slice B1 x.facts.length e1,.slice B2 x.atoms.length e2] _)).alloc (.cells #[.int .i64 k,.int .i64 a,.int .i64 b,.bool t.eq,.int .i64 t.a,.int .i64 t.b,.slice A1 n1 d1,.slice A2 n2 d2,.slice A3 body.len d3,.slice A4 els.len d4] _))=W at*;refine lS (S:=(fun w'=>∀i,w'.cell? ⟨w.heap.size+2,i,none⟩=#[.int .i64 k,.int .i64 a,.int .i64 b,.bool t.eq,.int .i64 t.a,.int .i64 t.b,.slice A1 n1 d1,.slice A2 n2 d2,.slice A3 body.len d3,.slice A4 els.len d4][i]?)) (k5.drew.cell) fun aH=>?_;replace k3:=k3.drew;replace k4:=k4.drew;replace k5:=k5.drew;replace HB:=ax HB.o.drew;have hzd:W.drew.heap.size=W.heap.size:=rfl;generalize W.drew=V at*;refine jQ 0 1 2 3 6 ?_;refine aX 4 rfl fun K hK=>?_;(try simp only[zz]);(go_simp;refine(Cw t _).mono ?_;rintro e w1 ⟨rfl,hq⟩;replace k3:=k3.nz hq;replace k4:=k4.nz hq;replace k5:=k5.nz hq;replace HB:=bF HB hq;have hz1:=hq.size;clear hq);refine hK.out _ _ (k5.cell) ?_;clear aH hK K;intro aH;refine jh 5 ?_;refine jP ?_;clear hzd;(replace fq:=k3.z;replace eZ:=k4.z;replace pG:=k5.z);(go_wp2_with fail)
 go_loopw [8,21] (fun rs i wr=>∃(q:Int) (R:Option Addr) (r:Nat) (us:List Value) (acc:List au),i=.int .i64 q/\rs=.slice R acc.length r/\aJ ((q=0/\acc=[])\/(q=1/\W1.1=0/\acc=W1.2)\/(q=2/\W1.1=0/\W2.1=0/\acc=W2.2))/\aJ (bg wr (w.heap.size+1+1+1) (.slice R acc.length r) us acc)/\(acc.length:Int)<=24 * q/\aJ (Below w.heap.size w wr)/\ae wr w.heap.size 54 #[.int .u16 K,.bool lp]/\ae wr (w.heap.size+1) aC #[.slice B1 x.facts.length e1,.slice B2 x.atoms.length e2]/\ae wr (w.heap.size+1+1) tC #[.int .i64 k,.int .i64 a,.int .i64 b,.bool t.eq,.int .i64 t.a,.int .i64 t.b,.slice A1 n1 d1,.slice A2 n2 d2,.slice A3 body.len d3,.slice A4 els.len d4]) (fun _ i _=>(2 - intOf i).toNat)
 case atStart=>exact⟨0,none,0,[],[],rfl,rfl,ax (.inl ⟨rfl,rfl⟩),bg.nil _ _,by simp,HB,k3,k4,k5⟩
 case round=>
  clear k3 k4 k5 HB fq eZ pG;obtain⟨q,R,r,us,acc,rfl,rfl,HQ,OA,hal,ic,k3,k4,k5⟩:=hrel;have xx:=ic.o.size;have hzr2:=k5.lt;rcases HQ.o with ⟨rfl,hacc⟩|⟨rfl,h1,hacc⟩|⟨rfl,h1,h2,hacc⟩
  ·clear HQ;obtain⟨f,hf⟩:∃f,f=t:=⟨_,rfl⟩;have EW:aJ (W1=if (cK x f).valid then (if dE (cK x f) then (if (body.exe lp K [cK x f]).1≠0 then ((body.exe lp K [cK x f]).1,[]) else (0,acc++(body.exe lp K [cK x f]).2)) else (0,acc)) else (1,[])):=ax (by rw[hf,hacc];exact EW1.o);have HE:aJ (W1.1≠0->res=W1):=ax fun h=>by rw[ER.o,if_pos h]
   replace hacc:=ax hacc;have hi:(Instr.index 127 (.agg #[.bool t.eq,.int .i64 t.a,.int .i64 t.b,.bool t.neg.eq,.int .i64 t.neg.a,.int .i64 t.neg.b]) (.int .i64 0)).run Tryz.prog wr=.ok (.agg #[.bool f.eq,.int .i64 f.a,.int .i64 f.b]) wr:=by rw[hf];exact(VU t t.neg wr).1
   replace hf:=ax hf;(replace fq:=k3.z;replace eZ:=k4.z;replace pG:=k5.z);(go_wp2_with fail);refine(jC _ x f _ (HV.o.V.bz (ai ic.o _)) (by omega)).mono ?_;rintro e w2 ⟨r2,rfl,o2,hB2⟩;obtain⟨y,hy⟩:∃y,y=cK x f:=⟨_,rfl⟩;rw[<-hy] at o2 EW;have hb1:=ai (Below.refl _ wr) (.cells #[.bool f.eq,.int .i64 f.a,.int .i64 f.b] tF);have k10:=ae.new wr tF #[.bool f.eq,.int .i64 f.a,.int .i64 f.b];have hq:=aP hb1 hB2;replace k3:=k3.nz hq;replace k4:=k4.nz hq;replace k5:=k5.nz hq;replace k10:=k10.nz hB2;have Z:=ax hq;have hz2:=hq.size;have O2:=ax o2.C;obtain⟨F,g1,G,g2,rfl⟩:=o2.I.form;have hb2:=ai (Below.refl _ w2) (.cells #[.slice F y.facts.length g1,.slice G y.atoms.length g2] aC);have k11:=ae.new w2 aC #[.slice F y.facts.length g1,.slice G y.atoms.length g2];replace k3:=k3.nz hb2;replace k4:=k4.nz hb2;replace k5:=k5.nz hb2;replace k10:=k10.nz hb2;replace O2:=ax (O2.o.bz hb2);replace Z:=bF Z hb2;clear hy hb1 hb2 hq hB2 o2 fq eZ pG hi;(go_upto_region 6 with fail);generalize (w2.alloc (.cells #[.slice F y.facts.length g1,.slice G y.atoms.length g2] _))=w3 at*;(replace fq:=k3.z;replace eZ:=k4.z;replace pG:=k5.z;replace DU:=k10.z;replace IV:=k11.z);have hz3:=Z.o.size;(go_wp2_with fail);refine(jz _ y _ O2.o.V).mono ?_;rintro e w4 ⟨rfl,hB4⟩;replace Z:=bF Z hB4;replace O2:=ax (O2.o.bz hB4);(replace k3:=k3.nz hB4;replace fq:=k3.z;replace k4:=k4.nz hB4;replace eZ:=k4.z;replace k5:=k5.nz hB4;replace pG:=k5.z;replace k10:=k10.nz hB4;replace DU:=k10.z;replace k11:=k11.nz hB4;replace IV:=k11.z);have Dp:=hB4.size;clear hB4;cases hv:y.valid
   ·have E:aJ (res=(1,[])):=ax (by rw[HE.o (by rw[EW.o,hv];simp),EW.o,hv];rfl);clear hv;go_wp2;go_ret2;exact⟨_,_,by rw[E.o];rfl,by rw[E.o];exact bg.nil _ _,aP ic.o Z.o⟩
   (go_wp2_with fail);refine(DT _ y _ O2.o.V (by omega)).mono ?_;rintro e w5 ⟨rfl,bW⟩;replace Z:=bF Z bW;replace O2:=ax (O2.o.bz bW);(replace k3:=k3.nz bW;replace fq:=k3.z;replace k4:=k4.nz bW;replace eZ:=k4.z;replace k5:=k5.nz bW;replace pG:=k5.z;replace k10:=k10.nz bW;replace DU:=k10.z;replace k11:=k11.nz bW;replace IV:=k11.z);have PM:=bW.size;clear bW;cases hc:dE y
   ·have E9:aJ (W1=(0,acc)):=ax (by rw[EW.o,hv,hc];rfl);have O9:=ax (OA.o.bz Z.o);have Ew:=ax (aP ic.o Z.o);clear hv hc EW HE HX OO HL Mb OA;(go_wp2_with fail)
    go_round
    case rel=>exact⟨1,R,r,us,acc,rfl,rfl,ax (.inr (.inl ⟨rfl,by rw[E9.o],by rw[E9.o]⟩)),O9,(by omega),Ew,k3,k4,k5⟩
    case measure=>simp[intOf]
   have Nv:=ax hv;have E1:aJ (W1=if (body.exe lp K [y]).1≠0 then ((body.exe lp K [y]).1,[]) else (0,acc++(body.exe lp K [y]).2)):=ax (by rw[EW.o,hv,hc];rfl);clear hv hc EW;have hfe:=hf.o;subst hfe;clear hf;(go_wp2_with fail);refine(HL.o _ _ _ _ _ y A3 d3 _ O2.o (by omega) Nv.o (HC.o.bz (aP ic.o Z.o)) (by have:=ic.o.size;omega)).mono ?_;rintro e w6 ⟨r6,vs,rfl,o6,iA⟩;have HR:=ax (HX.o y Nv.o);have FB:=iA.size;have O6:=ax o6;replace Z:=bF Z iA;(replace k3:=k3.nz iA;replace fq:=k3.z;replace k4:=k4.nz iA;replace eZ:=k4.z;replace k5:=k5.nz iA;replace pG:=k5.z;replace k10:=k10.nz iA;replace DU:=k10.z;replace k11:=k11.nz iA;replace IV:=k11.z);clear iA HX OO HL Mb o6;generalize body.exe lp K [y]=P at*;obtain⟨code,ps⟩:=P;obtain⟨R6,r7,rfl⟩:=O6.o.form;have hpl:ps.length<=24:=HR.o.len;simp only at E1 O6⊢;by_cases h0:code=0
   ·subst h0;have E9:aJ (W1=(0,acc++ps)):=ax (by rw[E1.o];rfl);clear E1 HE HR;(go_wp2_with (at_builtin;refine vK (w0:=wr) (base:=w.heap.size+1+1+1) (mid:=w5.heap.size) (mX:=ps) rfl _ _ rfl rfl OA.o Z.o (by omega) O6.o (by omega) rfl (by omega) ?_;intro R8 r8 w8 yh Ey eQ;have O8:=ax yh;have ru:=ax ((aP ic.o Z.o).trans (eQ.mono (by omega)));replace k3:=k3.Lr eQ (by omega);replace k4:=k4.Lr eQ (by omega);replace k5:=k5.Lr eQ (by omega);clear yh Ey eQ;simp only[<-length_append] at O8⊢))
    go_round
    case rel=>exact⟨1,R8,r8,_,acc++ps,rfl,by rw[length_append],ax (.inr (.inl ⟨rfl,by rw[E9.o],by rw[E9.o]⟩)),O8,(by simp;omega),ru,k3,k4,k5⟩
    case measure=>simp[intOf]
   ·have E:aJ (res=(code,[])):=ax (by rw[HE.o (by rw[E1.o,if_pos h0];exact h0),E1.o,if_pos h0]);have Ut:(code == 0)=false:=beq_false_of_ne h0;clear E1 HE HR;go_wp2;go_ret2;exact⟨_,_,by rw[E.o];rfl,by rw[E.o];exact bg.nil _ _,aP ic.o Z.o⟩
  ·clear HQ;obtain⟨f,hf⟩:∃f,f=t.neg:=⟨_,rfl⟩;have EW:aJ (W2=if (cK x f).valid then (if dE (cK x f) then (if (els.exe lp K [cK x f]).1≠0 then ((els.exe lp K [cK x f]).1,[]) else (0,acc++(els.exe lp K [cK x f]).2)) else (0,acc)) else (1,[])):=ax (by rw[hf,hacc];exact EW2.o);have HE:aJ (W2.1≠0->res=W2):=ax fun _=>by rw[ER.o,if_neg (by omega)]
   have H1:=ax h1;clear h1;replace hacc:=ax hacc;have hi:(Instr.index 127 (.agg #[.bool t.eq,.int .i64 t.a,.int .i64 t.b,.bool t.neg.eq,.int .i64 t.neg.a,.int .i64 t.neg.b]) (.int .i64 1)).run Tryz.prog wr=.ok (.agg #[.bool f.eq,.int .i64 f.a,.int .i64 f.b]) wr:=by rw[hf];exact(VU t t.neg wr).2
   replace hf:=ax hf;(replace fq:=k3.z;replace eZ:=k4.z;replace pG:=k5.z);(go_wp2_with fail);refine(jC _ x f _ (HV.o.V.bz (ai ic.o _)) (by omega)).mono ?_;rintro e w2 ⟨r2,rfl,o2,hB2⟩;obtain⟨y,hy⟩:∃y,y=cK x f:=⟨_,rfl⟩;rw[<-hy] at o2 EW;have hb1:=ai (Below.refl _ wr) (.cells #[.bool f.eq,.int .i64 f.a,.int .i64 f.b] tF);have k10:=ae.new wr tF #[.bool f.eq,.int .i64 f.a,.int .i64 f.b];have hq:=aP hb1 hB2;replace k3:=k3.nz hq;replace k4:=k4.nz hq;replace k5:=k5.nz hq;replace k10:=k10.nz hB2;have Z:=ax hq;have hz2:=hq.size;have O2:=ax o2.C;obtain⟨F,g1,G,g2,rfl⟩:=o2.I.form;have hb2:=ai (Below.refl _ w2) (.cells #[.slice F y.facts.length g1,.slice G y.atoms.length g2] aC);have k11:=ae.new w2 aC #[.slice F y.facts.length g1,.slice G y.atoms.length g2];replace k3:=k3.nz hb2;replace k4:=k4.nz hb2;replace k5:=k5.nz hb2;replace k10:=k10.nz hb2;replace O2:=ax (O2.o.bz hb2);replace Z:=bF Z hb2;clear hy hb1 hb2 hq hB2 o2 fq eZ pG hi;(go_upto_region 6 with fail);generalize (w2.alloc (.cells #[.slice F y.facts.length g1,.slice G y.atoms.length g2] _))=w3 at*;(replace fq:=k3.z;replace eZ:=k4.z;replace pG:=k5.z;replace DU:=k10.z;replace IV:=k11.z);have hz3:=Z.o.size;(go_wp2_with fail);refine(jz _ y _ O2.o.V).mono ?_;rintro e w4 ⟨rfl,hB4⟩;replace Z:=bF Z hB4;replace O2:=ax (O2.o.bz hB4);(replace k3:=k3.nz hB4;replace fq:=k3.z;replace k4:=k4.nz hB4;replace eZ:=k4.z;replace k5:=k5.nz hB4;replace pG:=k5.z;replace k10:=k10.nz hB4;replace DU:=k10.z;replace k11:=k11.nz hB4;replace IV:=k11.z);have Dp:=hB4.size;clear hB4;cases hv:y.valid
   ·have E:aJ (res=(1,[])):=ax (by rw[HE.o (by rw[EW.o,hv];simp),EW.o,hv];rfl);clear hv;go_wp2;go_ret2;exact⟨_,_,by rw[E.o];rfl,by rw[E.o];exact bg.nil _ _,aP ic.o Z.o⟩
   (go_wp2_with fail);refine(DT _ y _ O2.o.V (by omega)).mono ?_;rintro e w5 ⟨rfl,bW⟩;replace Z:=bF Z bW;replace O2:=ax (O2.o.bz bW);(replace k3:=k3.nz bW;replace fq:=k3.z;replace k4:=k4.nz bW;replace eZ:=k4.z;replace k5:=k5.nz bW;replace pG:=k5.z;replace k10:=k10.nz bW;replace DU:=k10.z;replace k11:=k11.nz bW;replace IV:=k11.z);have PM:=bW.size;clear bW;cases hc:dE y
   ·have E9:aJ (W2=(0,acc)):=ax (by rw[EW.o,hv,hc];rfl);have O9:=ax (OA.o.bz Z.o);have Ew:=ax (aP ic.o Z.o);clear hv hc EW HE HX OO HL Mb OA;(go_wp2_with fail)
    go_round
    case rel=>exact⟨2,R,r,us,acc,rfl,rfl,ax (.inr (.inr ⟨rfl,H1.o,by rw[E9.o],by rw[E9.o]⟩)),O9,(by omega),Ew,k3,k4,k5⟩
    case measure=>simp[intOf]
   have Nv:=ax hv;have E1:aJ (W2=if (els.exe lp K [y]).1≠0 then ((els.exe lp K [y]).1,[]) else (0,acc++(els.exe lp K [y]).2)):=ax (by rw[EW.o,hv,hc];rfl);clear hv hc EW;have hfe:=hf.o;subst hfe;clear hf;have hne:¬t.neg.eq=t.eq:=by simp[aF.neg]
   have hneb:(t.neg.eq == t.eq)=false:=beq_false_of_ne hne;(go_wp2_with fail);refine(Mb.o _ _ _ _ _ y A4 d4 _ O2.o (by omega) Nv.o (HC'.o.bz (aP ic.o Z.o)) (by have:=ic.o.size;omega)).mono ?_;rintro e w6 ⟨r6,vs,rfl,o6,iA⟩;have HR:=ax (OO.o y Nv.o);have FB:=iA.size;have O6:=ax o6;replace Z:=bF Z iA;(replace k3:=k3.nz iA;replace fq:=k3.z;replace k4:=k4.nz iA;replace eZ:=k4.z;replace k5:=k5.nz iA;replace pG:=k5.z;replace k10:=k10.nz iA;replace DU:=k10.z;replace k11:=k11.nz iA;replace IV:=k11.z);clear iA HX OO HL Mb o6;generalize els.exe lp K [y]=P at*;obtain⟨code,ps⟩:=P;obtain⟨R6,r7,rfl⟩:=O6.o.form;have hpl:ps.length<=24:=HR.o.len;simp only at E1 O6⊢;by_cases h0:code=0
   ·subst h0;have E9:aJ (W2=(0,acc++ps)):=ax (by rw[E1.o];rfl);clear E1 HE HR;(go_wp2_with (at_builtin;refine vK (w0:=wr) (base:=w.heap.size+1+1+1) (mid:=w5.heap.size) (mX:=ps) rfl _ _ rfl rfl OA.o Z.o (by omega) O6.o (by omega) rfl (by omega) ?_;intro R8 r8 w8 yh Ey eQ;have O8:=ax yh;have ru:=ax ((aP ic.o Z.o).trans (eQ.mono (by omega)));replace k3:=k3.Lr eQ (by omega);replace k4:=k4.Lr eQ (by omega);replace k5:=k5.Lr eQ (by omega);clear yh Ey eQ;simp only[<-length_append] at O8⊢))
    go_round
    case rel=>exact⟨2,R8,r8,_,acc++ps,rfl,by rw[length_append],ax (.inr (.inr ⟨rfl,H1.o,by rw[E9.o],by rw[E9.o]⟩)),O8,(by simp;omega),ru,k3,k4,k5⟩
    case measure=>simp[intOf]
   ·have E:aJ (res=(code,[])):=ax (by rw[HE.o (by rw[E1.o,if_pos h0];exact h0),E1.o,if_pos h0]);have Ut:(code == 0)=false:=beq_false_of_ne h0;clear E1 HE HR;go_wp2;go_ret2;exact⟨_,_,by rw[E.o];rfl,by rw[E.o];exact bg.nil _ _,aP ic.o Z.o⟩
  ·have E:aJ (res=(0,acc)):=ax (by rw[ER.o,if_neg (by omega),hacc];exact Prod.ext h2 rfl);clear HQ h1 h2 hacc;(replace fq:=k3.z;replace eZ:=k4.z;replace pG:=k5.z);go_wp2;go_ret2;exact⟨_,us,by rw[E.o];rfl,by rw[E.o];exact OA.o.bq,ic.o⟩
theorem aM.inv{w:World}{lo hi n1 c1 n2 c2:Nat}{A1 A2:Option Addr}{a:au}(h:aM w lo hi (.agg #[.slice A1 n1 c1,.slice A2 n2 c2]) a):aG w lo hi A1 a.facts/\aB w lo hi A2 a.atoms:=by
 obtain⟨_,_,_,_,e,h1,h2⟩:=h;injection e with e;injection e with e;injection e with e1 e2;injection e2 with e2;injection e1 with e1;injection e2 with e2;subst e1;subst e2;exact⟨h1,h2⟩
theorem aI.inv{w:World}{base:Nat}{u v:Value}{a:au}(h:aI w base (.agg #[u,v]) a):ah w base u a.facts/\af w base v a.atoms:=by
 obtain⟨_,_,e,h1,h2⟩:=h;injection e with e;injection e with e;injection e with e1 e2;injection e2 with e2;subst e1;subst e2;exact⟨h1,h2⟩
theorem Nw{lo hi lo1 hi1:Nat}(lp:Bool)(K:Nat)(v:Value)(x:au)(k a b:Int)(t:aF)(i:au)(A1 A2 A3 A4:Option Addr)(n4 d1 d2 d3 d4 d:Nat)(body:ay)(w:World)(h:aM w lo hi v x)(hhi:hi<=w.heap.size)(hxv:x.valid=true)(Fy:i.valid=true)(hS:body.shape d=true)(hlen:body.len<=1049600)(hsm:body.small 1049600)(hL:uH lp K body)(hI:aM w lo1 hi1 (.agg #[.slice A1 i.facts.length d1,.slice A2 i.atoms.length d2]) i)(hB:bH w lo1 hi1 A3 body)(hhi1:hi1<=w.heap.size) :
  Calls Tryz.prog 74 #[.agg #[.int .u16 K,.bool lp],v,.agg #[.int .i64 k,.int .i64 a,.int .i64 b,.bool t.eq,.int .i64 t.a,.int .i64 t.b,.slice A1 i.facts.length d1,.slice A2 i.atoms.length d2,.slice A3 body.len d3,.slice A4 n4 d4]] w fun e w'=>∃r,e=.returned (.tuple #[r,.int .i64 (iW x i t (body.fold oW 0) (body.exe lp K)).1])/\aI w' w.heap.size r (iW x i t (body.fold oW 0) (body.exe lp K)).2/\Below w.heap.size w w':=by
 have HV:=ax h;obtain⟨B1,e1,B2,e2,rfl,hxf,-⟩:=h;have HFx:=ax hxf;clear hxf;have HI:=ax hI;have HC:=ax hB;have HL:=ax hL;have QM:=ax hxv;have VV:=ax Fy;have hxl:=tT hxv;have hil:=tT Fy;have HS:=ax hS;have OP:=ax hsm
 have HXF:aJ (∀(j:Nat) (h:j<x.facts.length),jq x.facts[j].a=true/\jq x.facts[j].b=true):=ax fun j h=>by
  simp only[au.valid,aS,Bool.and_eq_true] at hxv;have:=List.all_eq_true.1 hxv.1.2 _ (getElem_mem h);unfold aF.valid at this
  rwa [Bool.and_eq_true] at this
 obtain⟨C,hC⟩:∃C,C=body.fold oW 0:=⟨_,rfl⟩;have hC5:C<512:=by rw[hC];exact ay.gD (fun S k a b t i h=>Dy h k a b t i) body (by decide)
 obtain⟨res,hres⟩:∃q,q=iW x i t C (body.exe lp K):=⟨_,rfl⟩;obtain⟨ok,hok⟩:∃ok,ok=(iP x i).isSome:=⟨_,rfl⟩;obtain⟨fr,hfr⟩:∃fr,fr=(iP x i).getD ⟨[],[]⟩:=⟨_,rfl⟩
 have E1:aJ (ok=false->res=(3,⟨[],[]⟩)):=ax fun h=>by
  rw[h] at hok;rw[hres];unfold iW
  cases hq:iP x i with
  | none=>rfl
  | some y=>rw[hq] at hok;cases hok
 have E2:aJ (ok=true->iP x i=some fr/\res=if aO (mz fr) &&& C≠0 then (3,⟨[],[]⟩) else if uF i t (body.exe lp K) then (if (DL x i t C fr).valid then (0,DL x i t C fr) else (1,⟨[],[]⟩)) else (4,⟨[],[]⟩)):=ax fun h=>by
  rw[h] at hok
  cases hq:iP x i with
  | none=>rw[hq] at hok;cases hok
  | some y=>
   rw[hq] at hfr;obtain rfl:fr=y:=hfr;refine⟨rfl,?_⟩;rw[hres];unfold iW;rw[hq]
 have CF:aJ (∀W lo hi bJ hi' v v',aM W lo hi v x->aM W bJ hi' v' i->hi<=W.heap.size->Calls Tryz.prog 95 #[v,v'] W fun e w'=>∃r,e=.returned (.tuple #[r,.bool ok])/\aI w' W.heap.size r fr/\Below W.heap.size W w'):=ax fun W lo hi bJ hi' v v' h1 h2 h3=>by rw[hok,hfr];exact Aw v v' x i W h1 h2 h3
 have CG:aJ (∀W lo hi,bH W lo hi A3 body->hi<=W.heap.size->Calls Tryz.prog 96 #[.slice A3 body.len d3] W fun e w'=>e=.returned (.int .u16 (C:Nat))/\Below W.heap.size W w'):=ax fun W lo hi h1 h2=>by rw[hC];exact wV body A3 d3 W h1 h2 hlen hsm
 rw[<-hC,<-hres];clear hI hB hL hxv Fy hS hsm hC hres hok hfr hlen;(go_enter Tryz.func74,Tryz.ntmps74);obtain⟨k3,k4,k5⟩:=wD w 54 aC tC #[.int .u16 K,.bool lp] #[.slice B1 x.facts.length e1,.slice B2 x.atoms.length e2] #[.int .i64 k,.int .i64 a,.int .i64 b,.bool t.eq,.int .i64 t.a,.int .i64 t.b,.slice A1 i.facts.length d1,.slice A2 i.atoms.length d2,.slice A3 body.len d3,.slice A4 n4 d4];have k6:=ae.new (((w.alloc (.cells #[.int .u16 K,.bool lp] 54)).alloc (.cells #[.slice B1 x.facts.length e1,.slice B2 x.atoms.length e2] aC)).alloc (.cells #[.int .i64 k,.int .i64 a,.int .i64 b,.bool t.eq,.int .i64 t.a,.int .i64 t.b,.slice A1 i.facts.length d1,.slice A2 i.atoms.length d2,.slice A3 body.len d3,.slice A4 n4 d4] tC)) aC #[.slice none 0 0,.slice none 0 0];replace k3:=k3.alloc (.cells #[.slice none 0 0,.slice none 0 0] aC);replace k4:=k4.alloc (.cells #[.slice none 0 0,.slice none 0 0] aC);replace k5:=k5.alloc (.cells #[.slice none 0 0,.slice none 0 0] aC);have FB:(((w.alloc (.cells #[.int .u16 K,.bool lp] 54)).alloc (.cells #[.slice B1 x.facts.length e1,.slice B2 x.atoms.length e2] aC)).alloc (.cells #[.int .i64 k,.int .i64 a,.int .i64 b,.bool t.eq,.int .i64 t.a,.int .i64 t.b,.slice A1 i.facts.length d1,.slice A2 i.atoms.length d2,.slice A3 body.len d3,.slice A4 n4 d4] tC)).heap.size=w.heap.size+1+1+1:=by simp
 rw[FB] at k6;clear FB;have HB:aJ (Below w.heap.size w ((((w.alloc (.cells #[.int .u16 K,.bool lp] 54)).alloc (.cells #[.slice B1 x.facts.length e1,.slice B2 x.atoms.length e2] aC)).alloc (.cells #[.int .i64 k,.int .i64 a,.int .i64 b,.bool t.eq,.int .i64 t.a,.int .i64 t.b,.slice A1 i.facts.length d1,.slice A2 i.atoms.length d2,.slice A3 body.len d3,.slice A4 n4 d4] tC)).alloc (.cells #[.slice none 0 0,.slice none 0 0] aC))):=ax (ai (ai (ai (ai aU _) _) _) _);have hz:((((w.alloc (.cells #[.int .u16 K,.bool lp] 54)).alloc (.cells #[.slice B1 x.facts.length e1,.slice B2 x.atoms.length e2] aC)).alloc (.cells #[.int .i64 k,.int .i64 a,.int .i64 b,.bool t.eq,.int .i64 t.a,.int .i64 t.b,.slice A1 i.facts.length d1,.slice A2 i.atoms.length d2,.slice A3 body.len d3,.slice A4 n4 d4] tC)).alloc (.cells #[.slice none 0 0,.slice none 0 0] aC)).heap.size=w.heap.size+4:=by simp
 (go_upto_region 1 with fail);generalize ((((w.alloc (.cells #[.int .u16 K,.bool lp] _)).alloc (.cells #[.slice B1 x.facts.length e1,.slice B2 x.atoms.length e2] _)).alloc (.cells #[.int .i64 k,.int .i64 a,.int .i64 b,.bool t.eq,.int .i64 t.a,.int .i64 t.b,.slice A1 i.facts.length d1,.slice A2 i.atoms.length d2,.slice A3 body.len d3,.slice A4 n4 d4] _)).alloc (.cells #[.slice none 0 0,.slice none 0 0] _))=W at*;(replace fq:=k3.z;replace eZ:=k4.z;replace pG:=k5.z;replace oD:=k6.cell;replace Ld:=k6.frozen;replace GZ:=k6.lt);(go_wp2_with fail);refine(CF.o _ _ _ _ _ _ _ (HV.o.bz HB.o) (HI.o.bz HB.o) (by omega)).mono ?_;rintro e w1 ⟨r1,rfl,o1,hB1⟩;obtain⟨F,f,G,g,rfl⟩:=o1.I.form;have hz1:=hB1.size;have GU:=ax o1;replace HB:=bF HB hB1;(replace k3:=k3.nz hB1;replace k4:=k4.nz hB1;replace k5:=k5.nz hB1;replace k6:=k6.nz hB1);have G7:=ai (Below.refl _ w1) (.cells #[.slice F fr.facts.length f,.slice G fr.atoms.length g] aC);have k8:=ae.new w1 aC #[.slice F fr.facts.length f,.slice G fr.atoms.length g];(replace k3:=k3.nz G7;replace k4:=k4.nz G7;replace k5:=k5.nz G7;replace k6:=k6.nz G7);replace GU:=ax ((GU.o.bq (base':=w.heap.size)).bz G7);replace HB:=bF HB G7;have y8l:w.heap.size+1+1+1<w1.heap.size:=by omega
 clear hB1 G7 o1 CF fq eZ pG oD Ld GZ;(go_upto_region 2 with fail);have hz2:w1.heap.size<(w1.alloc (.cells #[.slice F fr.facts.length f,.slice G fr.atoms.length g] aC)).heap.size:=by simp
 generalize (w1.alloc (.cells #[.slice F fr.facts.length f,.slice G fr.atoms.length g] _))=w2 at*;obtain⟨y8,hy8⟩:∃y,y=w1.heap.size:=⟨_,rfl⟩;rw[<-hy8] at k8 hz1 hz2 y8l⊢;clear hy8;(replace fq:=k3.z;replace eZ:=k4.z;replace pG:=k5.z;replace oD:=k6.cell;replace Ld:=k6.frozen;replace GZ:=k6.lt;replace BN:=k8.z);(go_wp2_with fail);refine(CG.o _ _ _ (HC.o.bz HB.o) (by omega)).mono ?_;rintro e w3 ⟨rfl,hB3⟩;have hz3:=hB3.size;replace GU:=ax (GU.o.bz hB3);replace HB:=bF HB hB3;(replace k3:=k3.nz hB3;replace fq:=k3.z;replace k4:=k4.nz hB3;replace eZ:=k4.z;replace k5:=k5.nz hB3;replace pG:=k5.z;replace k6:=k6.nz hB3;replace oD:=k6.cell;replace Ld:=k6.frozen;replace GZ:=k6.lt;replace k8:=k8.nz hB3;replace BN:=k8.z);clear hB3 CG;cases ok
 ·have E:=ax (E1.o rfl);clear E1 E2;(go_wp2_with fail);have hBw:=HB.o;refine bodyPost_ret (v:=.tuple #[.agg #[.slice none 0 0,.slice none 0 0],.int .i64 3]) (by simp[results,Tryz.results74,go_sem,oD,GZ]) rfl ⟨_,by rw[E.o],by rw[E.o];exact aI.zero _ _,aj⟩
 obtain⟨Hl,E0⟩:=E2.o rfl;replace E0:=ax E0;have HFV:=ax (E7 Hl);clear Hl E1 E2;(go_wp2_with fail);refine(di _ fr _ GU.o.I.rj).mono ?_;rintro e w4 ⟨rfl,hB4⟩;have Dp:=hB4.size;replace GU:=ax (GU.o.bz hB4);replace HB:=bF HB hB4;(replace k3:=k3.nz hB4;replace fq:=k3.z;replace k4:=k4.nz hB4;replace eZ:=k4.z;replace k5:=k5.nz hB4;replace pG:=k5.z;replace k6:=k6.nz hB4;replace oD:=k6.cell;replace Ld:=k6.frozen;replace GZ:=k6.lt;replace k8:=k8.nz hB4;replace BN:=k8.z);clear hB4;have hT:=dI (mz fr);generalize aO (mz fr)=T at*;have hU:=u16_and_nat T C (by omega) (by omega);generalize T &&& C=N at hU E0;by_cases hN:N≠0
 ·have E:aJ (res=(3,⟨[],[]⟩)):=ax (by rw[E0.o,if_pos hN]);have hNi:((N:Int) == 0)=false:=beq_false_of_ne (by omega);have hNi2:¬(N:Int)=0:=by omega
  clear hN E0;(go_wp2_with fail);have hBw:=HB.o;refine bodyPost_ret (v:=.tuple #[.agg #[.slice none 0 0,.slice none 0 0],.int .i64 3]) (by simp[results,Tryz.results74,go_sem,oD,GZ]) rfl ⟨_,by rw[E.o],by rw[E.o];exact aI.zero _ _,aj⟩
 have E1:aJ (res=if uF i t (body.exe lp K) then (if (DL x i t C fr).valid then (0,DL x i t C fr) else (1,⟨[],[]⟩)) else (4,⟨[],[]⟩)):=ax (by rw[E0.o,if_neg hN]);obtain rfl:N=0:=by omega
 clear hN E0;(go_wp2_with fail);refine(FZ lp K _ k a b t i A1 A2 A3 A4 i.facts.length i.atoms.length n4 d1 d2 d3 d4 d body _ (HI.o.bz HB.o) (by omega) (by omega) HS.o HL.o (HC.o.bz HB.o) (by omega)).mono ?_;rintro e w5 ⟨rfl,bW⟩;have PM:=bW.size;replace GU:=ax (GU.o.bz bW);replace HB:=bF HB bW;(replace k3:=k3.nz bW;replace fq:=k3.z;replace k4:=k4.nz bW;replace eZ:=k4.z;replace k5:=k5.nz bW;replace pG:=k5.z;replace k6:=k6.nz bW;replace oD:=k6.cell;replace Ld:=k6.frozen;replace GZ:=k6.lt;replace k8:=k8.nz bW;replace BN:=k8.z);clear bW hU hT;cases hkx:uF i t (body.exe lp K)
 ·have E:aJ (res=(4,⟨[],[]⟩)):=ax (by rw[E1.o,hkx];rfl);clear hkx E1;(go_wp2_with fail);have hBw:=HB.o;refine bodyPost_ret (v:=.tuple #[.agg #[.slice none 0 0,.slice none 0 0],.int .i64 4]) (by simp[results,Tryz.results74,go_sem,oD,GZ]) rfl ⟨_,by rw[E.o],by rw[E.o];exact aI.zero _ _,aj⟩
 have E2:aJ (res=if (DL x i t C fr).valid then (0,DL x i t C fr) else (1,⟨[],[]⟩)):=ax (by rw[E1.o,hkx];rfl);clear hkx E1 HL HS OP;have OA:=ax GU.o.inv.2;clear GU;(go_wp2_with fail)
 go_loopw [11,45] (fun rs ix wr=>∃(j:Nat) (R:Option Addr) (r:Nat) (ys:List aF),j<=x.facts.length/\ix=.int .i64 j/\rs=.slice R ys.length r/\ys.length<=j/\aJ (ys=(x.facts.take j).filter (rY C))/\aJ (ah wr (y8+1) (.slice R ys.length r) ys)/\aJ (af wr w.heap.size (.slice G fr.atoms.length g) fr.atoms)/\aJ (Below w.heap.size w wr)/\y8<wr.heap.size/\ae wr (w.heap.size+1+1) tC #[.int .i64 k,.int .i64 a,.int .i64 b,.bool t.eq,.int .i64 t.a,.int .i64 t.b,.slice A1 i.facts.length d1,.slice A2 i.atoms.length d2,.slice A3 body.len d3,.slice A4 n4 d4]/\ae wr (w.heap.size+1+1+1) aC #[.slice none 0 0,.slice none 0 0]/\ae wr y8 aC #[.slice F fr.facts.length f,.slice G fr.atoms.length g]) (fun _ ix _=>x.facts.length - (intOf ix).toNat)
 case atStart=>exact⟨0,none,0,[],dJ,rfl,rfl,bn,ax (by simp),ah.nil _ _,OA,HB,by omega,k5,k6,k8⟩
 case round=>
  clear k3 k4 k5 k6 k8 HB OA fq eZ pG oD Ld GZ BN;obtain⟨j,R,r,ys,hj,rfl,rfl,hyl,HY,OY,OA,HB,y8w,k5,k6,k8⟩:=hrel;have xx:=HB.o.size;(replace pG:=k5.z;replace oD:=k6.cell;replace Ld:=k6.frozen;replace GZ:=k6.lt;replace BN:=k8.z);by_cases hlt:j<x.facts.length
  ·have xF:=aG.bz HFx.o HB.o;obtain⟨b2,o2,rfl,hb2⟩:=xF.blt hlt;obtain⟨g0,g1,g2⟩:=xF.cl hlt;have yL:=ax (lF (rY C) x.facts j hlt);obtain⟨t1,t2⟩:=HXF.o j hlt;obtain⟨p,hp⟩:∃p,p=x.facts[j]:=⟨_,rfl⟩;rw[<-hp] at g0 g1 g2 t1 t2 yL;have hfree:rY C p=(!C.testBit p.a.toNat && !C.testBit p.b.toNat):=rfl;clear hp xF;(go_wp2_with fail);refine(fK C p.a _ hC5).mono ?_;rintro e w6 ⟨rfl,rfl⟩;have kf:=ae.new wr tF #[.bool p.eq,.int .i64 p.a,.int .i64 p.b];have hbf:=ai (Below.refl _ wr) (.cells #[.bool p.eq,.int .i64 p.a,.int .i64 p.b] tF);have qY:=bF HB hbf;have XE:=ax (OY.o.bz hbf);have ZX:=ax (OA.o.bz hbf);have k56:=k5.nz hbf;have k66:=k6.nz hbf;have k86:=k8.nz hbf;have hwf:wr.heap.size<(wr.alloc (.cells #[.bool p.eq,.int .i64 p.a,.int .i64 p.b] tF)).heap.size:=by simp
   clear pG oD Ld GZ BN k5 k6 k8 hbf g0 g1 g2 OA OY HB;rw[t1,Bool.true_and];generalize (wr.alloc (.cells #[.bool p.eq,.int .i64 p.a,.int .i64 p.b] _))=V at*;(replace Zb:=kf.z;replace qk56:=k56.z;replace qk66:=k66.z;replace qk86:=k86.z);cases h1:C.testBit p.a.toNat
   ·(go_wp2_with fail);refine(fK C p.b _ hC5).mono ?_;rintro e w7 ⟨rfl,rfl⟩;rw[t2,Bool.true_and];cases h2:C.testBit p.b.toNat
    ·have HN:aJ ((x.facts.take (j+1)).filter (rY C)=ys++[p]):=ax (by rw[yL.o,hfree,h1,h2,<-HY.o];simp);clear h1 h2 hfree yL;(go_wp2_with (at_builtin;refine gN rfl _ _ rfl (v:=.slice R ys.length r) (base:=y8+1) (xs:=ys) (ys:=[p]) rfl (XE.o.bz (ai (Below.refl _ V) (.cells #[.bool p.eq,.int .i64 p.a,.int .i64 p.b] tF))) rfl (aG.one (f:=p) (ae.new V _ _)) (by simp;omega) (by simp;omega) ?_;intro R8 r8 w8 yh Ey eQ;have O8:=ax yh;replace qY:=ax ((ai qY.o (.cells #[.bool p.eq,.int .i64 p.a,.int .i64 p.b] tF)).trans (eQ.mono (by omega)));have OA8:=ax (af.lY (ZX.o.bz (ai (Below.refl _ V) (.cells #[.bool p.eq,.int .i64 p.a,.int .i64 p.b] tF))) (XE.o.bz (ai (Below.refl _ V) (.cells #[.bool p.eq,.int .i64 p.a,.int .i64 p.b] tF))) Ey);have k58:=(k56.alloc (.cells #[.bool p.eq,.int .i64 p.a,.int .i64 p.b] tF)).Lr eQ (by omega);have k68:=(k66.alloc (.cells #[.bool p.eq,.int .i64 p.a,.int .i64 p.b] tF)).Lr eQ (by omega);have k88:=(k86.alloc (.cells #[.bool p.eq,.int .i64 p.a,.int .i64 p.b] tF)).Lr eQ (by omega);have hz8:=eQ.size;clear yh Ey eQ))
     go_round
     case rel=>exact⟨j+1,R8,r8,ys++[p],by omega,by go_num,by rw[length_append];rfl,by simp;omega,ax HN.o.symm,O8,OA8,qY,k88.lt,k58,k68,k88⟩
     case measure=>simp[intOf];omega
    ·have HN:aJ ((x.facts.take (j+1)).filter (rY C)=ys):=ax (by rw[yL.o,hfree,h1,h2,<-HY.o];simp);clear h1 h2 hfree yL;(go_wp2_with fail)
     go_round
     case rel=>exact⟨j+1,R,r,ys,by omega,by go_num,rfl,by omega,ax HN.o.symm,XE,ZX,qY,by omega,k56,k66,k86⟩
     case measure=>simp[intOf];omega
   ·have HN:aJ ((x.facts.take (j+1)).filter (rY C)=ys):=ax (by rw[yL.o,hfree,h1,<-HY.o];simp);clear h1 hfree yL;(go_wp2_with fail)
    go_round
    case rel=>exact⟨j+1,R,r,ys,by omega,by go_num,rfl,by omega,ax HN.o.symm,XE,ZX,qY,by omega,k56,k66,k86⟩
    case measure=>simp[intOf];omega
  ·obtain rfl:j=x.facts.length:=by omega
   have HYf:aJ (ys=x.facts.filter (rY C)):=ax (by have:=HY.o;rwa [take_length] at this);obtain⟨y,hy⟩:∃y,y=DL x i t C fr:=⟨_,rfl⟩;have ZY:y.facts=(ys++i.facts)++[t.neg]:=by rw[hy,HYf.o];rfl
   have hya:y.atoms=i.atoms++fr.atoms:=by rw[hy];rfl
   rw[<-hy] at E2;replace ZY:=ax ZY;replace hya:=ax hya;have hfa:=tT HFV.o;clear hy HY HYf;(go_upto_region 14 with fail);refine lS (S:=(fun w'=>∀q,w'.cell? ⟨w.heap.size+1+1,q,none⟩=#[.int .i64 k,.int .i64 a,.int .i64 b,.bool t.eq,.int .i64 t.a,.int .i64 t.b,.slice A1 i.facts.length d1,.slice A2 i.atoms.length d2,.slice A3 body.len d3,.slice A4 n4 d4][q]?)) (k5.drew.cell) fun aH=>?_;have hq:=(Below.refl wr.heap.size wr).drew;(replace k5:=k5.nz hq;replace pG:=k5.z;replace k6:=k6.nz hq;replace oD:=k6.cell;replace Ld:=k6.frozen;replace GZ:=k6.lt;replace k8:=k8.nz hq;replace BN:=k8.z);replace OY:=ax (OY.o.bz hq);replace OA:=ax (OA.o.bz hq);replace HB:=bF HB hq;have hzd:wr.drew.heap.size=wr.heap.size:=rfl;clear hq;generalize wr.drew=V at*;refine jQ 0 1 2 3 5 ?_;refine jh 6 ?_;refine aX 4 rfl fun K hK=>?_;(try simp only[zz]);(go_simp;refine(nH R A1 r d1 ys i.facts _ OY.o.dG.2 (aM.inv (HI.o.bz HB.o)).1 (by omega)).mono ?_;rintro e w6 ⟨r6,rfl,o6,hq⟩;obtain⟨R6,q6,rfl,-⟩:=o6.rj;have O6:=ax (o6.bq (base':=y8+1));replace OA:=ax (OA.o.bz hq);replace HB:=bF HB hq;(replace k5:=k5.nz hq;replace k6:=k6.nz hq;replace k8:=k8.nz hq);have FB:=hq.size;clear hq o6);refine hK.out _ _ (k5.cell) ?_;clear aH hK K;intro aH;refine aX 7 rfl fun K hK=>?_;(try simp only[zz]);(go_simp;refine(Cw t _).mono ?_;rintro e w7 ⟨rfl,hq⟩;replace O6:=ax (O6.o.bz hq);replace OA:=ax (OA.o.bz hq);replace HB:=bF HB hq;(replace k5:=k5.nz hq;replace k6:=k6.nz hq;replace k8:=k8.nz hq);have U5:=hq.size;clear hq);refine hK.out _ _ (k5.cell) ?_;clear aH hK K;intro aH;refine aX 8 rfl fun K hK=>?_;(try simp only[zz]);(go_simp;have hq:=ai (Below.refl _ w7) (.cells #[.bool t.neg.eq,.int .i64 t.neg.a,.int .i64 t.neg.b] tF);have kn:=ae.new w7 tF #[.bool t.neg.eq,.int .i64 t.neg.a,.int .i64 t.neg.b];replace O6:=ax (O6.o.bz hq);replace OA:=ax (OA.o.bz hq);replace HB:=bF HB hq;(replace k5:=k5.nz hq;replace k6:=k6.nz hq;replace k8:=k8.nz hq);have hz8:=hq.size;clear hq);refine hK.out _ _ (k5.cell) ?_;clear aH hK K;intro aH;(try simp only[zz]);generalize (w7.alloc (.cells #[.bool t.neg.eq,.int .i64 t.neg.a,.int .i64 t.neg.b] _))=V8 at*;refine aX 9 rfl fun K0 hK=>?_;have ZZ:aJ (ah V8 (y8+1) (.slice R6 (ys.length+i.facts.length) q6) (ys++i.facts)):=ax (by have:=O6.o;rwa [length_append] at this);refine jT (v:=.slice R6 (ys.length+i.facts.length) q6) (base:=y8+1) (xs:=ys++i.facts) (ys:=[t.neg]) rfl _ _ rfl rfl ZZ.o rfl (aG.one (f:=t.neg) kn) (by simp;omega) (by omega) ?_;intro R9 r9 w9 oN hg hq;rw[<-ZY.o] at oN⊢;have k59:=k5.Lr hq (by omega);have k69:=k6.Lr hq (by omega);have k89:=k8.Lr hq (by omega);have OA9:=ax (af.lY OA.o ZZ.o hg);have O9:=ax oN;have Ew:=ax (HB.o.trans (hq.mono (by omega)));have hz9:=hq.size;refine hK.out _ _ k59.cell ?_;clear aH hK K0 hg hq oN kn ZZ k5 k6 k8 OA O6 HB OY pG oD Ld GZ BN;intro aH;refine jh 10 ?_;refine jP ?_;clear aH;(replace Z0:=k59.z;replace Ny:=k69.cell;replace SN:=k69.frozen;replace Nz:=k69.lt;replace Z4:=k89.z);(go_wp2_with fail);refine(nI A2 G d2 g i.atoms fr.atoms _ (aM.inv (HI.o.bz Ew.o)).2 OA9.o.dG.2 (by omega)).mono ?_;rintro e w10 ⟨r10,rfl,o10,Ab⟩;obtain⟨G2,g2,rfl,-⟩:=o10.rj;have Vt:=Ab.size;rw[<-hya.o] at o10⊢;have OX:aJ (aI w10 w.heap.size (.agg #[.slice R9 y.facts.length r9,.slice G2 y.atoms.length g2]) y):=ax ⟨_,_,rfl,(ah.bq O9.o (by omega)).bz Ab,af.bq o10 (by omega)⟩;have BK:=bF Ew Ab;(replace k59:=k59.nz Ab;replace k69:=k69.nz Ab;replace k89:=k89.nz Ab);have hbx:=ai (Below.refl _ w10) (.cells #[.slice R9 y.facts.length r9,.slice G2 y.atoms.length g2] aC);have k14:=ae.new w10 aC #[.slice R9 y.facts.length r9,.slice G2 y.atoms.length g2];(replace k59:=k59.nz hbx;replace k69:=k69.nz hbx;replace k89:=k89.nz hbx);replace OX:=ax (OX.o.bz hbx);replace BK:=bF BK hbx;have k14l:=k14.lt;have Vw:w10.heap.size<(w10.alloc (.cells #[.slice R9 y.facts.length r9,.slice G2 y.atoms.length g2] aC)).heap.size:=by simp
   clear Ab o10 hbx OA9 O9 Ew Z0 Ny SN Nz Z4;(go_upto_region 16 with fail);generalize (w10.alloc (.cells #[.slice R9 y.facts.length r9,.slice G2 y.atoms.length g2] _))=w11 at*;(replace Ny:=k69.cell;replace SN:=k69.frozen;replace Nz:=k69.lt;replace Z5:=k14.z);(go_wp2_with fail);refine(jz _ y _ OX.o.rj).mono ?_;rintro e w12 ⟨rfl,FE⟩;replace OX:=ax (OX.o.bz FE);have hBw:=aP BK.o FE;(replace k69:=k69.nz FE;replace Ny:=k69.cell;replace SN:=k69.frozen;replace Nz:=k69.lt;replace k14:=k14.nz FE;replace Z5:=k14.z);clear FE;cases hv:y.valid
   ·have E:aJ (res=(1,⟨[],[]⟩)):=ax (by rw[E2.o,hv];rfl);clear hv;go_wp2;refine bodyPost_ret (v:=.tuple #[.agg #[.slice none 0 0,.slice none 0 0],.int .i64 1]) (by simp[results,Tryz.results74,go_sem,Ny,Nz]) rfl ⟨_,by rw[E.o],by rw[E.o];exact aI.zero _ _,aj⟩
   ·have E:aJ (res=(0,y)):=ax (by rw[E2.o,hv];rfl);clear hv;go_wp2;refine bodyPost_ret (v:=.tuple #[.agg #[.slice R9 y.facts.length r9,.slice G2 y.atoms.length g2],.int .i64 0]) (by simp[results,Tryz.results74,go_sem,Ny,Nz]) rfl ⟨_,by rw[E.o],?_,aj⟩;rw[E.o];exact aI.setW OX.o k69 _ _
theorem Qg{lo hi:Nat}(v:Value)(a:au)(k A B:Int)(t:aF)(X1 X2 X3 X4:Option Addr)(n1 n2 n3 n4 d1 d2 d3 d4 K0:Nat)(w:World)(h:eB w lo hi v a)(hhi:hi<=w.heap.size)(hv:a.valid=true)(Cs:K0<512)(hA:jq A=true) :
  Calls Tryz.prog 76 #[v,.agg #[.int .i64 k,.int .i64 A,.int .i64 B,.bool t.eq,.int .i64 t.a,.int .i64 t.b,.slice X1 n1 d1,.slice X2 n2 d2,.slice X3 n3 d3,.slice X4 n4 d4],.int .u16 K0] w fun e w'=>∃r vs,e=.returned (.tuple #[r,.bool (eH a k A B (fo K0 A B)).isSome])/\bg w' w.heap.size r vs ((eH a k A B (fo K0 A B)).getD [])/\Below w.heap.size w w':=by
 by_cases h1:k=1
 ·subst h1;exact PZ v a A B t X1 X2 X3 X4 n1 n2 n3 n4 d1 d2 d3 d4 K0 w h hhi hv Cs hA
 by_cases h4:k=4
 ·subst h4;exact P8 v a A B t X1 X2 X3 X4 n1 n2 n3 n4 d1 d2 d3 d4 K0 w h hhi hv Cs hA
 ·exact P9 v a k A B t X1 X2 X3 X4 n1 n2 n3 n4 d1 d2 d3 d4 K0 w h hhi hv Cs hA h1 h4
theorem NC{f:au->au}{l:List au}{j:Nat}(h:j<l.length):((l.take j).map f++l.drop j).set j (f l[j])=(l.take (j+1)).map f++l.drop (j+1):=by
 have e1:((l.take j).map f).length=j:=by rw[length_map,length_take];omega
 rw[List.set_append_right _ _ (by omega),e1,Nat.sub_self,List.drop_eq_getElem_cons h,List.set_cons_zero,List.take_succ_eq_append_getElem h,List.map_append];simp
theorem SQ{f:au->au}{l:List au}{j:Nat}(h:j<l.length)(h2:j<((l.take j).map f++l.drop j).length):((l.take j).map f++l.drop j)[j]=l[j]:=by
 have e1:((l.take j).map f).length=j:=by rw[length_map,length_take];omega
 rw[List.getElem_append_right (by omega)];simp only[e1,Nat.sub_self,List.getElem_drop];rfl
theorem Qh{f:au->au}{l:List au}{j:Nat}(h:j<=l.length):((l.take j).map f++l.drop j).length=l.length:=by
 rw[length_append,length_map,length_take,List.length_drop];omega
theorem Ga{lo hi lo1 hi1:Nat}(lp:Bool)(K:Nat)(hK:K<512)(v:Value)(x:au)(k a b:Int)(t:aF)(i:au)(A1 A2 A3 A4:Option Addr)(d1 d2 d3 d4 d:Nat)(body els:ay)(w:World)(h:eB w lo hi v x)(hhi:hi<=w.heap.size)(hxv:x.valid=true)(hf:dK k a b t i body els=true)(hS:body.shape d=true)(hS':els.shape d=true)(hlen:body.len<=1049600)(hsm:body.small 1049600)(hL:uH lp K body)(hL':uH lp K els)(hI:aM w lo1 hi1 (.agg #[.slice A1 i.facts.length d1,.slice A2 i.atoms.length d2]) i)(hB:bH w lo1 hi1 A3 body)(hB':bH w lo1 hi1 A4 els)(hhi1:hi1<=w.heap.size) :
  Calls Tryz.prog 48 #[.agg #[.int .u16 K,.bool lp],v,.agg #[.int .i64 k,.int .i64 a,.int .i64 b,.bool t.eq,.int .i64 t.a,.int .i64 t.b,.slice A1 i.facts.length d1,.slice A2 i.atoms.length d2,.slice A3 body.len d3,.slice A4 els.len d4]] w fun e w'=>∃r vs,e=.returned (.tuple #[r,.int .i64 (pz lp K k a b t i (body.fold oW 0) (body.exe lp K) (els.exe lp K) x).1])/\bg w' w.heap.size r vs (pz lp K k a b t i (body.fold oW 0) (body.exe lp K) (els.exe lp K) x).2/\Below w.heap.size w w':=by
 have HV:=ax h;obtain⟨B1,e1,B2,e2,rfl,-⟩:=h;have hxl:=tT hxv;have QM:=ax hxv;obtain⟨res,hres⟩:∃q,q=pz lp K k a b t i (body.fold oW 0) (body.exe lp K) (els.exe lp K) x:=⟨_,rfl⟩;have ER:aJ (res=if k=6 then DK x t (body.exe lp K) (els.exe lp K) else if k=7 then uG lp K x i t (body.fold oW 0) (body.exe lp K) else xY K k a b x):=ax (by rw[hres];rfl);have CB:aJ (∀W lo hi v,eB W lo hi v x->hi<=W.heap.size->Below w.heap.size w W->Calls Tryz.prog 73 #[.agg #[.int .u16 K,.bool lp],v,.agg #[.int .i64 k,.int .i64 a,.int .i64 b,.bool t.eq,.int .i64 t.a,.int .i64 t.b,.slice A1 i.facts.length d1,.slice A2 i.atoms.length d2,.slice A3 body.len d3,.slice A4 els.len d4]] W fun e w'=>∃r vs,e=.returned (.tuple #[r,.int .i64 (DK x t (body.exe lp K) (els.exe lp K)).1])/\bg w' W.heap.size r vs (DK x t (body.exe lp K) (els.exe lp K)).2/\Below W.heap.size W w'):=ax fun W lo hi v h1 h2 h3=>IU lp K v x k a b t A1 A2 A3 A4 i.facts.length i.atoms.length d1 d2 d3 d4 d body els W h1 h2 (by omega) hS hS' hL hL' (hB.bz h3) (hB'.bz h3) (Nat.le_trans hhi1 h3.size);have VW:aJ (∀W lo hi v,aM W lo hi v x->hi<=W.heap.size->Below w.heap.size w W->i.valid=true->Calls Tryz.prog 74 #[.agg #[.int .u16 K,.bool lp],v,.agg #[.int .i64 k,.int .i64 a,.int .i64 b,.bool t.eq,.int .i64 t.a,.int .i64 t.b,.slice A1 i.facts.length d1,.slice A2 i.atoms.length d2,.slice A3 body.len d3,.slice A4 els.len d4]] W fun e w'=>∃r,e=.returned (.tuple #[r,.int .i64 (iW x i t (body.fold oW 0) (body.exe lp K)).1])/\aI w' W.heap.size r (iW x i t (body.fold oW 0) (body.exe lp K)).2/\Below W.heap.size W w'):=ax fun W lo hi v h1 h2 h3 h4=>Nw lp K v x k a b t i A1 A2 A3 A4 els.len d1 d2 d3 d4 d body W h1 h2 hxv h4 hS hlen hsm hL (hI.bz h3) (hB.bz h3) (Nat.le_trans hhi1 h3.size)
 have CS:aJ (∀W lo hi v,eB W lo hi v x->hi<=W.heap.size->k≠6->k≠7->Calls Tryz.prog 76 #[v,.agg #[.int .i64 k,.int .i64 a,.int .i64 b,.bool t.eq,.int .i64 t.a,.int .i64 t.b,.slice A1 i.facts.length d1,.slice A2 i.atoms.length d2,.slice A3 body.len d3,.slice A4 els.len d4],.int .u16 K] W fun e w'=>∃r vs,e=.returned (.tuple #[r,.bool (eH x k a b (fo K a b)).isSome])/\bg w' W.heap.size r vs ((eH x k a b (fo K a b)).getD [])/\Below W.heap.size W w'):=ax fun W lo hi v h1 h2 h6 h7=>by
  rw[jM h6 h7] at hf;exact Qg v x k a b t A1 A2 A3 A4 i.facts.length i.atoms.length body.len els.len d1 d2 d3 d4 K W h1 h2 hxv hK (vN (show Me k a b t i body els=true from hf)).1
 have VV:aJ (k=7->i.valid=true):=ax fun h=>by
  subst h;unfold dK at hf;rw[if_neg (by decide),if_pos rfl,Bool.and_eq_true,Bool.and_eq_true,Bool.and_eq_true,Bool.and_eq_true] at hf;exact hf.2.2.2.1
 have yN:aJ (∀l,eH x k a b (fo K a b)=some l->l.length<=128/\∀y∈l,y.valid=true):=ax fun l hl=>yJ hxv (lL hf) hl;rw[<-hres];clear hres hI hB hB' hL hL' hS hS' hsm hlen hf;(go_enter Tryz.func48,Tryz.ntmps48);obtain⟨k3,k4,k5⟩:=wD w 54 aC tC #[.int .u16 K,.bool lp] #[.slice B1 x.facts.length e1,.slice B2 x.atoms.length e2] #[.int .i64 k,.int .i64 a,.int .i64 b,.bool t.eq,.int .i64 t.a,.int .i64 t.b,.slice A1 i.facts.length d1,.slice A2 i.atoms.length d2,.slice A3 body.len d3,.slice A4 els.len d4];have HB:aJ (Below w.heap.size w (((w.alloc (.cells #[.int .u16 K,.bool lp] 54)).alloc (.cells #[.slice B1 x.facts.length e1,.slice B2 x.atoms.length e2] aC)).alloc (.cells #[.int .i64 k,.int .i64 a,.int .i64 b,.bool t.eq,.int .i64 t.a,.int .i64 t.b,.slice A1 i.facts.length d1,.slice A2 i.atoms.length d2,.slice A3 body.len d3,.slice A4 els.len d4] tC))):=ax (ai (ai (ai aU _) _) _);have hz:(((w.alloc (.cells #[.int .u16 K,.bool lp] 54)).alloc (.cells #[.slice B1 x.facts.length e1,.slice B2 x.atoms.length e2] aC)).alloc (.cells #[.int .i64 k,.int .i64 a,.int .i64 b,.bool t.eq,.int .i64 t.a,.int .i64 t.b,.slice A1 i.facts.length d1,.slice A2 i.atoms.length d2,.slice A3 body.len d3,.slice A4 els.len d4] tC)).heap.size=w.heap.size+3:=by simp
 (go_upto_region 1 with fail);generalize (((w.alloc (.cells #[.int .u16 K,.bool lp] _)).alloc (.cells #[.slice B1 x.facts.length e1,.slice B2 x.atoms.length e2] _)).alloc (.cells #[.int .i64 k,.int .i64 a,.int .i64 b,.bool t.eq,.int .i64 t.a,.int .i64 t.b,.slice A1 i.facts.length d1,.slice A2 i.atoms.length d2,.slice A3 body.len d3,.slice A4 els.len d4] _))=W at*;(replace fq:=k3.z;replace eZ:=k4.z;replace pG:=k5.z);by_cases h6:k=6
 ·subst h6;have E:aJ (res=DK x t (body.exe lp K) (els.exe lp K)):=ax (by rw[ER.o,if_pos rfl]);clear ER VW CS VV yN;(go_wp2_with fail);refine(CB.o _ _ _ _ (HV.o.bz HB.o) (by omega) HB.o).mono ?_;rintro e w1 ⟨r1,vs,rfl,o1,hB1⟩;have HB1:=bF HB hB1;have O1:=ax (o1.bq (base':=w.heap.size));obtain⟨R,r,rfl⟩:=o1.form;clear hB1 o1 CB;rw[<-E.o] at O1⊢;go_wp2;go_ret2;exact⟨_,vs,rfl,O1.o,HB1.o⟩
 have b6:(k == 6)=false:=beq_false_of_ne h6;by_cases h7:k=7
 ·subst h7;have E:aJ (res=uG lp K x i t (body.fold oW 0) (body.exe lp K)):=ax (by rw[ER.o,if_neg h6,if_pos rfl]);have Fy:=VV.o rfl;clear ER CB CS VV yN h6;cases lp
  ·have E2:aJ (res=(1,[])):=ax (by rw[E.o];rfl);clear E VW;go_wp2;go_ret2;exact⟨_,_,by rw[E2.o];rfl,by rw[E2.o];exact bg.nil _ _,HB.o⟩
  have E2:aJ (res=if (iW x i t (body.fold oW 0) (body.exe true K)).1≠0 then ((iW x i t (body.fold oW 0) (body.exe true K)).1,[]) else (0,[bL K (iW x i t (body.fold oW 0) (body.exe true K)).2])):=ax (by rw[E.o];rfl);have XG:aJ ((iW x i t (body.fold oW 0) (body.exe true K)).1=0->(iW x i t (body.fold oW 0) (body.exe true K)).2.valid=true):=ax FP.2.1;clear E;(go_wp2_with fail);refine(VW.o _ _ _ _ (HV.o.V.bz HB.o) (by omega) HB.o Fy).mono ?_;rintro e w1 ⟨r1,rfl,o1,hB1⟩;have HB1:=bF HB hB1;have hz1:=hB1.size;(replace k3:=k3.nz hB1;replace k4:=k4.nz hB1;replace k5:=k5.nz hB1);clear VW hB1;generalize iW x i t (body.fold oW 0) (body.exe true K)=P at*;obtain⟨code,y⟩:=P;simp only at E2 XG o1⊢;obtain⟨F,f,G,g,rfl⟩:=o1.I.form;have O1:=ax o1.rj;have G7:=ai (Below.refl _ w1) (.cells #[.slice F y.facts.length f,.slice G y.atoms.length g] aC);have k8:=ae.new w1 aC #[.slice F y.facts.length f,.slice G y.atoms.length g];(replace k3:=k3.nz G7;replace k4:=k4.nz G7;replace k5:=k5.nz G7);replace O1:=ax (O1.o.bz G7);replace HB1:=bF HB1 G7;have hz8:w1.heap.size<(w1.alloc (.cells #[.slice F y.facts.length f,.slice G y.atoms.length g] aC)).heap.size:=by simp
  clear G7 o1 fq eZ pG;(go_upto_region 8 with fail);generalize (w1.alloc (.cells #[.slice F y.facts.length f,.slice G y.atoms.length g] _))=w2 at*;(replace fq:=k3.z;replace BN:=k8.z);by_cases h0:code=0
  ·subst h0;have hyv:=ax (XG.o rfl);have E3:aJ (res=(0,[bL K y])):=ax (by rw[E2.o];rfl);clear E2 XG;(go_wp2_with fail);refine(xD _ y K _ O1.o hyv.o hK).mono ?_;rintro e w3 ⟨r3,rfl,o3,hB3⟩;have hz3:=hB3.size;have HB3:=bF HB1 hB3;obtain⟨F3,f3,G3,g3,rfl⟩:=o3.I.form;have O3:=ax o3;clear o3 hB3;go_wp2;go_ret2;refine⟨.slice (some ⟨w3.heap.size,0,none⟩) 1 1,[.slice F3 (bL K y).facts.length f3,.slice G3 (bL K y).atoms.length g3],by rw[E3.o];rfl,?_,ai HB3.o _⟩;rw[E3.o];exact bg.one (ae.dA (by simp)) (by omega) (aI.bz (aI.bq O3.o (by omega)) aj)
  ·have E3:aJ (res=(code,[])):=ax (by rw[E2.o,if_pos h0]);have Ut:(code == 0)=false:=beq_false_of_ne h0;clear E2 XG;go_wp2;go_ret2;exact⟨_,_,by rw[E3.o];rfl,by rw[E3.o];exact bg.nil _ _,HB1.o⟩
 have b7:(k == 7)=false:=beq_false_of_ne h7;have E:aJ (res=xY K k a b x):=ax (by rw[ER.o,if_neg h6,if_neg h7]);have h67:=ax (And.intro h6 h7);clear ER CB VW VV h6 h7;(go_wp2_with fail);refine(CS.o _ _ _ _ (HV.o.bz HB.o) (by omega) h67.o.1 h67.o.2).mono ?_;rintro e w1 ⟨r1,vs,rfl,o1,hB1⟩;have E2:aJ (res=match eH x k a b (fo K a b) with|none=>(1,[])|some l=>(0,l.map (bL K))):=ax (by rw[E.o];rfl);have HB1:=bF HB hB1;have hz1:=hB1.size;(replace k3:=k3.nz hB1;replace fq:=k3.z;replace k4:=k4.nz hB1;replace eZ:=k4.z;replace k5:=k5.nz hB1;replace pG:=k5.z);clear hB1 CS E
 cases hs:eH x k a b (fo K a b) with
 | none=>
  have E3:aJ (res=(1,[])):=ax (by rw[E2.o,hs]);rw[hs] at o1;obtain⟨R,r,rfl⟩:=o1.form;clear hs E2 o1;go_wp2;go_ret2;exact⟨_,_,by rw[E3.o];rfl,by rw[E3.o];exact bg.nil _ _,HB1.o⟩
 | some l=>
  have E3:aJ (res=(0,l.map (bL K))):=ax (by rw[E2.o,hs]);rw[hs] at o1;simp only[Option.getD_some] at o1;obtain⟨R,r,rfl⟩:=o1.form;obtain⟨hll,hlv⟩:=yN.o l hs;have Z6:=ax hlv;have O1:=ax (o1.bq (base':=w.heap.size+1+1+1));clear hs E2 o1 yN hlv fq eZ pG k4 k5;(go_wp2_with fail)
  go_loopw [56] (fun ix wr=>∃(j:Nat) (us:List Value),j<=l.length/\ix=.int .i64 j/\aJ (bg wr (w.heap.size+1+1+1) (.slice R l.length r) us ((l.take j).map (bL K)++l.drop j))/\aJ (Below w.heap.size w wr)/\w.heap.size+1+1+1<=wr.heap.size/\ae wr w.heap.size 54 #[.int .u16 K,.bool lp]) (fun ix _=>l.length - (intOf ix).toNat)
  case atStart=>exact⟨0,vs,dJ,rfl,by simpa using O1,HB1,by omega,k3⟩
  case round=>
   clear k3 O1 HB1;obtain⟨j,us,hj,rfl,OJ,HB,hw3,k3⟩:=hrel;have xx:=HB.o.size;(replace fq:=k3.z);by_cases hlt:j<l.length
   ·have QR:j<((l.take j).map (bL K)++l.drop j).length:=by rw[Qh hj];exact hlt
    obtain⟨b2,o2,P,p,Q,q,hR,hgl,q0,q1,hC⟩:=OJ.o.Xw QR;obtain⟨g,hR2,hgb,⟨cur,kR,hcs⟩,-⟩:=OJ.o.put QR;rw[hR2] at hR;injection hR with hR;injection hR with DV BB;subst DV BB;subst hR2;have HST:=ax (NC (f:=bL K) hlt);rw[SQ hlt QR] at q0 q1 hC;have HM:=ax (Z6.o _ (getElem_mem hlt));obtain⟨s,hs⟩:∃s,s=l[j]:=⟨_,rfl⟩;rw[<-hs] at q0 q1 hC HM HST;rw[Nat.zero_add] at q0 q1;have HC:=ax hC;have hji:(j:Int)<(l.length:Int):=by omega
    clear hs hC;replace QR:=ax QR;(go_wp2_with fail);refine(xD _ s K _ (HC.o.V.bz (ai aU _)) HM.o hK).mono ?_;rintro e w2 ⟨r2,rfl,o2,hB2⟩;obtain⟨F,f,G,g',rfl⟩:=o2.I.form;have hbx:=ai (Below.refl _ wr) (.cells #[.slice P s.facts.length p,.slice Q s.atoms.length q] aC);have hq:=aP hbx hB2;obtain⟨g2,hg2,-,-,hput⟩:=(OJ.o.bz hq).put QR.o;obtain rfl:g=g2:=by injection hg2 with hg2;injection hg2
    have O2:=hput _ _ _ _ o2 (by simp;omega) (fun k hk y hy=>Nat.lt_of_lt_of_le (OJ.o.els.und k hk y hy) (by simp));rw[HST.o] at O2;replace O2:=ax O2;have c0:w2.cell? ⟨g,j*2,none⟩=some (.slice P s.facts.length p):=(hq.cell (p:=⟨g,j*2,none⟩) hgl).trans q0;have c1:w2.cell? ⟨g,j*2+1,none⟩=some (.slice Q s.atoms.length q):=(hq.cell (p:=⟨g,j*2+1,none⟩) hgl).trans q1;have Z7:=kR.nz hq;have rR:=Z7.frozen;have lR:=Z7.lt;have k32:=(k3.nz hq).fz g (j*2) (.slice F (bL K s).facts.length f);replace k32:=k32.fz g (j*2+1) (.slice G (bL K s).atoms.length g');have HB2:aJ (Below w.heap.size w ((w2.setCell ⟨g,j*2,none⟩ (.slice F (bL K s).facts.length f)).setCell ⟨g,j*2+1,none⟩ (.slice G (bL K s).atoms.length g'))):=ax (((aP HB.o hq).setCell (by simp only;omega) _).setCell (by simp only;omega) _);have hz2:=hq.size;clear hput o2 hB2 hbx hq Z7 kR q0 q1 fq k3 OJ HB HST hcs hg2;(go_wp2_with fail)
    go_round
    case rel=>exact⟨j+1,_,by omega,by go_num,O2,HB2,by simp;omega,k32⟩
    case measure=>simp[intOf];omega
   ·obtain rfl:j=l.length:=by omega
    have OF:aJ (bg wr (w.heap.size+1+1+1) (.slice R l.length r) us (l.map (bL K))):=ax (by have:=OJ.o;rwa [take_length,List.drop_length,List.append_nil] at this);clear OJ;go_wp2;go_ret2;exact⟨_,us,by rw[E3.o];rfl,by rw[E3.o];exact OF.o.bq,HB.o⟩
theorem Cx{C:au->Int×List au}{a:au}{xs acc:List au}(h:(C a).1≠0):dS C (a :: xs) acc=((C a).1,[]):=by rw[dS,if_pos h]
theorem Cy{C:au->Int×List au}{a:au}{xs acc:List au}(h:(C a).1=0)(h2:24<acc.length+(C a).2.length):dS C (a :: xs) acc=(1,[]):=by rw[dS,if_neg (by omega),if_pos h2]
theorem Gb{C:au->Int×List au}{a:au}{xs acc:List au}(h:(C a).1=0)(h2:¬24<acc.length+(C a).2.length):dS C (a :: xs) acc=dS C xs (acc++(C a).2):=by rw[dS,if_neg (by omega),if_neg h2]
theorem ND(lp:Bool)(K:Nat)(hK:K<512):∀(N:Nat) (L:ay) (d:Nat),L.sz<N->L.shape d=true->L.len<=1049600->L.small 1049600->uH lp K L:=by
 intro N
 induction N with
 | zero=>intro L d h;omega
 | succ N IH=>
  intro L d hsz hsh hlen hsm lo hi lo1 hi1 v a A c w h hhi Uu hV hhi1;replace IH:=ax IH;replace hsm:=ax hsm;replace hsz:=ax hsz;replace hsh:=ax hsh;obtain⟨n,hn⟩:∃n,n=L.len:=⟨_,rfl⟩;rw[<-hn];rw[<-hn] at hlen;replace hn:=ax hn;have HX:=ax h;obtain⟨B1,e1,B2,e2,rfl,-⟩:=h;have HAV:=ax Uu;obtain⟨res,hres⟩:∃q,q=L.exe lp K [a]:=⟨_,rfl⟩;rw[<-hres];replace hres:=ax hres;replace hV:=ax hV;clear Uu;(go_enter Tryz.func22,Tryz.ntmps22);obtain⟨k3,k4,k8⟩:=wD w 54 aC aC #[.int .u16 K,.bool lp] #[.slice B1 a.facts.length e1,.slice B2 a.atoms.length e2] #[.slice B1 a.facts.length e1,.slice B2 a.atoms.length e2];have HB:aJ (Below w.heap.size w (((w.alloc (.cells #[.int .u16 K,.bool lp] 54)).alloc (.cells #[.slice B1 a.facts.length e1,.slice B2 a.atoms.length e2] aC)).alloc (.cells #[.slice B1 a.facts.length e1,.slice B2 a.atoms.length e2] aC))):=ax (ai (ai (ai aU _) _) _);have hz:(((w.alloc (.cells #[.int .u16 K,.bool lp] 54)).alloc (.cells #[.slice B1 a.facts.length e1,.slice B2 a.atoms.length e2] aC)).alloc (.cells #[.slice B1 a.facts.length e1,.slice B2 a.atoms.length e2] aC)).heap.size=w.heap.size+3:=by simp
  (go_upto_region 2 with fail);generalize (((w.alloc (.cells #[.int .u16 K,.bool lp] _)).alloc (.cells #[.slice B1 a.facts.length e1,.slice B2 a.atoms.length e2] _)).alloc (.cells #[.slice B1 a.facts.length e1,.slice B2 a.atoms.length e2] _))=W at*;have HN:aJ (Au W (some ⟨w.heap.size+1+1,0,none⟩) [a]):=ax (Au.one k8 ((HX.o.bz HB.o).Ah (by omega)));clear k4 k8;(go_wp2_with fail)
  go_loopw [8,20] (fun s8 ix wr=>∃(j:Nat) (R:Option Addr) (r:Nat) (now:List au),j<=n/\ix=.int .i64 j/\s8=.slice R now.length r/\aJ (Au wr R now)/\aJ (∀s∈now,s.valid=true)/\now.length<=24/\aJ (res=(L.drop j).exe lp K now)/\aJ (Below w.heap.size w wr)/\ae wr w.heap.size 54 #[.int .u16 K,.bool lp]) (fun _ ix _=>n - (intOf ix).toNat)
  case atStart=>exact⟨0,some ⟨w.heap.size+1+1,0,none⟩,1,[a],dJ,rfl,rfl,HN,ax (fun s hs=>by obtain rfl:=List.mem_singleton.1 hs;exact HAV.o),by simp,hres,HB,k3⟩
  case round=>
   clear k3 HB HN hz;obtain⟨j,R,r,now,hj,rfl,rfl,HN,VX,hnl,HR,HB,k3⟩:=hrel;obtain⟨V0,rfl⟩:∃V0,V0=wr:=⟨_,rfl⟩;have xx:=HB.o.size;by_cases hlt:j<n
   ·have hpos:0<(L.drop j).len:=by rw[ay.iT,<-hn.o];omega
    obtain⟨k,ca,cb,t,i,body,els,rest,eL⟩:=ay.dF hpos;obtain⟨bl,o,rfl,-,hb1,hAt⟩:=(hV.o.bz HB.o) (by rw[<-hn.o];omega);have hD:=hAt.drop j;have hS:=ay.fG j hsm.o;have G8:=ay.nk j hsh.o;have hZ:=ay.kv j L;have hDs:=ay.ik j L eL;have iU:=HR.o;rw[eL] at hD hS hZ iU G8;obtain⟨⟨p0,p1,p2,p3,p4,p5⟩,⟨A6,c6,p6,g6⟩,⟨A7,c7,p7,g7⟩,⟨A8,c8,p8,g8⟩,⟨A9,c9,p9,g9⟩,-⟩:=hD;obtain⟨s1,s2,s3,s4,s5,s6,-⟩:=hS;simp only[ay.shape,Bool.and_eq_true,decide_eq_true_eq] at G8;obtain⟨-,y1,y2,y3,-⟩:=G8;simp only[ay.sz] at hZ;have hbs:body.sz<N:=by have:=hsz.o;omega
    have hes:els.sz<N:=by have:=hsz.o;omega
    have gA:aM V0 lo1 hi1 (.agg #[.slice A6 i.facts.length c6,.slice A7 i.atoms.length c7]) i:=⟨_,_,_,_,rfl,⟨g6,s1⟩,⟨g7,s2⟩⟩;have gB:bH V0 lo1 hi1 A8 body:=g8;have gE:bH V0 lo1 hi1 A9 els:=g9;have LB:=IH.o body _ hbs y2 s3 s5;have LE:=IH.o els _ hes y3 s4 s6;obtain⟨C,hC⟩:∃C,C=pz lp K k ca cb t i (body.fold oW 0) (body.exe lp K) (els.exe lp K):=⟨_,rfl⟩
    have VY:aJ (∀W lo hi v x,eB W lo hi v x->hi<=W.heap.size->x.valid=true->Below V0.heap.size V0 W->Calls Tryz.prog 48 #[.agg #[.int .u16 K,.bool lp],v,.agg #[.int .i64 k,.int .i64 ca,.int .i64 cb,.bool t.eq,.int .i64 t.a,.int .i64 t.b,.slice A6 i.facts.length c6,.slice A7 i.atoms.length c7,.slice A8 body.len c8,.slice A9 els.len c9]] W fun e w'=>∃r vs,e=.returned (.tuple #[r,.int .i64 (C x).1])/\bg w' W.heap.size r vs (C x).2/\Below W.heap.size W w'):=ax fun W lo hi v x h1 h2 h3 h4=>by
     rw[hC];exact Ga lp K hK v x k ca cb t i A6 A7 A8 A9 c6 c7 c8 c9 _ body els W h1 h2 h3 y1 y2 y3 s3 s5 LB LE (gA.bz h4) (gB.bz h4) (gE.bz h4) (by have:=h4.size;omega)
    have Qi:aJ (∀x:au,x.valid=true->iD 128 (C x)):=ax fun x hx=>by
     rw[hC];exact DN (fun y hy=>ay.lv y2 hy) (fun y hy=>ay.lv y3 hy) (lL y1) hx
    have HE:aJ (res=if (dS C now []).1≠0 then dS C now [] else (L.drop (j+1)).exe lp K (dS C now []).2):=ax (by rw[iU,ay.exe,<-hC,hDs]);have hgl:bl<V0.heap.size:=by omega
    clear hAt hC LB LE gA gB gE g6 g7 g8 g9 s1 s2 s3 s4 s5 s6 y1 y2 y3 hZ hbs hes HR iU hDs eL hpos;(replace fq:=k3.z);(go_upto_region 6 with fail);have hbx:=ai (Below.refl _ V0) (.cells #[.int .i64 k,.int .i64 ca,.int .i64 cb,.bool t.eq,.int .i64 t.a,.int .i64 t.b,.slice A6 i.facts.length c6,.slice A7 i.atoms.length c7,.slice A8 body.len c8,.slice A9 els.len c9] tC);have k10:=ae.new V0 tC #[.int .i64 k,.int .i64 ca,.int .i64 cb,.bool t.eq,.int .i64 t.a,.int .i64 t.b,.slice A6 i.facts.length c6,.slice A7 i.atoms.length c7,.slice A8 body.len c8,.slice A9 els.len c9];(replace k3:=k3.nz hbx);replace HB:=bF HB hbx;replace HN:=ax (HN.o.bz hbx);have U9:=ax hbx;have k10l:=k10.lt;clear hbx p0 p1 p2 p3 p4 p5 p6 p7 p8 p9 fq;generalize (V0.alloc (.cells #[.int .i64 k,.int .i64 ca,.int .i64 cb,.bool t.eq,.int .i64 t.a,.int .i64 t.b,.slice A6 i.facts.length c6,.slice A7 i.atoms.length c7,.slice A8 body.len c8,.slice A9 els.len c9] _))=V at*;have hzv:=U9.o.size;(go_wp2_with fail)
    go_loopw [11,26] (fun s11 ix vr=>∃(q:Nat) (R2:Option Addr) (r2:Nat) (us:List Value) (acc:List au),q<=now.length/\ix=.int .i64 q/\s11=.slice R2 acc.length r2/\acc.length<=24/\aJ (∀s∈acc,s.valid=true)/\aJ (dS C now []=dS C (now.drop q) acc)/\aJ (bg vr V.heap.size (.slice R2 acc.length r2) us acc)/\aJ (Below V.heap.size V vr)) (fun _ ix _=>now.length - (intOf ix).toNat)
    case atStart=>exact⟨0,none,0,[],[],dJ,rfl,rfl,by simp,ax (fun s hs=>by cases hs),ax rfl,bg.nil _ _,aU⟩
    case round=>
     obtain⟨q,R2,r2,us,acc,hq,rfl,rfl,hal,VZ,HS,OA,ic⟩:=hrel;have df:=ic.o.size;have Z8:=k3.nz ic.o;have V3:=k10.nz ic.o;by_cases SS:q<now.length
     ·obtain⟨g,o2,P,p,Q,qq,rfl,lb,g0,g1,hC⟩:=HN.o.bz ic.o q SS;have HD:aJ (now.drop q=now[q] :: now.drop (q+1)):=ax (List.drop_eq_getElem_cons SS);have HM:=ax (VX.o _ (getElem_mem SS));obtain⟨s,hs⟩:∃s,s=now[q]:=⟨_,rfl⟩;rw[<-hs] at g0 g1 hC HM HD;have HC:=ax hC;have hji:(q:Int)<(now.length:Int):=by omega
      clear hs hC;(replace Z9:=Z8.z;replace V4:=V3.z);(go_wp2_with fail);refine(VY.o _ _ _ _ s (HC.o.bz (ai aU _)) (by simp) HM.o (aP U9.o (ai ic.o _))).mono ?_;rintro e w2 ⟨r3,vs,rfl,o3,hB2⟩;have xR:=ax (Qi.o s HM.o);have hbs:Below wr.heap.size wr w2:=aP (ai (Below.refl _ wr) (.cells #[.slice P s.facts.length p,.slice Q s.atoms.length qq] aC)) hB2;have HB2:=ax hbs;have hz2:=hbs.size;have Ls:aJ (dS C now []=dS C (s :: now.drop (q+1)) acc):=ax (by rw[HS.o,HD.o]);obtain⟨PC,Cz⟩:∃PC,PC=C s:=⟨_,rfl⟩;rw[<-Cz] at o3 xR⊢;replace Cz:=ax Cz;obtain⟨code,ps⟩:=PC;simp only at o3⊢;obtain⟨R3,r4,rfl⟩:=o3.form;have O3:=ax o3;have hpl:ps.length<=128:=xR.o.len;clear o3 hB2 hbs g0 g1 Z9 V4 Z8 V3 HS HD;by_cases h0:code=0
      ·subst h0;have IW:(C s).1=0:=by rw[<-Cz.o]
       have hC2:(C s).2=ps:=by rw[<-Cz.o]
       by_cases hbig:24<acc.length+ps.length
       ·have E:aJ (res=(1,[])):=ax (by rw[HE.o,Ls.o,Cy IW (by rw[hC2];exact hbig)];simp);have hbi:(24:Int)<(acc.length:Int)+(ps.length:Int):=by omega
        clear IW hC2 hbig HE Ls xR Cz Qi;(go_wp2_with (at_builtin;refine vK (w0:=wr) (base:=V.heap.size) (mid:=(wr.alloc (.cells #[.slice P s.facts.length p,.slice Q s.atoms.length qq] aC)).heap.size) (mX:=ps) rfl _ _ rfl rfl OA.o HB2.o df O3.o (by simp) rfl (by omega) ?_;intro R8 r8 w8 yh Ey eQ;have O8:=ax yh;have ru:=ax ((ic.o.trans (HB2.o.mono df)).trans eQ);clear yh Ey eQ));go_ret2;exact⟨_,_,by rw[E.o];rfl,by rw[E.o];exact bg.nil _ _,aP HB.o ru.o⟩
       ·have HS2:aJ (dS C now []=dS C (now.drop (q+1)) (acc++ps)):=ax (by rw[Ls.o,Gb IW (by rw[hC2];exact hbig),hC2]);have SV:aJ (∀s∈acc++ps,s.valid=true):=ax fun y hy=>(List.mem_append.1 hy).elim (VZ.o y) (xR.o.ok y);have hbi:¬(24:Int)<(acc.length:Int)+(ps.length:Int):=by omega
        have hle:acc.length+ps.length<=24:=by omega
        clear IW hC2 hbig Ls xR Cz;(go_wp2_with (at_builtin;refine vK (w0:=wr) (base:=V.heap.size) (mid:=(wr.alloc (.cells #[.slice P s.facts.length p,.slice Q s.atoms.length qq] aC)).heap.size) (mX:=ps) rfl _ _ rfl rfl OA.o HB2.o df O3.o (by simp) rfl (by omega) ?_;intro R8 r8 w8 yh Ey eQ;have O8:=ax yh;have ru:=ax ((ic.o.trans (HB2.o.mono df)).trans eQ);clear yh Ey eQ))
        go_round
        case rel=>exact⟨q+1,R8,r8,_,acc++ps,by omega,by go_num,by rw[length_append],by simp;omega,SV,HS2,by rw[length_append];exact O8,ru⟩
        case measure=>simp[intOf];omega
      ·have E:aJ (res=(code,[])):=ax (by
        have IW:(C s).1=code:=by rw[<-Cz.o]
        rw[HE.o,Ls.o,Cx (by rw[IW];exact h0),IW]
        simp[h0])
       have Ut:(code == 0)=false:=beq_false_of_ne h0;clear HE Ls xR Cz Qi;go_wp2;go_ret2;exact⟨_,_,by rw[E.o];rfl,by rw[E.o];exact bg.nil _ _,aP HB.o (ic.o.trans (HB2.o.mono df))⟩
     ·obtain rfl:q=now.length:=by omega
      have E:aJ (res=(L.drop (j+1)).exe lp K acc):=ax (by rw[HE.o,HS.o,List.drop_length];simp[dS]);have OH:=ax OA.o.now;have HB2:=ax (aP HB.o ic.o);clear HE HS HN OA Qi VY;(go_wp2_with fail)
      go_round
      case rel=>exact⟨j+1,R2,r2,acc,by omega,by go_num,rfl,OH,VZ,hal,E,HB2,Z8⟩
      case measure=>simp[intOf];omega
   ·obtain rfl:j=n:=by omega
    have E:aJ (res=(0,now)):=ax (by
     have e1:L.drop j=.nil:=by rw[hn.o];exact ay.jw L
     rw[HR.o,e1];rfl)
    clear HR VX k3;(go_wp2_with fail);refine(IK R r now _ HN.o (by omega)).mono ?_;rintro e w2 ⟨r2,vs,rfl,o2,hB2⟩;have O2:=ax (o2.bq (base':=w.heap.size) xx);have HB2:=bF HB hB2;obtain⟨R2,r3,rfl⟩:=o2.form;clear o2 hB2;go_wp2;go_ret2;exact⟨_,vs,by rw[E.o];rfl,by rw[E.o];exact O2.o,HB2.o⟩
theorem vO{lo hi lo1 hi1 lo2 hi2:Nat}(v:Value)(a:au)(A:Option Addr)(c:Nat)(L:ay)(B:Option Addr)(cb:Nat)(ks:List Int)(w:World)(h:eB w lo hi v a)(hhi:hi<=w.heap.size)(hV:bH w lo1 hi1 A L)(hhi1:hi1<=w.heap.size)(hlen:L.len<=1049600)(hsm:L.small 1049600)(hk:bG w lo2 hi2 B ks) :
  Calls Tryz.prog 5 #[v,.slice A L.len c,.slice B ks.length cb] w fun e w'=>∃r vs,e=.returned (.tuple #[r,.bool (pE a L ks).isSome])/\bg w' w.heap.size r vs ((pE a L ks).getD [])/\Below w.heap.size w w':=by
 have HX:=ax h;obtain⟨B1,e1,B2,e2,rfl,-⟩:=h;have HC:=ax hV;have OP:=ax hsm;obtain⟨S1,hS1⟩:∃S,S=aO ks:=⟨_,rfl⟩;obtain⟨S2,hS2⟩:∃S,S=aO (mz a):=⟨_,rfl⟩;obtain⟨S3,uB⟩:∃S,S=lG (L.fold Dx 0):=⟨_,rfl⟩;obtain⟨K0,Mf⟩:∃K0,K0=jf a L ks:=⟨_,rfl⟩;have l1:S1<512:=by rw[hS1];exact dI _
 have l2:S2<512:=by rw[hS2];exact dI _
 have l2':lG S2<512:=sS l2;have l3:S3<512:=by rw[uB];exact sS (ay.gD (fun S k a b t i h=>uA h k a b t i) L (by decide))
 have lK:K0<512:=by rw[Mf];exact FR _ _ _
 have CS:aJ (∀W,Below w.heap.size w W->Calls Tryz.prog 18 #[.slice B ks.length cb] W fun e w'=>e=.returned (.int .u16 (S1:Nat))/\Below W.heap.size W w'):=ax fun W hW=>by rw[hS1];exact uR B cb ks W (hk.bz hW)
 have CT:aJ (∀W,Below w.heap.size w W->Calls Tryz.prog 19 #[.agg #[.slice B1 a.facts.length e1,.slice B2 a.atoms.length e2]] W fun e w'=>e=.returned (.int .u16 (S2:Nat))/\Below W.heap.size W w'):=ax fun W hW=>by rw[hS2];exact di _ a W (HX.o.V.bz hW)
 have CG:aJ (∀W,Calls Tryz.prog 20 #[.int .u16 (S2:Nat)] W fun e w'=>e=.returned (.int .u16 (lG S2:Nat))/\Below W.heap.size W w'):=ax fun W=>(ky S2 W l2).mono fun e w' ⟨e1,e2⟩=>⟨e1,e2▸aU⟩;have CI:aJ (∀W,Below w.heap.size w W->Calls Tryz.prog 21 #[.slice A L.len c] W fun e w'=>e=.returned (.int .u16 (S3:Nat))/\Below W.heap.size W w'):=ax fun W hW=>by rw[uB];exact pI L A c W (hV.bz hW) (Nat.le_trans hhi1 hW.size) hlen hsm
 have Z':=u16_or_nat S1 (lG S2) (by omega) (by omega)
 have hor2:bits .or .u16 ((S1|||lG S2:Nat):Int) (S3:Int)=(K0:Int):=by
  rw[u16_or_nat _ _ (by have:=Nat.or_lt_two_pow (n:=9) l1 l2';omega) (by omega),Mf,hS1,hS2,uB];rfl
 have HK:=ax Mf
 have CL:aJ (a.valid=true->L.prog=true->∀W lo hi v,eB W lo hi v a->hi<=W.heap.size->Below w.heap.size w W->Calls Tryz.prog 22 #[.agg #[.int .u16 K0,.bool false],v,.slice A L.len c] W fun e w'=>∃r vs,e=.returned (.tuple #[r,.int .i64 (L.exe false K0 [a]).1])/\bg w' W.heap.size r vs (L.exe false K0 [a]).2/\Below W.heap.size W w'):=ax fun hv hp W lo hi v h1 h2 h3=>
  ND false K0 lK (L.sz+1) L 4 (Nat.lt_succ_self _) (yP hp).1 hlen hsm lo hi lo1 hi1 v a A c W h1 h2 hv (hV.bz h3) (Nat.le_trans hhi1 h3.size)
 have HR:aJ (a.valid=true->L.prog=true->iD 24 (L.exe false K0 [a])):=ax yQ;obtain⟨res,hres⟩:∃q,q=pE a L ks:=⟨_,rfl⟩;have E0:aJ (res=if a.valid&&L.prog then (if (L.exe false (jf a L ks) [a]).1=0 then some (L.exe false (jf a L ks) [a]).2 else none) else none):=ax hres;rw[<-hres];replace hres:=ax hres;clear hV hk hS1 hS2 uB Mf hsm;(go_enter Tryz.func5,Tryz.ntmps5);(go_upto_region 1 with fail);refine bx1 (w:=w) (F:=Code.wp _ _ _ _) ?_;rintro W k3 hB hz;(replace fq:=k3.z);(go_wp2_with fail);refine(jz _ a _ (HX.o.V.bz hB)).mono ?_;rintro e w0 ⟨rfl,hq⟩;(replace hB:=aP hB hq;replace k3:=k3.nz hq;replace fq:=k3.z);clear hq;cases hv:a.valid
 ·have E:aJ (res=none):=ax (by rw[E0.o,hv];rfl);clear hv;go_wp2;go_ret2;exact⟨_,_,by rw[E.o];rfl,by rw[E.o];exact bg.nil _ _,hB⟩
 have HV:=ax hv;clear hv;(go_wp2_with fail);refine(mq L A c _ (HC.o.bz hB) hlen OP.o).mono ?_;rintro e w0 ⟨rfl,hq⟩;(replace hB:=aP hB hq;replace k3:=k3.nz hq;replace fq:=k3.z);clear hq;cases hp:L.prog
 ·have E:aJ (res=none):=ax (by rw[E0.o,hp];simp);clear hp;go_wp2;go_ret2;exact⟨_,_,by rw[E.o];rfl,by rw[E.o];exact bg.nil _ _,hB⟩
 have HP:=ax hp;clear hp hz fq;have hwz:w.heap.size<w0.heap.size:=k3.lt;(go_upto_region 3 with fail);generalize w0=V0 at*
 go_cut [8] (fun s8 wc=>∃z:Nat,s8=.pointer (some ⟨z,0,none⟩)/\w.heap.size<z/\ae wc z 54 #[.int .u16 K0,.bool false]/\ae wc w.heap.size aC #[.slice B1 a.facts.length e1,.slice B2 a.atoms.length e2]/\aJ (Below w.heap.size w wc))
 case first=>
  refine lS (S:=(fun w'=>∀q,w'.cell? ⟨w.heap.size,q,none⟩=#[.slice B1 a.facts.length e1,.slice B2 a.atoms.length e2][q]?)) (k3.drew.cell) fun aH=>?_;have hq:=(Below.refl V0.heap.size V0).drew;(replace hB:=aP hB hq;replace k3:=k3.nz hq);clear hq;generalize V0.drew=V at*;have zl0:w.heap.size<V.heap.size:=k3.lt;refine yU 0 2 6 ?_;refine wB 1 10 rfl rfl (fun K hK=>?_) fun K hK=>?_
  ·(try simp only[zz]);(go_simp;refine(CS.o _ hB).mono ?_;rintro e w1 ⟨rfl,hq⟩;have zl1:w.heap.size<w1.heap.size:=(k3.nz hq).lt;replace k3:=k3.nz hq;replace hB:=aP hB hq;clear hq);refine hK.out _ _ (k3.cell) ?_;clear aH hK K;intro aH;(try simp only[zz]);refine wB 3 10 rfl rfl (fun K hK=>?_) fun K hK=>?_
   ·(try simp only[zz]);(go_simp;refine(CT.o _ hB).mono ?_;rintro e w2 ⟨rfl,hq⟩;have zl2:w.heap.size<w2.heap.size:=(k3.nz hq).lt;replace k3:=k3.nz hq;replace hB:=aP hB hq;clear hq);refine hK.out _ _ (k3.cell) ?_;clear aH hK K;intro aH;(try simp only[zz]);refine wB 4 10 rfl rfl (fun K hK=>?_) fun K hK=>?_
    ·(try simp only[zz]);(go_simp;refine(CG.o _).mono ?_;rintro e w3 ⟨rfl,hq⟩;have zl3:w.heap.size<w3.heap.size:=(k3.nz hq).lt;replace k3:=k3.nz hq;replace hB:=aP hB hq;clear hq);refine hK.out _ _ (k3.cell) ?_;clear aH hK K;intro aH;refine jh 5 ?_;refine wB 7 10 rfl rfl (fun K hK=>?_) fun K hK=>?_
     ·(try simp only[zz]);(go_simp;refine(CI.o _ hB).mono ?_;rintro e w4 ⟨rfl,hq⟩;have V7:w.heap.size<w4.heap.size:=(k3.nz hq).lt;replace k3:=k3.nz hq;replace hB:=aP hB hq;clear hq);refine hK.out _ _ (k3.cell) ?_;clear aH hK K;intro aH;refine uM 8 9 ?_;refine aX 10 rfl fun K hK=>?_;(try simp only[zz]);go_simp;refine hK.out _ _ ((k3.alloc (.cells #[.int .u16 0,.bool false] 54)).cell) ?_;clear aH hK K;intro aH;refine aX 11 rfl fun K hK=>?_;(try simp only[zz]);(go_simp;have hq:=ai (Below.refl _ w4) (.cells #[.int .u16 K0,.bool false] 54);have kb:=ae.new w4 54 #[.int .u16 K0,.bool false];replace k3:=k3.nz hq;replace hB:=aP hB hq;clear hq);refine hK.out _ _ (k3.cell) ?_;clear aH hK K;intro aH;refine jP ?_;(go_wp2_with fail);go_meet
      case rel=>exact⟨w4.heap.size,rfl,by first|omega|(have:=hB.size;simp at this;omega),kb,k3,ax hB⟩
     ·(try simp only[zz]);(go_simp;have hq:=ai (Below.refl _ w3) (.cells #[.int .u16 0,.bool false] 54);replace k3:=k3.nz hq;replace hB:=aP hB hq;clear hq);refine hK.out _ _ (k3.cell) ?_;clear aH hK K;intro aH;(try simp only[zz]);have kb:=ae.new w3 54 #[.int .u16 0,.bool false];have hlz:w.heap.size<=w3.heap.size:=by first|exact bn|exact hB.size|(have:=hB.size;simp at this;omega)
      refine aX 7 rfl fun K hK=>?_;(try simp only[zz]);(go_simp;refine(CI.o _ hB).mono ?_;rintro e w4 ⟨rfl,hq⟩;have V7:w.heap.size<w4.heap.size:=(k3.nz hq).lt;replace k3:=k3.nz hq;replace kb:=kb.nz hq;replace hB:=aP hB hq;clear hq);refine hK.out _ _ (k3.cell) ?_;clear aH hK K;intro aH;refine uM 8 9 ?_;have hlb:=kb.lt;have ql:=kb.cell;have rl:=kb.frozen;have hn0:w.heap.size≠w3.heap.size:=by omega
      refine aX 11 rfl fun K hK=>?_;(try simp only[zz]);(go_simp;replace k3:=(k3.far (p:=⟨w3.heap.size,0,none⟩) (fun e=>hn0 e) (.int .u16 K0)).far (p:=⟨w3.heap.size,1,none⟩) (fun e=>hn0 e) (.bool false);replace hB:=iq (iq hB w3.heap.size 0 (.int .u16 K0)) w3.heap.size 1 (.bool false);replace kb:=(kb.ag 0 (.int .u16 K0)).ag 1 (.bool false));refine hK.out _ _ (k3.cell) ?_;clear aH hK K;intro aH;refine jP ?_;(go_wp2_with fail);go_meet
      case rel=>exact⟨w3.heap.size,rfl,by first|omega|(have:=hB.size;simp at this;omega),kb,k3,ax hB⟩
    ·(try simp only[zz]);(go_simp;have hq:=ai (Below.refl _ w2) (.cells #[.int .u16 0,.bool false] 54);replace k3:=k3.nz hq;replace hB:=aP hB hq;clear hq);refine hK.out _ _ (k3.cell) ?_;clear aH hK K;intro aH;(try simp only[zz]);have kb:=ae.new w2 54 #[.int .u16 0,.bool false];have hlz:w.heap.size<=w2.heap.size:=by first|exact bn|exact hB.size|(have:=hB.size;simp at this;omega)
     refine aX 4 rfl fun K hK=>?_;(try simp only[zz]);(go_simp;refine(CG.o _).mono ?_;rintro e w3 ⟨rfl,hq⟩;have zl3:w.heap.size<w3.heap.size:=(k3.nz hq).lt;replace k3:=k3.nz hq;replace kb:=kb.nz hq;replace hB:=aP hB hq;clear hq);refine hK.out _ _ (k3.cell) ?_;clear aH hK K;intro aH;refine jh 5 ?_;refine aX 7 rfl fun K hK=>?_;(try simp only[zz]);(go_simp;refine(CI.o _ hB).mono ?_;rintro e w4 ⟨rfl,hq⟩;have V7:w.heap.size<w4.heap.size:=(k3.nz hq).lt;replace k3:=k3.nz hq;replace kb:=kb.nz hq;replace hB:=aP hB hq;clear hq);refine hK.out _ _ (k3.cell) ?_;clear aH hK K;intro aH;refine uM 8 9 ?_;have hlb:=kb.lt;have ql:=kb.cell;have rl:=kb.frozen;have hn0:w.heap.size≠w2.heap.size:=by omega
     refine aX 11 rfl fun K hK=>?_;(try simp only[zz]);(go_simp;replace k3:=(k3.far (p:=⟨w2.heap.size,0,none⟩) (fun e=>hn0 e) (.int .u16 K0)).far (p:=⟨w2.heap.size,1,none⟩) (fun e=>hn0 e) (.bool false);replace hB:=iq (iq hB w2.heap.size 0 (.int .u16 K0)) w2.heap.size 1 (.bool false);replace kb:=(kb.ag 0 (.int .u16 K0)).ag 1 (.bool false));refine hK.out _ _ (k3.cell) ?_;clear aH hK K;intro aH;refine jP ?_;(go_wp2_with fail);go_meet
     case rel=>exact⟨w2.heap.size,rfl,by first|omega|(have:=hB.size;simp at this;omega),kb,k3,ax hB⟩
   ·(try simp only[zz]);(go_simp;have hq:=ai (Below.refl _ w1) (.cells #[.int .u16 0,.bool false] 54);replace k3:=k3.nz hq;replace hB:=aP hB hq;clear hq);refine hK.out _ _ (k3.cell) ?_;clear aH hK K;intro aH;(try simp only[zz]);have kb:=ae.new w1 54 #[.int .u16 0,.bool false];have hlz:w.heap.size<=w1.heap.size:=by first|exact bn|exact hB.size|(have:=hB.size;simp at this;omega)
    refine aX 3 rfl fun K hK=>?_;(try simp only[zz]);(go_simp;refine(CT.o _ hB).mono ?_;rintro e w2 ⟨rfl,hq⟩;have zl2:w.heap.size<w2.heap.size:=(k3.nz hq).lt;replace k3:=k3.nz hq;replace kb:=kb.nz hq;replace hB:=aP hB hq;clear hq);refine hK.out _ _ (k3.cell) ?_;clear aH hK K;intro aH;refine aX 4 rfl fun K hK=>?_;(try simp only[zz]);(go_simp;refine(CG.o _).mono ?_;rintro e w3 ⟨rfl,hq⟩;have zl3:w.heap.size<w3.heap.size:=(k3.nz hq).lt;replace k3:=k3.nz hq;replace kb:=kb.nz hq;replace hB:=aP hB hq;clear hq);refine hK.out _ _ (k3.cell) ?_;clear aH hK K;intro aH;refine jh 5 ?_;refine aX 7 rfl fun K hK=>?_;(try simp only[zz]);(go_simp;refine(CI.o _ hB).mono ?_;rintro e w4 ⟨rfl,hq⟩;have V7:w.heap.size<w4.heap.size:=(k3.nz hq).lt;replace k3:=k3.nz hq;replace kb:=kb.nz hq;replace hB:=aP hB hq;clear hq);refine hK.out _ _ (k3.cell) ?_;clear aH hK K;intro aH;refine uM 8 9 ?_;have hlb:=kb.lt;have ql:=kb.cell;have rl:=kb.frozen;have hn0:w.heap.size≠w1.heap.size:=by omega
    refine aX 11 rfl fun K hK=>?_;(try simp only[zz]);(go_simp;replace k3:=(k3.far (p:=⟨w1.heap.size,0,none⟩) (fun e=>hn0 e) (.int .u16 K0)).far (p:=⟨w1.heap.size,1,none⟩) (fun e=>hn0 e) (.bool false);replace hB:=iq (iq hB w1.heap.size 0 (.int .u16 K0)) w1.heap.size 1 (.bool false);replace kb:=(kb.ag 0 (.int .u16 K0)).ag 1 (.bool false));refine hK.out _ _ (k3.cell) ?_;clear aH hK K;intro aH;refine jP ?_;(go_wp2_with fail);go_meet
    case rel=>exact⟨w1.heap.size,rfl,by first|omega|(have:=hB.size;simp at this;omega),kb,k3,ax hB⟩
  ·(try simp only[zz]);(go_simp;have hq:=ai (Below.refl _ V) (.cells #[.int .u16 0,.bool false] 54);replace k3:=k3.nz hq;replace hB:=aP hB hq;clear hq);refine hK.out _ _ (k3.cell) ?_;clear aH hK K;intro aH;(try simp only[zz]);have kb:=ae.new V 54 #[.int .u16 0,.bool false];have hlz:w.heap.size<=V.heap.size:=by first|exact bn|exact hB.size|(have:=hB.size;simp at this;omega)
   refine aX 1 rfl fun K hK=>?_;(try simp only[zz]);(go_simp;refine(CS.o _ hB).mono ?_;rintro e w1 ⟨rfl,hq⟩;have zl1:w.heap.size<w1.heap.size:=(k3.nz hq).lt;replace k3:=k3.nz hq;replace kb:=kb.nz hq;replace hB:=aP hB hq;clear hq);refine hK.out _ _ (k3.cell) ?_;clear aH hK K;intro aH;refine aX 3 rfl fun K hK=>?_;(try simp only[zz]);(go_simp;refine(CT.o _ hB).mono ?_;rintro e w2 ⟨rfl,hq⟩;have zl2:w.heap.size<w2.heap.size:=(k3.nz hq).lt;replace k3:=k3.nz hq;replace kb:=kb.nz hq;replace hB:=aP hB hq;clear hq);refine hK.out _ _ (k3.cell) ?_;clear aH hK K;intro aH;refine aX 4 rfl fun K hK=>?_;(try simp only[zz]);(go_simp;refine(CG.o _).mono ?_;rintro e w3 ⟨rfl,hq⟩;have zl3:w.heap.size<w3.heap.size:=(k3.nz hq).lt;replace k3:=k3.nz hq;replace kb:=kb.nz hq;replace hB:=aP hB hq;clear hq);refine hK.out _ _ (k3.cell) ?_;clear aH hK K;intro aH;refine jh 5 ?_;refine aX 7 rfl fun K hK=>?_;(try simp only[zz]);(go_simp;refine(CI.o _ hB).mono ?_;rintro e w4 ⟨rfl,hq⟩;have V7:w.heap.size<w4.heap.size:=(k3.nz hq).lt;replace k3:=k3.nz hq;replace kb:=kb.nz hq;replace hB:=aP hB hq;clear hq);refine hK.out _ _ (k3.cell) ?_;clear aH hK K;intro aH;refine uM 8 9 ?_;have hlb:=kb.lt;have ql:=kb.cell;have rl:=kb.frozen;have hn0:w.heap.size≠V.heap.size:=by omega
   refine aX 11 rfl fun K hK=>?_;(try simp only[zz]);(go_simp;replace k3:=(k3.far (p:=⟨V.heap.size,0,none⟩) (fun e=>hn0 e) (.int .u16 K0)).far (p:=⟨V.heap.size,1,none⟩) (fun e=>hn0 e) (.bool false);replace hB:=iq (iq hB V.heap.size 0 (.int .u16 K0)) V.heap.size 1 (.bool false);replace kb:=(kb.ag 0 (.int .u16 K0)).ag 1 (.bool false));refine hK.out _ _ (k3.cell) ?_;clear aH hK K;intro aH;refine jP ?_;(go_wp2_with fail);go_meet
   case rel=>exact⟨V.heap.size,rfl,by first|omega|(have:=hB.size;simp at this;omega),kb,k3,ax hB⟩
 case rest=>
  obtain⟨z,rfl,JM,kz,k3,HB⟩:=hcut;have hzs:=HB.o.size;clear hB Z' hor2;(replace qkz:=kz.z;replace fq:=k3.z);(go_wp2_with fail);refine(CL.o HV.o HP.o _ _ _ _ (HX.o.bz HB.o) (by omega) HB.o).mono ?_;rintro e w5 ⟨r,vs,rfl,o5,bW⟩;have HRR:=ax (HR.o HV.o HP.o);have E1:aJ (res=if (L.exe false K0 [a]).1=0 then some (L.exe false K0 [a]).2 else none):=ax (by rw[E0.o,HV.o,HP.o,<-HK.o];rfl);have wm:=bF HB bW;have O5:=ax (o5.bq (base':=w.heap.size) hzs);clear o5 bW CL CS CT CG CI HR;generalize L.exe false K0 [a]=P at*;obtain⟨code,ps⟩:=P;obtain⟨R,r,rfl⟩:=O5.o.form;simp only at E1 O5⊢;by_cases h0:code=0
  ·subst h0;have E:aJ (res=some ps):=ax (by rw[E1.o];rfl);clear E1 HRR;go_wp2;go_ret2;exact⟨_,vs,by rw[E.o];rfl,by rw[E.o];exact O5.o,wm.o⟩
  ·have E:aJ (res=none):=ax (by rw[E1.o,if_neg h0]);have en:=HRR.o.nil h0;simp only at en;subst en;have Ut:(code == 0)=false:=beq_false_of_ne h0;clear E1 HRR h0;go_wp2;go_ret2;exact⟨_,vs,by rw[E.o];rfl,by rw[E.o];exact O5.o,wm.o⟩
theorem aM.Rb{w:World}{lo hi:Nat}{v:Value}{a:au}(h:aM w lo hi v a)(hh:hi<=w.heap.size):aM w 0 w.heap.size v a:=h.Ah hh
theorem aM.lJ{w:World}{lo hi:Nat}{v:Value}{a:au}(h:aM w lo hi v a){p:Addr}(hp:hi<=p.block){q:Addr}(hq:hi<=q.block)(hh:hi<=w.heap.size)(u u':Value):aM ((w.setCell p u).setCell q u') lo hi v a:=by
 obtain⟨A1,c1,A2,c2,e,h1,h2⟩:=h;exact⟨A1,c1,A2,c2,e,h1.gp (((Below.refl hi w).setCell hp u).setCell hq u') bn,h2.gp (((Below.refl hi w).setCell hp u).setCell hq u') bn⟩
theorem si{lo hi bJ hi':Nat}(v:Value)(a:au)(x:Int)(Bf:Option Addr)(cf K:Nat)(w:World)(h:aM w lo hi v a)(hhi:hi<=w.heap.size)(h':bB w bJ hi' Bf (zj K))(hv:a.valid=true)(hx:jq x=true) :
  Calls Tryz.prog 137 #[v,.int .i64 x,.slice Bf 9 cf] w fun e w'=>∃F f G g b p,e=.returned (.tuple #[.agg #[.slice F b.facts.length f,.slice G b.atoms.length g],.int .i64 p,.bool (bf a x K).isSome])/\aM w' 0 w'.heap.size (.agg #[.slice F b.facts.length f,.slice G b.atoms.length g]) b/\b.facts.length=a.facts.length/\b.atoms.length=a.atoms.length/\(∀q,bf a x K=some q->q=(b,p))/\Below w.heap.size w w':=by
 have hV:=ax h;have HV:=ax hv;have HT:=ax (jK hv);have HF:=ax h';have NF:=qU.1 hx;obtain⟨m,rfl⟩:=Int.eq_ofNat_of_zero_le NF.1;obtain⟨A1,c1,A2,c2,rfl,-,-⟩:=h;have E0:(m:Int).toNat=m:=Int.toNat_natCast m;have K9:aJ ((aO (mz a)).testBit m=false->bf a (m:Int) K=some (a,(m:Int))):=ax fun hb=>Af (by rw[E0];exact hb);have HE2:aJ ((aO (mz a)).testBit m=true->kC (aO (mz a)|||K)=none->bf a (m:Int) K=none):=ax fun hb hn=>xA (by rw[E0];exact hb) hn;have HE3:aJ ((aO (mz a)).testBit m=true->∀n,kC (aO (mz a)|||K)=some n->bf a (m:Int) K=some (aZ (m:Int) (n:Int) a,(n:Int))):=ax fun hb n hn=>xB (by rw[E0];exact hb) hn;clear hv h' E0;(go_enter Tryz.func137,Tryz.ntmps137);have k3:ae ((w.alloc (.cells #[.slice A1 a.facts.length c1,.slice A2 a.atoms.length c2] aC)).alloc (.cells #[.slice none 0 0,.slice none 0 0] aC)) w.heap.size aC #[.slice A1 a.facts.length c1,.slice A2 a.atoms.length c2]:=az;have k6:ae ((w.alloc (.cells #[.slice A1 a.facts.length c1,.slice A2 a.atoms.length c2] aC)).alloc (.cells #[.slice none 0 0,.slice none 0 0] aC)) (w.heap.size+1) aC #[.slice none 0 0,.slice none 0 0]:=az;(go_wp2_with fail);refine(dO _ a _ (hV.o.bz aj) HT.o).mono ?_;rintro e w1 ⟨r,rfl,oT,hB1⟩;have hB:=aP (w:=w) aj hB1;replace k3:=k3.nz hB1;replace k6:=k6.nz hB1;have hz:=hB1.size;simp only[World.size_alloc] at hz;obtain⟨Tb,ct,rfl,fT⟩:=oT.rj;rw[yD];obtain⟨pt,ot,rfl,lpt⟩:=iN fT;have f1:=iM fT (m:=m) (by omega);have k9:(m:Int)<9:=by omega
 clear hB1 oT hx;cases hb:(aO (mz a)).testBit m
 ·have E:=ax (K9.o hb);rw[hb] at f1;clear hb K9 HE2 HE3;(replace fq:=k3.z;replace oD:=k6.z);(go_wp2_with fail);have z6:=((k6.ag 0 (.slice A1 a.facts.length c1)).ag 1 (.slice A2 a.atoms.length c2)).cell;refine bodyPost_ret (v:=.tuple #[.agg #[.slice A1 a.facts.length c1,.slice A2 a.atoms.length c2],.int .i64 m,.bool true]) (by simp[results,Tryz.results137,go_sem,z6]) rfl ⟨A1,c1,A2,c2,a,m,by rw[E.o];rfl,?_,rfl,rfl,?_,?_⟩
  ·exact aM.Rb (aM.lJ (hV.o.bz hB) (by simp only;omega) (by simp only;omega) (by omega) _ _) (by simp;omega)
  ·intro q hq;rw[E.o] at hq;exact(Option.some.inj hq).symm
  ·exact aj
 ·have Uk:=ax hb;rw[hb] at f1;clear hb K9;(replace fq:=k3.z;replace oD:=k6.z);(go_wp2_with fail);refine(FC _ a Bf cf K _ (hV.o.bz hB) (HF.o.bz hB) HV.o).mono ?_;rintro e w3 ⟨rfl,hB3⟩;clear f1;(replace hB:=aP hB hB3;replace k3:=k3.nz hB3;replace fq:=k3.z;replace k6:=k6.nz hB3;replace oD:=k6.z);have hz3:=hB3.size;clear hB3;obtain⟨U,hU⟩:∃U,U=gX (aO (mz a)|||K):=⟨_,rfl⟩;rw[<-hU]
  have HS:aJ ((kC (aO (mz a)|||K)).isSome=(bf a (m:Int) K).isSome/\∀q,bf a (m:Int) K=some q->q=(aZ (m:Int) U a,U)):=ax (by
   cases hn:kC (aO (mz a)|||K) with
   | none=>rw[HE2.o Uk.o hn];exact⟨rfl,fun q hq=>by cases hq⟩
   | some n=>
    have e:U=(n:Int):=by rw[hU];unfold gX;rw[hn]
    rw[HE3.o Uk.o n hn,e]
    exact⟨rfl,fun q hq=>(Option.some.inj hq).symm⟩)
  rw[HS.o.1];generalize hs:(bf a (m:Int) K).isSome=sm;replace hs:=ax hs;clear hU HE2 HE3 Uk;(go_wp2_with fail);refine(rG _ a (m:Int) U _ (hV.o.bz hB)).mono ?_;rintro e w4 ⟨r,rfl,oC,hB4⟩;obtain⟨F,f,G,g,rfl⟩:=oC.I.form;have OC:=ax oC;(replace hB:=aP hB hB4;replace k6:=k6.nz hB4;replace oD:=k6.z);have Dp:=hB4.size;clear oC hB4 k3 fq;(go_wp2_with fail);have z6:=((k6.ag 0 (.slice F (aZ (m:Int) U a).facts.length f)).ag 1 (.slice G (aZ (m:Int) U a).atoms.length g)).cell;refine bodyPost_ret (v:=.tuple #[.agg #[.slice F (aZ (m:Int) U a).facts.length f,.slice G (aZ (m:Int) U a).atoms.length g],.int .i64 U,.bool sm]) (by simp[results,Tryz.results137,go_sem,z6]) rfl ⟨F,f,G,g,aZ (m:Int) U a,U,by rw[hs.o],?_,by simp[aZ],by simp[aZ],HS.o.2,?_⟩
  ·exact(aI.lJ OC.o k6 _ _).rj.Rb bn
  ·exact aj
end
end Go.Proofs.YtjbboklnegfohaaGreat
