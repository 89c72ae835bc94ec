/- Sets of terms. -/
import Derived.Test.YtjaohekkmlkinaaGreatMaJoin
import Derived.Deep.RegionHeld
import Derived.StillTail
set_option linter.unusedSimpArgs false
set_option linter.unusedVariables false
set_option maxRecDepth 100000
set_option maxHeartbeats 25600000
namespace Go.Proofs.YtjaohekkmlkinaaGreat
section
open Go Go.RowKit Go.Proofs
theorem zjA {x:Int}:jq x=true↔0≤x∧x≤8:=by simp[jq]
@[irreducible] def tins (S:Nat) (t:Int):Nat:=if jq t then S|||1 <<< t.toNat else S
theorem tins_lt {S:Nat} (h:S<512) (t:Int):tins S t<512:=by
 unfold tins
 split
 ·rename_i ht;have ht:=zjA.1 ht;rw[Nat.one_shiftLeft]
  exact Nat.or_lt_two_pow (n:=9) h (by
   have:(2:Nat) ^ t.toNat≤2 ^ 8:=Nat.pow_le_pow_right (by omega) (by omega)
   omega)
 ·exact h
theorem tins_bit (S:Nat) (t:Int) (n:Nat):(tins S t).testBit n=(S.testBit n || decide (jq t=true∧t=(n:Int))):=by
 unfold tins
 split
 ·rename_i ht;have hb:=zjA.1 ht;rw[Nat.testBit_or,Nat.one_shiftLeft,Nat.testBit_two_pow]
  congr 1
  rw[decide_eq_decide];constructor
  ·intro e;exact ⟨ht,by omega⟩
  ·intro e;omega
 ·rename_i ht;simp[ht]
def tset (l:List Int):Nat:=l.foldl tins 0
theorem foldl_tins_lt (l:List Int):∀ {S:Nat},S<512→l.foldl tins S<512:=by
 induction l with
 | nil=>intro S h;exact h
 | cons x l ih=>intro S h;exact ih (tins_lt h x)
theorem tset_lt (l:List Int):tset l<512:=foldl_tins_lt l (by decide)
theorem foldl_tins_bit (l:List Int):∀ (S n:Nat),(l.foldl tins S).testBit n=(S.testBit n || decide (jq (n:Int)=true∧(n:Int)∈l)):=by
 induction l with
 | nil=>intro S n;simp
 | cons x l ih=>
  intro S n;rw[List.foldl_cons,ih,tins_bit,Bool.or_assoc]
  congr 1
  rw[←Bool.decide_or,decide_eq_decide];constructor
  ·rintro (⟨h,rfl⟩|⟨h,hm⟩)
   ·exact ⟨h,List.mem_cons_self⟩
   ·exact ⟨h,List.mem_cons_of_mem _ hm⟩
  ·rintro ⟨h,hm⟩;rcases List.mem_cons.1 hm with e|hm
   ·exact Or.inl ⟨e▸h,e.symm⟩
   ·exact Or.inr ⟨h,hm⟩
theorem tset_bit (l:List Int) (n:Nat):(tset l).testBit n=decide (jq (n:Int)=true∧(n:Int)∈l):=by
 rw[tset,foldl_tins_bit];simp
def factT (f:Fct):List Int:=[f.a,f.b]
def atomT (x:Atm):List Int:=[x.a,x.b]
def mz (a:Asn):List Int:=a.facts.flatMap factT++a.atoms.flatMap atomT
attribute [irreducible] tset
theorem c_impl_with (S:Nat) (t:Int) (w:World) (hS:S<512):Calls Tryz.prog 135 #[.int .u16 S,.int .i64 t] w fun e w'=>e=.returned (.int .u16 (tins S t))∧w=w':=by
 cases ht:jq t
 ·(go_enter Tryz.func135,Tryz.ntmps135);(go_wp2_with (go_at_call 151;refine (c_impl_isTerm _ _).mono ?_;rintro e w' ⟨rfl,rfl⟩));go_ret;exact ⟨by rw[tins,ht];rfl,rfl⟩
 ·have hb:=zjA.1 ht;have HT:=ax ht;obtain ⟨m,rfl⟩:=Int.eq_ofNat_of_zero_le hb.1;(go_enter Tryz.func135,Tryz.ntmps135);(go_wp2_with (go_at_call 151;refine (c_impl_isTerm _ _).mono ?_;rintro e w' ⟨rfl,rfl⟩));go_ret;refine ⟨?_,rfl⟩;have e:=bit_or S m (by omega) (by omega);rw[tins,HT.o,if_pos rfl,Int.toNat_natCast,←e];simp
theorem c_impl_tHas (S:Nat) (t:Int) (w:World) (hS:S<512):Calls Tryz.prog 140 #[.int .u16 S,.int .i64 t] w fun e w'=>e=.returned (.bool (jq t&&S.testBit t.toNat))∧w=w':=by
 cases ht:jq t
 ·(go_enter Tryz.func140,Tryz.ntmps140);(go_wp2_with (go_at_call 151;refine (c_impl_isTerm _ _).mono ?_;rintro e w' ⟨rfl,rfl⟩));go_ret;exact ⟨rfl,rfl⟩
 ·have hb:=zjA.1 ht;have HT:=ax ht;obtain ⟨m,rfl⟩:=Int.eq_ofNat_of_zero_le hb.1;have hbit:=bit_has S m (by omega);(go_enter Tryz.func140,Tryz.ntmps140);(go_wp2_with (go_at_call 151;refine (c_impl_isTerm _ _).mono ?_;rintro e w' ⟨rfl,rfl⟩));go_ret;refine ⟨?_,rfl⟩;exact zjD (by simp)
theorem foldl_step {α:Type} (f:Nat→α→Nat) (S:Nat) (xs:List α) (k:Nat) (hk:k<xs.length):(xs.drop k).foldl f S=(xs.drop (k+1)).foldl f (f S xs[k]):=by
 rw[List.drop_eq_getElem_cons hk];rfl
theorem tset_terms (a:Asn):tset (mz a)=(a.atoms.foldl (fun S x=>tins (tins S x.a) x.b) (a.facts.foldl (fun S f=>tins (tins S f.a) f.b) 0)):=by
 have h1:∀ (fs:List Fct) (S:Nat),(fs.flatMap factT).foldl tins S=fs.foldl (fun S f=>tins (tins S f.a) f.b) S:=by
  intro fs;induction fs with
  | nil=>intro S;rfl
  | cons f fs ih=>intro S;rw[List.flatMap_cons,List.foldl_append,ih];rfl
 have h2:∀ (fs:List Atm) (S:Nat),(fs.flatMap atomT).foldl tins S=fs.foldl (fun S f=>tins (tins S f.a) f.b) S:=by
  intro fs;induction fs with
  | nil=>intro S;rfl
  | cons f fs ih=>intro S;rw[List.flatMap_cons,List.foldl_append,ih];rfl
 rw[tset,mz,List.foldl_append,h1,h2]
theorem c_impl_termsIn {lo hi:Nat} (v:Value) (a:Asn) (w:World) (h:AsnV w lo hi v a):Calls Tryz.prog 64 #[v] w fun e w'=>e=.returned (.int .u16 (tset (mz a)))∧Below w.heap.size w w':=by
 obtain ⟨A1,c1,A2,c2,rfl,h1,h2⟩:=h;have hl1:=h1.le;have hl2:=h2.le;have HT:=ax (tset_terms a);(go_enter Tryz.func64,Tryz.ntmps64);go_wp2
 go_loopw [3,11] (fun S i wr=>∃ (k T:Nat),k≤a.facts.length∧i=.int .i64 k∧S=.int .u16 T∧T<512∧aJ (a.facts.foldl (fun S f=>tins (tins S f.a) f.b) 0=(a.facts.drop k).foldl (fun S f=>tins (tins S f.a) f.b) T)∧Blk wr w.heap.size 37 #[.slice A1 a.facts.length c1,.slice A2 a.atoms.length c2]∧Below w.heap.size w wr) (fun _ i _=>a.facts.length - (intOf i).toNat)
 case atStart=>exact ⟨0,0,Nat.zero_le _,rfl,rfl,by decide,rfl,blks,bel⟩
 case round=>
  obtain ⟨k,T,hk,rfl,rfl,hT,HA,hK,hB⟩:=hrel;by_cases hlt:k<a.facts.length
  ·obtain ⟨b,off,rfl,g0,g1,g2⟩:=(h1.bz hB).at hlt;have HD:=ax (foldl_step (fun S (f:Fct)=>tins (tins S f.a) f.b) T a.facts k hlt);have hT1:=tins_lt hT a.facts[k].a;have hT2:=tins_lt hT1 a.facts[k].b;(go_wp2_with fail);(go_quiet ((go_at_call 135;exact Calls.quiet_of_same ((c_impl_with _ _ _ (by assumption)).mono fun _ _ ⟨a,b⟩=>⟨a,b.symm⟩))));(go_wp2_with fail)
   go_round
   case rel=>exact ⟨k+1,_,by omega,by go_num,rfl,hT2,by show _=_;rw[HA.o,HD.o],(hK.alloc _).drewN _,below_drewN (bbox hB _) _⟩
   case measure=>simp[intOf];omega
  ·obtain rfl:k=a.facts.length:=by omega
   have q:=hK.cell;(go_wp2_with fail);have HA2:=ax (show a.facts.foldl (fun S f=>tins (tins S f.a) f.b) 0=T by rw[HA.o,List.drop_length];rfl)
   go_loopw [3,26] (fun S i wx=>∃ (k T':Nat),k≤a.atoms.length∧i=.int .i64 k∧S=.int .u16 T'∧T'<512∧aJ (a.atoms.foldl (fun S f=>tins (tins S f.a) f.b) T=(a.atoms.drop k).foldl (fun S f=>tins (tins S f.a) f.b) T')∧Below w.heap.size w wx) (fun _ i _=>a.atoms.length - (intOf i).toNat)
   case atStart=>exact ⟨0,T,Nat.zero_le _,rfl,rfl,hT,rfl,hB⟩
   case round=>
    clear hK q hB;obtain ⟨k,T',hk,rfl,rfl,hT',HB,hB⟩:=hrel;by_cases hlt2:k<a.atoms.length
    ·obtain ⟨b,off,rfl,g0,g1,g2⟩:=(h2.bz hB).at hlt2;have HD:=ax (foldl_step (fun S (f:Atm)=>tins (tins S f.a) f.b) T' a.atoms k hlt2);have hT1:=tins_lt hT' a.atoms[k].a;have hT2:=tins_lt hT1 a.atoms[k].b;(go_wp2_with fail);(go_quiet ((go_at_call 135;exact Calls.quiet_of_same ((c_impl_with _ _ _ (by assumption)).mono fun _ _ ⟨a,b⟩=>⟨a,b.symm⟩))));(go_wp2_with fail)
     go_round
     case rel=>exact ⟨k+1,_,by omega,by go_num,rfl,hT2,by show _=_;rw[HB.o,HD.o],below_drewN (bbox hB _) _⟩
     case measure=>simp[intOf];omega
    ·obtain rfl:k=a.atoms.length:=by omega
     (go_wp2_with fail);go_ret;refine ⟨?_,hB⟩;rw[HT.o,HA2.o,HB.o,List.drop_length];rfl
theorem c_impl_setOfTerms {lo hi:Nat} (A:Option Addr) (c:Nat) (xs:List Int) (w:World) (h:IntsV w lo hi A xs):Calls Tryz.prog 63 #[.slice A xs.length c] w fun e w'=>e=.returned (.int .u16 (tset xs))∧Below w.heap.size w w':=by
 have hl:=h.le;have HT:aJ (tset xs=xs.foldl tins 0):=by show _=_;unfold tset;rfl
 (go_enter Tryz.func63,Tryz.ntmps63);go_wp2
 go_loop [3,8] (fun S i=>∃ (k T:Nat),k≤xs.length∧i=.int .i64 k∧S=.int .u16 T∧T<512∧aJ (tset xs=(xs.drop k).foldl tins T)) (fun _ i=>xs.length - (intOf i).toNat)
 case atStart=>exact ⟨0,0,Nat.zero_le _,rfl,rfl,by decide,HT.o⟩
 case round=>
  obtain ⟨k,T,hk,rfl,rfl,hT,HA⟩:=hrel;by_cases hlt:k<xs.length
  ·obtain ⟨b,off,rfl,g0⟩:=h.at hlt;have HD:=ax (foldl_step tins T xs k hlt);have hT1:=tins_lt hT xs[k];(go_wp2_with (go_at_call 135;refine (c_impl_with _ _ _ (by assumption)).mono ?_;rintro e w' ⟨rfl,rfl⟩))
   go_round
   case rel=>exact ⟨k+1,_,by omega,by go_num,rfl,hT1,by show _=_;rw[HA.o,HD.o]⟩
   case measure=>simp[intOf];omega
  ·obtain rfl:k=xs.length:=by omega
   go_wp2;go_ret;exact ⟨by rw[HA.o,List.drop_length];rfl,Below.refl _ _⟩
theorem Fr.goB {g base:Nat} {a b c:World} (h:Fr g a b) (k:Below base b c) (hb:a.heap.size≤base):Fr g a c:=
 ⟨k.os.trans h.os,k.tape.trans h.tape,k.output.trans h.output,Nat.le_trans h.size k.size,fun i h1 h2=>(k.block i (by omega)).trans (h.block i h1 h2)⟩
theorem Rdr.belowB {w w':World} {g p base:Nat} (h:Rdr w g p) (hb:Below base w w') (hg:g<base):Rdr w' g p:=by
 obtain ⟨A,c,bs,h1,h2,h3⟩:=h;exact ⟨A,c,bs,h1.bz hb hg,h2.keep fun b _ hlt=>hb.block b (by omega),h3⟩
theorem c_num {lo hi:Nat} (g p:Nat) (A:Option Addr) (c:Nat) (xs:List Int) (w:World) (h:Rdr w g p) (hp:p≤1000000) (hx:IntsV w lo hi A xs) (hg:g<lo∨hi≤g) (hn:0<xs.length) :
  Calls Tryz.prog 106 #[.pointer (some ⟨g,0,none⟩),.slice A xs.length c] w fun e w'=>∃ m∈xs,e=.returned (.int .i64 m)∧Rdr w' g (p+1)∧Fr g w w':=by
 have H:=ax h;have HX:=ax hx;clear h hx;(go_enter Tryz.func106,Tryz.ntmps106);(go_wp2_with fail);refine (c_pick g p _ _ H.o hp).mono ?_;rintro e w1 ⟨m,rfl,hm,hR,hF⟩;have hlt:m<xs.length:=by omega
 obtain ⟨b,o,rfl,c0⟩:=IntsV.at (Rd.fr HX.o hF hg) hlt;have hmi:(m:Int)<(xs.length:Int):=by omega
 have HRF:=ax (And.intro hR hF);clear hm hR hF;(go_wp2_with fail);go_ret;exact ⟨xs[m],List.getElem_mem hlt,rfl,HRF.o.1,HRF.o.2⟩
theorem c_numL (g p:Nat) (xs:List Int) (x n:Nat) (cs:Array Value) (w:World) (h:Rdr w g p) (hp:p≤1000000) (hk:Blk w x tI cs) (hcs:cs=(encI xs).toArray) (hg:g<x) (hn:n=xs.length) (h0:0<xs.length) (hl:xs.length≤100) :
  Calls Tryz.prog 106 #[.pointer (some ⟨g,0,none⟩),.slice (some ⟨x,0,none⟩) n n] w fun e w'=>∃ m∈xs,e=.returned (.int .i64 m)∧Rdr w' g (p+1)∧Fr g w w':=by
 subst hn;refine c_num (lo:=x) (hi:=x+1) g p _ _ xs w h hp ⟨⟨by simp[encI],fun _=>⟨x,0,rfl,Nat.le_refl _,Nat.lt_succ_self _,fun j u hu=>?_⟩⟩,by unfold Lim;omega⟩ (Or.inl hg) h0;rw[Nat.zero_add,hk.cell,hcs];simpa using hu
theorem c_l3Point (g p:Nat) (w:World) (h:Rdr w g p) (hp:p≤999990) :
  Calls Tryz.prog 262 #[.pointer (some ⟨g,0,none⟩)] w fun e w'=>∃ f:Atm,f.valid=true∧e=.returned f.val∧Rdr w' g (p+3)∧Fr g w w':=by
 have H:=ax h;have hlt:=h.lt;clear h;(go_enter Tryz.func262,Tryz.ntmps262);have k0:Blk (w.alloc (.cells #[.int .i64 0,.int .i64 0,.int .i64 0] tA)) w.heap.size tA #[.int .i64 0,.int .i64 0,.int .i64 0]:=Blk.new _ _ _;have HF0:aJ (Fr g w (w.alloc (.cells #[.int .i64 0,.int .i64 0,.int .i64 0] tA))):=(Fr.refl g w).alloc _;(go_wp2_with fail);refine (c_numL g p [1,2,3,5,4,6] _ _ _ _ (H.o.bz bel) (by omega) blks (by rfl) (by first|omega|(simp;omega)) (by rfl) (by decide) (by decide)).mono ?_;rintro e w1 ⟨x,hx,rfl,hR,hF⟩;replace k0:=(k0.alloc _).fr hF (by omega);have HF1:=ax ((HF0.o.alloc _).trans hF);have HR1:=ax hR;have HX:=ax ((by decide:∀ m∈[(1:Int),2,3,5,4,6],jq m=true) x hx);have l1:=k0.lt;clear hR hF hx;(go_wp2_with fail);refine (c_numL g (p+1) [2,0,3,1,5,0,6] _ _ _ _ (HR1.o.bz bel) (by omega) blks (by rfl) (by first|omega|(simp;omega)) (by rfl) (by decide) (by decide)).mono ?_;rintro e w2 ⟨y,hy,rfl,hR,hF⟩;replace k0:=(k0.alloc _).fr hF (by omega);have HF2:=ax ((HF1.o.alloc _).trans hF);have HR2:=ax hR;have HY:=ax ((by decide:∀ m∈[(2:Int),0,3,1,5,0,6],jq m=true) y hy);have l2:=k0.lt;clear hR hF hy;have k1:Blk (w2.alloc (.cells #[.int .i64 1,.int .i64 x,.int .i64 y] tA)) w2.heap.size tA #[.int .i64 1,.int .i64 x,.int .i64 y]:=Blk.new _ _ _;(go_wp2_with fail);refine (c_pick g (p+1+1) 2 _ (HR2.o.bz bel) (by omega)).mono ?_;rintro e w3 ⟨m,rfl,-,hR,hF⟩;replace k0:=(k0.alloc (.cells #[.int .i64 1,.int .i64 x,.int .i64 y] tA)).fr hF (by omega);replace k1:=k1.fr hF (by omega);have HF3:=ax ((HF2.o.alloc _).trans hF);have HR3:=ax hR;clear hR hF;(replace qk0:=k0.cell;replace rk0:=k0.frozen;replace lk0:=k0.lt;replace qk1:=k1.z);have hsz:=HF2.o.size;have hne:w.heap.size≠w2.heap.size:=by omega
 by_cases hm:(m:Int)=0
 ·have hm':((m:Int) == 0)=true:=by simpa using hm
  clear hm;(go_wp2_with fail);refine bodyPost_ret (v:=(Atm.mk 2 x y).val) (by simp[results,Tryz.results262,go_sem,qk0]) rfl ⟨⟨2,x,y⟩,by simp[Atm.valid,HX.o,HY.o],rfl,?_,?_⟩
  ·repeat (first|exact HR3.o|refine Rdr.set_ ?_ (by simp only;omega) _)
  ·repeat (first|exact HF3.o|refine Fr.set_ ?_ (Or.inr (by simp only;omega)) _)
 ·have hm':((m:Int) == 0)=false:=by simpa using hm
  clear hm;(go_wp2_with fail);refine bodyPost_ret (v:=(Atm.mk 1 x y).val) (by simp[results,Tryz.results262,go_sem,qk0]) rfl ⟨⟨1,x,y⟩,by simp[Atm.valid,HX.o,HY.o],rfl,?_,?_⟩
  ·repeat (first|exact HR3.o|refine Rdr.set_ ?_ (by simp only;omega) _)
  ·repeat (first|exact HF3.o|refine Fr.set_ ?_ (Or.inr (by simp only;omega)) _)
end
section
open Go
section
variable {P:Program} {md:Region.Mode} {ops:Array Oper} {S:World→Prop} {Q:Exit→Act→World→Prop} {I:Array Bool→Act→World→Prop}
def dn (D:Array Bool) (j:Nat):Bool:=D.getD j false
theorem dn_ne {D:Array Bool} {i j:Nat} (h:i≠j):dn (D.setIfInBounds i true) j=dn D j:=getD_set_ne false h
theorem dn_self {D:Array Bool} {i:Nat} (h:D.getD i true=false):dn (D.setIfInBounds i true) i=true:=by
 unfold dn;rcases Nat.lt_or_ge i D.size with h'|h'
 ·simp[h']
 ·simp[Array.getElem?_eq_none h'] at h
theorem dn_un {D:Array Bool} {i:Nat} (h:D.getD i true=false):dn D i=false:=by
 unfold dn;rcases Nat.lt_or_ge i D.size with h'|h'
 ·simp[h'] at h ⊢;exact h
 ·simp[Array.getElem?_eq_none h'] at h
theorem dn_keep {D:Array Bool} {i j:Nat} {p q:Prop} (hij:i≠j) (h:dn D j=true→p) (hpq:p→q):dn (D.setIfInBounds i true) j=true→q:=fun e=>hpq (h (by rwa [dn_ne hij] at e))
def parB (md:Region.Mode) (ops:Array Oper) (H:List Nat) (Dz:Array Bool):Nat→Array Bool→Bool
 | 0,D=>decide (D=Dz)
 | n+1,D=>!(Region.ready md ops D).isEmpty&&(Region.ready md ops D).all fun i=>H.contains i&&parB md ops H Dz n (D.setIfInBounds i true)
def ParSteps (P:Program) (md:Region.Mode) (ops:Array Oper) (Q:Exit→Act→World→Prop) (S:World→Prop) (I:Array Bool→Act→World→Prop) (hs:List Nat):Prop:=
 ∀ i∈hs,∀ D a w,i∈Region.ready md ops D→I D a w→S w→wpOp P ops Q i (fun a' w'=>S w'∧I (D.setIfInBounds i true) a' w') a w
theorem ParSteps.nil:ParSteps P md ops Q S I []:=fun _ h=>by cases h
theorem ParSteps.cons {i:Nat} {o:Oper} {hs:List Nat} (ho:ops[i]? = some o)
  (h:∀ (D:Array Bool) (a:Act) (w:World),D.getD i true=false→(∀ e∈o.after.toList,Region.binds md e=true→dn D e.on=true)→I D a w→S w→
   ∀ K':Act→World→Prop,Shut (∀ a w,S w→I (D.setIfInBounds i true) a w→K' a w)→∀ G:Prop,((if Region.wanted o (yielded ops a.tmps)=true then Oper.wp P o a w K' Q else K' (a.put o.dst undef) w)→G)→G)
  (hs':ParSteps P md ops Q S I hs):ParSteps P md ops Q S I (i :: hs):=fun j hj D a w hr hI hS=>by
 rcases List.mem_cons.1 hj with rfl|hj
 ·obtain ⟨h1,o',ho',h2⟩:=mem_ready.1 hr;obtain rfl:o=o':=Option.some.inj (ho.symm.trans ho');exact wpOp_step ho (fun K' hK=>h D a w h1 (fun e he hb=>h2 e (Array.mem_toList_iff.1 he) hb) hI hS K' (fun a w hS hW=>hK a w ⟨hS,hW⟩) _ id)
 ·exact hs' j hj D a w hr hI hS
theorem wpAnyH_par (H:List Nat) (Dz:Array Bool) {fuel:Nat} {D0:Array Bool} {a0:Act} {w0:World} (n:Nat) (hH:parB md ops H Dz n D0=true) (hS:S w0) (J:Act→Array Bool→Act→World→Prop) (h0:J a0 D0 a0 w0)
  (hstep:ParSteps P md ops Q S (J a0) H) (hend:∀ a w,S w→J a0 Dz a w→wpAnyH P md ops Q S fuel Dz a w):wpAnyH P md ops Q S (fuel+n) D0 a0 w0:=by
 generalize hJ:J a0=I at *;clear hJ
 induction n generalizing D0 a0 w0 with
 | zero=>
  unfold parB at hH;obtain rfl:D0=Dz:=of_decide_eq_true hH;exact hend _ _ hS h0
 | succ n ih=>
  unfold parB at hH;simp only[Bool.and_eq_true,Bool.not_eq_true',List.all_eq_true,List.isEmpty_eq_false_iff,List.contains_iff_mem] at hH;refine wpAnyH_ready (fuel:=fuel+n) rfl hH.1 fun i hi=>?_;have h1:=hH.2 i hi;exact wpOp_mono (fun a' w' h=>⟨h.1,ih h1.2 h.1 h.2⟩) (hstep i h1.1 D0 a0 w0 hi h0 hS)
end
section
variable {P:Program} {md:Region.Mode} {S:World→Prop} {Q:Exit→Act→World→Prop}
def lastQ (P:Program) (st:Oper) (Q:Exit→Act→World→Prop):Exit→Act→World→Prop
 | .normal,a,w=>Oper.wp P st a w (Q .normal) Q
 | e,a,w=>Q e a w
def nopOf (st:Oper):Oper:={ st with op:=.assign (.const undef),dst:=none,guard:=none }
theorem wp_monoQ {o:Oper} {a:Act} {w:World} {K K':Act→World→Prop} {Q Q':Exit→Act→World→Prop} (hK:∀ a w,K a w→K' a w)
  (hQ:∀ c a w,Q (.panic c) a w→Q' (.panic c) a w) (hL:LetsOut Q→LetsOut Q') (hh:o.wp P a w K Q):o.wp P a w K' Q':=by
 unfold Oper.wp at *;generalize (execOp a.eval o).run P w=r at *
 cases r with
 | ok n w'=>
  cases n<;>simp only[Oper.upon] at hh ⊢<;>
   first
    | exact hK _ _ hh
    | exact Calls.mono hh (fun e w'' he=>by cases e<;>first|exact hK _ _ he|exact hQ _ _ _ he|exact hL he)
    | exact Rows.mono hh (fun _ _ he=>hK _ _ he)
 | halt x w'=>cases x<;>simp only[Oper.upon] at hh ⊢<;>first|exact hQ _ _ _ hh|exact hh
theorem ready_push (l:List Oper) (st:Oper) (listed:Array Bool):Region.ready md (l++[nopOf st]).toArray listed=Region.ready md (l++[st]).toArray listed:=by
 unfold Region.ready;simp only[List.size_toArray,List.length_append,List.length_cons,List.length_nil];apply List.filter_congr;intro i hi
 congr 1
 simp only[List.getElem?_toArray,List.getElem?_append]
 split
 ·rfl
 ·rcases Nat.eq_zero_or_pos (i - l.length) with h|h
  ·rw[h];rfl
  ·rw[List.getElem?_eq_none (by simp;omega),List.getElem?_eq_none (by simp;omega)]
def topoB (md:Region.Mode) (ops:Array Oper):Bool:=
 (List.range ops.size).all fun i=>match ops[i]? with|some o=>o.after.all fun e=>!Region.binds md e || decide (e.on<i)|none=>true
theorem ready_some {ops:Array Oper} (ht:topoB md ops=true) {listed:Array Bool} (hsz:listed.size=ops.size) {z:Nat} (hz:z<ops.size) (hun:listed.getD z true=false):Region.ready md ops listed≠[]:=by
 have:∀ n z,z<n→z<ops.size→listed.getD z true=false→∃ i,i∈Region.ready md ops listed:=by
  intro n
  induction n with
  | zero=>intro z h;omega
  | succ n ih=>
   intro z hzn hz hun;by_cases hm:∃ j,j<z∧listed.getD j true=false
   ·obtain ⟨j,hj,hju⟩:=hm;exact ih j (by omega) (by omega) hju
   ·refine ⟨z,mem_ready.2 ⟨hun,ops[z],Array.getElem?_eq_getElem hz,fun e he hb=>?_⟩⟩;have h1:=List.all_eq_true.1 ht z (by simpa using hz);rw[Array.getElem?_eq_getElem hz] at h1;simp only[Array.all_eq_true_iff_forall_mem] at h1;have h2:=h1 e he;rw[hb] at h2;simp at h2;cases h3:listed.getD e.on true
    ·exact absurd ⟨e.on,h2,h3⟩ hm
    ·have h4:e.on<listed.size:=by omega
     simp[h4] at h3 ⊢;exact h3
 obtain ⟨i,hi⟩:=this (z+1) z (Nat.lt_succ_self _) hz hun;intro h;rw[h] at hi;cases hi
theorem wpAny_of_last {l:List Oper} {st:Oper} (hg:(l.all fun o=>o.guard.isNone)=true) (hst:st.guard.isNone=true)
  (hs:Region.sinkB md (l++[st]).toArray l.length=true) (hc:Region.chainB md (l++[st]).toArray l.length=true) (ht:topoB md (l++[st]).toArray=true) :
  ∀ (f:Nat) (listed:Array Bool) (a:Act) (w:World),HeadInv md (l++[st]).toArray l.length listed→
   wpAnyH P md (l++[nopOf st]).toArray (lastQ P st Q) S f listed a w→wpAny P md (l++[st]).toArray Q f listed a w:=by
 have hsz:(l++[st]).toArray.size=l.length+1:=by simp
 have hzs:(l++[st]).toArray[l.length]? = some st:=by simp
 have hzn:(l++[nopOf st]).toArray[l.length]? = some (nopOf st):=by simp
 intro f
 induction f with
 | zero=>
  intro listed a w inv h;have hun:=inv.tail l.length (Nat.le_refl _) (by omega);exact absurd ((ready_push l st listed).symm.trans h.1) (ready_some ht inv.size (by omega) hun)
 | succ f ih=>
  intro listed a w inv h;have hun:=inv.tail l.length (Nat.le_refl _) (by omega);refine ⟨fun h0=>absurd h0 (ready_some ht inv.size (by omega) hun),fun i hi=>?_⟩;have hi':i∈Region.ready md (l++[nopOf st]).toArray listed:=by rw[ready_push];exact hi
  have h1:=h.2 i hi';obtain ⟨_,oi,hoi,_⟩:=mem_ready.1 hi;have hil:i<l.length+1:=by have:=(Array.getElem?_eq_some_iff.1 hoi).1;omega
  by_cases hiz:i=l.length
  ·subst hiz
   have hall:∀ j,j<l.length→listed.getD j true=true:=by
    intro j hj;cases hu:listed.getD j true
    ·exact absurd hi (tail_waits hs hc (by omega) inv _ j rfl hj hu l.length (Nat.le_refl _))
    ·rfl
   have hnil:Region.ready md (l++[st]).toArray (listed.setIfInBounds l.length true)=[]:=by
    rw[List.eq_nil_iff_forall_not_mem];intro j hj;obtain ⟨hju,oj,hoj,_⟩:=mem_ready.1 hj;have hjl:j<l.length+1:=by have:=(Array.getElem?_eq_some_iff.1 hoj).1;omega
    by_cases e:l.length=j
    ·subst e;have:l.length<listed.size:=by have:=inv.size;omega
     simp[this] at hju
    ·rw[getD_set_ne true e,hall j (by omega)] at hju;cases hju
   unfold wpOp at h1 ⊢;simp only[hzn,hzs] at h1 ⊢;have hw1:Region.wanted (nopOf st) (yielded (l++[nopOf st]).toArray a.tmps)=true:=by simp[Region.wanted,nopOf]
   have hgs:st.guard=none:=by simpa using hst
   have hw2:Region.wanted st (yielded (l++[st]).toArray a.tmps)=true:=by simp[Region.wanted,hgs]
   rw[hw1,if_pos rfl] at h1;rw[hw2,if_pos rfl];refine Or.inl ?_
   have h2:wpAnyH P md (l++[nopOf st]).toArray (lastQ P st Q) S f (listed.setIfInBounds l.length true) a w:=by
    rcases h1 with h1|⟨h1,_⟩
    ·unfold Oper.wp at h1;simp[nopOf,execOp,Oper.upon,Act.put,Act.eval] at h1;exact h1.2
    ·simp[Oper.asks,nopOf,execOp] at h1;exact absurd h1 (by intro h;cases h;rename_i h;cases h)
   have h3:lastQ P st Q .normal a w:=by
    rw[←ready_push] at hnil
    cases f with
    | zero=>exact h2.2
    | succ f=>exact h2.1 hnil
   refine Oper.wp_mono (fun a' w' hq=>?_) h3
   cases f with
   | zero=>exact ⟨hnil,hq⟩
   | succ f=>exact ⟨fun _=>hq,by rw[hnil];simp⟩
  ·have hlt:i<l.length:=by omega
   have e1:(l++[st]).toArray[i]? = some l[i]:=by simp[List.getElem?_append,hlt]
   have e2:(l++[nopOf st]).toArray[i]? = some l[i]:=by simp[List.getElem?_append,hlt]
   have hgi:l[i].guard=none:=by have:=List.all_eq_true.1 hg l[i] (List.getElem_mem hlt);simpa using this
   unfold wpOp at h1 ⊢;simp only[e1,e2] at h1 ⊢;have hw1:Region.wanted l[i] (yielded (l++[nopOf st]).toArray a.tmps)=true:=by simp[Region.wanted,hgi]
   have hw2:Region.wanted l[i] (yielded (l++[st]).toArray a.tmps)=true:=by simp[Region.wanted,hgi]
   rw[hw1,if_pos rfl] at h1;rw[hw2,if_pos rfl];rcases h1 with h1|⟨h1,h2⟩
   ·exact Or.inl (wp_monoQ (K:=fun a' w'=>S w'∧wpAnyH P md (l++[nopOf st]).toArray (lastQ P st Q) S f (listed.setIfInBounds i true) a' w') (fun a' w' hk=>ih _ _ _ (inv.set hi hlt) hk.2) (fun c a w h=>h) (fun h=>h) h1)
   ·exact Or.inr ⟨h1,h2⟩
theorem wp_region_last {l:List Oper} {st:Oper} {id:Nat} {a:Act} {w:World} (hm:P.follows .mixedOrders=true) (hg:(l.all fun o=>o.guard.isNone)=true) (hst:st.guard.isNone=true)
  (hs:Region.sinkB .any (l++[st]).toArray l.length=true) (hc:Region.chainB .any (l++[st]).toArray l.length=true) (ht:topoB .any (l++[st]).toArray=true) (hS:S w.drew)
  (h:S w.drew→wpAnyH P .any (l++[nopOf st]).toArray (lastQ P st Q) S (l.length+1) (Array.replicate (l.length+1) false) a w.drew):(Code.region id (l++[st]).toArray true).wp P Q a w:=by
 refine wp_region_any hm ?_;have e:(l++[st]).toArray.size=l.length+1:=by simp
 rw[e];refine wpAny_of_last hg hst hs hc ht _ _ _ _ ⟨by simp,fun j oj _ hl=>?_,fun t _ ht=>?_⟩ (h hS)
 ·rw[getD_replicate_false] at hl;cases hl
 ·exact getD_in (by simpa using ht) (getD_replicate_false _ _)
def lastB (L:List Oper):Bool:=
 match L.getLast? with
 | none=>false
 | some st=>(L.dropLast.all fun o=>o.guard.isNone)&&st.guard.isNone&&Region.sinkB .any L.toArray L.dropLast.length&&Region.chainB .any L.toArray L.dropLast.length&&topoB .any L.toArray
theorem wp_region_last' {L:List Oper} {id:Nat} {a:Act} {w:World} (hne:L≠[]) (hm:P.follows .mixedOrders=true) (hB:lastB L=true) (hS:S w.drew)
  (h:S w.drew→wpAnyH P .any (L.dropLast++[nopOf (L.getLast hne)]).toArray (lastQ P (L.getLast hne) Q) S L.length (Array.replicate L.length false) a w.drew):(Code.region id L.toArray true).wp P Q a w:=by
 have e:L.dropLast++[L.getLast hne]=L:=List.dropLast_concat_getLast hne;unfold lastB at hB;rw[List.getLast?_eq_some_getLast hne] at hB;simp only[Bool.and_eq_true] at hB;obtain ⟨⟨⟨⟨h1,h2⟩,h3⟩,h4⟩,h5⟩:=hB;have hl:L.dropLast.length+1=L.length:=by have:=congrArg List.length e;simpa using this
 have key:=wp_region_last (P:=P) (S:=S) (Q:=Q) (l:=L.dropLast) (st:=L.getLast hne) (id:=id) (a:=a) (w:=w) hm h1 h2 (by rw[e];exact h3) (by rw[e];exact h4) (by rw[e];exact h5) hS (by rw[hl];exact h)
 rwa [e] at key
end
end
section
open Go Go.RowKit Go.Proofs
end
section
open Go Go.RowKit
section
variable {w w':World} {lo hi lo' hi':Nat} {v:Value} {s:Ste}
end
def addrB (n:Int):Bool:=decide (1≤n∧n≤8)
def valB (n:Int):Bool:=decide (0≤n∧n≤8)
def cellB (n:Int):Bool:=decide (n = -1) || valB n
def Ste.valid (s:Ste):Bool:=decide (s.values.length=8)&&decide (s.heap.length=8)&&(s.values.all valB&&s.heap.all cellB)
def cont (h:List Int) (a:Int):Int:=if addrB a then (h[(a-1).toNat]?).getD (-1) else -1
def allocB (h:List Int) (a:Int):Bool:=decide (0≤cont h a)
def tval (vs:List Int) (t:Int):Int:=if t=0 then 0 else (vs[(t-1).toNat]?).getD 0
def Fct.holds (vs:List Int) (f:Fct):Bool:=decide (tval vs f.a=tval vs f.b) == f.eq
def factsHold (fs:List Fct) (vs:List Int):Bool:=factsValid fs&&decide (vs.length=8)&&fs.all (Fct.holds vs)
theorem Ste.valid_len {s:Ste} (h:s.valid=true):s.values.length=8∧s.heap.length=8:=by
 simp[Ste.valid] at h;exact h.1
def walkF (h:List Int):Nat→Int→Int→Option (List Int)
 | 0,x,tz0=>if x=tz0 then some [] else none
 | n+1,x,tz0=>if x=tz0 then some [] else if allocB h x then (walkF h n (cont h x) tz0).map (x :: ·) else none
def addAll:List Int→List Int→Option (List Int)
 | seen,[]=>some seen
 | seen,c :: cs=>if c∈seen then none else addAll (seen++[c]) cs
def atomCells (s:Ste) (x:Atm):Option (List Int):=
 if x.kind=2 then walkF s.heap 8 (tval s.values x.a) (tval s.values x.b) else if cont s.heap (tval s.values x.a)=tval s.values x.b then some [tval s.values x.a] else none
def partAtoms (s:Ste):List Int→List Atm→Option (List Int)
 | seen,[]=>some seen
 | seen,x :: xs=>(atomCells s x).bind fun cs=>(addAll seen cs).bind fun seen'=>partAtoms s seen' xs
def partOf (s:Ste) (a:Asn):Option (List Int):=if s.valid&&a.valid&&factsHold a.facts s.values then partAtoms s [] a.atoms else none
end
section
open Go Go.RowKit Go.Proofs
def Und (v:Value) (hi:Nat):Prop:=∀ g,v.ownBlock=some g→g<hi
theorem IntsO.und {w:World} {base:Nat} {v:Value} {xs:List Int} (h:IntsO w base v xs):Und v w.heap.size:=fun g hg=>(h.1.lt g hg).2
theorem FactsO.und {w:World} {base:Nat} {v:Value} {xs:List Fct} (h:FactsO w base v xs):Und v w.heap.size:=fun g hg=>(h.1.lt g hg).2
theorem AtomsO.und {w:World} {base:Nat} {v:Value} {xs:List Atm} (h:AtomsO w base v xs):Und v w.heap.size:=fun g hg=>(h.1.lt g hg).2
theorem Und.mono {v:Value} {a b:Nat} (h:Und v a) (hab:a≤b):Und v b:=fun g hg=>Nat.lt_of_lt_of_le (h g hg) hab
structure Mk (p:Nat→Prop) (w w':World):Prop where
 os:w'.os=w.os
 tape:w'.tape=w.tape
 output:w'.output=w.output
 size:w.heap.size≤w'.heap.size
 block:∀ k,k<w.heap.size→¬p k→w'.heap[k]? = w.heap[k]?
section
variable {p q:Nat→Prop} {w a b:World}
theorem Mk.refl (p:Nat→Prop) (w:World):Mk p w w:=⟨rfl,rfl,rfl,Nat.le_refl _,fun _ _ _=>rfl⟩
theorem Mk.trans (h:Mk p w a) (h2:Mk p a b):Mk p w b:=⟨h2.os.trans h.os,h2.tape.trans h.tape,h2.output.trans h.output,Nat.le_trans h.size h2.size,fun k hk hp=>(h2.block k (Nat.lt_of_lt_of_le hk h.size) hp).trans (h.block k hk hp)⟩
theorem Mk.mono (h:Mk p w a) (hpq:∀ k,p k→q k):Mk q w a:=⟨h.os,h.tape,h.output,h.size,fun k hk hq=>h.block k hk fun hp=>hq (hpq k hp)⟩
theorem Mk.set (h:Mk p w a) {x:Addr} (hx:p x.block) (u:Value):Mk p w (a.setCell x u):=h.trans ⟨rfl,rfl,rfl,by simp,fun k _ hk=>Below.heap_setCell a x u k (fun e=>hk (e▸hx))⟩
theorem Mk.below_ (h:Below w.heap.size w a):Mk p w a:=⟨h.os,h.tape,h.output,h.size,fun k hk _=>h.block k hk⟩
theorem Mk.bz {lo:Nat} (h:Mk p w a) (hp:∀ k,p k→lo≤k) (hl:lo≤w.heap.size):Below lo w a:=⟨h.os,h.tape,h.output,h.size,fun k hk=>h.block k (by omega) fun hp'=>by have:=hp k hp';omega⟩
theorem Mk.abv {hi:Nat} (h:Mk p w a) (hp:∀ k,p k→k<hi):Abv hi w a:=⟨h.size,fun k h1 h2=>h.block k h2 fun hp'=>by have:=hp k hp';omega⟩
theorem Mk.blk {g:Nat} {t:TypeId} {cs:Array Value} (h:Mk p w a) (hk:Blk w g t cs) (hg:¬p g):Blk a g t cs:=(h.block g hk.lt hg).trans hk
end
theorem own_mk {p:Nat→Prop} {w w':World} {base:Nat} {e:TypeId} {size:Nat} {v:Value} {n:Nat} {xs:List Value} (h:w.ownsRow base e size v n xs) (hb:Mk p w w') (hp:∀ g,v.ownBlock=some g→¬p g):w'.ownsRow base e size v n xs:=by
 obtain ⟨h1,h2⟩:=h;refine ⟨h1,?_⟩;rcases h2 with h2|⟨g,cap,cur,hv,hg,hh,r⟩
 ·exact Or.inl h2
 ·exact Or.inr ⟨g,cap,cur,hv,hg,(hb.block g (Blk.lt hh) (hp g (by rw[hv];rfl))).trans hh,r⟩
theorem IntsO.mk {p:Nat→Prop} {w w':World} {base:Nat} {v:Value} {xs:List Int} (h:IntsO w base v xs) (hb:Mk p w w') (hp:∀ g,v.ownBlock=some g→¬p g):IntsO w' base v xs:=⟨own_mk h.1 hb hp,h.2⟩
theorem FactsO.mk {p:Nat→Prop} {w w':World} {base:Nat} {v:Value} {xs:List Fct} (h:FactsO w base v xs) (hb:Mk p w w') (hp:∀ g,v.ownBlock=some g→¬p g):FactsO w' base v xs:=⟨own_mk h.1 hb hp,h.2⟩
theorem AtomsO.mk {p:Nat→Prop} {w w':World} {base:Nat} {v:Value} {xs:List Atm} (h:AtomsO w base v xs) (hb:Mk p w w') (hp:∀ g,v.ownBlock=some g→¬p g):AtomsO w' base v xs:=⟨own_mk h.1 hb hp,h.2⟩
end
end Go.Proofs.YtjaohekkmlkinaaGreat
