/- What the reader draws: copies that are changed. -/
import Derived.Test.YtgdfdmjnadnlnaaGreatDrawB
import Derived.Test.YtgdfdmjnadnlnaaGreatImpS
import Derived.Deep.DeepCutAuto
import Derived.Test.YtgdfdmjnadnlnaaGreatSymK
import Derived.Test.YtgdfdmjnadnlnaaGreatMFrmS
import Derived.IntWalk
set_option linter.unusedSimpArgs false
set_option linter.unusedVariables false
set_option maxRecDepth 100000
set_option maxHeartbeats 25600000
namespace Go.Proofs.YtgdfdmjnadnlnaaGreat
section
open Go Go.RowKit Go.Proofs
theorem c_l3Copy {lo hi:Nat} (v:Value) (a:Asn) (w:World) (h:AsnV w lo hi v a) :
  Calls Tryz.prog 60 #[v] w fun e w'=>∃ r,e=.returned r∧AsnO w' w.heap.size r a∧Below w.heap.size w w':=by
 have hV:=ax h;obtain ⟨A1,c1,A2,c2,rfl,h1,h2⟩:=h;have HL:=ax (And.intro h1.le h2.le);clear h1 h2;have e0:aJ (starA a ⟨[],[]⟩=a):=by show _=_;simp[starA]
 (go_enter Tryz.func60,Tryz.ntmps60);have kr:Blk ((w.alloc (.cells #[.slice A1 a.facts.length c1,.slice A2 a.atoms.length c2] 36)).alloc (.cells #[.slice none 0 0,.slice none 0 0] 36)) (w.heap.size+1) 36 #[.slice none 0 0,.slice none 0 0]:=blks;(go_wp2_with fail);refine (c_spec_l3Star _ _ a ⟨[],[]⟩ _ (hV.o.bz bel) (⟨none,0,none,0,rfl,Rd.nil _ 0 0 _ _,Rd.nil _ 0 0 _ _⟩) (by simpa using HL.o.1) (by simpa using HL.o.2)).mono ?_;rintro e w1 ⟨r,rfl,o,hB1⟩;have hB:=bgo (w:=w) bel hB1;replace kr:=kr.nz hB1;rw[e0.o] at o;replace o:=o.lower (base':=w.heap.size) (by simp;omega);obtain ⟨fv,av,rfl,o1,o2⟩:=o;obtain ⟨F,e1,rfl,-⟩:=o1.reads;obtain ⟨G,e2,rfl,-⟩:=o2.reads;have O1:=ax o1;have O2:=ax o2;(replace qkr:=kr.cell;replace rkr:=kr.frozen;replace lkr:=kr.lt);clear o1 o2 hB1;(go_wp2_with fail);refine bodyPost_ret (v:=.agg #[.slice F a.facts.length e1,.slice G a.atoms.length e2]) (by simp[results,Tryz.results60,go_sem,qkr]) rfl ⟨_,rfl,⟨_,_,rfl,?_,?_⟩,bel⟩
 ·exact (O1.o.setT kr (by decide) 0 _).setT (kr.set_ 0 _) (by decide) 1 _
 ·exact (O2.o.setT kr (by decide) 0 _).setT (kr.set_ 0 _) (by decide) 1 _
end
section
open Go Go.RowKit Go.Proofs
attribute [local go_sem ↓] Go.wp_at_zero Go.wp_at_succ
theorem c_l10Equal {lo hi:Nat} (v:Value) (a:Asn) (x y:Int) (w:World) (h:AsnV w lo hi v a):Calls Tryz.prog 167 #[v,.int .i64 x,.int .i64 y] w fun e w'=>e=.returned (.bool (impB a ⟨true,x,y⟩))∧Below w.heap.size w w':=by
 have hV:=ax h;obtain ⟨A1,c1,A2,c2,rfl,-⟩:=h;(go_enter Tryz.func167,Tryz.ntmps167);(go_wp2_with fail);refine (c_spec_Implies _ a ⟨true,x,y⟩ _ (hV.o.bz bel)).mono ?_;rintro e w1 ⟨rfl,hB1⟩;have hB:=bgo (w:=w) bel hB1;(go_wp2_with fail);go_ret;exact ⟨rfl,hB⟩
theorem c_l10Front {lo hi:Nat} (v:Value) (a:Asn) (x:Atm) (i:Nat) (w:World) (h:AsnV w lo hi v a) (hv:a.valid=true) (hi':i<a.atoms.length) :
  Calls Tryz.prog 168 #[v,.agg #[.int .i64 x.kind,.int .i64 x.a,.int .i64 x.b],.int .i64 i] w fun e w'=>∃ F d G g,e=.returned (.agg #[.slice F a.facts.length d,.slice G a.atoms.length g])∧AsnO w' w.heap.size (.agg #[.slice F a.facts.length d,.slice G a.atoms.length g]) ⟨a.facts,[x]++withoutL a.atoms i⟩∧Below w.heap.size w w':=by
 have hV:=ax h;obtain ⟨A1,c1,A2,c2,rfl,-⟩:=h;have hvl:=valid_len hv;have hwl:([x]++withoutL a.atoms i).length=a.atoms.length:=by have:=withoutL_len hi';simp;omega
 have HW:=ax hwl;have HE:=ax (wo_one hi');clear hv hwl;(go_enter Tryz.func168,Tryz.ntmps168);have kr:Blk (((w.alloc (.cells #[.slice A1 a.facts.length c1,.slice A2 a.atoms.length c2] tAs)).alloc (.cells #[.int .i64 x.kind,.int .i64 x.a,.int .i64 x.b] tA)).alloc (.cells #[.slice none 0 0,.slice none 0 0] tAs)) (w.heap.size+2) tAs #[.slice none 0 0,.slice none 0 0]:=blks;(go_wp2_with fail);refine (c_l6WithoutF _ a i i x _ (hV.o.bz bel) (by omega) (by omega)).mono ?_;rw[HE.o];rintro e w1 ⟨r,rfl,o,hB1⟩;have hB:=bgo (w:=w) bel hB1;replace kr:=kr.nz hB1;clear hB1;obtain ⟨fv,av,rfl,o1,o2⟩:=o;obtain ⟨F,d,rfl,-⟩:=o1.reads;obtain ⟨G,g,rfl,-⟩:=o2.reads;simp only[HW.o] at o2 ⊢;have O1:=ax (o1.lower (base':=w.heap.size) (by simp;omega));have O2:=ax (o2.lower (base':=w.heap.size) (by simp;omega));clear o1 o2;(replace qkr:=kr.cell;replace rkr:=kr.frozen;replace lkr:=kr.lt);(go_wp2_with fail);refine bodyPost_ret (v:=.agg #[.slice F a.facts.length d,.slice G a.atoms.length g]) (by simp[results,Tryz.results168,go_sem,qkr]) rfl ⟨F,d,G,g,rfl,⟨_,_,rfl,?_,?_⟩,bel⟩
 ·exact (O1.o.setT kr (by decide) 0 _).setT (kr.set_ 0 _) (by decide) 1 _
 ·exact (O2.o.setT kr (by decide) 0 _).setT (kr.set_ 0 _) (by decide) 1 _
theorem c_l10Know {lo hi:Nat} (v:Value) (a:Asn) (x t:Int) (w:World) (h:AsnV w lo hi v a) (hl:a.facts.length≤1000) :
  Calls Tryz.prog 164 #[v,.int .i64 x,.int .i64 t] w fun e w'=>∃ F d G g,e=.returned (.agg #[.slice F (a.facts.length+1) d,.slice G a.atoms.length g])∧AsnO w' w.heap.size (.agg #[.slice F (a.facts.length+1) d,.slice G a.atoms.length g]) ⟨a.facts++[⟨true,x,t⟩],a.atoms⟩∧Below w.heap.size w w':=by
 have hV:=ax h;obtain ⟨A1,c1,A2,c2,rfl,-⟩:=h;(go_enter Tryz.func164,Tryz.ntmps164);have kr:Blk ((w.alloc (.cells #[.slice A1 a.facts.length c1,.slice A2 a.atoms.length c2] tAs)).alloc (.cells #[.slice none 0 0,.slice none 0 0] tAs)) (w.heap.size+1) tAs #[.slice none 0 0,.slice none 0 0]:=blks;(go_wp2_with fail);refine (c_l3Copy _ a _ (hV.o.bz bel)).mono ?_;rintro e w1 ⟨r,rfl,o,hB1⟩;have hB:=bgo (w:=w) bel hB1;replace kr:=kr.nz hB1;have hs1:w.heap.size+2≤w1.heap.size:=by have:=hB1.size;simp at this;omega
 clear hB1;obtain ⟨fv,av,rfl,o1,o2⟩:=o;obtain ⟨F,d,rfl,-⟩:=o1.reads;obtain ⟨G,g,rfl,-⟩:=o2.reads;have O1:=ax (o1.lower (base':=w.heap.size) (by simp;omega));have O2:=ax (o2.lower (base':=w.heap.size) (by simp;omega));have HB:=ax hB;clear o1 o2 hB;(go_upto_region 2 with fail);have ko:Blk (w1.alloc (.cells #[.slice F a.facts.length d,.slice G a.atoms.length g] tAs)) w1.heap.size tAs #[.slice F a.facts.length d,.slice G a.atoms.length g]:=Blk.new _ _ _;replace kr:=kr.alloc (.cells #[.slice F a.facts.length d,.slice G a.atoms.length g] tAs);replace O1:=ax (O1.o.bz (bbox (Below.refl _ _) (.cells #[.slice F a.facts.length d,.slice G a.atoms.length g] tAs)));replace O2:=ax (O2.o.bz (bbox (Below.refl _ _) (.cells #[.slice F a.facts.length d,.slice G a.atoms.length g] tAs)));replace HB:=ax (bbox HB.o (.cells #[.slice F a.facts.length d,.slice G a.atoms.length g] tAs));have hsw:w1.heap.size<(w1.alloc (.cells #[.slice F a.facts.length d,.slice G a.atoms.length g] tAs)).heap.size:=by simp
 generalize (w1.alloc (.cells #[.slice F a.facts.length d,.slice G a.atoms.length g] tAs))=W at ko kr O1 O2 HB hsw ⊢;obtain ⟨y,hy⟩:∃ y,y=w1.heap.size:=⟨_,rfl⟩;rw[←hy] at ko hs1 hsw ⊢;clear hy;(replace qko:=ko.z;replace qkr:=kr.cell;replace rkr:=kr.frozen;replace lkr:=kr.lt);(go_wp2_with (at_builtin;refine appFL (ys:=[⟨true,x,t⟩]) (base:=w.heap.size) rfl _ _ rfl rfl (O1.o.bz bel) rfl (FactsV.one (f:=⟨true,x,t⟩) (Blk.new W tF _)) (by simp;omega) (by simp;omega) ?_;intro A6 c6 w6 o6 hg6 hB6;have kO:=O1.o.bz (w':=W.alloc (.cells #[.bool true,.int .i64 x,.int .i64 t] tF)) bel;have ko6:=Blk.grownO (hg:=hg6) (ko.alloc _) kO.1 (by decide);have kr6:=Blk.grownO (hg:=hg6) (kr.alloc _) kO.1 (by decide);have O26:aJ (AtomsO w6 w.heap.size (.slice G a.atoms.length g) a.atoms):=ax ⟨own_grownO (O2.o.bz (w':=W.alloc (.cells #[.bool true,.int .i64 x,.int .i64 t] tF)) bel).1 kO.1 hg6 (by decide),O2.o.2⟩;have HB6:aJ (Below w.heap.size w w6):=ax ((bbox HB.o _).trans hB6);have O16:=ax o6;clear hB6 hg6 o6 kO qko qkr rkr lkr;(replace qko6:=ko6.z;replace qkr6:=kr6.cell;replace rkr6:=kr6.frozen;replace lkr6:=kr6.lt)));simp only[List.length_append,List.length_cons,List.length_nil,Nat.zero_add] at O16 ⊢;refine bodyPost_ret (v:=.agg #[.slice A6 (a.facts.length+1) c6,.slice G a.atoms.length g]) (by simp[results,Tryz.results164,go_sem,qkr6]) rfl ⟨A6,c6,G,g,rfl,⟨_,_,rfl,?_,?_⟩,?_⟩
 ·have kr7:=kr6.far (p:=⟨y,0,none⟩) (by simp only;omega) (.slice A6 (a.facts.length+1) c6);exact ((O16.o.setT ko6 (by decide) 0 _).setT kr7 (by decide) 0 _).setT (kr7.set_ 0 _) (by decide) 1 _
 ·have kr7:=kr6.far (p:=⟨y,0,none⟩) (by simp only;omega) (.slice A6 (a.facts.length+1) c6);exact ((O26.o.setT ko6 (by decide) 0 _).setT kr7 (by decide) 0 _).setT (kr7.set_ 0 _) (by decide) 1 _
 ·exact ((HB6.o.setCell (p:=⟨y,0,none⟩) (by simp only;omega) _).setCell (p:=⟨w.heap.size+1,0,none⟩) (by simp only;omega) _).setCell (p:=⟨w.heap.size+1,1,none⟩) (by simp only;omega) _
theorem c_l10New {lo hi lo' hi':Nat} (v:Value) (a:Asn) (B:Option Addr) (c K:Nat) (w:World) (h:AsnV w lo hi v a) (h':BoolsV w lo' hi' B (flagsOf K)) (hv:a.valid=true) :
  Calls Tryz.prog 214 #[v,.slice B 9 c] w fun e w'=>e=.returned (.tuple #[.int .i64 (unusedI (tset (termsL a)|||K)),.bool (newT (tset (termsL a)|||K)).isSome])∧Below w.heap.size w w':=by
 have hV:=ax h;have HT:=ax (termsL_ok hv);have h'':=ax h';obtain ⟨pb,ob,rfl,lpb⟩:=flags_addr h';obtain ⟨A1,c1,A2,c2,rfl,h1,h2⟩:=h;clear hv h1 h2;(go_enter Tryz.func214,Tryz.ntmps214);(go_wp2_with fail);refine (c_spec_l3Terms _ a _ (hV.o.bz bel) HT.o).mono ?_;rintro e w1 ⟨r,rfl,oT,hB1⟩;have hB:=bgo (w:=w) bel hB1;have fC:=h''.o.bz hB;generalize hTe:tset (termsL a)=T at oT;have HTE:=ax hTe;clear hTe;obtain ⟨Tb,ct,rfl,fT⟩:=oT.reads;rw[flagsOf_length];obtain ⟨pt,ot,rfl,lpt⟩:=flags_addr fT;clear hB1 oT h' h'';(go_wp2_with fail)
 go_loop [7] (fun i=>∃ k:Nat,5≤k∧k≤9∧i=.int .i64 k∧aJ (∀ j,5≤j→j<k→(T|||K).testBit j=true)) (fun i=>10 - (intOf i).toNat)
 case atStart=>exact ⟨5,by omega,by omega,rfl,ax fun j h1 h2=>by omega⟩
 case round=>
  obtain ⟨k,h5,h9,rfl,HA⟩:=hrel;by_cases hlt:k<9
  ·have hki:(k:Int)≤8:=by omega
   have f1:=flags_at fT (m:=k) (by omega);have f2:=flags_at fC (m:=k) (by omega);have k9:(k:Int)<9:=by omega
   have HBit:aJ ((T|||K).testBit k=(T.testBit k || K.testBit k)):=ax (Nat.testBit_or ..)
   have HN:aJ ((T|||K).testBit k=true→∀ j,5≤j→j<k+1→(T|||K).testBit j=true):=ax fun hb j h1 h2=>by
    by_cases e:j=k
    ·rw[e];exact hb
    ·exact HA.o j h1 (by omega)
   cases ht:T.testBit k
   ·cases hc:K.testBit k
    ·have E:=ax (newT_yes h5 (by omega) HA.o (by rw[HBit.o,ht,hc];rfl));rw[ht] at f1;rw[hc] at f2;clear ht hc HA HN HBit;(go_wp2_with fail);go_ret2;exact ⟨by unfold unusedI;rw[HTE.o,E.o];rfl,hB⟩
    ·have HN2:=ax (HN.o (by rw[HBit.o,ht,hc];rfl));rw[ht] at f1;rw[hc] at f2;clear ht hc HA HN HBit;(go_wp2_with fail)
     go_round
     case rel=>exact ⟨k+1,by omega,by omega,by go_num,HN2⟩
     case measure=>simp[intOf];omega
   ·have HN2:=ax (HN.o (by rw[HBit.o,ht];rfl));rw[ht] at f1;clear ht HA HN HBit;(go_wp2_with fail)
    go_round
    case rel=>exact ⟨k+1,by omega,by omega,by go_num,HN2⟩
    case measure=>simp[intOf];omega
  ·obtain rfl:k=9:=by omega
   have E:=ax (newT_no (S:=T|||K) fun j h1 h2=>HA.o j h1 (by omega));(go_wp2_with fail);go_ret2;exact ⟨by unfold unusedI;rw[HTE.o,E.o];rfl,hB⟩
theorem AsnO.parts {w:World} {b:Nat} {f g:Value} {a:Asn} (h:AsnO w b (.agg #[f,g]) a):FactsO w b f a.facts∧AtomsO w b g a.atoms:=by
 obtain ⟨_,_,e,h1,h2⟩:=h;injection e with e;injection e with e;injection e with e1 e2;injection e2 with e2 e3;subst e1 e2;exact ⟨h1,h2⟩
section
variable {ops:Array Oper} {o:Oper} {a:Act} {K:Act→World→Prop} {Q:Exit→Act→World→Prop} {E:Prop} {w:World} {base lo hi c n m:Nat} {v:Value} {A:Option Addr}
theorem stepALm (hgd:o.guard=none) (s x:Operand) (ho:o.op=.call { callee:=.builtin .append,args:=#[s,x],argTypes:=#[34,34] })
  {xs ys zs:List Atm} (hs:a.eval s=v) (hown:AtomsO w base v xs) (hx:a.eval x=.slice A m c) (hm:m=ys.length) (hR:AtomsV w lo hi A ys) (hz:zs=xs++ys) (hn:n=zs.length) (hl:n≤1049600) (hb:base≤w.heap.size)
  (h:∀ A' c' w',AtomsO w' base (.slice A' n c') zs→w.grownBy w' v.ownBlock→Below base w w'→K (a.put o.dst (.slice A' n c')) w'):if Region.wanted o (yielded ops a.tmps)=true then Oper.wp Tryz.prog o a w K Q else E:=by
 subst hm hz hn;refine stepAL hgd s x ho hs hown hx hR (by rwa [List.length_append] at hl) hb h
end
def OpC (n:Nat) (a:Asn) (t:Int) (K:Nat):Prop:=∀ (lo hi lo' hi':Nat) (v:Value) (B:Option Addr) (c:Nat) (w:World),AsnC w lo hi v a→BoolsV w lo' hi' B (flagsOf (tins K t))→a.facts.length≤1000→a.atoms.length≤1000→
 Calls Tryz.prog 99 #[v,.int .i64 t,.slice B 9 c,.int .i64 (n:Int)] w fun e w'=>∃ r vs l,e=.returned (.tuple #[r,.bool (exposeF n a t K).isSome])∧A2O w' w.heap.size r vs l∧l.length≤2 ^ n∧(exposeF n a t K=none∨exposeF n a t K=some l)∧Below w.heap.size w w'
def UnC (n:Nat) (a:Asn) (x:Atm) (i:Nat) (t:Int) (K:Nat):Prop:=∀ (lo hi lo' hi':Nat) (v:Value) (B:Option Addr) (c:Nat) (w:World),AsnC w lo hi v a→BoolsV w lo' hi' B (flagsOf (tins K t))→
 Calls Tryz.prog 169 #[v,.int .i64 t,.slice B 9 c,.int .i64 ((n:Int)+1),.int .i64 i] w fun e w'=>∃ r vs l,e=.returned (.tuple #[r,.bool (listF n a x i t K).isSome])∧A2O w' w.heap.size r vs l∧l.length≤2 ^ (n+1)∧(listF n a x i t K=none∨listF n a x i t K=some l)∧Below w.heap.size w w'
theorem c_l10Unfold (n:Nat) (a:Asn) (x:Atm) (i:Nat) (t:Int) (Ks:Nat) (hv:a.valid=true) (hx:a.atoms[i]? = some x) (hn:n≤6)
  (HE:OpC n (emptyX a x i) t Ks) (HF:∀ m:Nat,OpC n (fullX a x i (m:Int)) t Ks):UnC n a x i t Ks:=by
 intro lo hi0 lo' hi' v B cB w h hB0;have hV:=ax h;have HFL:=ax hB0;obtain ⟨A1,c1,A2,c2,rfl,h1,h2,hcap⟩:=h;have hvl:=valid_len hv;have HVa:=ax hv;obtain ⟨hi,hxe⟩:=List.getElem?_eq_some_iff.1 hx;have hwl:=withoutL_len hi;obtain ⟨b,o,rfl,-⟩:=h2.at hi;have HV2:=ax h2;have hii:(i:Int)<(a.atoms.length:Int):=by omega
 have hw:IntKind.i64.wrap ((i:Int)+1)=(i:Int)+1:=IntWalk.i64_in _ (by omega);have hs1:=sliceAh b o a.atoms.length c2 i (by omega);obtain ⟨A',hs2,hA'⟩:=sliceAl b o a.atoms.length c2 (i+1) (by omega) hcap
 push_cast at hs2
 have hT:=ax (h2.take_ (k:=i) (by omega))
 have hD:aJ (AtomsV w lo _ A' (a.atoms.drop (i+1))):=ax (by
  by_cases hlt:i+1<a.atoms.length
  ·rw[hA' (by omega)];exact h2.drop_ (by omega)
  ·rw[List.drop_eq_nil_of_le (by omega)]
   exact Rd.nil _ _ _ _ _)
 have HL1:aJ ((a.atoms.take i).length=i):=ax (by rw[List.length_take];omega);have HL2:aJ ((a.atoms.drop (i+1)).length=a.atoms.length - (i+1)):=ax List.length_drop;have HHi:=ax hi;have HEH:=ax HE;have HFH:=ax HF;have HN:=ax (Nat.pow_le_pow_right (show 0<2 from by decide) hn);have HX:=ax hxe;clear h1 h2 HE HF hx hv hB0 hA' hxe;(go_enter Tryz.func169,Tryz.ntmps169);have k0:Blk (w.alloc (.cells #[.slice A1 a.facts.length c1,.slice (some ⟨b,o,none⟩) a.atoms.length c2] tAs)) w.heap.size tAs #[.slice A1 a.facts.length c1,.slice (some ⟨b,o,none⟩) a.atoms.length c2]:=blks;have hs1':=ax hs1;have hs2':=ax hs2;have hw':=ax hw;clear hs1 hs2 hw;(go_wp2_with fail);refine (c_l10New _ a B cB (tins Ks t) _ (hV.o.V.bz bel) (HFL.o.bz bel) HVa.o).mono ?_;rintro e w1 ⟨rfl,hB1⟩;have HB:=ax (bgo (w:=w) bel hB1);replace k0:=k0.nz hB1;have hz1:w.heap.size+1≤w1.heap.size:=by have:=hB1.size;simp at this;omega
 clear hB1;cases hnt:newT (tset (termsL a)|||tins Ks t)
 case none=>
  have E:=ax (list_none (n:=n) (x:=x) (i:=i) hnt);clear hnt;(go_wp2_with fail);go_ret2;exact ⟨_,[],[],by rw[E.o];rfl,(A2O.empty w1 rfl).lower (by omega),Nat.zero_le _,.inl E.o,bbox HB.o _⟩
 case some m=>
  have EI:unusedI (tset (termsL a)|||tins Ks t)=(m:Int):=by unfold unusedI;rw[hnt]
  rw[EI];clear EI;have HNT:=ax hnt;clear hnt;(replace qk0:=k0.z);obtain ⟨b',o',hbo,g0,g1,g2⟩:=(HV2.o.bz HB.o).at HHi.o;injection hbo with hbo;injection hbo with hb1 hb2;subst hb1 hb2;rw[HX.o] at g0 g1 g2;(go_upto_region 5 with fail);clear qk0 g0 g1 g2;have hbq:=bbox (Below.refl w1.heap.size w1) (.cells #[.int .i64 x.kind,.int .i64 x.a,.int .i64 x.b] tA);have kx:Blk (w1.alloc (.cells #[.int .i64 x.kind,.int .i64 x.a,.int .i64 x.b] tA)) w1.heap.size tA #[.int .i64 x.kind,.int .i64 x.a,.int .i64 x.b]:=Blk.new _ _ _;replace k0:=k0.nz hbq;replace HB:=ax (bgo HB.o hbq);have hzw:(w1.alloc (.cells #[.int .i64 x.kind,.int .i64 x.a,.int .i64 x.b] tA)).heap.size=w1.heap.size+1:=by simp
  clear hbq;generalize w1.alloc (.cells #[.int .i64 x.kind,.int .i64 x.a,.int .i64 x.b] tA)=W1 at k0 kx HB hzw ⊢;obtain ⟨yx,hyx⟩:∃ y,y=w1.heap.size:=⟨_,rfl⟩;rw[←hyx] at kx hzw ⊢;have hyw:w.heap.size<yx:=by omega
  clear hyx hz1;(replace qk0:=k0.z);(go_wp2_with fail);refine (c_l3Copy _ a _ (hV.o.V.bz HB.o)).mono ?_;rintro e w2 ⟨r,rfl,oc,hB2⟩;obtain ⟨fv,av,rfl,o1,o2⟩:=oc;obtain ⟨F,d,rfl,-⟩:=o1.reads;obtain ⟨G,g,rfl,-⟩:=o2.reads;have O1:=ax (o1.lower (base':=w.heap.size) (by omega));clear o1 o2;replace k0:=k0.nz hB2;replace kx:=kx.nz hB2;replace HB:=ax (bgo HB.o hB2);have hz2:=hB2.size;clear hB2 qk0;(go_upto_region 6 with fail);have hbq:=bbox (Below.refl w2.heap.size w2) (.cells #[.slice F a.facts.length d,.slice G a.atoms.length g] tAs);have kE:Blk (w2.alloc (.cells #[.slice F a.facts.length d,.slice G a.atoms.length g] tAs)) w2.heap.size tAs #[.slice F a.facts.length d,.slice G a.atoms.length g]:=Blk.new _ _ _;replace k0:=k0.nz hbq;replace kx:=kx.nz hbq;replace O1:=ax (O1.o.bz hbq);replace HB:=ax (bgo HB.o hbq);have hz3:(w2.alloc (.cells #[.slice F a.facts.length d,.slice G a.atoms.length g] tAs)).heap.size=w2.heap.size+1:=by simp
  clear hbq;generalize (w2.alloc (.cells #[.slice F a.facts.length d,.slice G a.atoms.length g] tAs))=W2 at k0 kx kE O1 HB hz3 ⊢;obtain ⟨yE,hyE⟩:∃ y,y=w2.heap.size:=⟨_,rfl⟩;rw[←hyE] at kE hz3 ⊢;have hyE2:yx<yE:=by omega
  have hyE3:yE<W2.heap.size:=by omega
  clear hyE hz2 hzw hz3;(replace qkE:=kE.z;replace qkx:=kx.z);(go_upto_region 7 with (at_builtin;refine appFL (ys:=[⟨true,x.a,x.b⟩]) (base:=w.heap.size) rfl _ _ rfl rfl (O1.o.bz bel) rfl (FactsV.one (f:=⟨true,x.a,x.b⟩) (Blk.new W2 tF _)) (by simp<;>omega) (by simp<;>omega) ?_;intro A6 c6 w6 o6 hg6 hB6;have kO:=O1.o.bz (w':=W2.alloc (.cells #[.bool true,.int .i64 x.a,.int .i64 x.b] tF)) bel;have kE6:=Blk.grownO (hg:=hg6) (kE.alloc _) kO.1 (by decide);have k06:=Blk.grownO (hg:=hg6) (k0.alloc _) kO.1 (by decide);have kx6:=Blk.grownO (hg:=hg6) (kx.alloc _) kO.1 (by decide);have HB6:aJ (Below w.heap.size w w6):=ax ((bbox HB.o _).trans hB6);have O16:=ax o6;have hz6:W2.heap.size+1≤w6.heap.size:=(by have:=hg6.size;simp at this;omega);clear hB6 hg6 o6 kO qkE qkx;(replace qkE6:=kE6.z)));simp only[List.length_append,List.length_cons,List.length_nil,Nat.zero_add] at O16 ⊢
  have kE7:Blk (w6.setCell ⟨yE,0,none⟩ (.slice A6 (a.facts.length+1) c6)) yE tAs #[.slice A6 (a.facts.length+1) c6,.slice G a.atoms.length g]:=by
   have:=kE6.set_ 0 (.slice A6 (a.facts.length+1) c6);simpa using this
  have k07:=k06.far (p:=⟨yE,0,none⟩) (by simp only;omega) (.slice A6 (a.facts.length+1) c6);have kx7:=kx6.far (p:=⟨yE,0,none⟩) (by simp only;omega) (.slice A6 (a.facts.length+1) c6);have O17:=ax (O16.o.setT kE6 (by decide) 0 (.slice A6 (a.facts.length+1) c6));have HB7:=ax (HB6.o.setCell (p:=⟨yE,0,none⟩) (by simp only;omega) (.slice A6 (a.facts.length+1) c6));have hz7:W2.heap.size+1≤(w6.setCell ⟨yE,0,none⟩ (.slice A6 (a.facts.length+1) c6)).heap.size:=by simpa using hz6
  clear k0 kx kE O1 HB kE6 k06 kx6 O16 HB6 hz6 qkE6;generalize (w6.setCell ⟨yE,0,none⟩ (.slice A6 (a.facts.length+1) c6))=W7 at kE7 k07 kx7 O17 HB7 hz7 ⊢;clear w6;have hs1:=hs1'.o;have hs2:=hs2'.o;have hw:=hw'.o;(replace qk07:=k07.z;replace qkE7:=kE7.z);(go_wp2_with fail);clear qk07;refine wp_region_noPanic ?_;refine wp_region_held_drew (S:=(fun w'=>∀ i,w'.cell? ⟨w.heap.size,i,none⟩=#[.slice A1 a.facts.length c1,.slice (some ⟨b,o,none⟩) a.atoms.length c2][i]?)) (by kernel_rfl) (k07.drew.cell) (fun aH=>?_);have HBQ:aJ (Below W7.heap.size W7 W7.drew):=ax (Below.refl _ _).drew;have hzq:W7.heap.size≤W7.drew.heap.size:=Nat.le_refl _;clear qkE7;generalize W7.drew=wq at HBQ hzq aH ⊢;refine tk2 1 rfl aH (h:=tk2 2 rfl aH (h:=tk2 3 rfl aH (h:=?_)));(try simp only[zz]);refine tk2 4 rfl aH (h:=tk2 6 rfl aH (h:=tk2 7 rfl aH (h:=?_)));(try simp only[zz]);refine tk2 8 rfl aH (h:=tk2 9 rfl aH (h:=tk2 10 rfl aH (h:=?_)));(try simp only[zz]);clear hs1 hs2 hw;refine rdc 0 rfl fun K hK=>?_;(try simp only[zz]);go_simp;refine hK.out _ _ (((k07.nz HBQ.o).alloc _).cell) ?_;clear aH hK K;intro aH;(try simp only[zz]);have OA0:aJ (AtomsO (wq.alloc (.cells #[] tA)) W7.heap.size (.slice (some ⟨wq.heap.size,0,none⟩) 0 0) []):=ax ((AtomsO.empty wq).lower hzq);replace HBQ:=ax (HBQ.o.alloc hzq (.cells #[] tA));have hzq2:W7.heap.size≤(wq.alloc (.cells #[] tA)).heap.size:=by simp;omega
  generalize wq.alloc (.cells #[] tA)=wz at HBQ OA0 hzq2 aH ⊢;refine rdc 5 rfl fun K hK=>?_;skip;(refine stepALm (base:=W7.heap.size) (n:=i) (zs:=a.atoms.take i) rfl _ _ rfl rfl OA0.o rfl HL1.o.symm (hT.o.bz (bgo HB7.o HBQ.o)) rfl HL1.o.symm (by omega) hzq2 ?_;intro A8 c8 w8 o8 hg8 hB8;replace HBQ:=ax (HBQ.o.trans hB8);have OA1:=ax o8;have hzq3:=Nat.le_trans hzq2 hB8.size;clear o8 hg8 hB8 OA0);refine hK.out _ _ ((k07.nz HBQ.o).cell) ?_;clear aH hK K;intro aH;(try simp only[zz]);refine rdc 11 rfl fun K hK=>?_;skip;(refine stepALm (base:=W7.heap.size) (n:=a.atoms.length - 1) (zs:=withoutL a.atoms i) rfl _ _ rfl rfl OA1.o rfl HL2.o.symm (hD.o.bz (bgo HB7.o HBQ.o)) rfl (by omega) (by omega) hzq3 ?_;intro A9 c9 w9 o9 hg9 hB9;replace HBQ:=ax (HBQ.o.trans hB9);have OA2:=ax o9;have hzq4:=Nat.le_trans hzq3 hB9.size;clear o9 hg9 hB9 OA1);refine hK.out _ _ ((k07.nz HBQ.o).cell) ?_;clear aH hK K;intro aH;(try simp only[zz]);refine tk2 12 rfl aH (h:=?_);(try simp only[zz]);have kE9:=kE7.nz HBQ.o;have qkE9:=kE9.cell;have rkE9:=kE9.frozen;have lkE9:=kE9.lt;refine rdc 13 rfl fun K hK=>?_;(try simp only[zz]);go_simp;refine hK.out _ _ (((k07.nz HBQ.o).far (p:=⟨yE,1,none⟩) (by simp only;omega) _).cell) ?_;clear aH hK K;intro aH;(try simp only[zz]);refine dn1 ?_;clear qkE9 rkE9 lkE9 aH
  have kE10:Blk (w9.setCell ⟨yE,1,none⟩ (.slice A9 (a.atoms.length - 1) c9)) yE tAs #[.slice A6 (a.facts.length+1) c6,.slice A9 (a.atoms.length - 1) c9]:=by
   have:=kE9.set_ 1 (.slice A9 (a.atoms.length - 1) c9);simpa using this
  have k010:=(k07.nz HBQ.o).far (p:=⟨yE,1,none⟩) (by simp only;omega) (.slice A9 (a.atoms.length - 1) c9);have kx10:=(kx7.nz HBQ.o).far (p:=⟨yE,1,none⟩) (by simp only;omega) (.slice A9 (a.atoms.length - 1) c9);have OE1:=ax ((O17.o.bz HBQ.o).setT kE9 (by decide) 1 (.slice A9 (a.atoms.length - 1) c9));have OE2:=ax ((OA2.o.lower (base':=w.heap.size) HB7.o.size).setT kE9 (by decide) 1 (.slice A9 (a.atoms.length - 1) c9));have HB10:=ax ((bgo HB7.o HBQ.o).setCell (p:=⟨yE,1,none⟩) (by simp only;omega) (.slice A9 (a.atoms.length - 1) c9));have hz10:yE<(w9.setCell ⟨yE,1,none⟩ (.slice A9 (a.atoms.length - 1) c9)).heap.size:=kE10.lt;clear k07 kx7 kE7 O17 HB7 hz7 HBQ OA2 kE9 hzq hzq2 hzq3 hzq4;generalize (w9.setCell ⟨yE,1,none⟩ (.slice A9 (a.atoms.length - 1) c9))=W8 at kE10 k010 kx10 OE1 OE2 HB10 hz10 ⊢;(replace qk010:=k010.z;replace qkx10:=kx10.z);(go_wp2_with fail);refine (c_l10Front _ a ⟨1,x.a,(m:Int)⟩ i _ (hV.o.V.bz HB10.o) HVa.o HHi.o).mono ?_;rintro e w11 ⟨F2,d2,G2,g2,rfl,oF,hB11⟩;have OFX:=ax oF;have HBX:=ax hB11;have hz11:=hB11.size;clear oF hB11 qk010 qkx10;(go_upto_region 9 with fail);replace OFX:=ax (OFX.o.bz (bbox (Below.refl _ _) (.cells #[.slice F2 a.facts.length d2,.slice G2 a.atoms.length g2] tAs)));replace HBX:=ax (bbox HBX.o (.cells #[.slice F2 a.facts.length d2,.slice G2 a.atoms.length g2] tAs));have kF:Blk (w11.alloc (.cells #[.slice F2 a.facts.length d2,.slice G2 a.atoms.length g2] tAs)) w11.heap.size tAs #[.slice F2 a.facts.length d2,.slice G2 a.atoms.length g2]:=Blk.new _ _ _;have hzF:w11.heap.size+1≤(w11.alloc (.cells #[.slice F2 a.facts.length d2,.slice G2 a.atoms.length g2] tAs)).heap.size:=by simp
  generalize (w11.alloc (.cells #[.slice F2 a.facts.length d2,.slice G2 a.atoms.length g2] tAs))=W9 at OFX HBX kF hzF ⊢;obtain ⟨yF,hyF⟩:∃ y,y=w11.heap.size:=⟨_,rfl⟩;rw[←hyF] at kF hzF hz11 ⊢;clear hyF;have OF1:=ax OFX.o.parts.1;have OF2:=ax OFX.o.parts.2;clear OFX;simp only at OF1 OF2;have kx11:=kx10.nz HBX.o;(replace qkF:=kF.z;replace qkx11:=kx11.z);(go_upto_region 10 with (at_builtin;refine appFL (ys:=[⟨false,x.a,x.b⟩]) (base:=W8.heap.size) rfl _ _ rfl rfl (OF1.o.bz bel) rfl (FactsV.one (f:=⟨false,x.a,x.b⟩) (Blk.new W9 tF _)) (by simp<;>omega) (by simp<;>omega) ?_;intro A12 c12 w12 o12 hg12 hB12;have kO:=OF1.o.bz (w':=W9.alloc (.cells #[.bool false,.int .i64 x.a,.int .i64 x.b] tF)) bel;have kF12:=Blk.grownO (hg:=hg12) (kF.alloc _) kO.1 (by decide);have OF22:=ax (AtomsO.grownF (OF2.o.bz (w':=W9.alloc (.cells #[.bool false,.int .i64 x.a,.int .i64 x.b] tF)) bel) kO hg12);have HBX12:aJ (Below W8.heap.size W8 w12):=ax ((bbox HBX.o _).trans hB12);have OF12:=ax o12;clear hB12 hg12 o12 kO qkF qkx11;(replace qkF12:=kF12.z)));simp only[List.length_append,List.length_cons,List.length_nil,Nat.zero_add] at OF12 ⊢
  have kF13:Blk (w12.setCell ⟨yF,0,none⟩ (.slice A12 (a.facts.length+1) c12)) yF tAs #[.slice A12 (a.facts.length+1) c12,.slice G2 a.atoms.length g2]:=by
   have:=kF12.set_ 0 (.slice A12 (a.facts.length+1) c12);simpa using this
  have OF13:=ax (OF12.o.setT kF12 (by decide) 0 (.slice A12 (a.facts.length+1) c12));have OF23:=ax (OF22.o.setT kF12 (by decide) 0 (.slice A12 (a.facts.length+1) c12));have HBX13:=ax (HBX12.o.setCell (p:=⟨yF,0,none⟩) (by simp only;omega) (.slice A12 (a.facts.length+1) c12));clear kF kx11 OF1 OF2 HBX kF12 OF12 OF22 HBX12 qkF12;generalize (w12.setCell ⟨yF,0,none⟩ (.slice A12 (a.facts.length+1) c12))=W10 at kF13 OF13 OF23 HBX13 ⊢;have kx13:=kx10.nz HBX13.o;(replace qkF13:=kF13.z;replace qkx13:=kx13.z);(go_upto_region 11 with (at_builtin;refine appAL (ys:=[⟨2,(m:Int),x.b⟩]) (base:=W8.heap.size) rfl _ _ rfl rfl (OF23.o.bz bel) (by rfl) (AtomsV.one (f:=⟨2,(m:Int),x.b⟩) (Blk.new W10 tA _)) (by simp<;>omega) (by have:=HBX13.o.size;simp<;>omega) ?_;intro A14 c14 w14 o14 hg14 hB14;have kO:=OF23.o.bz (w':=W10.alloc (.cells #[.int .i64 2,.int .i64 m,.int .i64 x.b] tA)) bel;have kF14:=Blk.grownO (hg:=hg14) (kF13.alloc _) kO.1 (by decide);have OF14:=ax (FactsO.grownA (OF13.o.bz (w':=W10.alloc (.cells #[.int .i64 2,.int .i64 m,.int .i64 x.b] tA)) bel) kO hg14);have HBX14:aJ (Below W8.heap.size W8 w14):=ax ((bbox HBX13.o _).trans hB14);have OF24:=ax o14;clear hB14 hg14 o14 kO qkF13 qkx13;(replace qkF14:=kF14.z)));simp only[List.length_append,List.length_cons,List.length_nil,Nat.zero_add] at OF24 ⊢;have hLL:1+(withoutL a.atoms i).length+1=a.atoms.length+1:=by omega
  try rw[hLL]
  replace OF24:aJ (AtomsO w14 W8.heap.size (.slice A14 (a.atoms.length+1) c14) (([⟨1,x.a,(m:Int)⟩]++withoutL a.atoms i)++[⟨2,(m:Int),x.b⟩])):=ax (by
   have h24:=OF24.o;(try rw[hLL] at h24)
   exact h24)
  have kF15:Blk (w14.setCell ⟨yF,1,none⟩ (.slice A14 (a.atoms.length+1) c14)) yF tAs #[.slice A12 (a.facts.length+1) c12,.slice A14 (a.atoms.length+1) c14]:=by
   have:=kF14.set_ 1 (.slice A14 (a.atoms.length+1) c14);simpa using this
  have OF15:=ax (OF14.o.setT kF14 (by decide) 1 (.slice A14 (a.atoms.length+1) c14));have OF25:=ax (OF24.o.setT kF14 (by decide) 1 (.slice A14 (a.atoms.length+1) c14));have HBX15:=ax (HBX14.o.setCell (p:=⟨yF,1,none⟩) (by simp only;omega) (.slice A14 (a.atoms.length+1) c14));clear kF13 kx13 OF13 OF23 HBX13 kF14 OF14 OF24 HBX14 qkF14 hLL;generalize (w14.setCell ⟨yF,1,none⟩ (.slice A14 (a.atoms.length+1) c14))=W12 at kF15 OF15 OF25 HBX15 ⊢;have hz15:=HBX15.o.size;have kE15:=kE10.nz HBX15.o;have OE:aJ (AsnO W12 w.heap.size (.agg #[.slice A6 (a.facts.length+1) c6,.slice A9 (a.atoms.length - 1) c9]) (emptyX a x i)):=ax ⟨_,_,rfl,OE1.o.bz HBX15.o,OE2.o.bz HBX15.o⟩;have OX:aJ (AsnO W12 W8.heap.size (.agg #[.slice A12 (a.facts.length+1) c12,.slice A14 (a.atoms.length+1) c14]) (fullX a x i (m:Int))):=ax ⟨_,_,rfl,OF15.o,OF25.o⟩;have HB15:=ax (bgo HB10.o HBX15.o);have hLE:aJ ((emptyX a x i).facts.length≤1000∧(emptyX a x i).atoms.length≤1000):=ax (by simp only[emptyX,List.length_append,List.length_cons,List.length_nil];omega);have hLF:aJ ((fullX a x i (m:Int)).facts.length≤1000∧(fullX a x i (m:Int)).atoms.length≤1000):=ax (by simp only[fullX,List.length_append,List.length_cons,List.length_nil];omega);clear OE1 OE2 HBX15 OF15 OF25 kE10 k010 kx10 HB10;have hni:(n:Int)≤6:=by omega
  (replace qkE15:=kE15.z);(go_wp2_with fail);refine (HEH.o w.heap.size _ _ _ _ B cB _ OE.o.C (HFL.o.bz HB15.o) hLE.o.1 hLE.o.2).mono ?_;rintro e w16 ⟨r1,vs1,l1,rfl,o1,hl1,HR1,hB16⟩;obtain ⟨R1,z1,rfl⟩:=o1.form;have O1:=ax o1;have HR1':=ax HR1;replace OX:=ax (OX.o.bz hB16);have kF16:=kF15.nz hB16;have HB16:=ax (bgo HB15.o hB16);have hz16:=hB16.size;clear o1 HR1 hB16 HB15 kF15 kE15 qkE15 OE;(replace qkF16:=kF16.z);(go_wp2_with fail);refine (HFH.o m W8.heap.size _ _ _ _ B cB _ OX.o.C (HFL.o.bz HB16.o) hLF.o.1 hLF.o.2).mono ?_;rintro e w17 ⟨r2,vs2,l2,rfl,o2,hl2,HR2,hB17⟩;obtain ⟨R2,z2,rfl⟩:=o2.form;have O2:=ax o2;have HR2':=ax HR2;have HB17':=ax hB17;have HB17:=ax (bgo HB16.o hB17);have hz17:=hB17.size;have hp:=HN.o;have hll:l1.length+l2.length≤1049600:=by omega
  have hll2:aJ (l1.length+l2.length≤2 ^ (n+1)):=ax (by rw[Nat.pow_succ];omega);clear o2 HR2 hB17 HB16 kF16 qkF16 OX hl1 hl2 hp;have HE1:aJ (∀ e1,exposeF n (emptyX a x i) t Ks=none→(listF n a x i t Ks).isSome=e1→e1=false):=ax fun e1 h h'=>by rw[←h',list_first HNT.o h];rfl
  have HBoth:aJ ((listF n a x i t Ks).isSome=((exposeF n (emptyX a x i) t Ks).isSome&&(exposeF n (fullX a x i (m:Int)) t Ks).isSome)∧(listF n a x i t Ks=none∨listF n a x i t Ks=some (l1++l2))):=ax (by
   rcases HR1'.o with e1|e1
   ·rw[list_first HNT.o e1,e1];exact ⟨rfl,.inl rfl⟩
   ·rcases HR2'.o with e2|e2
    ·rw[list_second HNT.o e2,e1,e2];exact ⟨rfl,.inl rfl⟩
    ·rw[list_both HNT.o e1 e2,e1,e2];exact ⟨rfl,.inr rfl⟩)
  clear HE1 HR1' HR2';generalize (exposeF n (emptyX a x i) t Ks).isSome=p1 at HBoth ⊢;generalize (exposeF n (fullX a x i (m:Int)) t Ks).isSome=p2 at HBoth ⊢;cases p1<;>cases p2
  all_goals
   (go_wp2_with (at_builtin;refine wpList_appL (base:=w.heap.size) rfl _ _ 30 rfl Tryz.underlying30 infoAs2 rfl (by decide) (by decide) rfl (own_lower (own_below O1.o.row HB17'.o) (by omega)) rfl O2.o.rd.raw O2.o.els.one_cell hll (by omega) ?_;intro v18 w18 hO18 hg18 hB18;have HR18:=ax hO18;have HG18:=ax hg18;have HB18:=ax (HB17.o.trans hB18);obtain ⟨A18,d18,rfl,-⟩:=own_reads hO18 hll;clear hO18 hg18 hB18));go_ret2;exact ⟨_,vs1++vs2,l1++l2,by rw[HBoth.o.1];rfl,(O1.o.lower (by omega)).cat HB17'.o O2.o (by omega) (Nat.le_refl _) hll HG18.o HR18.o,by rw[List.length_append];exact hll2.o,HBoth.o.2,HB18.o⟩
section
variable {ops:Array Oper} {rest:List Oper} {o:Oper} {a:Act} {Q:Exit→Act→World→Prop} {w w0:World} {base mid:Nat} {v v2:Value} {vs vs2:List Value} {ss ss2:List Asn}
theorem appA2 (hgd:o.guard=none) (s x:Operand) (ho:o.op=.call { callee:=.builtin .append,args:=#[s,x],argTypes:=#[30,30] })
  (hs:a.eval s=v) (h0:A2O w0 base v vs ss) (hb0:Below w0.heap.size w0 w) (hbase:base≤w0.heap.size) (h2:A2O w mid v2 vs2 ss2) (hm:w0.heap.size≤mid) (hx:a.eval x=v2) (hl:ss.length+ss2.length≤1049600)
  (h:∀ A' c' w',A2O w' base (.slice A' (ss.length+ss2.length) c') (vs++vs2) (ss++ss2)→w.grownBy w' v.ownBlock→Below base w w'→wpList Tryz.prog ops Q rest (a.put o.dst (.slice A' (ss.length+ss2.length) c')) w'):wpList Tryz.prog ops Q (o :: rest) a w:=by
 obtain ⟨A,c,rfl⟩:=h2.form;refine wpList_appL (base:=base) hgd s x 30 ho Tryz.underlying30 infoAs2 rfl (by decide) (by decide) hs (own_below h0.row hb0) hx h2.rd.raw h2.els.one_cell hl (Nat.le_trans hbase hb0.size) ?_;intro v' w' hO hg hB;have hC:=h0.cat hb0 h2 (Nat.le_trans hbase hm) hm hl hg hO;obtain ⟨A',d,rfl,-⟩:=own_reads hO hl;exact h A' d w' hC hg hB
end
end
section
open Go Go.RowKit Go.Proofs
end
section
open Go Go.RowKit
/-! states -/
/-! the laws -/
def EntM (M:Int→Int) (a b:Asn):Prop:=(∀ f∈b.facts,decide (M f.a=M f.b)=f.eq)∧Cover M (a.atoms.filter (fillM M)) (b.atoms.filter (fillM M))
section
variable {M N:Int→Int} {T:Int→Prop} {F G:List Atm}
theorem Clo.same (h0:T 0) (he:∀ s t,T s→T t→(M s=M t↔N s=N t)) {q:Int} (hF:∀ y∈F,T y.a∧T y.b) (hq:T q) (h:Clo M F (M q)):Clo N F (N q):=by
 rcases h with h|⟨y,hy,e⟩
 ·exact .inl ((he _ _ hq h0).1 h)
 ·exact .inr ⟨y,hy,(he _ _ (hF y hy).1 hq).1 e⟩
theorem SegM.same (h0:T 0) (he:∀ s t,T s→T t→(M s=M t↔N s=N t)) (hF:∀ y∈F,T y.a∧T y.b) {q:Int} (hq:T q):∀ (cs:List Atm) (p:Int),T p→(∀ y∈cs,y∈F)→SegM M F (M q) (M p) cs→SegM N F (N q) (N p) cs
 | [],_,_,_,h=>absurd h id
 | y :: cs,p,hp,hm,h=>by
  have hy:=hF y (hm y List.mem_cons_self);refine ⟨(he _ _ hy.1 hp).1 h.1,?_⟩;rcases h.2 with ⟨e,hb⟩|⟨hne,hb,hc,hs⟩
  ·exact .inl ⟨e,(he _ _ hy.2 hq).1 hb⟩
  ·exact .inr ⟨hne,fun e=>hb ((he _ _ hy.2 hq).2 e),fun hk=>(hc hk).same h0 he hF hq,SegM.same h0 he hF hq cs y.b hy.2 (fun z hz=>hm z (List.mem_cons_of_mem _ hz)) hs⟩
theorem Cover.same (h0:T 0) (he:∀ s t,T s→T t→(M s=M t↔N s=N t)) (hF:∀ y∈F,T y.a∧T y.b) (hG:∀ y∈G,T y.a∧T y.b) (h:Cover M F G):Cover N F G:=by
 obtain ⟨g,h1,h2⟩:=h;refine ⟨g,fun x hx=>?_,h2⟩;have hm:∀ y∈g x,y∈F:=fun y hy=>h2.mem_iff.2 (List.mem_flatMap.2 ⟨x,hx,hy⟩);have hc:=h1 x hx;unfold CovM at hc ⊢
 split
 ·rename_i hk;rw[if_pos hk] at hc;obtain ⟨y,e,e2⟩:=hc;have hy:=hF y (hm y (by rw[e];simp));obtain ⟨e3,e4,e5⟩:=cls_inj e2;refine ⟨y,e,?_⟩;unfold clsM;rw[e3,(he _ _ hy.1 (hG x hx).1).1 e4,(he _ _ hy.2 (hG x hx).2).1 e5]
 ·rename_i hk;rw[if_neg hk] at hc;exact SegM.same h0 he hF (hG x hx).2 _ _ (hG x hx).1 hm hc
theorem fill_same (he:∀ s t,T s→T t→(M s=M t↔N s=N t)) {xs:List Atm} (hx:∀ y∈xs,T y.a∧T y.b):xs.filter (fillM M)=xs.filter (fillM N):=by
 refine List.filter_congr fun y hy=>?_;unfold fillM;rw[decide_eq_decide.2 (he _ _ (hx y hy).1 (hx y hy).2)]
theorem EntM.same {a b:Asn} (h0:T 0) (he:∀ s t,T s→T t→(M s=M t↔N s=N t)) (ha:∀ y∈a.atoms,T y.a∧T y.b) (hb:∀ y∈b.atoms,T y.a∧T y.b) (hf:∀ f∈b.facts,T f.a∧T f.b) (h:EntM M a b):EntM N a b:=by
 refine ⟨fun f hm=>?_,?_⟩
 ·rw[←h.1 f hm,decide_eq_decide];exact (he _ _ (hf f hm).1 (hf f hm).2).symm
 ·rw[←fill_same he ha,←fill_same he hb];exact h.2.same h0 he (fun y hy=>ha y (List.mem_filter.1 hy).1) (fun y hy=>hb y (List.mem_filter.1 hy).1)
end
theorem valid_kind {a:Asn} (h:a.valid=true) {x:Atm} (hx:x∈a.atoms):x.kind=1∨x.kind=2:=by
 simp only[Asn.valid,Bool.and_eq_true] at h;have:=List.all_eq_true.1 h.2.2 x hx;simp[Atm.valid] at this;exact this.1.1
section
variable {M:Int→Int} {a b c:Asn}
theorem EntM.sat (h:EntM M a b) (ha:Sat M a):Sat M b:=by
 refine ⟨h.1,fun x hx hf=>?_,h.2.starts ha.apart⟩;obtain ⟨g,h1,h2⟩:=h.2;have hx':x∈b.atoms.filter (fillM M):=List.mem_filter.2 ⟨hx,hf⟩;obtain ⟨y,ys,e1,e2⟩:=cov_head (h1 x hx');have hy:y∈a.atoms.filter (fillM M):=h2.mem_iff.2 (List.mem_flatMap.2 ⟨x,hx',by rw[e1];simp⟩);rw[List.mem_filter] at hy;rw[←e2];exact ha.nil y hy.1 hy.2
theorem EntM.trans (h1:EntM M a b) (h2:EntM M b c) (ha:Sat M a) (hb:b.valid=true):EntM M a c:=
 ⟨h2.1,h1.2.trans h2.2 ha.apart (fun y hy=>ha.nil y (List.mem_filter.1 hy).1 (List.mem_filter.1 hy).2) fun z hz=>valid_kind hb (List.mem_filter.1 hz).1⟩
theorem Cover.perm {F G:List Atm} (h:F.Perm G):Cover M F G:=by
 refine ⟨fun x=>[x],fun x hx=>?_,by simpa using h⟩;unfold CovM
 split
 ·exact ⟨x,rfl,rfl⟩
 ·exact ⟨rfl,.inl ⟨rfl,rfl⟩⟩
theorem EntM.refl (ha:Sat M a):EntM M a a:=⟨ha.facts,Cover.perm (List.Perm.refl _)⟩
end
/-! truth in states -/
def cellsOf (s:Ste) (x:Atm):List Int:=(atomCells s x).getD []
section
variable {M:Int→Int} {F G G':List Atm} {a:Asn} {x:Atm} {i:Nat} {t m:Int}
theorem Cover.mk {css:List (List Atm)} (h:Covs M F G css) (hp:F.Perm css.flatten) (hn:(F.map fun y=>M y.a).Nodup):Cover M F G:=by
 have hs:=covs_starts G css h;obtain ⟨g,g1,g2⟩:=covs_fun G css h (((hp.map fun y=>M y.a).nodup_iff.1 hn).sublist hs);exact ⟨g,g2,by rw[←g1];exact hp⟩
theorem cov_self (y:Atm):CovM M F y [y]:=by
 unfold CovM
 split
 ·exact ⟨y,rfl,rfl⟩
 ·exact ⟨rfl,.inl ⟨rfl,rfl⟩⟩
theorem covs_self:∀ (G:List Atm),Covs M F G (G.map fun y=>[y])
 | []=>trivial
 | y :: G=>⟨cov_self y,covs_self G⟩
theorem flat_self:∀ (G:List Atm),(G.map fun y=>[y]).flatten=G
 | []=>rfl
 | y :: G=>by simp[flat_self G]
theorem Cover.permG (h:Cover M F G) (hp:G.Perm G'):Cover M F G':=by
 obtain ⟨g,h1,h2⟩:=h;exact ⟨g,fun x hx=>h1 x (hp.mem_iff.2 hx),h2.trans (hp.flatMap_right g)⟩
theorem fill_perm (hx:a.atoms[i]? = some x):(a.atoms.filter (fillM M)).Perm ((x :: withoutL a.atoms i).filter (fillM M)):=(without_perm hx).filter _
theorem cell_fill {p q:Int}:fillM M ⟨1,p,q⟩=true:=rfl
theorem ent_ofCell (hx:a.atoms[i]? = some x) (hk:x.kind=1) (hs:Sat M (cellX a x i t)):M x.a=M t∧EntM M (cellX a x i t) a:=by
 have hfx:fillM M x=true:=by unfold fillM;rw[decide_eq_true hk];rfl
 have ht:M x.a=M t:=by
  by_cases e:x.a=t
  ·rw[e]
  ·exact of_decide_eq_true (hs.facts ⟨true,x.a,t⟩ (by simp[cellX,e]))
 refine ⟨ht,fun f hf=>hs.facts f (by simp[cellX,hf]),?_⟩;have hp:=fill_perm (M:=M) hx;rw[List.filter_cons_of_pos hfx] at hp;have hn:=hs.apart;simp only[cellX] at hn ⊢;rw[List.filter_cons_of_pos cell_fill] at hn ⊢;refine (Cover.mk (G:=x :: (withoutL a.atoms i).filter (fillM M)) (css:=[⟨1,t,x.b⟩] :: ((withoutL a.atoms i).filter (fillM M)).map fun y=>[y]) ⟨?_,covs_self _⟩ (by rw[List.flatten_cons,flat_self];exact List.Perm.refl _) hn).permG hp.symm;unfold CovM;rw[if_pos hk];exact ⟨_,rfl,by simp[clsM,hk,ht]⟩
theorem unfill (hk:x.kind=2) (he:M x.a=M x.b):fillM M x=false:=by
 unfold fillM;rw[decide_eq_false (by omega),decide_eq_true he];rfl
theorem ent_ofEmpty (hx:a.atoms[i]? = some x) (hk:x.kind=2) (hs:Sat M (emptyX a x i)):EntM M (emptyX a x i) a:=by
 have he:M x.a=M x.b:=of_decide_eq_true (hs.facts ⟨true,x.a,x.b⟩ (by simp[emptyX]));refine ⟨fun f hf=>hs.facts f (by simp[emptyX,hf]),?_⟩;have hp:=fill_perm (M:=M) hx;rw[List.filter_cons_of_neg (by simp[unfill hk he])] at hp;exact Cover.perm hp.symm
theorem ent_ofFull (hx:a.atoms[i]? = some x) (hk:x.kind=2) (hs:Sat M (fullX a x i m)):EntM M (fullX a x i m) a:=by
 have hne:decide (M x.a=M x.b)=false:=hs.facts ⟨false,x.a,x.b⟩ (by simp[fullX]);have hfx:fillM M x=true:=by unfold fillM;rw[hne];simp
 have hn:=hs.apart;refine ⟨fun f hf=>hs.facts f (by simp[fullX,hf]),?_⟩;have hp:=fill_perm (M:=M) hx;rw[List.filter_cons_of_pos hfx] at hp;simp only[fullX] at hn ⊢;rw[List.filter_append,List.filter_append,List.filter_cons_of_pos cell_fill,List.filter_nil] at hn ⊢;refine Cover.permG ?_ hp.symm;cases hfl:fillM M ⟨2,m,x.b⟩
 ·have hmb:M m=M x.b:=by simpa [fillM] using hfl
  rw[List.filter_cons_of_neg (by simp[hfl]),List.filter_nil,List.append_nil] at hn ⊢;refine Cover.mk (css:=[⟨1,x.a,m⟩] :: ((withoutL a.atoms i).filter (fillM M)).map fun y=>[y]) ⟨?_,covs_self _⟩ (by rw[List.flatten_cons,flat_self];done) hn;unfold CovM;rw[if_neg (by omega)];exact ⟨rfl,.inl ⟨rfl,hmb⟩⟩
 ·have hmb:M m≠M x.b:=by simpa [fillM] using hfl
  rw[List.filter_cons_of_pos hfl,List.filter_nil] at hn ⊢;refine Cover.mk (css:=[⟨1,x.a,m⟩,⟨2,m,x.b⟩] :: ((withoutL a.atoms i).filter (fillM M)).map fun y=>[y]) ⟨?_,covs_self _⟩ ?_ hn
  ·unfold CovM;rw[if_neg (by omega)];exact ⟨rfl,.inr ⟨by simp,hmb,fun (h:(1:Int)=2)=>absurd h (by decide),rfl,.inl ⟨rfl,rfl⟩⟩⟩
  ·rw[List.flatten_cons,flat_self];simp only[List.singleton_append,List.cons_append,List.nil_append];exact (List.perm_append_singleton _ _).cons _
end
theorem expose_valid {n:Nat} {a:Asn} {t:Int} {K:Nat} {l:List Asn} (h:exposeF n a t K=some l):a.valid=true:=by
 cases hv:a.valid
 ·rw[expose_bad hv] at h;cases h
 ·rfl
theorem expose_ent:∀ (n:Nat) (a:Asn) (t:Int) (K:Nat) (l:List Asn),exposeF n a t K=some l→∀ e∈l,e.valid=true∧(∀ M,Sat M e→EntM M e a)∧∃ b rest,e.atoms=⟨1,t,b⟩ :: rest
 | 0,_,_,_,_,h=>by cases h
 | n+1,a,t,K,l,h=>by
  intro e he;have hv:=expose_valid h;cases hc:consB a
  ·rw[expose_no hv hc] at h;obtain rfl:=Option.some.inj h;cases he
  cases hf:findK a 1 t with
  | some i=>
   obtain ⟨x,hx,hk,-,-⟩:=find_some hf;rw[expose_cell hv hc hf hx] at h
   split at h
   ·rename_i hcv;obtain rfl:=Option.some.inj h;obtain rfl:=List.mem_singleton.1 he;exact ⟨hcv,fun M hM=>(ent_ofCell hx hk hM).2,_,_,rfl⟩
   ·cases h
  | none=>
   cases hg:findK a 2 t with
   | none=>rw[expose_none hv hc hf hg] at h;cases h
   | some i=>
    obtain ⟨x,hx,hk,-,-⟩:=find_some hg;rw[expose_list hv hc hf hg hx] at h;unfold listF at h
    split at h
    ·cases h
    ·rename_i m hm
     split at h
     ·cases h
     ·rename_i l1 h1
      split at h
      ·cases h
      ·rename_i l2 h2;obtain rfl:=Option.some.inj h;rcases List.mem_append.1 he with he|he
       ·obtain ⟨g1,g2,g3⟩:=expose_ent n _ _ _ _ h1 e he;exact ⟨g1,fun M hM=>(g2 M hM).trans (ent_ofEmpty hx hk ((g2 M hM).sat hM)) hM (expose_valid h1),g3⟩
       ·obtain ⟨g1,g2,g3⟩:=expose_ent n _ _ _ _ h2 e he;exact ⟨g1,fun M hM=>(g2 M hM).trans (ent_ofFull hx hk ((g2 M hM).sat hM)) hM (expose_valid h2),g3⟩
end
section
open Go Go.RowKit Go.Proofs
attribute [local go_sem ↓] Go.wp_at_zero Go.wp_at_succ
theorem symB_eq {a:Asn} {A:Int} {K:Nat}:symB a 1 A A K=some [a]:=by unfold symB;rw[if_pos rfl,if_pos rfl]
theorem symB_set {a:Asn} {A B:Int} {K:Nat} (h:¬A=B):symB a 1 A B K=(assignF a A B K).map fun x=>[x]:=by unfold symB;rw[if_pos rfl,if_neg h]
theorem symB_new {a:Asn} {A B:Int} {K:Nat}:symB a 4 A B K=(cellNF a A K).map fun x=>[x]:=rfl
theorem symB_acc {a:Asn} {k A B:Int} {K:Nat} (h1:¬k=1) (h4:¬k=4):symB a k A B K=(exposeF 7 a (symT k A B) K).bind fun l=>mapF (fun x=>accF k A B x K) l:=by unfold symB;rw[if_neg h1,if_neg h4]
theorem c_symB1 {lo hi:Nat} (v:Value) (a:Asn) (A B:Int) (t:Fct) (X1 X2 X3 X4:Option Addr) (n1 n2 n3 n4 d1 d2 d3 d4 K0:Nat) (w:World) (h:AsnC w lo hi v a) (hhi:hi≤w.heap.size) (hv:a.valid=true) (hK0:K0<512) (hA:isTermB A=true) :
  Calls Tryz.prog 96 #[v,.agg #[.int .i64 1,.int .i64 A,.int .i64 B,.bool t.eq,.int .i64 t.a,.int .i64 t.b,.slice X1 n1 d1,.slice X2 n2 d2,.slice X3 n3 d3,.slice X4 n4 d4],.int .u16 K0] w fun e w'=>∃ r vs,e=.returned (.tuple #[r,.bool (symB a 1 A B (keepK K0 A B)).isSome])∧A2O w' w.heap.size r vs ((symB a 1 A B (keepK K0 A B)).getD [])∧Below w.heap.size w w':=by
 have hV:=ax h;obtain ⟨A1,c1,A2,c2,rfl,-⟩:=h;have hvl:=valid_len hv;have HV:=ax hv;obtain ⟨K1,hK1⟩:∃ x,x=tins K0 A:=⟨_,rfl⟩;have l1:K1<512:=by rw[hK1];exact tins_lt hK0 _
 obtain ⟨K2,hK2⟩:∃ x,x=tins K1 B:=⟨_,rfl⟩;have l2:K2<512:=by rw[hK2];exact tins_lt l1 _
 have EK:aJ (keepK K0 A B=K2):=ax (by rw[hK2,hK1];rfl);rw[EK.o];replace hK1:=ax hK1;replace hK2:=ax hK2;clear hv EK;(go_enter Tryz.func96,Tryz.ntmps96);(go_upto_region 1 with fail);refine bx2 (w:=w) (F:=Code.wp _ _ _ _) ?_;rintro W k3 k4 HB hz;replace HB:=ax HB;refine wp_region_noPanic ?_;refine wp_region_held_drew (S:=(fun w'=>(∀ i,w'.cell? ⟨w.heap.size,i,none⟩=#[.slice A1 a.facts.length c1,.slice A2 a.atoms.length c2][i]?)∧(∀ i,w'.cell? ⟨w.heap.size+1,i,none⟩=#[.int .i64 1,.int .i64 A,.int .i64 B,.bool t.eq,.int .i64 t.a,.int .i64 t.b,.slice X1 n1 d1,.slice X2 n2 d2,.slice X3 n3 d3,.slice X4 n4 d4][i]?))) (by kernel_rfl) (⟨k3.drew.cell,k4.drew.cell⟩) (fun aH=>?_);refine tk2 0 rfl aH (h:=tk2 1 rfl aH (h:=tk2 2 rfl aH (h:=?_)));(try simp only[zz]);refine tk2 4 rfl aH (h:=tk2 5 rfl aH (h:=?_));refine rdc 3 rfl fun K hK=>?_;(try simp only[zz]);(go_simp;refine (c_impl_with K0 A _ hK0).mono ?_;rintro e w1 ⟨rfl,rfl⟩;rw[←hK1.o]);refine hK.out _ _ (⟨k3.drew.cell,k4.drew.cell⟩) ?_;clear aH hK K;intro aH;refine rdc 6 rfl fun K hK=>?_;(try simp only[zz]);(go_simp;refine (c_impl_with K1 B _ l1).mono ?_;rintro e w1 ⟨rfl,rfl⟩;rw[←hK2.o]);refine hK.out _ _ (⟨k3.drew.cell,k4.drew.cell⟩) ?_;clear aH hK K;intro aH;(try simp only[zz]);refine tk2 7 rfl aH (h:=?_);(try simp only[zz]);refine dn1 ?_;replace k3:=k3.drew;replace k4:=k4.drew;replace HB:=ax HB.o.drew;have hzd:W.drew.heap.size=W.heap.size:=rfl;clear aH hK1 hK2 l1;generalize W.drew=V at k3 k4 HB hzd ⊢;by_cases hAB:A=B
 ·subst hAB;have E:aJ (symB a 1 A A K2=some [a]):=ax symB_eq;(replace qk3:=k3.z;replace qk4:=k4.z);(go_wp2_with fail);refine (c_impl_copyAssertion _ a _ (hV.o.V.bz HB.o)).mono ?_;rintro e w1 ⟨r,rfl,oC,hB1⟩;obtain ⟨F,f,G,g,rfl⟩:=oC.I.form;have OC:=ax oC;have HB1:=ax (bgo HB.o hB1);have hz1:=hB1.size;clear hB1 oC qk3 qk4 k3 k4;(go_wp2_with fail);go_ret2;refine ⟨.slice (some ⟨w1.heap.size,0,none⟩) 1 1,[.slice F a.facts.length f,.slice G a.atoms.length g],by rw[E.o];rfl,?_,bbox HB1.o _⟩;rw[E.o];refine A2O.one (Blk.newE rfl) ?_ (AsnO.bz (AsnO.lower OC.o (by omega)) bel);omega
 have E:=ax (symB_set (a:=a) (K:=K2) hAB);have hb:(A == B)=false:=beq_false_of_ne hAB;(replace qk3:=k3.z;replace qk4:=k4.z);(go_wp2_with fail);refine (c_impl_assigned _ a A B K2 _ (hV.o.V.bz HB.o) l2 hA (by omega)).mono ?_;rintro e w1 ⟨r,rfl,oX,hB1⟩;obtain ⟨⟨F,n,f,G,m,g,rfl⟩,oX⟩:=oX;have HB1:=ax (bgo HB.o hB1);have hz1:=hB1.size;have OX:=ax oX;clear hB1 oX qk3 qk4 k3 k4
 cases hx:assignF a A B K2 with
 | none=>
  have E2:aJ (symB a 1 A B K2=none):=ax (by rw[E.o,hx];rfl);clear hx;(go_wp2_with fail);go_ret2;exact ⟨_,_,by rw[E2.o];rfl,by rw[E2.o];exact A2O.nil _ _,bbox HB1.o _⟩
 | some y=>
  have E2:aJ (symB a 1 A B K2=some [y]):=ax (by rw[E.o,hx];rfl);have OY:=ax (OX.o y hx);clear hx OX;(go_wp2_with fail);go_ret2;refine ⟨.slice (some ⟨w1.heap.size+1,0,none⟩) 1 1,[.slice F n f,.slice G m g],by rw[E2.o];rfl,?_,bbox (bbox HB1.o _) _⟩;rw[E2.o];refine A2O.one (Blk.newE ?_) ?_ (AsnO.bz (AsnO.lower OY.o (by omega)) bel)
  ·simp
  ·omega
theorem c_symB4 {lo hi:Nat} (v:Value) (a:Asn) (A B:Int) (t:Fct) (X1 X2 X3 X4:Option Addr) (n1 n2 n3 n4 d1 d2 d3 d4 K0:Nat) (w:World) (h:AsnC w lo hi v a) (hhi:hi≤w.heap.size) (hv:a.valid=true) (hK0:K0<512) (hA:isTermB A=true) :
  Calls Tryz.prog 96 #[v,.agg #[.int .i64 4,.int .i64 A,.int .i64 B,.bool t.eq,.int .i64 t.a,.int .i64 t.b,.slice X1 n1 d1,.slice X2 n2 d2,.slice X3 n3 d3,.slice X4 n4 d4],.int .u16 K0] w fun e w'=>∃ r vs,e=.returned (.tuple #[r,.bool (symB a 4 A B (keepK K0 A B)).isSome])∧A2O w' w.heap.size r vs ((symB a 4 A B (keepK K0 A B)).getD [])∧Below w.heap.size w w':=by
 have hV:=ax h;obtain ⟨A1,c1,A2,c2,rfl,-⟩:=h;have hvl:=valid_len hv;have HV:=ax hv;obtain ⟨K1,hK1⟩:∃ x,x=tins K0 A:=⟨_,rfl⟩;have l1:K1<512:=by rw[hK1];exact tins_lt hK0 _
 obtain ⟨K2,hK2⟩:∃ x,x=tins K1 B:=⟨_,rfl⟩;have l2:K2<512:=by rw[hK2];exact tins_lt l1 _
 have EK:aJ (keepK K0 A B=K2):=ax (by rw[hK2,hK1];rfl);rw[EK.o];replace hK1:=ax hK1;replace hK2:=ax hK2;clear hv EK;(go_enter Tryz.func96,Tryz.ntmps96);(go_upto_region 1 with fail);refine bx2 (w:=w) (F:=Code.wp _ _ _ _) ?_;rintro W k3 k4 HB hz;replace HB:=ax HB;refine wp_region_noPanic ?_;refine wp_region_held_drew (S:=(fun w'=>(∀ i,w'.cell? ⟨w.heap.size,i,none⟩=#[.slice A1 a.facts.length c1,.slice A2 a.atoms.length c2][i]?)∧(∀ i,w'.cell? ⟨w.heap.size+1,i,none⟩=#[.int .i64 4,.int .i64 A,.int .i64 B,.bool t.eq,.int .i64 t.a,.int .i64 t.b,.slice X1 n1 d1,.slice X2 n2 d2,.slice X3 n3 d3,.slice X4 n4 d4][i]?))) (by kernel_rfl) (⟨k3.drew.cell,k4.drew.cell⟩) (fun aH=>?_);refine tk2 0 rfl aH (h:=tk2 1 rfl aH (h:=tk2 2 rfl aH (h:=?_)));(try simp only[zz]);refine tk2 4 rfl aH (h:=tk2 5 rfl aH (h:=?_));refine rdc 3 rfl fun K hK=>?_;(try simp only[zz]);(go_simp;refine (c_impl_with K0 A _ hK0).mono ?_;rintro e w1 ⟨rfl,rfl⟩;rw[←hK1.o]);refine hK.out _ _ (⟨k3.drew.cell,k4.drew.cell⟩) ?_;clear aH hK K;intro aH;refine rdc 6 rfl fun K hK=>?_;(try simp only[zz]);(go_simp;refine (c_impl_with K1 B _ l1).mono ?_;rintro e w1 ⟨rfl,rfl⟩;rw[←hK2.o]);refine hK.out _ _ (⟨k3.drew.cell,k4.drew.cell⟩) ?_;clear aH hK K;intro aH;(try simp only[zz]);refine tk2 7 rfl aH (h:=?_);(try simp only[zz]);refine dn1 ?_;replace k3:=k3.drew;replace k4:=k4.drew;replace HB:=ax HB.o.drew;have hzd:W.drew.heap.size=W.heap.size:=rfl;clear aH hK1 hK2 l1;generalize W.drew=V at k3 k4 HB hzd ⊢;have E:aJ (symB a 4 A B K2=(cellNF a A K2).map fun x=>[x]):=ax symB_new;(replace qk3:=k3.z;replace qk4:=k4.z);(go_wp2_with fail);refine (c_impl_allocatedFor _ a A K2 _ (hV.o.V.bz HB.o) l2 hA (by omega)).mono ?_;rintro e w1 ⟨r,rfl,oX,hB1⟩;obtain ⟨⟨F,n,f,G,m,g,rfl⟩,oX⟩:=oX;have HB1:=ax (bgo HB.o hB1);have hz1:=hB1.size;have OX:=ax oX;clear hB1 oX qk3 qk4 k3 k4
 cases hx:cellNF a A K2 with
 | none=>
  have E2:aJ (symB a 4 A B K2=none):=ax (by rw[E.o,hx];rfl);clear hx;(go_wp2_with fail);go_ret2;exact ⟨_,_,by rw[E2.o];rfl,by rw[E2.o];exact A2O.nil _ _,bbox HB1.o _⟩
 | some y=>
  have E2:aJ (symB a 4 A B K2=some [y]):=ax (by rw[E.o,hx];rfl);have OY:=ax (OX.o y hx);clear hx OX;(go_wp2_with fail);go_ret2;refine ⟨.slice (some ⟨w1.heap.size+1,0,none⟩) 1 1,[.slice F n f,.slice G m g],by rw[E2.o];rfl,?_,bbox (bbox HB1.o _) _⟩;rw[E2.o];refine A2O.one (Blk.newE ?_) ?_ (AsnO.bz (AsnO.lower OY.o (by omega)) bel)
  ·simp
  ·omega
theorem c_symBc {lo hi:Nat} (v:Value) (a:Asn) (k A B:Int) (t:Fct) (X1 X2 X3 X4:Option Addr) (n1 n2 n3 n4 d1 d2 d3 d4 K0:Nat) (w:World) (h:AsnC w lo hi v a) (hhi:hi≤w.heap.size) (hv:a.valid=true) (hK0:K0<512) (hA:isTermB A=true) (hk1:¬k=1) (hk4:¬k=4) :
  Calls Tryz.prog 96 #[v,.agg #[.int .i64 k,.int .i64 A,.int .i64 B,.bool t.eq,.int .i64 t.a,.int .i64 t.b,.slice X1 n1 d1,.slice X2 n2 d2,.slice X3 n3 d3,.slice X4 n4 d4],.int .u16 K0] w fun e w'=>∃ r vs,e=.returned (.tuple #[r,.bool (symB a k A B (keepK K0 A B)).isSome])∧A2O w' w.heap.size r vs ((symB a k A B (keepK K0 A B)).getD [])∧Below w.heap.size w w':=by
 have hV:=ax h;obtain ⟨A1,c1,A2,c2,rfl,-⟩:=h;have hvl:=valid_len hv;have HV:=ax hv;obtain ⟨K1,hK1⟩:∃ x,x=tins K0 A:=⟨_,rfl⟩;have l1:K1<512:=by rw[hK1];exact tins_lt hK0 _
 obtain ⟨K2,hK2⟩:∃ x,x=tins K1 B:=⟨_,rfl⟩;have l2:K2<512:=by rw[hK2];exact tins_lt l1 _
 have EK:aJ (keepK K0 A B=K2):=ax (by rw[hK2,hK1];rfl);rw[EK.o];replace hK1:=ax hK1;replace hK2:=ax hK2;clear hv EK;(go_enter Tryz.func96,Tryz.ntmps96);(go_upto_region 1 with fail);refine bx2 (w:=w) (F:=Code.wp _ _ _ _) ?_;rintro W k3 k4 HB hz;replace HB:=ax HB;refine wp_region_noPanic ?_;refine wp_region_held_drew (S:=(fun w'=>(∀ i,w'.cell? ⟨w.heap.size,i,none⟩=#[.slice A1 a.facts.length c1,.slice A2 a.atoms.length c2][i]?)∧(∀ i,w'.cell? ⟨w.heap.size+1,i,none⟩=#[.int .i64 k,.int .i64 A,.int .i64 B,.bool t.eq,.int .i64 t.a,.int .i64 t.b,.slice X1 n1 d1,.slice X2 n2 d2,.slice X3 n3 d3,.slice X4 n4 d4][i]?))) (by kernel_rfl) (⟨k3.drew.cell,k4.drew.cell⟩) (fun aH=>?_);refine tk2 0 rfl aH (h:=tk2 1 rfl aH (h:=tk2 2 rfl aH (h:=?_)));(try simp only[zz]);refine tk2 4 rfl aH (h:=tk2 5 rfl aH (h:=?_));refine rdc 3 rfl fun K hK=>?_;(try simp only[zz]);(go_simp;refine (c_impl_with K0 A _ hK0).mono ?_;rintro e w1 ⟨rfl,rfl⟩;rw[←hK1.o]);refine hK.out _ _ (⟨k3.drew.cell,k4.drew.cell⟩) ?_;clear aH hK K;intro aH;refine rdc 6 rfl fun K hK=>?_;(try simp only[zz]);(go_simp;refine (c_impl_with K1 B _ l1).mono ?_;rintro e w1 ⟨rfl,rfl⟩;rw[←hK2.o]);refine hK.out _ _ (⟨k3.drew.cell,k4.drew.cell⟩) ?_;clear aH hK K;intro aH;(try simp only[zz]);refine tk2 7 rfl aH (h:=?_);(try simp only[zz]);refine dn1 ?_;replace k3:=k3.drew;replace k4:=k4.drew;replace HB:=ax HB.o.drew;have hzd:W.drew.heap.size=W.heap.size:=rfl;clear aH hK1 hK2 l1;generalize W.drew=V at k3 k4 HB hzd ⊢;have E:=ax (symB_acc (a:=a) (A:=A) (B:=B) (K:=K2) hk1 hk4);have b1:(k == 1)=false:=beq_false_of_ne hk1;have b4:(k == 4)=false:=beq_false_of_ne hk4;obtain ⟨T,hT⟩:∃ x,x=symT k A B:=⟨_,rfl⟩;rw[←hT] at E;replace hT:=ax hT;clear hk1 hk4;(replace qk3:=k3.z;replace qk4:=k4.z);(go_upto_if 71 with fail)
 go_cut [12] (fun s12 wc=>s12=.int .i64 T∧wc=V)
 case first=>
  by_cases hk2:k=2
  ·have eT:aJ (T=B):=ax (by rw[hT.o,symT,if_pos hk2]);subst hk2;clear hT;(go_wp2_with fail);go_meet
   case rel=>exact ⟨by rw[eT.o],rfl⟩
  ·have eT:aJ (T=A):=ax (by rw[hT.o,symT,if_neg hk2]);have b2:(k == 2)=false:=beq_false_of_ne hk2;clear hT hk2;(go_wp2_with fail);go_meet
   case rel=>exact ⟨by rw[eT.o],rfl⟩
 case rest=>
  obtain ⟨rfl,rfl⟩:=hcut;clear hT;(go_wp2_with fail);refine (c_impl_expose 7 (Nat.le_refl _) a T K2 l2 (by omega) lo hi _ _ (hV.o.bz HB.o) (by omega) HV.o).mono ?_;rintro e w1 ⟨r,vs,rfl,oR,hB1⟩;have HB1:=ax (bgo HB.o hB1);have k41:=k4.nz hB1;have hz1:=hB1.size
  cases he:exposeF 7 a T K2 with
  | none=>
   rw[he] at oR;obtain ⟨R,c,rfl⟩:=oR.form;have E2:aJ (symB a k A B K2=none):=ax (by rw[E.o,he];rfl);clear he oR;(go_wp2_with fail);go_ret2;exact ⟨_,_,by rw[E2.o];rfl,by rw[E2.o];exact A2O.nil _ _,HB1.o⟩
  | some l=>
   rw[he] at oR;simp only[Option.getD_some] at oR;obtain ⟨R,c,rfl⟩:=oR.form;have E2:aJ (symB a k A B K2=mapF (fun x=>accF k A B x K2) l):=ax (by rw[E.o,he];rfl);have hll:l.length≤128:=(expose_ok he).1;have HE:=ax (expose_ent _ _ _ _ _ he);have OR:=ax oR;clear he oR E hB1 k3 k4 qk3 qk4 HB hV HV;(go_wp2_with fail)
   go_loopw [15,85] (fun rs i wr=>∃ (j:Nat) (R2:Option Addr) (r2:Nat) (ys:List Asn) (us:List Value),j≤l.length∧ys.length=j∧i=.int .i64 j∧rs=.slice R2 j r2∧aJ (∀ (q:Nat) (h1:q<ys.length) (h2:q<l.length),accF k A B l[q] K2=some ys[q])∧aJ (A2O wr w1.heap.size (.slice R2 j r2) us ys)∧aJ (Below w1.heap.size w1 wr)) (fun _ i _=>l.length - (intOf i).toNat)
   case atStart=>exact ⟨0,none,0,[],[],Nat.zero_le _,rfl,rfl,rfl,fun q h1=>absurd h1 (by simp),A2O.nil _ _,Below.refl _ _⟩
   case round=>
    obtain ⟨j,R2,r2,ys,us,hj,hyl,rfl,rfl,HY,OY,HBl⟩:=hrel;have HL:aJ (ys.length=j):=ax hyl;clear hyl;have hzr:=HBl.o.size;have k4r:=k41.nz HBl.o;by_cases hlt:j<l.length
    ·obtain ⟨gb,go,P,p,Q,q,rfl,hgl,q0,q1,hC⟩:=OR.o.atC hlt;obtain ⟨x,hx⟩:∃ x,x=l[j]:=⟨_,rfl⟩;rw[←hx] at q0 q1 hC;obtain ⟨hxv,-,xb,xr,hxa⟩:=HE.o x (by rw[hx];exact List.getElem_mem hlt);have hx0:0<x.atoms.length:=by rw[hxa];simp
     have hxl:=valid_len hxv;have HC:=ax hC;have hji:(j:Int)<(l.length:Int):=by omega
     have p0:wr.cell? ⟨gb,go+j*2,none⟩=some (.slice P x.facts.length p):=(HBl.o.cell (p:=⟨gb,go+j*2,none⟩) hgl).trans q0;have p1:wr.cell? ⟨gb,go+j*2+1,none⟩=some (.slice Q x.atoms.length q):=(HBl.o.cell (p:=⟨gb,go+j*2+1,none⟩) hgl).trans q1;have hgr:gb<wr.heap.size:=by omega
     replace hx:=ax hx;clear q0 q1 hC hxa hxv;(replace qk4r:=k4r.z);(go_wp2_with fail);refine (c_impl_accessed _ x k A B t X1 X2 X3 X4 n1 n2 n3 n4 d1 d2 d3 d4 K2 _ (HC.o.bz (bbox HBl.o _)) hx0 (by omega) l2 (fun _=>hA)).mono ?_;rintro e w2 ⟨r,rfl,oX,hB2⟩;obtain ⟨⟨F,n,f,G,m,g,rfl⟩,oX⟩:=oX;have OX:=ax oX;have hbx:Below wr.heap.size wr (wr.alloc (.cells #[.slice P x.facts.length p,.slice Q x.atoms.length q] tAs)):=bbox (Below.refl _ _) _;have HB2:=ax ((hbx.trans (hB2.mono hbx.size)));have hz2:=HB2.o.size;have OY2:=ax (OY.o.bz HB2.o);clear oX hB2 hbx p0 p1 qk4r
     cases hy:accF k A B x K2 with
     | none=>
      have E3:aJ (symB a k A B K2=none):=ax (by rw[E2.o];exact mapF_none hlt (by rw[←hx.o];exact hy));clear hy;(go_wp2_with fail);go_ret2;exact ⟨_,_,by rw[E3.o];rfl,by rw[E3.o];exact A2O.nil _ _,bbox (HB1.o.trans ((HBl.o.trans (HB2.o.mono hzr)).mono (by omega))) _⟩
     | some y=>
      have OX2:=ax (OX.o y hy)
      have HY2:aJ (∀ (q:Nat) (h1:q<(ys++[y]).length) (h2:q<l.length),accF k A B l[q] K2=some (ys++[y])[q]):=ax fun q h1 h2=>by
       have hl:=HL.o;by_cases e:q<ys.length
       ·rw[List.getElem_append_left e];exact HY.o q e h2
       ·have eq:q=j:=by simp at h1;omega
        subst eq;rw[List.getElem_append_right (by omega)];simp only[hl,Nat.sub_self,List.getElem_cons_zero];rw[←hx.o];exact hy
      have hjl:aJ (ys.length+1≤1049600):=ax (by have:=HL.o;omega);have OY3:aJ (A2O wr w1.heap.size (.slice R2 j r2) us ys):=OY;clear hy OX HY OY;(go_wp2_with (at_builtin;refine appA2 (w0:=wr) (base:=w1.heap.size) (mid:=wr.heap.size) (ss2:=[y]) rfl _ _ rfl rfl OY3.o (bbox (bbox HB2.o _) _) hzr (A2O.one (g:=w2.heap.size+1) (Blk.newE (by simp)) (by omega) (AsnO.bz (AsnO.lower OX2.o (by simp)) (bbox (bbox (Below.refl _ _) _) _))) (Nat.le_refl _) rfl hjl.o ?_;intro A3 c3 w3 hO3 hg3 hB3;have O3:=ax hO3;have HB3:=ax (((HBl.o.trans (HB2.o.mono hzr)).trans (Below.mono (bbox (bbox (Below.refl _ _) (.cells #[.slice F n f,.slice G m g] tAs)) (.cells #[.slice F n f,.slice G m g] tAs)) (by omega))).trans hB3);clear hO3 hg3 hB3;simp only[List.length_cons,List.length_nil,Nat.zero_add] at O3 ⊢;rw[HL.o] at O3 ⊢))
      go_round
      case rel=>exact ⟨j+1,A3,c3,ys++[y],_,by omega,by simp[HL.o],by go_num,rfl,HY2.o,O3.o,HB3.o⟩
      case measure=>simp[intOf];omega
    ·obtain rfl:j=l.length:=by omega
     have E3:aJ (symB a k A B K2=some ys):=ax (by rw[E2.o];exact mapF_some HL.o fun q h1 h2=>HY.o q h2 h1);(go_wp2_with fail);go_ret2;exact ⟨_,us,by rw[E3.o];rfl,by rw[E3.o];exact OY.o.lower (by omega),HB1.o.trans (HBl.o.mono (by omega))⟩
def okC (k A B:Int) (t:Fct) (i:Asn) (body els:Cms):Bool:=plainB t i body els&&fieldsB k A B
theorem okC_term {k A B:Int} {t:Fct} {i:Asn} {body els:Cms} (h:okC k A B t i body els=true):isTermB A=true∧isTermB B=true∧(1≤k∧k≤5):=by
 unfold okC fieldsB at h;rw[Bool.and_eq_true] at h;have hp:∀ x,isProgB x=true→isTermB x=true:=fun x hx=>by simp[isProgB] at hx;simp[isTermB];omega
 have h0:isTermB 0=true:=by decide
 have h2:=h.2
 split at h2
 ·rw[Bool.and_eq_true] at h2;exact ⟨hp _ h2.1,h2.2,by omega⟩
 ·split at h2
  ·rw[Bool.and_eq_true] at h2;exact ⟨h2.1,h2.2,by omega⟩
  ·split at h2
   ·rw[Bool.and_eq_true,decide_eq_true_eq] at h2;exact ⟨hp _ h2.1,by rw[h2.2];exact h0,by omega⟩
   ·split at h2
    ·rw[Bool.and_eq_true,decide_eq_true_eq] at h2;exact ⟨h2.1,by rw[h2.2];exact h0,by omega⟩
    ·cases h2
end
section
open Go Go.RowKit Go.Proofs
def Fct.neg (f:Fct):Fct:=⟨!f.eq,f.a,f.b⟩
def stepX (C:Asn→Int×List Asn):List Asn→List Asn→Int×List Asn
 | [],acc=>(0,acc)
 | a :: xs,acc=>if (C a).1≠0 then ((C a).1,[]) else if 24<acc.length+(C a).2.length then (1,[]) else stepX C xs (acc++(C a).2)
def wayX (a:Asn) (f:Fct) (B:List Asn→Int×List Asn) (acc:List Asn):Int×List Asn:=
 if (addF a f).valid then (if consB (addF a f) then (if (B [addF a f]).1≠0 then ((B [addF a f]).1,[]) else (0,acc++(B [addF a f]).2)) else (0,acc)) else (1,[])
def ifX (a:Asn) (t:Fct) (B E:List Asn→Int×List Asn):Int×List Asn:=if (wayX a t B []).1≠0 then wayX a t B [] else wayX a t.neg E (wayX a t B []).2
def keepsX (i:Asn) (t:Fct) (B:List Asn→Int×List Asn):Bool:=
 (addF i t).valid&&(!consB (addF i t) || (decide ((B [addF i t]).1=0)&&(B [addF i t]).2.all fun p=>entF p i))
def freeX2 (C:Nat) (g:Fct):Bool:=!C.testBit g.a.toNat && !C.testBit g.b.toNat
def outX (a i:Asn) (t:Fct) (C:Nat) (f:Asn):Asn:=⟨(a.facts.filter (freeX2 C)++i.facts)++[t.neg],i.atoms++f.atoms⟩
def loopX (a i:Asn) (t:Fct) (C:Nat) (B:List Asn→Int×List Asn):Int×Asn:=
 match frameF a i with
 | none=>(3,⟨[],[]⟩)
 | some f=>if tset (termsL f) &&& C≠0 then (3,⟨[],[]⟩) else if keepsX i t B then (if (outX a i t C f).valid then (0,outX a i t C f) else (1,⟨[],[]⟩)) else (4,⟨[],[]⟩)
def basX (K:Nat) (k A B:Int) (a:Asn):Int×List Asn:=
 match symB a k A B (keepK K A B) with
 | none=>(1,[])
 | some l=>(0,l.map (tidyF K))
def whileX (lp:Bool) (K:Nat) (a i:Asn) (t:Fct) (C:Nat) (B:List Asn→Int×List Asn):Int×List Asn:=
 if lp then (if (loopX a i t C B).1≠0 then ((loopX a i t C B).1,[]) else (0,[tidyF K (loopX a i t C B).2])) else (1,[])
def cmdX (lp:Bool) (K:Nat) (k A B:Int) (t:Fct) (i:Asn) (C:Nat) (BX EX:List Asn→Int×List Asn) (a:Asn):Int×List Asn:=
 if k=6 then ifX a t BX EX else if k=7 then whileX lp K a i t C BX else basX K k A B a
def Cms.exe (lp:Bool) (K:Nat):Cms→List Asn→Int×List Asn
 | .nil,now=>(0,now)
 | .cons k a b t i body els r,now=>
  if (stepX (cmdX lp K k a b t i (body.fold chF 0) (body.exe lp K) (els.exe lp K)) now []).1≠0 then (stepX (cmdX lp K k a b t i (body.fold chF 0) (body.exe lp K) (els.exe lp K)) now [])
  else r.exe lp K (stepX (cmdX lp K k a b t i (body.fold chF 0) (body.exe lp K) (els.exe lp K)) now []).2
structure ResX (n:Nat) (q:Int×List Asn):Prop where
 code:0≤q.1∧q.1≤4
 nil:q.1≠0→q.2=[]
 len:q.2.length≤n
 ok:∀ b∈q.2,b.valid=true
theorem ResX.err {n:Nat} {c:Int} (h:0≤c∧c≤4):ResX n (c,[]):=⟨h,fun _=>rfl,Nat.zero_le _,fun _ h=>by cases h⟩
theorem ResX.mono {n m:Nat} {q:Int×List Asn} (h:ResX n q) (e:n≤m):ResX m q:=⟨h.code,h.nil,Nat.le_trans h.len e,h.ok⟩
theorem stepX_ok {C:Asn→Int×List Asn} (hC:∀ a:Asn,a.valid=true→ResX 128 (C a)):∀ (xs acc:List Asn),(∀ a∈xs,a.valid=true)→(∀ a∈acc,a.valid=true)→acc.length≤24→ResX 24 (stepX C xs acc)
 | [],acc,_,h2,h3=>⟨by simp[stepX],fun _=>by simp[stepX] at *,h3,h2⟩
 | a :: xs,acc,h1,h2,h3=>by
  have hc:=hC a (h1 a List.mem_cons_self);unfold stepX
  split
  ·exact ResX.err hc.code
  split
  ·exact ResX.err (by decide)
  ·refine stepX_ok hC xs _ (fun b hb=>h1 b (List.mem_cons_of_mem _ hb)) (fun b hb=>?_) (by simp;omega);rcases List.mem_append.1 hb with hb|hb
   ·exact h2 b hb
   ·exact hc.ok b hb
theorem wayX_ok {a:Asn} {f:Fct} {B:List Asn→Int×List Asn} {acc:List Asn} {n:Nat} (hB:∀ x:Asn,x.valid=true→ResX 24 (B [x])) (h2:∀ b∈acc,b.valid=true) (hl:acc.length≤n):ResX (n+24) (wayX a f B acc):=by
 unfold wayX
 split
 ·rename_i hv;have hb:=hB _ hv
  split
  ·split
   ·exact ResX.err hb.code
   ·refine ⟨by simp,fun h=>absurd rfl h,by simp;have:=hb.len;omega,fun x hx=>?_⟩;rcases List.mem_append.1 hx with hx|hx
    ·exact h2 x hx
    ·exact hb.ok x hx
  ·exact ⟨by simp,fun h=>absurd rfl h,by simp;omega,h2⟩
 ·exact ResX.err (by decide)
theorem ifX_ok {a:Asn} {t:Fct} {B E:List Asn→Int×List Asn} (hB:∀ x:Asn,x.valid=true→ResX 24 (B [x])) (hE:∀ x:Asn,x.valid=true→ResX 24 (E [x])):ResX 48 (ifX a t B E):=by
 have h1:=wayX_ok (a:=a) (f:=t) (acc:=[]) (n:=0) hB (fun _ h=>by cases h) (Nat.le_refl _);unfold ifX
 split
 ·exact h1.mono (by omega)
 ·exact wayX_ok (n:=24) hE h1.ok (by have:=h1.len;omega)
theorem loopX_ok {a i:Asn} {t:Fct} {C:Nat} {B:List Asn→Int×List Asn}:(0≤(loopX a i t C B).1∧(loopX a i t C B).1≤4)∧((loopX a i t C B).1=0→(loopX a i t C B).2.valid=true)∧((loopX a i t C B).1≠0→(loopX a i t C B).2=⟨[],[]⟩):=by
 unfold loopX
 split
 ·exact ⟨by simp,by simp,by simp⟩
 ·split
  ·exact ⟨by simp,by simp,by simp⟩
  ·split
   ·split
    ·rename_i h;exact ⟨by simp,fun _=>h,by simp⟩
    ·exact ⟨by simp,by simp,by simp⟩
   ·exact ⟨by simp,by simp,by simp⟩
theorem basX_ok {K:Nat} {k A B:Int} {a:Asn} (hv:a.valid=true) (hB:k=3→isTermB B=true):ResX 128 (basX K k A B a):=by
 unfold basX
 split
 ·exact ResX.err (by decide)
 ·rename_i l h;obtain ⟨h1,h2⟩:=symB_ok hv hB h;refine ⟨by simp,fun h=>absurd rfl h,by simpa using h1,fun b hb=>?_⟩;obtain ⟨c,hc,rfl⟩:=List.mem_map.1 hb;exact tidy_valid (h2 c hc)
theorem cmdX_ok {lp:Bool} {K:Nat} {k A B:Int} {t:Fct} {i:Asn} {C:Nat} {BX EX:List Asn→Int×List Asn} (hB:∀ x:Asn,x.valid=true→ResX 24 (BX [x])) (hE:∀ x:Asn,x.valid=true→ResX 24 (EX [x])) (hk:k=3→isTermB B=true) {a:Asn} (hv:a.valid=true):ResX 128 (cmdX lp K k A B t i C BX EX a):=by
 unfold cmdX
 split
 ·exact (ifX_ok hB hE).mono (by omega)
 split
 ·unfold whileX;obtain ⟨h1,h2,-⟩:=loopX_ok (a:=a) (i:=i) (t:=t) (C:=C) (B:=BX)
  split
  ·split
   ·exact ResX.err h1
   ·rename_i hq;refine ⟨by simp,fun h=>absurd rfl h,by simp,fun b hb=>?_⟩;obtain rfl:=List.mem_singleton.1 hb;exact tidy_valid (h2 (by omega))
  ·exact ResX.err (by decide)
 ·exact basX_ok hv hk
theorem fvalB_store {k a b:Int} {t:Fct} {i:Asn} {body els:Cms} (h:fvalB k a b t i body els=true) (hk:k=3):isTermB b=true:=by
 subst hk;rw[fvalB_basic (by decide) (by decide)] at h;have hok:okC 3 a b t i body els=true:=h;exact (okC_term hok).2.1
theorem Cms.exe_ok {lp:Bool} {K:Nat}:∀ (L:Cms) (d:Nat) (now:List Asn),L.shape d=true→(∀ a∈now,a.valid=true)→now.length≤24→ResX 24 (L.exe lp K now)
 | .nil,_,now,_,h1,h2=>⟨by simp[Cms.exe],fun h=>by simp[Cms.exe] at h,h2,h1⟩
 | .cons k a b t i body els r,d,now,hs,h1,h2=>by
  simp only[Cms.shape,Bool.and_eq_true,decide_eq_true_eq] at hs;obtain ⟨-,hf,hb,he,hr⟩:=hs;have hB:∀ x:Asn,x.valid=true→ResX 24 (body.exe lp K [x]):=fun x hx=>Cms.exe_ok body _ [x] hb (fun y hy=>by obtain rfl:=List.mem_singleton.1 hy;exact hx) (by simp);have hE:∀ x:Asn,x.valid=true→ResX 24 (els.exe lp K [x]):=fun x hx=>Cms.exe_ok els _ [x] he (fun y hy=>by obtain rfl:=List.mem_singleton.1 hy;exact hx) (by simp);have h3:=stepX_ok (C:=cmdX lp K k a b t i (body.fold chF 0) (body.exe lp K) (els.exe lp K)) (fun x hx=>cmdX_ok hB hE (fvalB_store hf) hx) now [] h1 (fun _ h=>by cases h) (by simp);simp only[Cms.exe]
  split
  ·exact h3
  ·exact Cms.exe_ok r d _ hr h3.ok h3.len
theorem Cms.exe_one {lp:Bool} {K:Nat} {L:Cms} {d:Nat} (hs:L.shape d=true) {x:Asn} (hx:x.valid=true):ResX 24 (L.exe lp K [x]):=Cms.exe_ok L d [x] hs (fun y hy=>by obtain rfl:=List.mem_singleton.1 hy;exact hx) (by simp)
theorem asns_total {n:Nat} {l:List Asn} (hl:l.length≤n) (hn:n≤200) (h:∀ b∈l,b.valid=true):totA l≤16777216:=by
 have:=totA_le (n:=12) (m:=6) (ss:=l) fun s hs=>valid_len (h s hs);omega
def keepE (a:Asn) (L:Cms) (ks:List Int):Nat:=(tset ks|||logS (tset (termsL a)))|||logS (L.fold loF 0)
def strongP (a:Asn) (L:Cms) (ks:List Int):Int×List Asn:=if a.valid&&L.prog then L.exe true (keepE a L ks) [a] else (5,[])
def Cm1.one (x:Cm1):Cms:=.cons x.k x.a x.b x.t x.i x.body x.els .nil
theorem keepE_lt (a:Asn) (L:Cms) (ks:List Int):keepE a L ks<512:=
 Nat.or_lt_two_pow (n:=9) (Nat.or_lt_two_pow (n:=9) (tset_lt _) (logS_lt (tset_lt _))) (logS_lt (Cms.fold_lt (fun S k a b t i h=>loF_lt h k a b t i) L (by decide)))
theorem prog_sh {L:Cms} (h:L.prog=true):L.shape 4=true∧L.sz≤16:=by
 unfold Cms.prog at h;rw[Bool.and_eq_true,decide_eq_true_eq] at h;exact h
theorem exe_res {lp:Bool} {a:Asn} {L:Cms} {K:Nat} (hv:a.valid=true) (hp:L.prog=true):ResX 24 (L.exe lp K [a]):=Cms.exe_one (prog_sh hp).1 hv
theorem strongP_res (a:Asn) (L:Cms) (ks:List Int):(0≤(strongP a L ks).1∧(strongP a L ks).1≤5)∧((strongP a L ks).1≠0→(strongP a L ks).2=[])∧(strongP a L ks).2.length≤24∧∀ b∈(strongP a L ks).2,b.valid=true:=by
 unfold strongP
 split
 ·rename_i h;rw[Bool.and_eq_true] at h;have:=exe_res (lp:=true) (K:=keepE a L ks) h.1 h.2;exact ⟨⟨this.code.1,by have:=this.code.2;omega⟩,this.nil,this.len,this.ok⟩
 ·exact ⟨by simp,fun _=>rfl,Nat.zero_le _,fun _ h=>by cases h⟩
theorem strongP_tot (a:Asn) (L:Cms) (ks:List Int):totA (strongP a L ks).2≤16777216:=asns_total (strongP_res a L ks).2.2.1 (by decide) (strongP_res a L ks).2.2.2
end
section
open Go Go.RowKit Go.Proofs
attribute [local go_sem ↓] Go.wp_at_zero Go.wp_at_succ
def NowV (w:World) (A:Option Addr) (ss:List Asn):Prop:=∀ (k:Nat) (_:k<ss.length),∃ b o B c D d,A=some ⟨b,o,none⟩∧b<w.heap.size∧w.cell? ⟨b,o+k*2,none⟩=some (.slice B ss[k].facts.length c)∧w.cell? ⟨b,o+k*2+1,none⟩=some (.slice D ss[k].atoms.length d)∧AsnC w 0 w.heap.size (.agg #[.slice B ss[k].facts.length c,.slice D ss[k].atoms.length d]) ss[k]
theorem AsnC.mono0 {w:World} {lo hi:Nat} {v:Value} {a:Asn} (h:AsnC w lo hi v a) (hh:hi≤w.heap.size):AsnC w 0 w.heap.size v a:=by
 obtain ⟨A1,c1,A2,c2,e,h1,h2,h3⟩:=h;exact ⟨A1,c1,A2,c2,e,h1.mono (Nat.zero_le _) hh,h2.mono (Nat.zero_le _) hh,h3⟩
theorem NowV.bz {w w':World} {A:Option Addr} {ss:List Asn} (h:NowV w A ss) (hb:Below w.heap.size w w'):NowV w' A ss:=fun k hk=>by
 obtain ⟨b,o,B,c,D,d,e,lb,g0,g1,hC⟩:=h k hk;exact ⟨b,o,B,c,D,d,e,Nat.lt_of_lt_of_le lb hb.size,(hb.cell (p:=⟨b,_,none⟩) lb).trans g0,(hb.cell (p:=⟨b,_,none⟩) lb).trans g1,(hC.bz hb).mono0 hb.size⟩
theorem A2O.now {w:World} {base n c:Nat} {A:Option Addr} {vs:List Value} {ss:List Asn} (h:A2O w base (.slice A n c) vs ss):NowV w A ss:=fun k hk=>by
 obtain ⟨b,o,B,c,D,d,e,lb,g0,g1,hC⟩:=h.atC hk;exact ⟨b,o,B,c,D,d,e,lb,g0,g1,hC.mono0 (Nat.le_refl _)⟩
theorem NowV.one {w:World} {g:Nat} {s1 s2:Value} {s:Asn} (hk:Blk w g tAs #[s1,s2]) (h:AsnC w 0 w.heap.size (.agg #[s1,s2]) s):NowV w (some ⟨g,0,none⟩) [s]:=fun k hk1=>by
 have e:k=0:=by simp at hk1;exact hk1
 subst e;have h':=h;obtain ⟨A1,c1,A2,c2,ev,-⟩:=h';injection ev with ev;injection ev with ev;injection ev with ev1 ev2;injection ev2 with ev2;subst ev1;subst ev2;exact ⟨g,0,A1,c1,A2,c2,rfl,hk.lt,by rw[hk.cell];rfl,by rw[hk.cell];rfl,h⟩
theorem rowsA_set:∀ (ss:List Asn) (j:Nat) (s:Asn),j<ss.length→rowsA (ss.set j s)=((rowsA ss).set (j*2) (.inl s.facts)).set (j*2+1) (.inr s.atoms)
 | x :: ss,0,s,_=>by simp[rowsA]
 | x :: ss,j+1,s,h=>by
  have ih:=rowsA_set ss j s (by simpa using h);have e1:rowsA (x :: ss)=.inl x.facts :: .inr x.atoms :: rowsA ss:=rfl;have e2:rowsA ((x :: ss).set (j+1) s)=.inl x.facts :: .inr x.atoms :: rowsA (ss.set j s):=rfl;rw[e1,e2,ih,show (j+1)*2=j*2+1+1 by omega];rfl
theorem A2O.put {w:World} {base n c j:Nat} {A:Option Addr} {vs:List Value} {ss:List Asn} (h:A2O w base (.slice A n c) vs ss) (hj:j<ss.length):∃ g,A=some ⟨g,0,none⟩∧base≤g∧(∃ cur,Blk w g tAs cur∧j*2+1<cur.size)∧
  ∀ (s1 s2:Value) (s:Asn) (mid:Nat),AsnO w mid (.agg #[s1,s2]) s→base≤mid→(∀ (k:Nat) (hk:k<vs.length),Und vs[k] mid)→A2O ((w.setCell ⟨g,j*2,none⟩ s1).setCell ⟨g,j*2+1,none⟩ s2) base (.slice A n c) ((vs.set (j*2) s1).set (j*2+1) s2) (ss.set j s):=by
 have hlen:=h.els.len;have hrl:=rowsA_len ss;obtain ⟨hl,h2⟩:=h.row;rcases h2 with ⟨e,hn⟩|⟨g,cap,cur,e,hb,hh,hn,hm,hs,ht⟩
 ·omega
 ·injection e with e1 e2 e3;subst e1 e2 e3;have hK:Blk w g tAs cur:=hh
  have hP:Pre cur vs (ss.length * 2):=by
   intro i hi;rw[←ht,List.getElem?_take,if_pos hi];simp
  have hsz:ss.length * 2≤cur.size:=by rw[hs];exact Nat.mul_le_mul hn (Nat.le_refl _)
  refine ⟨g,rfl,hb,⟨cur,hK,by omega⟩,fun s1 s2 s mid hS hbm hU=>?_⟩;have ers:=rowsA_set ss j s hj;have hK1:=hK.set_ (j*2) s1;refine ⟨?_,by rw[List.length_set];exact h.lim,⟨?_,fun k k1 k2=>?_,fun i k hi hk hik x hx1 hx2=>?_⟩⟩
  ·rw[List.length_set];refine own_of_blk (hK1.set_ (j*2+1) s2) hb (by simp[hl]) ?_ hn hm (by simpa using hs);have hP1:=hP.setL (j*2) s1 hsz (by omega);exact hP1.setL (j*2+1) s2 (by simpa using hsz) (by simp;omega)
  ·rw[ers];simp[hlen]
  ·obtain ⟨_,_,e,n1,n2⟩:=hS;injection e with e;injection e with e;injection e with e1 e2;injection e2 with e2 e3;subst e1 e2;have n1':RowO w base s1 (.inl s.facts):=RowO.lower (show RowO w mid s1 (.inl s.facts) from n1) hbm;have n2':RowO w base s2 (.inr s.atoms):=RowO.lower (show RowO w mid s2 (.inr s.atoms) from n2) hbm;have up:∀ {u:Value} {r:RowT},RowO w base u r→RowO ((w.setCell ⟨g,j*2,none⟩ s1).setCell ⟨g,j*2+1,none⟩ s2) base u r:=fun hu=>(hu.setT hK (by decide) (by decide) _ _).setT hK1 (by decide) (by decide) _ _;simp only[List.length_set] at k1;have k2':k<(rowsA ss).length:=by omega
   generalize (w.setCell ⟨g,j*2,none⟩ s1).setCell ⟨g,j*2+1,none⟩ s2=W' at up ⊢
   have key:∀ (r:RowT),(rowsA (ss.set j s))[k]? = some r→RowO W' base (((vs.set (j*2) s1).set (j*2+1) s2)[k]'(by simpa using k1)) r:=fun r hr=>by
    rw[ers] at hr;by_cases c2:k=j*2+1
    ·subst c2;rw[List.getElem?_set_self (by simpa using k2')] at hr;obtain rfl:=Option.some.inj hr;rw[List.getElem_set_self];exact up n2'
    ·rw[List.getElem?_set_ne (by omega)] at hr;rw[List.getElem_set_ne (by omega)];by_cases c1:k=j*2
     ·subst c1;rw[List.getElem?_set_self (by simpa using k2')] at hr;obtain rfl:=Option.some.inj hr;rw[List.getElem_set_self];exact up n1'
     ·rw[List.getElem?_set_ne (by omega),List.getElem?_eq_getElem k2'] at hr;rw[List.getElem_set_ne (by omega)];obtain rfl:=Option.some.inj hr;exact up (h.els.at_ k k1 k2')
   exact key _ (List.getElem?_eq_getElem k2)
  ·obtain ⟨_,_,e,n1,n2⟩:=hS;injection e with e;injection e with e;injection e with e1 e2;injection e2 with e2 e3;subst e1 e2;have t1:∀ y,s1.ownBlock=some y→mid≤y:=fun y hy=>(n1.1.lt y hy).1;have t2:∀ y,s2.ownBlock=some y→mid≤y:=fun y hy=>(n2.1.lt y hy).1;simp only[List.length_set] at hi hk;rw[List.getElem_set,List.getElem_set] at hx1 hx2
   have cl:∀ (q:Nat) (hq:q<vs.length),(if j*2+1=q then s2 else if j*2=q then s1 else vs[q]).ownBlock=some x→(q=j*2+1∧s2.ownBlock=some x)∨(q=j*2∧s1.ownBlock=some x)∨((q≠j*2+1∧q≠j*2)∧vs[q].ownBlock=some x):=fun q hq hh=>by
    by_cases d2:j*2+1=q
    ·rw[if_pos d2] at hh;exact .inl ⟨d2.symm,hh⟩
    ·rw[if_neg d2] at hh;by_cases d1:j*2=q
     ·rw[if_pos d1] at hh;exact .inr (.inl ⟨d1.symm,hh⟩)
     ·rw[if_neg d1] at hh;exact .inr (.inr ⟨⟨fun e=>d2 e.symm,fun e=>d1 e.symm⟩,hh⟩)
   rcases cl i hi (by simpa only[List.getElem_set] using hx1) with ⟨a1,b1⟩|⟨a1,b1⟩|⟨a1,b1⟩<;>rcases cl k hk (by simpa only[List.getElem_set] using hx2) with ⟨a2,b2⟩|⟨a2,b2⟩|⟨a2,b2⟩
   ·omega
   ·omega
   ·have:=hU k hk x b2;have:=t2 x b1;omega
   ·exact own_ne n1.1 n2.1 (by decide) x b1 b2
   ·omega
   ·have:=hU k hk x b2;have:=t1 x b1;omega
   ·have:=hU i hi x b1;have:=t2 x b2;omega
   ·have:=hU i hi x b1;have:=t1 x b2;omega
   ·exact h.els.apart i k hi hk hik x b1 b2
theorem c_copyAsns (A:Option Addr) (c:Nat) (ss:List Asn) (w:World) (h:NowV w A ss) (hl:ss.length≤1000) :
  Calls Tryz.prog 129 #[.slice A ss.length c] w fun e w'=>∃ r vs,e=.returned r∧A2O w' w.heap.size r vs ss∧Below w.heap.size w w':=by
 have hmk:=mkAs0 ss.length (by unfold Lim;omega);have hO0:=madeAs w ss.length (by omega);have HO0:aJ (A2O (w.alloc (.cells (madeCells #[.slice none 0 0,.slice none 0 0] (ss.length * 2)) tAs)) w.heap.size (.slice (some ⟨w.heap.size,0,none⟩) 0 ss.length) [] []):=ax ⟨hO0,by simp[Lim],AEls.nil _ _⟩;have H:=ax h;clear h hO0;(go_enter Tryz.func129,Tryz.ntmps129);(go_wp2_with fail)
 go_loopw [3,11] (fun rs i wr=>∃ (j:Nat) (R:Option Addr) (r:Nat) (us:List Value),j≤ss.length∧i=.int .i64 j∧rs=.slice R j r∧aJ (A2O wr w.heap.size (.slice R j r) us (ss.take j))∧aJ (Below w.heap.size w wr)) (fun _ i _=>ss.length - (intOf i).toNat)
 case atStart=>exact ⟨0,some ⟨w.heap.size,0,none⟩,ss.length,[],Nat.zero_le _,rfl,rfl,by rw[List.take_zero];exact HO0,bbox (Below.refl _ _) _⟩
 case round=>
  obtain ⟨j,R,r,us,hj,rfl,rfl,HO,HB⟩:=hrel;have hzr:=HB.o.size;by_cases hlt:j<ss.length
  ·obtain ⟨b,o,P,p,Q,q,rfl,lb,g0,g1,hC⟩:=H.o.bz HB.o j hlt;have HT:aJ (ss.take (j+1)=ss.take j++[ss[j]]):=ax (List.take_succ_eq_append_getElem hlt);obtain ⟨s,hs⟩:∃ s,s=ss[j]:=⟨_,rfl⟩;rw[←hs] at g0 g1 hC HT;have HC:=ax hC;have hji:(j:Int)<(ss.length:Int):=by omega
   have HL:aJ ((ss.take j).length=j):=ax (by rw[List.length_take];omega);clear hs hC;(go_wp2_with fail);refine (c_impl_copyAssertion _ s _ (HC.o.V.bz (bbox (Below.refl _ _) _))).mono ?_;rintro e w2 ⟨r2,rfl,oS,hB2⟩;obtain ⟨F,f,G,g,rfl⟩:=oS.I.form;have OS:=ax oS;have hbx:Below wr.heap.size wr (wr.alloc (.cells #[.slice P s.facts.length p,.slice Q s.atoms.length q] tAs)):=bbox (Below.refl _ _) _;have HB2:=ax (hbx.trans (hB2.mono hbx.size));have hz2:=HB2.o.size;have HO2:aJ (A2O wr w.heap.size (.slice R j r) us (ss.take j)):=HO;have hjl:aJ ((ss.take j).length+1≤1049600):=ax (by rw[HL.o];omega);clear oS hB2 hbx g0 g1 HO;(go_wp2_with (at_builtin;refine appA2 (w0:=wr) (base:=w.heap.size) (mid:=wr.heap.size) (ss2:=[s]) rfl _ _ rfl rfl HO2.o (bbox HB2.o _) hzr (A2O.one (g:=w2.heap.size) (Blk.newE (by simp)) (by omega) (AsnO.bz (AsnO.lower OS.o (by simp)) (bbox (Below.refl _ _) _))) (Nat.le_refl _) rfl hjl.o ?_;intro A3 c3 w3 hO3 hg3 hB3;have O3:=ax hO3;have HB3:=ax (((HB.o.trans (HB2.o.mono hzr)).trans (Below.mono (bbox (Below.refl _ _) (.cells #[.slice F s.facts.length f,.slice G s.atoms.length g] tAs)) (by omega))).trans hB3);clear hO3 hg3 hB3;rw[←HT.o] at O3;simp only[List.length_cons,List.length_nil,Nat.zero_add] at O3 ⊢;rw[HL.o] at O3 ⊢))
   go_round
   case rel=>exact ⟨j+1,A3,c3,_,by omega,by go_num,rfl,O3.o,HB3.o⟩
   case measure=>simp[intOf];omega
  ·obtain rfl:j=ss.length:=by omega
   have HO2:aJ (A2O wr w.heap.size (.slice R ss.length r) us ss):=ax (by have:=HO.o;rwa [List.take_length] at this);clear HO;(go_wp2_with fail);go_ret;exact ⟨_,us,rfl,HO2.o,HB.o⟩
end
section
open Go Go.RowKit Go.Proofs
section
variable {B:Nat} {w a b:World}
end
end
section
open Go Go.RowKit Go.Proofs
attribute [local go_sem ↓] Go.wp_at_zero Go.wp_at_succ
theorem AsnV.mono1 {w:World} {lo hi:Nat} {v:Value} {a:Asn} (h:AsnV w lo hi v a) (hh:hi≤w.heap.size):AsnV w 0 w.heap.size v a:=h.mono0 hh
theorem AsnV.setT2 {w:World} {lo hi:Nat} {v:Value} {a:Asn} (h:AsnV w lo hi v a) {p:Addr} (hp:hi≤p.block) {q:Addr} (hq:hi≤q.block) (hh:hi≤w.heap.size) (u u':Value):AsnV ((w.setCell p u).setCell q u') lo hi v a:=by
 obtain ⟨A1,c1,A2,c2,e,h1,h2⟩:=h;exact ⟨A1,c1,A2,c2,e,h1.keepB (((Below.refl hi w).setCell hp u).setCell hq u') (Nat.le_refl _),h2.keepB (((Below.refl hi w).setCell hp u).setCell hq u') (Nat.le_refl _)⟩
theorem c_l10Forget {lo hi lo' hi':Nat} (v:Value) (a:Asn) (x:Int) (Bf:Option Addr) (cf K:Nat) (w:World) (h:AsnV w lo hi v a) (hhi:hi≤w.heap.size) (h':BoolsV w lo' hi' Bf (flagsOf K)) (hv:a.valid=true) (hx:isTermB x=true) :
  Calls Tryz.prog 163 #[v,.int .i64 x,.slice Bf 9 cf] w fun e w'=>∃ F f G g b p,e=.returned (.tuple #[.agg #[.slice F b.facts.length f,.slice G b.atoms.length g],.int .i64 p,.bool (forgetF a x K).isSome])∧AsnV w' 0 w'.heap.size (.agg #[.slice F b.facts.length f,.slice G b.atoms.length g]) b∧b.facts.length=a.facts.length∧b.atoms.length=a.atoms.length∧(∀ q,forgetF a x K=some q→q=(b,p))∧Below w.heap.size w w':=by
 have hV:=ax h;have HV:=ax hv;have HT:=ax (termsL_ok hv);have HF:=ax h';have hx8:=isTermB_iff.1 hx;obtain ⟨m,rfl⟩:=Int.eq_ofNat_of_zero_le hx8.1;obtain ⟨A1,c1,A2,c2,rfl,-,-⟩:=h;have E0:(m:Int).toNat=m:=Int.toNat_natCast m;have HE1:aJ ((tset (termsL a)).testBit m=false→forgetF a (m:Int) K=some (a,(m:Int))):=ax fun hb=>forget_has (by rw[E0];exact hb);have HE2:aJ ((tset (termsL a)).testBit m=true→newT (tset (termsL a)|||K)=none→forgetF a (m:Int) K=none):=ax fun hb hn=>forget_none (by rw[E0];exact hb) hn;have HE3:aJ ((tset (termsL a)).testBit m=true→∀ n,newT (tset (termsL a)|||K)=some n→forgetF a (m:Int) K=some (substA (m:Int) (n:Int) a,(n:Int))):=ax fun hb n hn=>forget_some (by rw[E0];exact hb) hn;clear hv h' E0;(go_enter Tryz.func163,Tryz.ntmps163);have k3:Blk ((w.alloc (.cells #[.slice A1 a.facts.length c1,.slice A2 a.atoms.length c2] tAs)).alloc (.cells #[.slice none 0 0,.slice none 0 0] tAs)) w.heap.size tAs #[.slice A1 a.facts.length c1,.slice A2 a.atoms.length c2]:=blks;have k6:Blk ((w.alloc (.cells #[.slice A1 a.facts.length c1,.slice A2 a.atoms.length c2] tAs)).alloc (.cells #[.slice none 0 0,.slice none 0 0] tAs)) (w.heap.size+1) tAs #[.slice none 0 0,.slice none 0 0]:=blks;(go_wp2_with fail);refine (c_spec_l3Terms _ a _ (hV.o.bz bel) HT.o).mono ?_;rintro e w1 ⟨r,rfl,oT,hB1⟩;have hB:=bgo (w:=w) bel hB1;replace k3:=k3.nz hB1;replace k6:=k6.nz hB1;have hz:=hB1.size;simp only[World.size_alloc] at hz;obtain ⟨Tb,ct,rfl,fT⟩:=oT.reads;rw[flagsOf_length];obtain ⟨pt,ot,rfl,lpt⟩:=flags_addr fT;have f1:=flags_at fT (m:=m) (by omega);have k9:(m:Int)<9:=by omega
 clear hB1 oT hx;cases hb:(tset (termsL a)).testBit m
 ·have E:=ax (HE1.o hb);rw[hb] at f1;clear hb HE1 HE2 HE3;(replace qk3:=k3.z;replace qk6:=k6.z);(go_wp2_with fail);have z6:=((k6.set_ 0 (.slice A1 a.facts.length c1)).set_ 1 (.slice A2 a.atoms.length c2)).cell;refine bodyPost_ret (v:=.tuple #[.agg #[.slice A1 a.facts.length c1,.slice A2 a.atoms.length c2],.int .i64 m,.bool true]) (by simp[results,Tryz.results163,go_sem,z6]) rfl ⟨A1,c1,A2,c2,a,m,by rw[E.o];rfl,?_,rfl,rfl,?_,?_⟩
  ·exact AsnV.mono1 (AsnV.setT2 (hV.o.bz hB) (by simp only;omega) (by simp only;omega) (by omega) _ _) (by simp;omega)
  ·intro q hq;rw[E.o] at hq;exact (Option.some.inj hq).symm
  ·exact bel
 ·have HBT:=ax hb;rw[hb] at f1;clear hb HE1;(replace qk3:=k3.z;replace qk6:=k6.z);(go_wp2_with fail);refine (c_l10New _ a Bf cf K _ (hV.o.bz hB) (HF.o.bz hB) HV.o).mono ?_;rintro e w3 ⟨rfl,hB3⟩;clear f1;(replace hB:=bgo hB hB3;replace k3:=k3.nz hB3;replace qk3:=k3.z;replace k6:=k6.nz hB3;replace qk6:=k6.z);have hz3:=hB3.size;clear hB3;obtain ⟨U,hU⟩:∃ U,U=unusedI (tset (termsL a)|||K):=⟨_,rfl⟩;rw[←hU]
  have HS:aJ ((newT (tset (termsL a)|||K)).isSome=(forgetF a (m:Int) K).isSome∧∀ q,forgetF a (m:Int) K=some q→q=(substA (m:Int) U a,U)):=ax (by
   cases hn:newT (tset (termsL a)|||K) with
   | none=>rw[HE2.o HBT.o hn];exact ⟨rfl,fun q hq=>by cases hq⟩
   | some n=>
    have e:U=(n:Int):=by rw[hU];unfold unusedI;rw[hn]
    rw[HE3.o HBT.o n hn,e]
    exact ⟨rfl,fun q hq=>(Option.some.inj hq).symm⟩)
  rw[HS.o.1];generalize hs:(forgetF a (m:Int) K).isSome=sm;replace hs:=ax hs;clear hU HE2 HE3 HBT;(go_wp2_with fail);refine (c_spec_l3Subst _ a (m:Int) U _ (hV.o.bz hB)).mono ?_;rintro e w4 ⟨r,rfl,oC,hB4⟩;obtain ⟨F,f,G,g,rfl⟩:=oC.I.form;have OC:=ax oC;(replace hB:=bgo hB hB4;replace k6:=k6.nz hB4;replace qk6:=k6.z);have hz4:=hB4.size;clear oC hB4 k3 qk3;(go_wp2_with fail);have z6:=((k6.set_ 0 (.slice F (substA (m:Int) U a).facts.length f)).set_ 1 (.slice G (substA (m:Int) U a).atoms.length g)).cell;refine bodyPost_ret (v:=.tuple #[.agg #[.slice F (substA (m:Int) U a).facts.length f,.slice G (substA (m:Int) U a).atoms.length g],.int .i64 U,.bool sm]) (by simp[results,Tryz.results163,go_sem,z6]) rfl ⟨F,f,G,g,substA (m:Int) U a,U,by rw[hs.o],?_,by simp[substA],by simp[substA],HS.o.2,?_⟩
  ·exact (AsnO.setT2 OC.o k6 _ _).reads.mono1 (Nat.le_refl _)
  ·exact bel
end
end Go.Proofs.YtgdfdmjnadnlnaaGreat
