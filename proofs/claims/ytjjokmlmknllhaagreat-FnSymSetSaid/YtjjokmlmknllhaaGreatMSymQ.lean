/- Exposing cells: the helpers of spec. -/
import Derived.Test.YtjjokmlmknllhaaGreatMImpS
import Derived.Test.YtjjokmlmknllhaaGreatMDrawT
import Derived.Deep.DeepCutAuto
import Derived.Test.YtjjokmlmknllhaaGreatMExpE
import Derived.Test.YtjjokmlmknllhaaGreatMTrans
set_option linter.unusedSimpArgs false
set_option linter.unusedVariables false
namespace Go.Proofs.YtjjokmlmknllhaaGreat
open Go Go.RowKit Go.Proofs
attribute [local go_sem ↓] Go.wp_at_zero Go.wp_at_succ
set_option maxRecDepth 100000 in
set_option maxHeartbeats 1600000 in
theorem c_l10Equal {lo hi:Nat} (v:Value) (a:Asn) (x y:Int) (w:World) (h:AsnV w lo hi v a):Calls Tryz.prog 149 #[v,.int .i64 x,.int .i64 y] w fun e w'=>e=.returned (.bool (impB a ⟨true,x,y⟩))∧Below w.heap.size w w':=by
 have hV:=Lib.hid h
 obtain ⟨A1,c1,A2,c2,rfl,-⟩:=h
 go_enter Tryz.func149,Tryz.ntmps149
 go_wp2_with fail
 refine (c_spec_Implies _ a ⟨true,x,y⟩ _ (hV.out.below bel)).mono ?_
 rintro e w1 ⟨rfl,hB1⟩
 have hB:=bgo (w:=w) bel hB1
 go_wp2_with fail
 go_ret
 exact ⟨rfl,hB⟩
set_option maxRecDepth 100000 in
set_option maxHeartbeats 1600000 in
theorem c_l10Front {lo hi:Nat} (v:Value) (a:Asn) (x:Atm) (i:Nat) (w:World) (h:AsnV w lo hi v a) (hv:a.valid=true) (hi':i<a.atoms.length) :
  Calls Tryz.prog 150 #[v,.agg #[.int .i64 x.kind,.int .i64 x.a,.int .i64 x.b],.int .i64 i] w fun e w'=>∃ F d G g,e=.returned (.agg #[.slice F a.facts.length d,.slice G a.atoms.length g])∧AsnO w' w.heap.size (.agg #[.slice F a.facts.length d,.slice G a.atoms.length g]) ⟨a.facts,[x]++withoutL a.atoms i⟩∧Below w.heap.size w w':=by
 have hV:=Lib.hid h
 obtain ⟨A1,c1,A2,c2,rfl,-⟩:=h
 have hvl:=valid_len hv
 have hwl:([x]++withoutL a.atoms i).length=a.atoms.length:=by have:=withoutL_len hi';simp;omega
 have HW:=Lib.hid hwl
 have HE:=Lib.hid (wo_one hi')
 clear hv hwl
 go_enter Tryz.func150,Tryz.ntmps150
 have kr:Blk (((w.alloc (.cells #[.slice A1 a.facts.length c1,.slice A2 a.atoms.length c2] tAs)).alloc (.cells #[.int .i64 x.kind,.int .i64 x.a,.int .i64 x.b] tA)).alloc (.cells #[.slice none 0 0,.slice none 0 0] tAs)) (w.heap.size+2) tAs #[.slice none 0 0,.slice none 0 0]:=blks
 go_wp2_with fail
 refine (c_l6WithoutF _ a i i x _ (hV.out.below bel) (by omega) (by omega)).mono ?_
 rw[HE.out]
 rintro e w1 ⟨r,rfl,o,hB1⟩
 have hB:=bgo (w:=w) bel hB1
 replace kr:=kr.next hB1
 clear hB1
 obtain ⟨fv,av,rfl,o1,o2⟩:=o
 obtain ⟨F,d,rfl,-⟩:=o1.reads
 obtain ⟨G,g,rfl,-⟩:=o2.reads
 simp only[HW.out] at o2 ⊢
 have O1:=Lib.hid (o1.lower (base':=w.heap.size) (by simp;omega))
 have O2:=Lib.hid (o2.lower (base':=w.heap.size) (by simp;omega))
 clear o1 o2
 (replace qkr:=kr.cell;replace rkr:=kr.frozen;replace lkr:=kr.lt)
 go_wp2_with fail
 refine bodyPost_ret (v:=.agg #[.slice F a.facts.length d,.slice G a.atoms.length g]) (by simp[results,Tryz.results150,go_sem,qkr]) rfl ⟨F,d,G,g,rfl,⟨_,_,rfl,?_,?_⟩,bel⟩
 ·exact (O1.out.setT kr (by decide) 0 _).setT (kr.set_ 0 _) (by decide) 1 _
 ·exact (O2.out.setT kr (by decide) 0 _).setT (kr.set_ 0 _) (by decide) 1 _
set_option maxRecDepth 100000 in
set_option maxHeartbeats 3200000 in
theorem c_l10Know {lo hi:Nat} (v:Value) (a:Asn) (x t:Int) (w:World) (h:AsnV w lo hi v a) (hl:a.facts.length≤1000) :
  Calls Tryz.prog 146 #[v,.int .i64 x,.int .i64 t] w fun e w'=>∃ F d G g,e=.returned (.agg #[.slice F (a.facts.length+1) d,.slice G a.atoms.length g])∧AsnO w' w.heap.size (.agg #[.slice F (a.facts.length+1) d,.slice G a.atoms.length g]) ⟨a.facts++[⟨true,x,t⟩],a.atoms⟩∧Below w.heap.size w w':=by
 have hV:=Lib.hid h
 obtain ⟨A1,c1,A2,c2,rfl,-⟩:=h
 go_enter Tryz.func146,Tryz.ntmps146
 have kr:Blk ((w.alloc (.cells #[.slice A1 a.facts.length c1,.slice A2 a.atoms.length c2] tAs)).alloc (.cells #[.slice none 0 0,.slice none 0 0] tAs)) (w.heap.size+1) tAs #[.slice none 0 0,.slice none 0 0]:=blks
 go_wp2_with fail
 refine (c_l3Copy _ a _ (hV.out.below bel)).mono ?_
 rintro e w1 ⟨r,rfl,o,hB1⟩
 have hB:=bgo (w:=w) bel hB1
 replace kr:=kr.next hB1
 have hs1:w.heap.size+2≤w1.heap.size:=by have:=hB1.size;simp at this;omega
 clear hB1
 obtain ⟨fv,av,rfl,o1,o2⟩:=o
 obtain ⟨F,d,rfl,-⟩:=o1.reads
 obtain ⟨G,g,rfl,-⟩:=o2.reads
 have O1:=Lib.hid (o1.lower (base':=w.heap.size) (by simp;omega))
 have O2:=Lib.hid (o2.lower (base':=w.heap.size) (by simp;omega))
 have HB:=Lib.hid hB
 clear o1 o2 hB
 go_upto_region 2 with fail
 have ko:Blk (w1.alloc (.cells #[.slice F a.facts.length d,.slice G a.atoms.length g] tAs)) w1.heap.size tAs #[.slice F a.facts.length d,.slice G a.atoms.length g]:=Blk.new _ _ _
 replace kr:=kr.alloc (.cells #[.slice F a.facts.length d,.slice G a.atoms.length g] tAs)
 replace O1:=Lib.hid (O1.out.below (bbox (Below.refl _ _) (.cells #[.slice F a.facts.length d,.slice G a.atoms.length g] tAs)))
 replace O2:=Lib.hid (O2.out.below (bbox (Below.refl _ _) (.cells #[.slice F a.facts.length d,.slice G a.atoms.length g] tAs)))
 replace HB:=Lib.hid (bbox HB.out (.cells #[.slice F a.facts.length d,.slice G a.atoms.length g] tAs))
 have hsw:w1.heap.size<(w1.alloc (.cells #[.slice F a.facts.length d,.slice G a.atoms.length g] tAs)).heap.size:=by simp
 generalize (w1.alloc (.cells #[.slice F a.facts.length d,.slice G a.atoms.length g] tAs))=W at ko kr O1 O2 HB hsw ⊢
 obtain ⟨y,hy⟩:∃ y,y=w1.heap.size:=⟨_,rfl⟩
 rw[←hy] at ko hs1 hsw ⊢
 clear hy
 (replace qko:=ko.cell;replace rko:=ko.frozen;replace lko:=ko.lt;replace qkr:=kr.cell;replace rkr:=kr.frozen;replace lkr:=kr.lt)
 go_wp2_with (at_builtin;refine appFL (ys:=[⟨true,x,t⟩]) (base:=w.heap.size) rfl _ _ rfl rfl (O1.out.below bel) rfl (FactsV.one (f:=⟨true,x,t⟩) (Blk.new W tF _)) (by simp;omega) (by simp;omega) ?_;intro A6 c6 w6 o6 hg6 hB6;have kO:=O1.out.below (w':=W.alloc (.cells #[.bool true,.int .i64 x,.int .i64 t] tF)) bel;have ko6:=Blk.grownO (hg:=hg6) (ko.alloc _) kO.1 (by decide);have kr6:=Blk.grownO (hg:=hg6) (kr.alloc _) kO.1 (by decide);have O26:Hid (AtomsO w6 w.heap.size (.slice G a.atoms.length g) a.atoms):=Lib.hid ⟨own_grownO (O2.out.below (w':=W.alloc (.cells #[.bool true,.int .i64 x,.int .i64 t] tF)) bel).1 kO.1 hg6 (by decide),O2.out.2⟩;have HB6:Hid (Below w.heap.size w w6):=Lib.hid ((bbox HB.out _).trans hB6);have O16:=Lib.hid o6;clear hB6 hg6 o6 kO qko rko lko qkr rkr lkr;(replace qko6:=ko6.cell;replace rko6:=ko6.frozen;replace lko6:=ko6.lt;replace qkr6:=kr6.cell;replace rkr6:=kr6.frozen;replace lkr6:=kr6.lt))
 simp only[List.length_append,List.length_cons,List.length_nil,Nat.zero_add] at O16 ⊢
 refine bodyPost_ret (v:=.agg #[.slice A6 (a.facts.length+1) c6,.slice G a.atoms.length g]) (by simp[results,Tryz.results146,go_sem,qkr6]) rfl ⟨A6,c6,G,g,rfl,⟨_,_,rfl,?_,?_⟩,?_⟩
 ·have kr7:=kr6.far (p:=⟨y,0,none⟩) (by simp only;omega) (.slice A6 (a.facts.length+1) c6)
  exact ((O16.out.setT ko6 (by decide) 0 _).setT kr7 (by decide) 0 _).setT (kr7.set_ 0 _) (by decide) 1 _
 ·have kr7:=kr6.far (p:=⟨y,0,none⟩) (by simp only;omega) (.slice A6 (a.facts.length+1) c6)
  exact ((O26.out.setT ko6 (by decide) 0 _).setT kr7 (by decide) 0 _).setT (kr7.set_ 0 _) (by decide) 1 _
 ·exact ((HB6.out.setCell (p:=⟨y,0,none⟩) (by simp only;omega) _).setCell (p:=⟨w.heap.size+1,0,none⟩) (by simp only;omega) _).setCell (p:=⟨w.heap.size+1,1,none⟩) (by simp only;omega) _
set_option maxRecDepth 100000 in
set_option maxHeartbeats 3200000 in
theorem c_l10New {lo hi lo' hi':Nat} (v:Value) (a:Asn) (B:Option Addr) (c K:Nat) (w:World) (h:AsnV w lo hi v a) (h':BoolsV w lo' hi' B (flagsOf K)) (hv:a.valid=true) :
  Calls Tryz.prog 122 #[v,.slice B 9 c] w fun e w'=>e=.returned (.tuple #[.int .i64 (unusedI (tset (termsL a)|||K)),.bool (newT (tset (termsL a)|||K)).isSome])∧Below w.heap.size w w':=by
 have hV:=Lib.hid h
 have HT:=Lib.hid (termsL_ok hv)
 have h'':=Lib.hid h'
 obtain ⟨pb,ob,rfl,lpb⟩:=flags_addr h'
 obtain ⟨A1,c1,A2,c2,rfl,h1,h2⟩:=h
 clear hv h1 h2
 go_enter Tryz.func122,Tryz.ntmps122
 go_wp2_with fail
 refine (c_spec_l3Terms _ a _ (hV.out.below bel) HT.out).mono ?_
 rintro e w1 ⟨r,rfl,oT,hB1⟩
 have hB:=bgo (w:=w) bel hB1
 have fC:=h''.out.below hB
 generalize hTe:tset (termsL a)=T at oT
 have HTE:=Lib.hid hTe
 clear hTe
 obtain ⟨Tb,ct,rfl,fT⟩:=oT.reads
 rw[flagsOf_length]
 obtain ⟨pt,ot,rfl,lpt⟩:=flags_addr fT
 clear hB1 oT h' h''
 go_wp2_with fail
 go_loop [7] (fun i=>∃ k:Nat,5≤k∧k≤9∧i=.int .i64 k∧Hid (∀ j,5≤j→j<k→(T|||K).testBit j=true)) (fun i=>10 - (intOf i).toNat)
 case atStart=>exact ⟨5,by omega,by omega,rfl,Lib.hid fun j h1 h2=>by omega⟩
 case round=>
  obtain ⟨k,h5,h9,rfl,HA⟩:=hrel
  by_cases hlt:k<9
  ·have hki:(k:Int)≤8:=by omega
   have f1:=flags_at fT (m:=k) (by omega)
   have f2:=flags_at fC (m:=k) (by omega)
   have k9:(k:Int)<9:=by omega
   have HBit:Hid ((T|||K).testBit k=(T.testBit k || K.testBit k)):=Lib.hid (Nat.testBit_or ..)
   have HN:Hid ((T|||K).testBit k=true→∀ j,5≤j→j<k+1→(T|||K).testBit j=true):=Lib.hid fun hb j h1 h2=>by
    by_cases e:j=k
    ·rw[e];exact hb
    ·exact HA.out j h1 (by omega)
   cases ht:T.testBit k
   ·cases hc:K.testBit k
    ·have E:=Lib.hid (newT_yes h5 (by omega) HA.out (by rw[HBit.out,ht,hc];rfl))
     rw[ht] at f1
     rw[hc] at f2
     clear ht hc HA HN HBit
     go_wp2_with fail
     go_ret2
     exact ⟨by unfold unusedI;rw[HTE.out,E.out];rfl,hB⟩
    ·have HN2:=Lib.hid (HN.out (by rw[HBit.out,ht,hc];rfl))
     rw[ht] at f1
     rw[hc] at f2
     clear ht hc HA HN HBit
     go_wp2_with fail
     go_round
     case rel=>exact ⟨k+1,by omega,by omega,by go_num,HN2⟩
     case measure=>simp[intOf];omega
   ·have HN2:=Lib.hid (HN.out (by rw[HBit.out,ht];rfl))
    rw[ht] at f1
    clear ht HA HN HBit
    go_wp2_with fail
    go_round
    case rel=>exact ⟨k+1,by omega,by omega,by go_num,HN2⟩
    case measure=>simp[intOf];omega
  ·obtain rfl:k=9:=by omega
   have E:=Lib.hid (newT_no (S:=T|||K) fun j h1 h2=>HA.out j h1 (by omega))
   go_wp2_with fail
   go_ret2
   exact ⟨by unfold unusedI;rw[HTE.out,E.out];rfl,hB⟩
end Go.Proofs.YtjjokmlmknllhaaGreat

/- Exposing cells: spec.l10Unfold. -/
namespace Go.Proofs.YtjjokmlmknllhaaGreat
open Go Go.RowKit Go.Proofs
attribute [local go_sem ↓] Go.wp_at_zero Go.wp_at_succ
theorem AsnO.parts {w:World} {b:Nat} {f g:Value} {a:Asn} (h:AsnO w b (.agg #[f,g]) a):FactsO w b f a.facts∧AtomsO w b g a.atoms:=by
 obtain ⟨_,_,e,h1,h2⟩:=h
 injection e with e
 injection e with e
 injection e with e1 e2
 injection e2 with e2 e3
 subst e1 e2
 exact ⟨h1,h2⟩
section
variable {ops:Array Oper} {o:Oper} {a:Act} {K:Act→World→Prop} {Q:Exit→Act→World→Prop} {E:Prop} {w:World} {base lo hi c n m:Nat} {v:Value} {A:Option Addr}
theorem stepALm (hgd:o.guard=none) (s x:Operand) (ho:o.op=.call { callee:=.builtin .append,args:=#[s,x],argTypes:=#[32,32] })
  {xs ys zs:List Atm} (hs:a.eval s=v) (hown:AtomsO w base v xs) (hx:a.eval x=.slice A m c) (hm:m=ys.length) (hR:AtomsV w lo hi A ys) (hz:zs=xs++ys) (hn:n=zs.length) (hl:n≤1049600) (hb:base≤w.heap.size)
  (h:∀ A' c' w',AtomsO w' base (.slice A' n c') zs→w.grownBy w' v.ownBlock→Below base w w'→K (a.put o.dst (.slice A' n c')) w'):if Region.wanted o (yielded ops a.tmps)=true then Oper.wp Tryz.prog o a w K Q else E:=by
 subst hm hz hn
 refine stepAL hgd s x ho hs hown hx hR (by rwa [List.length_append] at hl) hb h
end
def OpC (n:Nat) (a:Asn) (t:Int) (K:Nat):Prop:=∀ (lo hi lo' hi':Nat) (v:Value) (B:Option Addr) (c:Nat) (w:World),AsnC w lo hi v a→BoolsV w lo' hi' B (flagsOf (tins K t))→a.facts.length≤1000→a.atoms.length≤1000→
 Calls Tryz.prog 84 #[v,.int .i64 t,.slice B 9 c,.int .i64 (n:Int)] w fun e w'=>∃ r vs l,e=.returned (.tuple #[r,.bool (exposeF n a t K).isSome])∧A2O w' w.heap.size r vs l∧l.length≤2 ^ n∧(exposeF n a t K=none∨exposeF n a t K=some l)∧Below w.heap.size w w'
def UnC (n:Nat) (a:Asn) (x:Atm) (i:Nat) (t:Int) (K:Nat):Prop:=∀ (lo hi lo' hi':Nat) (v:Value) (B:Option Addr) (c:Nat) (w:World),AsnC w lo hi v a→BoolsV w lo' hi' B (flagsOf (tins K t))→
 Calls Tryz.prog 151 #[v,.int .i64 t,.slice B 9 c,.int .i64 ((n:Int)+1),.int .i64 i] w fun e w'=>∃ r vs l,e=.returned (.tuple #[r,.bool (listF n a x i t K).isSome])∧A2O w' w.heap.size r vs l∧l.length≤2 ^ (n+1)∧(listF n a x i t K=none∨listF n a x i t K=some l)∧Below w.heap.size w w'
set_option maxRecDepth 100000 in
set_option maxHeartbeats 12800000 in
theorem c_l10Unfold (n:Nat) (a:Asn) (x:Atm) (i:Nat) (t:Int) (Ks:Nat) (hv:a.valid=true) (hx:a.atoms[i]? = some x) (hn:n≤6)
  (HE:OpC n (emptyX a x i) t Ks) (HF:∀ m:Nat,OpC n (fullX a x i (m:Int)) t Ks):UnC n a x i t Ks:=by
 intro lo hi0 lo' hi' v B cB w h hB0
 have hV:=Lib.hid h
 have HFL:=Lib.hid hB0
 obtain ⟨A1,c1,A2,c2,rfl,h1,h2,hcap⟩:=h
 have hvl:=valid_len hv
 have HVa:=Lib.hid hv
 obtain ⟨hi,hxe⟩:=List.getElem?_eq_some_iff.1 hx
 have hwl:=withoutL_len hi
 obtain ⟨b,o,rfl,-⟩:=h2.at hi
 have HV2:=Lib.hid h2
 have hii:(i:Int)<(a.atoms.length:Int):=by omega
 have hw:IntKind.i64.wrap ((i:Int)+1)=(i:Int)+1:=IntWalk.i64_in _ (by omega)
 have hs1:=sliceAh b o a.atoms.length c2 i (by omega)
 obtain ⟨A',hs2,hA'⟩:=sliceAl b o a.atoms.length c2 (i+1) (by omega) hcap
 push_cast at hs2
 have hT:=Lib.hid (h2.take_ (k:=i) (by omega))
 have hD:Hid (AtomsV w lo _ A' (a.atoms.drop (i+1))):=Lib.hid (by
  by_cases hlt:i+1<a.atoms.length
  ·rw[hA' (by omega)]
   exact h2.drop_ (by omega)
  ·rw[List.drop_eq_nil_of_le (by omega)]
   exact Rd.nil _ _ _ _ _)
 have HL1:Hid ((a.atoms.take i).length=i):=Lib.hid (by rw[List.length_take];omega)
 have HL2:Hid ((a.atoms.drop (i+1)).length=a.atoms.length - (i+1)):=Lib.hid List.length_drop
 have HHi:=Lib.hid hi
 have HEH:=Lib.hid HE
 have HFH:=Lib.hid HF
 have HN:=Lib.hid (Nat.pow_le_pow_right (show 0<2 from by decide) hn)
 have HX:=Lib.hid hxe
 clear h1 h2 HE HF hx hv hB0 hA' hxe
 go_enter Tryz.func151,Tryz.ntmps151
 have k0:Blk (w.alloc (.cells #[.slice A1 a.facts.length c1,.slice (some ⟨b,o,none⟩) a.atoms.length c2] tAs)) w.heap.size tAs #[.slice A1 a.facts.length c1,.slice (some ⟨b,o,none⟩) a.atoms.length c2]:=blks
 have hs1':=Lib.hid hs1
 have hs2':=Lib.hid hs2
 have hw':=Lib.hid hw
 clear hs1 hs2 hw
 go_wp2_with fail
 refine (c_l10New _ a B cB (tins Ks t) _ (hV.out.V.below bel) (HFL.out.below bel) HVa.out).mono ?_
 rintro e w1 ⟨rfl,hB1⟩
 have HB:=Lib.hid (bgo (w:=w) bel hB1)
 replace k0:=k0.next hB1
 have hz1:w.heap.size+1≤w1.heap.size:=by have:=hB1.size;simp at this;omega
 clear hB1
 cases hnt:newT (tset (termsL a)|||tins Ks t)
 case none=>
  have E:=Lib.hid (list_none (n:=n) (x:=x) (i:=i) hnt)
  clear hnt
  go_wp2_with fail
  go_ret2
  exact ⟨_,[],[],by rw[E.out];rfl,(A2O.empty w1 rfl).lower (by omega),Nat.zero_le _,.inl E.out,bbox HB.out _⟩
 case some m=>
  have EI:unusedI (tset (termsL a)|||tins Ks t)=(m:Int):=by unfold unusedI;rw[hnt]
  rw[EI]
  clear EI
  have HNT:=Lib.hid hnt
  clear hnt
  (replace qk0:=k0.cell;replace rk0:=k0.frozen;replace lk0:=k0.lt)
  obtain ⟨b',o',hbo,g0,g1,g2⟩:=(HV2.out.below HB.out).at HHi.out
  injection hbo with hbo
  injection hbo with hb1 hb2
  subst hb1 hb2
  rw[HX.out] at g0 g1 g2
  go_upto_region 5 with fail
  clear qk0 rk0 lk0 g0 g1 g2
  have hbq:=bbox (Below.refl w1.heap.size w1) (.cells #[.int .i64 x.kind,.int .i64 x.a,.int .i64 x.b] tA)
  have kx:Blk (w1.alloc (.cells #[.int .i64 x.kind,.int .i64 x.a,.int .i64 x.b] tA)) w1.heap.size tA #[.int .i64 x.kind,.int .i64 x.a,.int .i64 x.b]:=Blk.new _ _ _
  replace k0:=k0.next hbq
  replace HB:=Lib.hid (bgo HB.out hbq)
  have hzw:(w1.alloc (.cells #[.int .i64 x.kind,.int .i64 x.a,.int .i64 x.b] tA)).heap.size=w1.heap.size+1:=by simp
  clear hbq
  generalize w1.alloc (.cells #[.int .i64 x.kind,.int .i64 x.a,.int .i64 x.b] tA)=W1 at k0 kx HB hzw ⊢
  obtain ⟨yx,hyx⟩:∃ y,y=w1.heap.size:=⟨_,rfl⟩
  rw[←hyx] at kx hzw ⊢
  have hyw:w.heap.size<yx:=by omega
  clear hyx hz1
  (replace qk0:=k0.cell;replace rk0:=k0.frozen;replace lk0:=k0.lt)
  go_wp2_with fail
  refine (c_l3Copy _ a _ (hV.out.V.below HB.out)).mono ?_
  rintro e w2 ⟨r,rfl,oc,hB2⟩
  obtain ⟨fv,av,rfl,o1,o2⟩:=oc
  obtain ⟨F,d,rfl,-⟩:=o1.reads
  obtain ⟨G,g,rfl,-⟩:=o2.reads
  have O1:=Lib.hid (o1.lower (base':=w.heap.size) (by omega))
  clear o1 o2
  replace k0:=k0.next hB2
  replace kx:=kx.next hB2
  replace HB:=Lib.hid (bgo HB.out hB2)
  have hz2:=hB2.size
  clear hB2 qk0 rk0 lk0
  go_upto_region 6 with fail
  have hbq:=bbox (Below.refl w2.heap.size w2) (.cells #[.slice F a.facts.length d,.slice G a.atoms.length g] tAs)
  have kE:Blk (w2.alloc (.cells #[.slice F a.facts.length d,.slice G a.atoms.length g] tAs)) w2.heap.size tAs #[.slice F a.facts.length d,.slice G a.atoms.length g]:=Blk.new _ _ _
  replace k0:=k0.next hbq
  replace kx:=kx.next hbq
  replace O1:=Lib.hid (O1.out.below hbq)
  replace HB:=Lib.hid (bgo HB.out hbq)
  have hz3:(w2.alloc (.cells #[.slice F a.facts.length d,.slice G a.atoms.length g] tAs)).heap.size=w2.heap.size+1:=by simp
  clear hbq
  generalize (w2.alloc (.cells #[.slice F a.facts.length d,.slice G a.atoms.length g] tAs))=W2 at k0 kx kE O1 HB hz3 ⊢
  obtain ⟨yE,hyE⟩:∃ y,y=w2.heap.size:=⟨_,rfl⟩
  rw[←hyE] at kE hz3 ⊢
  have hyE2:yx<yE:=by omega
  have hyE3:yE<W2.heap.size:=by omega
  clear hyE hz2 hzw hz3
  (replace qkE:=kE.cell;replace rkE:=kE.frozen;replace lkE:=kE.lt;replace qkx:=kx.cell;replace rkx:=kx.frozen;replace lkx:=kx.lt)
  go_upto_region 7 with (at_builtin;refine appFL (ys:=[⟨true,x.a,x.b⟩]) (base:=w.heap.size) rfl _ _ rfl rfl (O1.out.below bel) rfl (FactsV.one (f:=⟨true,x.a,x.b⟩) (Blk.new W2 tF _)) (by simp<;>omega) (by simp<;>omega) ?_;intro A6 c6 w6 o6 hg6 hB6;have kO:=O1.out.below (w':=W2.alloc (.cells #[.bool true,.int .i64 x.a,.int .i64 x.b] tF)) bel;have kE6:=Blk.grownO (hg:=hg6) (kE.alloc _) kO.1 (by decide);have k06:=Blk.grownO (hg:=hg6) (k0.alloc _) kO.1 (by decide);have kx6:=Blk.grownO (hg:=hg6) (kx.alloc _) kO.1 (by decide);have HB6:Hid (Below w.heap.size w w6):=Lib.hid ((bbox HB.out _).trans hB6);have O16:=Lib.hid o6;have hz6:W2.heap.size+1≤w6.heap.size:=(by have:=hg6.size;simp at this;omega);clear hB6 hg6 o6 kO qkE rkE lkE qkx rkx lkx;(replace qkE6:=kE6.cell;replace rkE6:=kE6.frozen;replace lkE6:=kE6.lt))
  simp only[List.length_append,List.length_cons,List.length_nil,Nat.zero_add] at O16 ⊢
  have kE7:Blk (w6.setCell ⟨yE,0,none⟩ (.slice A6 (a.facts.length+1) c6)) yE tAs #[.slice A6 (a.facts.length+1) c6,.slice G a.atoms.length g]:=by
   have:=kE6.set_ 0 (.slice A6 (a.facts.length+1) c6)
   simpa using this
  have k07:=k06.far (p:=⟨yE,0,none⟩) (by simp only;omega) (.slice A6 (a.facts.length+1) c6)
  have kx7:=kx6.far (p:=⟨yE,0,none⟩) (by simp only;omega) (.slice A6 (a.facts.length+1) c6)
  have O17:=Lib.hid (O16.out.setT kE6 (by decide) 0 (.slice A6 (a.facts.length+1) c6))
  have HB7:=Lib.hid (HB6.out.setCell (p:=⟨yE,0,none⟩) (by simp only;omega) (.slice A6 (a.facts.length+1) c6))
  have hz7:W2.heap.size+1≤(w6.setCell ⟨yE,0,none⟩ (.slice A6 (a.facts.length+1) c6)).heap.size:=by simpa using hz6
  clear k0 kx kE O1 HB kE6 k06 kx6 O16 HB6 hz6 qkE6 rkE6 lkE6
  generalize (w6.setCell ⟨yE,0,none⟩ (.slice A6 (a.facts.length+1) c6))=W7 at kE7 k07 kx7 O17 HB7 hz7 ⊢
  clear w6
  have hs1:=hs1'.out
  have hs2:=hs2'.out
  have hw:=hw'.out
  (replace qk07:=k07.cell;replace rk07:=k07.frozen;replace lk07:=k07.lt;replace qkE7:=kE7.cell;replace rkE7:=kE7.frozen;replace lkE7:=kE7.lt)
  go_wp2_with fail
  clear qk07 rk07 lk07
  refine wp_region_noPanic ?_
  refine wp_region_held_drew (S:=(fun w'=>∀ i,w'.cell? ⟨w.heap.size,i,none⟩=#[.slice A1 a.facts.length c1,.slice (some ⟨b,o,none⟩) a.atoms.length c2][i]?)) (by kernel_rfl) (k07.drew.cell) (fun hHeld=>?_)
  have HBQ:Hid (Below W7.heap.size W7 W7.drew):=Lib.hid (Below.refl _ _).drew
  have hzq:W7.heap.size≤W7.drew.heap.size:=Nat.le_refl _
  clear qkE7 rkE7 lkE7
  generalize W7.drew=wq at HBQ hzq hHeld ⊢
  refine tk 1 ?_ rfl (fun w hSw=>?_) hHeld ?_
  rotate_left
  ·((try dsimp only at hSw);go_split_ands;go_simp;(try with_reducible rfl))
  try simp only[Act.put,zA,zB,zC,zD,zE,zF]
  refine tk 2 ?_ rfl (fun w hSw=>?_) hHeld ?_
  rotate_left
  ·((try dsimp only at hSw);go_split_ands;go_simp;(try with_reducible rfl))
  try simp only[Act.put,zA,zB,zC,zD,zE,zF]
  refine tk 3 ?_ rfl (fun w hSw=>?_) hHeld ?_
  rotate_left
  ·((try dsimp only at hSw);go_split_ands;go_simp;(try with_reducible rfl))
  try simp only[Act.put,zA,zB,zC,zD,zE,zF]
  refine tk 4 ?_ rfl (fun w hSw=>?_) hHeld ?_
  rotate_left
  ·((try dsimp only at hSw);go_split_ands;go_simp;(try with_reducible rfl))
  try simp only[Act.put,zA,zB,zC,zD,zE,zF]
  refine tk 6 ?_ rfl (fun w hSw=>?_) hHeld ?_
  rotate_left
  ·((try dsimp only at hSw);go_split_ands;go_simp;(try with_reducible rfl))
  try simp only[Act.put,zA,zB,zC,zD,zE,zF]
  refine tk 7 ?_ rfl (fun w hSw=>?_) hHeld ?_
  rotate_left
  ·((try dsimp only at hSw);go_split_ands;go_simp;(try with_reducible rfl))
  try simp only[Act.put,zA,zB,zC,zD,zE,zF]
  refine tk 8 ?_ rfl (fun w hSw=>?_) hHeld ?_
  rotate_left
  ·((try dsimp only at hSw);go_split_ands;go_simp;(try with_reducible rfl))
  try simp only[Act.put,zA,zB,zC,zD,zE,zF]
  refine tk 9 ?_ rfl (fun w hSw=>?_) hHeld ?_
  rotate_left
  ·((try dsimp only at hSw);go_split_ands;go_simp;(try with_reducible rfl))
  try simp only[Act.put,zA,zB,zC,zD,zE,zF]
  refine tk 10 ?_ rfl (fun w hSw=>?_) hHeld ?_
  rotate_left
  ·((try dsimp only at hSw);go_split_ands;go_simp;(try with_reducible rfl))
  try simp only[Act.put,zA,zB,zC,zD,zE,zF]
  clear hs1 hs2 hw
  refine rdc 0 rfl fun K hK=>?_
  try simp only[zA,zB,zC]
  go_simp
  refine hK.out _ _ (((k07.next HBQ.out).alloc _).cell) ?_
  clear hHeld hK K
  intro hHeld
  try simp only[Act.put,zA,zB,zC,zD,zE,zF]
  have OA0:Hid (AtomsO (wq.alloc (.cells #[] tA)) W7.heap.size (.slice (some ⟨wq.heap.size,0,none⟩) 0 0) []):=Lib.hid ((AtomsO.empty wq).lower hzq)
  replace HBQ:=Lib.hid (HBQ.out.alloc hzq (.cells #[] tA))
  have hzq2:W7.heap.size≤(wq.alloc (.cells #[] tA)).heap.size:=by simp;omega
  generalize wq.alloc (.cells #[] tA)=wz at HBQ OA0 hzq2 hHeld ⊢
  refine rdc 5 rfl fun K hK=>?_
  skip
  (refine stepALm (base:=W7.heap.size) (n:=i) (zs:=a.atoms.take i) rfl _ _ rfl rfl OA0.out rfl HL1.out.symm (hT.out.below (bgo HB7.out HBQ.out)) rfl HL1.out.symm (by omega) hzq2 ?_;intro A8 c8 w8 o8 hg8 hB8;replace HBQ:=Lib.hid (HBQ.out.trans hB8);have OA1:=Lib.hid o8;have hzq3:=Nat.le_trans hzq2 hB8.size;clear o8 hg8 hB8 OA0)
  refine hK.out _ _ ((k07.next HBQ.out).cell) ?_
  clear hHeld hK K
  intro hHeld
  try simp only[Act.put,zA,zB,zC,zD,zE,zF]
  refine rdc 11 rfl fun K hK=>?_
  skip
  (refine stepALm (base:=W7.heap.size) (n:=a.atoms.length - 1) (zs:=withoutL a.atoms i) rfl _ _ rfl rfl OA1.out rfl HL2.out.symm (hD.out.below (bgo HB7.out HBQ.out)) rfl (by omega) (by omega) hzq3 ?_;intro A9 c9 w9 o9 hg9 hB9;replace HBQ:=Lib.hid (HBQ.out.trans hB9);have OA2:=Lib.hid o9;have hzq4:=Nat.le_trans hzq3 hB9.size;clear o9 hg9 hB9 OA1)
  refine hK.out _ _ ((k07.next HBQ.out).cell) ?_
  clear hHeld hK K
  intro hHeld
  try simp only[Act.put,zA,zB,zC,zD,zE,zF]
  refine tk 12 ?_ rfl (fun w hSw=>?_) hHeld ?_
  rotate_left
  ·((try dsimp only at hSw);go_split_ands;go_simp;(try with_reducible rfl))
  try simp only[Act.put,zA,zB,zC,zD,zE,zF]
  have kE9:=kE7.next HBQ.out
  have qkE9:=kE9.cell
  have rkE9:=kE9.frozen
  have lkE9:=kE9.lt
  refine rdc 13 rfl fun K hK=>?_
  try simp only[zA,zB,zC]
  go_simp
  refine hK.out _ _ (((k07.next HBQ.out).far (p:=⟨yE,1,none⟩) (by simp only;omega) _).cell) ?_
  clear hHeld hK K
  intro hHeld
  try simp only[Act.put,zA,zB,zC,zD,zE,zF]
  refine wpAnyH_done (by kernel_rfl) ?_ _
  refine NoPanic.normal ?_
  clear qkE9 rkE9 lkE9 hHeld
  have kE10:Blk (w9.setCell ⟨yE,1,none⟩ (.slice A9 (a.atoms.length - 1) c9)) yE tAs #[.slice A6 (a.facts.length+1) c6,.slice A9 (a.atoms.length - 1) c9]:=by
   have:=kE9.set_ 1 (.slice A9 (a.atoms.length - 1) c9)
   simpa using this
  have k010:=(k07.next HBQ.out).far (p:=⟨yE,1,none⟩) (by simp only;omega) (.slice A9 (a.atoms.length - 1) c9)
  have kx10:=(kx7.next HBQ.out).far (p:=⟨yE,1,none⟩) (by simp only;omega) (.slice A9 (a.atoms.length - 1) c9)
  have OE1:=Lib.hid ((O17.out.below HBQ.out).setT kE9 (by decide) 1 (.slice A9 (a.atoms.length - 1) c9))
  have OE2:=Lib.hid ((OA2.out.lower (base':=w.heap.size) HB7.out.size).setT kE9 (by decide) 1 (.slice A9 (a.atoms.length - 1) c9))
  have HB10:=Lib.hid ((bgo HB7.out HBQ.out).setCell (p:=⟨yE,1,none⟩) (by simp only;omega) (.slice A9 (a.atoms.length - 1) c9))
  have hz10:yE<(w9.setCell ⟨yE,1,none⟩ (.slice A9 (a.atoms.length - 1) c9)).heap.size:=kE10.lt
  clear k07 kx7 kE7 O17 HB7 hz7 HBQ OA2 kE9 hzq hzq2 hzq3 hzq4
  generalize (w9.setCell ⟨yE,1,none⟩ (.slice A9 (a.atoms.length - 1) c9))=W8 at kE10 k010 kx10 OE1 OE2 HB10 hz10 ⊢
  (replace qk010:=k010.cell;replace rk010:=k010.frozen;replace lk010:=k010.lt;replace qkx10:=kx10.cell;replace rkx10:=kx10.frozen;replace lkx10:=kx10.lt)
  go_wp2_with fail
  refine (c_l10Front _ a ⟨1,x.a,(m:Int)⟩ i _ (hV.out.V.below HB10.out) HVa.out HHi.out).mono ?_
  rintro e w11 ⟨F2,d2,G2,g2,rfl,oF,hB11⟩
  have OFX:=Lib.hid oF
  have HBX:=Lib.hid hB11
  have hz11:=hB11.size
  clear oF hB11 qk010 rk010 lk010 qkx10 rkx10 lkx10
  go_upto_region 9 with fail
  replace OFX:=Lib.hid (OFX.out.below (bbox (Below.refl _ _) (.cells #[.slice F2 a.facts.length d2,.slice G2 a.atoms.length g2] tAs)))
  replace HBX:=Lib.hid (bbox HBX.out (.cells #[.slice F2 a.facts.length d2,.slice G2 a.atoms.length g2] tAs))
  have kF:Blk (w11.alloc (.cells #[.slice F2 a.facts.length d2,.slice G2 a.atoms.length g2] tAs)) w11.heap.size tAs #[.slice F2 a.facts.length d2,.slice G2 a.atoms.length g2]:=Blk.new _ _ _
  have hzF:w11.heap.size+1≤(w11.alloc (.cells #[.slice F2 a.facts.length d2,.slice G2 a.atoms.length g2] tAs)).heap.size:=by simp
  generalize (w11.alloc (.cells #[.slice F2 a.facts.length d2,.slice G2 a.atoms.length g2] tAs))=W9 at OFX HBX kF hzF ⊢
  obtain ⟨yF,hyF⟩:∃ y,y=w11.heap.size:=⟨_,rfl⟩
  rw[←hyF] at kF hzF hz11 ⊢
  clear hyF
  have OF1:=Lib.hid OFX.out.parts.1
  have OF2:=Lib.hid OFX.out.parts.2
  clear OFX
  simp only at OF1 OF2
  have kx11:=kx10.next HBX.out
  (replace qkF:=kF.cell;replace rkF:=kF.frozen;replace lkF:=kF.lt;replace qkx11:=kx11.cell;replace rkx11:=kx11.frozen;replace lkx11:=kx11.lt)
  go_upto_region 10 with (at_builtin;refine appFL (ys:=[⟨false,x.a,x.b⟩]) (base:=W8.heap.size) rfl _ _ rfl rfl (OF1.out.below bel) rfl (FactsV.one (f:=⟨false,x.a,x.b⟩) (Blk.new W9 tF _)) (by simp<;>omega) (by simp<;>omega) ?_;intro A12 c12 w12 o12 hg12 hB12;have kO:=OF1.out.below (w':=W9.alloc (.cells #[.bool false,.int .i64 x.a,.int .i64 x.b] tF)) bel;have kF12:=Blk.grownO (hg:=hg12) (kF.alloc _) kO.1 (by decide);have OF22:=Lib.hid (AtomsO.grownF (OF2.out.below (w':=W9.alloc (.cells #[.bool false,.int .i64 x.a,.int .i64 x.b] tF)) bel) kO hg12);have HBX12:Hid (Below W8.heap.size W8 w12):=Lib.hid ((bbox HBX.out _).trans hB12);have OF12:=Lib.hid o12;clear hB12 hg12 o12 kO qkF rkF lkF qkx11 rkx11 lkx11;(replace qkF12:=kF12.cell;replace rkF12:=kF12.frozen;replace lkF12:=kF12.lt))
  simp only[List.length_append,List.length_cons,List.length_nil,Nat.zero_add] at OF12 ⊢
  have kF13:Blk (w12.setCell ⟨yF,0,none⟩ (.slice A12 (a.facts.length+1) c12)) yF tAs #[.slice A12 (a.facts.length+1) c12,.slice G2 a.atoms.length g2]:=by
   have:=kF12.set_ 0 (.slice A12 (a.facts.length+1) c12)
   simpa using this
  have OF13:=Lib.hid (OF12.out.setT kF12 (by decide) 0 (.slice A12 (a.facts.length+1) c12))
  have OF23:=Lib.hid (OF22.out.setT kF12 (by decide) 0 (.slice A12 (a.facts.length+1) c12))
  have HBX13:=Lib.hid (HBX12.out.setCell (p:=⟨yF,0,none⟩) (by simp only;omega) (.slice A12 (a.facts.length+1) c12))
  clear kF kx11 OF1 OF2 HBX kF12 OF12 OF22 HBX12 qkF12 rkF12 lkF12
  generalize (w12.setCell ⟨yF,0,none⟩ (.slice A12 (a.facts.length+1) c12))=W10 at kF13 OF13 OF23 HBX13 ⊢
  have kx13:=kx10.next HBX13.out
  (replace qkF13:=kF13.cell;replace rkF13:=kF13.frozen;replace lkF13:=kF13.lt;replace qkx13:=kx13.cell;replace rkx13:=kx13.frozen;replace lkx13:=kx13.lt)
  go_upto_region 11 with (at_builtin;refine appAL (ys:=[⟨2,(m:Int),x.b⟩]) (base:=W8.heap.size) rfl _ _ rfl rfl (OF23.out.below bel) (by rfl) (AtomsV.one (f:=⟨2,(m:Int),x.b⟩) (Blk.new W10 tA _)) (by simp<;>omega) (by have:=HBX13.out.size;simp<;>omega) ?_;intro A14 c14 w14 o14 hg14 hB14;have kO:=OF23.out.below (w':=W10.alloc (.cells #[.int .i64 2,.int .i64 m,.int .i64 x.b] tA)) bel;have kF14:=Blk.grownO (hg:=hg14) (kF13.alloc _) kO.1 (by decide);have OF14:=Lib.hid (FactsO.grownA (OF13.out.below (w':=W10.alloc (.cells #[.int .i64 2,.int .i64 m,.int .i64 x.b] tA)) bel) kO hg14);have HBX14:Hid (Below W8.heap.size W8 w14):=Lib.hid ((bbox HBX13.out _).trans hB14);have OF24:=Lib.hid o14;clear hB14 hg14 o14 kO qkF13 rkF13 lkF13 qkx13 rkx13 lkx13;(replace qkF14:=kF14.cell;replace rkF14:=kF14.frozen;replace lkF14:=kF14.lt))
  simp only[List.length_append,List.length_cons,List.length_nil,Nat.zero_add] at OF24 ⊢
  have hLL:1+(withoutL a.atoms i).length+1=a.atoms.length+1:=by omega
  try rw[hLL]
  replace OF24:Hid (AtomsO w14 W8.heap.size (.slice A14 (a.atoms.length+1) c14) (([⟨1,x.a,(m:Int)⟩]++withoutL a.atoms i)++[⟨2,(m:Int),x.b⟩])):=Lib.hid (by
   have h24:=OF24.out
   try rw[hLL] at h24
   exact h24)
  have kF15:Blk (w14.setCell ⟨yF,1,none⟩ (.slice A14 (a.atoms.length+1) c14)) yF tAs #[.slice A12 (a.facts.length+1) c12,.slice A14 (a.atoms.length+1) c14]:=by
   have:=kF14.set_ 1 (.slice A14 (a.atoms.length+1) c14)
   simpa using this
  have OF15:=Lib.hid (OF14.out.setT kF14 (by decide) 1 (.slice A14 (a.atoms.length+1) c14))
  have OF25:=Lib.hid (OF24.out.setT kF14 (by decide) 1 (.slice A14 (a.atoms.length+1) c14))
  have HBX15:=Lib.hid (HBX14.out.setCell (p:=⟨yF,1,none⟩) (by simp only;omega) (.slice A14 (a.atoms.length+1) c14))
  clear kF13 kx13 OF13 OF23 HBX13 kF14 OF14 OF24 HBX14 qkF14 rkF14 lkF14 hLL
  generalize (w14.setCell ⟨yF,1,none⟩ (.slice A14 (a.atoms.length+1) c14))=W12 at kF15 OF15 OF25 HBX15 ⊢
  have hz15:=HBX15.out.size
  have kE15:=kE10.next HBX15.out
  have OE:Hid (AsnO W12 w.heap.size (.agg #[.slice A6 (a.facts.length+1) c6,.slice A9 (a.atoms.length - 1) c9]) (emptyX a x i)):=Lib.hid ⟨_,_,rfl,OE1.out.below HBX15.out,OE2.out.below HBX15.out⟩
  have OX:Hid (AsnO W12 W8.heap.size (.agg #[.slice A12 (a.facts.length+1) c12,.slice A14 (a.atoms.length+1) c14]) (fullX a x i (m:Int))):=Lib.hid ⟨_,_,rfl,OF15.out,OF25.out⟩
  have HB15:=Lib.hid (bgo HB10.out HBX15.out)
  have hLE:Hid ((emptyX a x i).facts.length≤1000∧(emptyX a x i).atoms.length≤1000):=Lib.hid (by simp only[emptyX,List.length_append,List.length_cons,List.length_nil];omega)
  have hLF:Hid ((fullX a x i (m:Int)).facts.length≤1000∧(fullX a x i (m:Int)).atoms.length≤1000):=Lib.hid (by simp only[fullX,List.length_append,List.length_cons,List.length_nil];omega)
  clear OE1 OE2 HBX15 OF15 OF25 kE10 k010 kx10 HB10
  have hni:(n:Int)≤6:=by omega
  (replace qkE15:=kE15.cell;replace rkE15:=kE15.frozen;replace lkE15:=kE15.lt)
  go_wp2_with fail
  refine (HEH.out w.heap.size _ _ _ _ B cB _ OE.out.C (HFL.out.below HB15.out) hLE.out.1 hLE.out.2).mono ?_
  rintro e w16 ⟨r1,vs1,l1,rfl,o1,hl1,HR1,hB16⟩
  obtain ⟨R1,z1,rfl⟩:=o1.form
  have O1:=Lib.hid o1
  have HR1':=Lib.hid HR1
  replace OX:=Lib.hid (OX.out.below hB16)
  have kF16:=kF15.next hB16
  have HB16:=Lib.hid (bgo HB15.out hB16)
  have hz16:=hB16.size
  clear o1 HR1 hB16 HB15 kF15 kE15 qkE15 rkE15 lkE15 OE
  (replace qkF16:=kF16.cell;replace rkF16:=kF16.frozen;replace lkF16:=kF16.lt)
  go_wp2_with fail
  refine (HFH.out m W8.heap.size _ _ _ _ B cB _ OX.out.C (HFL.out.below HB16.out) hLF.out.1 hLF.out.2).mono ?_
  rintro e w17 ⟨r2,vs2,l2,rfl,o2,hl2,HR2,hB17⟩
  obtain ⟨R2,z2,rfl⟩:=o2.form
  have O2:=Lib.hid o2
  have HR2':=Lib.hid HR2
  have HB17':=Lib.hid hB17
  have HB17:=Lib.hid (bgo HB16.out hB17)
  have hz17:=hB17.size
  have hp:=HN.out
  have hll:l1.length+l2.length≤1049600:=by omega
  have hll2:Hid (l1.length+l2.length≤2 ^ (n+1)):=Lib.hid (by rw[Nat.pow_succ];omega)
  clear o2 HR2 hB17 HB16 kF16 qkF16 rkF16 lkF16 OX hl1 hl2 hp
  have HE1:Hid (∀ e1,exposeF n (emptyX a x i) t Ks=none→(listF n a x i t Ks).isSome=e1→e1=false):=Lib.hid fun e1 h h'=>by rw[←h',list_first HNT.out h];rfl
  have HBoth:Hid ((listF n a x i t Ks).isSome=((exposeF n (emptyX a x i) t Ks).isSome&&(exposeF n (fullX a x i (m:Int)) t Ks).isSome)∧(listF n a x i t Ks=none∨listF n a x i t Ks=some (l1++l2))):=Lib.hid (by
   rcases HR1'.out with e1|e1
   ·rw[list_first HNT.out e1,e1];exact ⟨rfl,.inl rfl⟩
   ·rcases HR2'.out with e2|e2
    ·rw[list_second HNT.out e2,e1,e2];exact ⟨rfl,.inl rfl⟩
    ·rw[list_both HNT.out e1 e2,e1,e2];exact ⟨rfl,.inr rfl⟩)
  clear HE1 HR1' HR2'
  generalize (exposeF n (emptyX a x i) t Ks).isSome=p1 at HBoth ⊢
  generalize (exposeF n (fullX a x i (m:Int)) t Ks).isSome=p2 at HBoth ⊢
  cases p1<;>cases p2
  all_goals
   go_wp2_with (at_builtin;refine wpList_appL (base:=w.heap.size) rfl _ _ 57 rfl Tryz.underlying57 infoAs2 rfl (by decide) (by decide) rfl (own_lower (own_below O1.out.row HB17'.out) (by omega)) rfl O2.out.rd.raw O2.out.els.one_cell hll (by omega) ?_;intro v18 w18 hO18 hg18 hB18;have HR18:=Lib.hid hO18;have HG18:=Lib.hid hg18;have HB18:=Lib.hid (HB17.out.trans hB18);obtain ⟨A18,d18,rfl,-⟩:=own_reads hO18 hll;clear hO18 hg18 hB18)
   go_ret2
   exact ⟨_,vs1++vs2,l1++l2,by rw[HBoth.out.1];rfl,(O1.out.lower (by omega)).cat HB17'.out O2.out (by omega) (Nat.le_refl _) hll HG18.out HR18.out,by rw[List.length_append];exact hll2.out,HBoth.out.2,HB18.out⟩
end Go.Proofs.YtjjokmlmknllhaaGreat

/- Appending assertions to a list of our own. -/
namespace Go.Proofs.YtjjokmlmknllhaaGreat
open Go Go.RowKit Go.Proofs
attribute [local go_sem ↓] Go.wp_at_zero Go.wp_at_succ
section
variable {ops:Array Oper} {rest:List Oper} {o:Oper} {a:Act} {Q:Exit→Act→World→Prop} {w w0:World} {base mid:Nat} {v v2:Value} {vs vs2:List Value} {ss ss2:List Asn}
theorem appA2 (hgd:o.guard=none) (s x:Operand) (ho:o.op=.call { callee:=.builtin .append,args:=#[s,x],argTypes:=#[57,57] })
  (hs:a.eval s=v) (h0:A2O w0 base v vs ss) (hb0:Below w0.heap.size w0 w) (hbase:base≤w0.heap.size) (h2:A2O w mid v2 vs2 ss2) (hm:w0.heap.size≤mid) (hx:a.eval x=v2) (hl:ss.length+ss2.length≤1049600)
  (h:∀ A' c' w',A2O w' base (.slice A' (ss.length+ss2.length) c') (vs++vs2) (ss++ss2)→w.grownBy w' v.ownBlock→Below base w w'→wpList Tryz.prog ops Q rest (a.put o.dst (.slice A' (ss.length+ss2.length) c')) w'):wpList Tryz.prog ops Q (o :: rest) a w:=by
 obtain ⟨A,c,rfl⟩:=h2.form
 refine wpList_appL (base:=base) hgd s x 57 ho Tryz.underlying57 infoAs2 rfl (by decide) (by decide) hs (own_below h0.row hb0) hx h2.rd.raw h2.els.one_cell hl (Nat.le_trans hbase hb0.size) ?_
 intro v' w' hO hg hB
 have hC:=h0.cat hb0 h2 (Nat.le_trans hbase hm) hm hl hg hO
 obtain ⟨A',d,rfl,-⟩:=own_reads hO hl
 exact h A' d w' hC hg hB
end
end Go.Proofs.YtjjokmlmknllhaaGreat

/- Exposing a cell is exact: the results entail the assertion, and one of them holds where it does. Plain; no program. -/
namespace Go.Proofs.YtjjokmlmknllhaaGreat
open Go Go.RowKit
section
variable {M:Int→Int} {F G G':List Atm} {a:Asn} {x:Atm} {i:Nat} {t m:Int}
theorem Cover.mk {css:List (List Atm)} (h:Covs M F G css) (hp:F.Perm css.flatten) (hn:(F.map fun y=>M y.a).Nodup):Cover M F G:=by
 have hs:=covs_starts G css h
 obtain ⟨g,g1,g2⟩:=covs_fun G css h (((hp.map fun y=>M y.a).nodup_iff.1 hn).sublist hs)
 exact ⟨g,g2,by rw[←g1];exact hp⟩
theorem cov_self (y:Atm):CovM M F y [y]:=by
 unfold CovM
 split
 ·exact ⟨y,rfl,rfl⟩
 ·exact ⟨rfl,.inl ⟨rfl,rfl⟩⟩
theorem covs_self:∀ (G:List Atm),Covs M F G (G.map fun y=>[y])
 | []=>trivial
 | y :: G=>⟨cov_self y,covs_self G⟩
theorem flat_self:∀ (G:List Atm),(G.map fun y=>[y]).flatten=G
 | []=>rfl
 | y :: G=>by simp[flat_self G]
theorem Cover.permG (h:Cover M F G) (hp:G.Perm G'):Cover M F G':=by
 obtain ⟨g,h1,h2⟩:=h
 exact ⟨g,fun x hx=>h1 x (hp.mem_iff.2 hx),h2.trans (hp.flatMap_right g)⟩
theorem fill_perm (hx:a.atoms[i]? = some x):(a.atoms.filter (fillM M)).Perm ((x :: withoutL a.atoms i).filter (fillM M)):=(without_perm hx).filter _
theorem cell_fill {p q:Int}:fillM M ⟨1,p,q⟩=true:=rfl
theorem ent_ofCell (hx:a.atoms[i]? = some x) (hk:x.kind=1) (hs:Sat M (cellX a x i t)):M x.a=M t∧EntM M (cellX a x i t) a:=by
 have hfx:fillM M x=true:=by unfold fillM;rw[decide_eq_true hk];rfl
 have ht:M x.a=M t:=by
  by_cases e:x.a=t
  ·rw[e]
  ·exact of_decide_eq_true (hs.facts ⟨true,x.a,t⟩ (by simp[cellX,e]))
 refine ⟨ht,fun f hf=>hs.facts f (by simp[cellX,hf]),?_⟩
 have hp:=fill_perm (M:=M) hx
 rw[List.filter_cons_of_pos hfx] at hp
 have hn:=hs.apart
 simp only[cellX] at hn ⊢
 rw[List.filter_cons_of_pos cell_fill] at hn ⊢
 refine (Cover.mk (G:=x :: (withoutL a.atoms i).filter (fillM M)) (css:=[⟨1,t,x.b⟩] :: ((withoutL a.atoms i).filter (fillM M)).map fun y=>[y]) ⟨?_,covs_self _⟩ (by rw[List.flatten_cons,flat_self];exact List.Perm.refl _) hn).permG hp.symm
 unfold CovM
 rw[if_pos hk]
 exact ⟨_,rfl,by simp[clsM,hk,ht]⟩
theorem unfill (hk:x.kind=2) (he:M x.a=M x.b):fillM M x=false:=by
 unfold fillM;rw[decide_eq_false (by omega),decide_eq_true he];rfl
theorem ent_ofEmpty (hx:a.atoms[i]? = some x) (hk:x.kind=2) (hs:Sat M (emptyX a x i)):EntM M (emptyX a x i) a:=by
 have he:M x.a=M x.b:=of_decide_eq_true (hs.facts ⟨true,x.a,x.b⟩ (by simp[emptyX]))
 refine ⟨fun f hf=>hs.facts f (by simp[emptyX,hf]),?_⟩
 have hp:=fill_perm (M:=M) hx
 rw[List.filter_cons_of_neg (by simp[unfill hk he])] at hp
 exact Cover.perm hp.symm
theorem ent_ofFull (hx:a.atoms[i]? = some x) (hk:x.kind=2) (hs:Sat M (fullX a x i m)):EntM M (fullX a x i m) a:=by
 have hne:decide (M x.a=M x.b)=false:=hs.facts ⟨false,x.a,x.b⟩ (by simp[fullX])
 have hfx:fillM M x=true:=by unfold fillM;rw[hne];simp
 have hn:=hs.apart
 refine ⟨fun f hf=>hs.facts f (by simp[fullX,hf]),?_⟩
 have hp:=fill_perm (M:=M) hx
 rw[List.filter_cons_of_pos hfx] at hp
 simp only[fullX] at hn ⊢
 rw[List.filter_append,List.filter_append,List.filter_cons_of_pos cell_fill,List.filter_nil] at hn ⊢
 refine Cover.permG ?_ hp.symm
 cases hfl:fillM M ⟨2,m,x.b⟩
 ·have hmb:M m=M x.b:=by simpa [fillM] using hfl
  rw[List.filter_cons_of_neg (by simp[hfl]),List.filter_nil,List.append_nil] at hn ⊢
  refine Cover.mk (css:=[⟨1,x.a,m⟩] :: ((withoutL a.atoms i).filter (fillM M)).map fun y=>[y]) ⟨?_,covs_self _⟩ (by rw[List.flatten_cons,flat_self];done) hn
  unfold CovM
  rw[if_neg (by omega)]
  exact ⟨rfl,.inl ⟨rfl,hmb⟩⟩
 ·have hmb:M m≠M x.b:=by simpa [fillM] using hfl
  rw[List.filter_cons_of_pos hfl,List.filter_nil] at hn ⊢
  refine Cover.mk (css:=[⟨1,x.a,m⟩,⟨2,m,x.b⟩] :: ((withoutL a.atoms i).filter (fillM M)).map fun y=>[y]) ⟨?_,covs_self _⟩ ?_ hn
  ·unfold CovM
   rw[if_neg (by omega)]
   exact ⟨rfl,.inr ⟨by simp,hmb,fun (h:(1:Int)=2)=>absurd h (by decide),rfl,.inl ⟨rfl,rfl⟩⟩⟩
  ·rw[List.flatten_cons,flat_self]
   simp only[List.singleton_append,List.cons_append,List.nil_append]
   exact (List.perm_append_singleton _ _).cons _
end
theorem expose_valid {n:Nat} {a:Asn} {t:Int} {K:Nat} {l:List Asn} (h:exposeF n a t K=some l):a.valid=true:=by
 cases hv:a.valid
 ·rw[expose_bad hv] at h;cases h
 ·rfl
theorem expose_ent:∀ (n:Nat) (a:Asn) (t:Int) (K:Nat) (l:List Asn),exposeF n a t K=some l→∀ e∈l,e.valid=true∧(∀ M,Sat M e→EntM M e a)∧∃ b rest,e.atoms=⟨1,t,b⟩ :: rest
 | 0,_,_,_,_,h=>by cases h
 | n+1,a,t,K,l,h=>by
  intro e he
  have hv:=expose_valid h
  cases hc:consB a
  ·rw[expose_no hv hc] at h
   obtain rfl:=Option.some.inj h
   cases he
  cases hf:findK a 1 t with
  | some i=>
   obtain ⟨x,hx,hk,-,-⟩:=find_some hf
   rw[expose_cell hv hc hf hx] at h
   split at h
   ·rename_i hcv
    obtain rfl:=Option.some.inj h
    obtain rfl:=List.mem_singleton.1 he
    exact ⟨hcv,fun M hM=>(ent_ofCell hx hk hM).2,_,_,rfl⟩
   ·cases h
  | none=>
   cases hg:findK a 2 t with
   | none=>rw[expose_none hv hc hf hg] at h;cases h
   | some i=>
    obtain ⟨x,hx,hk,-,-⟩:=find_some hg
    rw[expose_list hv hc hf hg hx] at h
    unfold listF at h
    split at h
    ·cases h
    ·rename_i m hm
     split at h
     ·cases h
     ·rename_i l1 h1
      split at h
      ·cases h
      ·rename_i l2 h2
       obtain rfl:=Option.some.inj h
       rcases List.mem_append.1 he with he|he
       ·obtain ⟨g1,g2,g3⟩:=expose_ent n _ _ _ _ h1 e he
        exact ⟨g1,fun M hM=>(g2 M hM).trans (ent_ofEmpty hx hk ((g2 M hM).sat hM)) hM (expose_valid h1),g3⟩
       ·obtain ⟨g1,g2,g3⟩:=expose_ent n _ _ _ _ h2 e he
        exact ⟨g1,fun M hM=>(g2 M hM).trans (ent_ofFull hx hk ((g2 M hM).sat hM)) hM (expose_valid h2),g3⟩
end Go.Proofs.YtjjokmlmknllhaaGreat

/- Exposing cells: spec.l10Open, spec.ExposeCell. Printed by genOpnO.py. -/
namespace Go.Proofs.YtjjokmlmknllhaaGreat
open Go Go.RowKit Go.Proofs
attribute [local go_sem ↓] Go.wp_at_zero Go.wp_at_succ
set_option maxRecDepth 100000 in
set_option maxHeartbeats 1600000 in
theorem c_l10Open_zero (a:Asn) (t:Int) (Ks:Nat):OpC 0 a t Ks:=by
 intro lo hi lo' hi' v B cB w h hB0 hl1 hl2
 have hV:=Lib.hid h
 obtain ⟨A1,c1,A2,c2,rfl,-⟩:=h
 have E:Hid (exposeF 0 a t Ks=none):=rfl
 clear hB0
 go_enter Tryz.func84,Tryz.ntmps84
 go_wp2_with fail
 refine (c_spec_AssertionValid _ a _ (hV.out.V.below bel)).mono ?_
 rintro e w1 ⟨rfl,hB1⟩
 have HB:=Lib.hid (bgo (w:=w) bel hB1)
 have hz1:w.heap.size≤w1.heap.size:=HB.out.size
 clear hB1
 cases hv:a.valid
 all_goals
  clear hv
  go_wp2_with fail
  go_ret2
  exact ⟨_,[],[],by rw[E.out];rfl,(A2O.empty w1 rfl).lower hz1,Nat.zero_le _,.inl E.out,bbox HB.out _⟩
set_option maxRecDepth 100000 in
set_option maxHeartbeats 12800000 in
theorem c_l10Open_step (n:Nat) (a:Asn) (t:Int) (Ks:Nat) (hn:n≤6) (HL:∀ i x,a.valid=true→findK a 1 t=none→findK a 2 t=some i→a.atoms[i]? = some x→x.kind=2→impB a ⟨true,x.a,t⟩=true→UnC n a x i t Ks):OpC (n+1) a t Ks:=by
 intro lo hi lo' hi' v B cB w h hB0 hl1 hl2
 rw[show ((n+1:Nat):Int)=(n:Int)+1 from by omega]
 have hV:=Lib.hid h
 have HFL:=Lib.hid hB0
 obtain ⟨A1,c1,A2,c2,rfl,-,h2,-⟩:=h
 have H2:=Lib.hid h2
 have HLL:=Lib.hid HL
 have hge:¬((n:Int)+1<1):=by omega
 clear h2 hB0 HL
 go_enter Tryz.func84,Tryz.ntmps84
 have k0:Blk (w.alloc (.cells #[.slice A1 a.facts.length c1,.slice A2 a.atoms.length c2] tAs)) w.heap.size tAs #[.slice A1 a.facts.length c1,.slice A2 a.atoms.length c2]:=blks
 go_wp2_with fail
 refine (c_spec_AssertionValid _ a _ (hV.out.V.below bel)).mono ?_
 rintro e w1 ⟨rfl,hB1⟩
 have HB:=Lib.hid (bgo (w:=w) bel hB1)
 replace k0:=k0.next hB1
 have hz1:w.heap.size≤w1.heap.size:=HB.out.size
 clear hB1
 cases hv:a.valid
 ·have E:=Lib.hid (expose_bad (n:=n+1) (t:=t) (K:=Ks) hv)
  clear hv
  go_wp2_with fail
  go_ret2
  exact ⟨_,[],[],by rw[E.out];rfl,(A2O.empty w1 rfl).lower hz1,Nat.zero_le _,.inl E.out,bbox HB.out _⟩
 have HV:=Lib.hid hv
 have hvl:=valid_len hv
 clear hv
 (replace qk0:=k0.cell;replace rk0:=k0.frozen;replace lk0:=k0.lt)
 go_wp2_with fail
 refine (c_spec_Consistent _ a _ (hV.out.V.below HB.out)).mono ?_
 rintro e w2 ⟨rfl,hB2⟩
 rw[show (a.valid && !(cases a (caseS a 0)).isEmpty)=consB a from rfl]
 have HB2:=Lib.hid (bgo HB.out hB2)
 replace k0:=k0.next hB2
 have hz2:=HB2.out.size
 clear hB2 HB qk0 rk0 lk0
 cases hc:consB a
 ·have E:=Lib.hid (expose_no (n:=n) (t:=t) (K:=Ks) HV.out hc)
  clear hc
  go_wp2_with fail
  go_ret2
  exact ⟨_,[],[],by rw[E.out];rfl,(A2O.empty w2 rfl).lower hz2,Nat.zero_le _,.inr E.out,bbox HB2.out _⟩
 have HC:=Lib.hid hc
 clear hc hz1 hge
 go_wp2_with fail
 go_loopw [10] (fun i wr=>∃ k:Nat,k≤a.atoms.length∧i=.int .i64 k∧Hid (∀ j,j<k→findP a 1 t j=false)∧Blk wr w.heap.size tAs #[.slice A1 a.facts.length c1,.slice A2 a.atoms.length c2]∧Hid (Below w.heap.size w wr)) (fun i _=>a.atoms.length - (intOf i).toNat)
 case atStart=>exact ⟨0,Nat.zero_le _,rfl,Lib.hid fun j h=>by omega,k0,HB2.out⟩
 case round=>
  clear k0 HB2 hz2
  obtain ⟨k,hk,rfl,HA,k0,HB⟩:=hrel
  have hzr:=HB.out.size
  by_cases hlt:k<a.atoms.length
  ·obtain ⟨b,off,rfl,g0,g1,g2⟩:=(H2.out.below HB.out).at hlt
   have hki:(k:Int)<(a.atoms.length:Int):=by omega
   have HP:Hid (findP a 1 t k=(decide (a.atoms[k].kind=1)&&impB a ⟨true,a.atoms[k].a,t⟩)):=Lib.hid (by unfold findP;rw[List.getElem?_eq_getElem hlt])
   have HXK:Hid (a.atoms[k]? = some a.atoms[k]):=Lib.hid (List.getElem?_eq_getElem hlt)
   obtain ⟨x,hx⟩:∃ x,x=a.atoms[k]:=⟨_,rfl⟩
   rw[←hx] at g0 g1 g2 HP HXK
   have hbx:Below wr.heap.size wr (wr.alloc (.cells #[.int .i64 x.kind,.int .i64 x.a,.int .i64 x.b] tA)):=bbox (Below.refl _ _) _
   have kx:Blk (wr.alloc (.cells #[.int .i64 x.kind,.int .i64 x.a,.int .i64 x.b] tA)) wr.heap.size tA #[.int .i64 x.kind,.int .i64 x.a,.int .i64 x.b]:=Blk.new _ _ _
   have k1:=k0.next hbx
   have HB1:=Lib.hid (bgo HB.out hbx)
   have hzx:(wr.alloc (.cells #[.int .i64 x.kind,.int .i64 x.a,.int .i64 x.b] tA)).heap.size=wr.heap.size+1:=by simp
   clear hx hbx
   (replace qk0:=k0.cell;replace rk0:=k0.frozen;replace lk0:=k0.lt)
   go_upto_region 9 with fail
   clear qk0 rk0 lk0 g0 g1 g2 k0 HB
   generalize (wr.alloc (.cells #[.int .i64 x.kind,.int .i64 x.a,.int .i64 x.b] tA))=W at k1 HB1 kx hzx ⊢
   obtain ⟨yx,hyx⟩:∃ y,y=wr.heap.size:=⟨_,rfl⟩
   rw[←hyx] at kx hzx hzr ⊢
   have hzy:yx<W.heap.size:=by omega
   clear hyx hzx
   (replace qk1:=k1.cell;replace rk1:=k1.frozen;replace lk1:=k1.lt;replace qkx:=kx.cell;replace rkx:=kx.frozen;replace lkx:=kx.lt)
   by_cases hkd:x.kind=1
   case neg=>
    have hkb:(x.kind == 1)=false:=by simpa using hkd
    have HA2:Hid (∀ j,j<k+1→findP a 1 t j=false):=Lib.hid fun j hj=>by
     by_cases e:j=k
     ·rw[e,HP.out];simp[hkd]
     ·exact HA.out j (by omega)
    clear HA HP hkd
    go_wp2_with fail
    go_round
    case rel=>exact ⟨k+1,by omega,by go_num,HA2,k1,HB1.out⟩
    case measure=>simp[intOf];omega
   have hkb:(x.kind == 1)=true:=by simpa using hkd
   have HKD:=Lib.hid hkd
   clear hkd
   go_wp2_with fail
   refine (c_l10Equal _ a x.a t _ (hV.out.V.below HB1.out)).mono ?_
   rintro e w3 ⟨rfl,hB3⟩
   replace k1:=k1.next hB3
   replace kx:=kx.next hB3
   have HB3:=Lib.hid (bgo HB1.out hB3)
   have hz3:=hB3.size
   clear hB3 qk1 rk1 lk1 qkx rkx lkx HB1 hkb
   cases him:impB a ⟨true,x.a,t⟩
   ·have HA2:Hid (∀ j,j<k+1→findP a 1 t j=false):=Lib.hid fun j hj=>by
     by_cases e:j=k
     ·rw[e,HP.out,him];simp
     ·exact HA.out j (by omega)
    clear HA HP him
    go_wp2_with fail
    go_round
    case rel=>exact ⟨k+1,by omega,by go_num,HA2,k1,HB3.out⟩
    case measure=>simp[intOf];omega
   have HFK:=Lib.hid (findK_yes hlt HA.out (by rw[HP.out,him,HKD.out];rfl))
   have E:=Lib.hid (expose_cell (n:=n) (K:=Ks) HV.out HC.out HFK.out HXK.out)
   clear HA HP him HFK HXK
   have hwl:=withoutL_len hlt
   have HLT:=Lib.hid hlt
   (replace qk1:=k1.cell;replace rk1:=k1.frozen;replace lk1:=k1.lt;replace qkx:=kx.cell;replace rkx:=kx.frozen;replace lkx:=kx.lt)
   go_wp2_with fail
   refine (c_l10Front _ a ⟨1,t,x.b⟩ k _ (hV.out.V.below HB3.out) HV.out HLT.out).mono ?_
   rintro e w4 ⟨F,d,G,g,rfl,oF,hB4⟩
   have OF:=Lib.hid oF
   replace kx:=kx.next hB4
   have HB4:=Lib.hid (bgo HB3.out hB4)
   have hz4:=hB4.size
   clear oF hB4 qk1 rk1 lk1 qkx rkx lkx HB3 k1
   (replace qkx:=kx.cell;replace rkx:=kx.frozen;replace lkx:=kx.lt)
   go_upto_region 11 with fail
   have hbq:=bbox (Below.refl w4.heap.size w4) (.cells #[.slice F a.facts.length d,.slice G a.atoms.length g] tAs)
   have ko:Blk (w4.alloc (.cells #[.slice F a.facts.length d,.slice G a.atoms.length g] tAs)) w4.heap.size tAs #[.slice F a.facts.length d,.slice G a.atoms.length g]:=Blk.new _ _ _
   replace kx:=kx.next hbq
   replace OF:=Lib.hid (OF.out.below hbq)
   replace HB4:=Lib.hid (bgo HB4.out hbq)
   have hzo:w4.heap.size<(w4.alloc (.cells #[.slice F a.facts.length d,.slice G a.atoms.length g] tAs)).heap.size:=by simp
   clear hbq qkx rkx lkx
   generalize (w4.alloc (.cells #[.slice F a.facts.length d,.slice G a.atoms.length g] tAs))=W4 at ko kx OF HB4 hzo ⊢
   obtain ⟨yo,hyo⟩:∃ y,y=w4.heap.size:=⟨_,rfl⟩
   rw[←hyo] at ko hzo hz4 ⊢
   clear hyo
   (replace qko:=ko.cell;replace rko:=ko.frozen;replace lko:=ko.lt;replace qkx:=kx.cell;replace rkx:=kx.frozen;replace lkx:=kx.lt)
   by_cases hxt:x.a=t
   ·have hb:(x.a != t)=false:=by simpa using hxt
    have HXE:Hid (cellX a x k t=⟨a.facts,[⟨1,t,x.b⟩]++withoutL a.atoms k⟩):=Lib.hid (by unfold cellX;rw[if_pos hxt,List.append_nil];rfl)
    have OX:Hid (AsnO W4 w.heap.size (.agg #[.slice F a.facts.length d,.slice G a.atoms.length g]) (cellX a x k t)):=Lib.hid (by rw[HXE.out];exact OF.out.lower (by omega))
    have hlf:a.facts.length≤1000:=by omega
    clear hxt HXE OF kx
    generalize a.facts.length=lf at ko OX hlf ⊢
    go_upto_region 13 with fail
    refine wp_region_noPanic ?_
    refine wp_region_held_drew (S:=(fun w'=>∀ i,w'.cell? ⟨yo,i,none⟩=#[.slice F lf d,.slice G a.atoms.length g][i]?)) (by kernel_rfl) (ko.drew.cell) (fun hHeld=>?_)
    have HBQ:Hid (Below W4.heap.size W4 W4.drew):=Lib.hid (Below.refl _ _).drew
    have hzq:W4.heap.size≤W4.drew.heap.size:=Nat.le_refl _
    clear qko rko lko
    generalize W4.drew=wq at HBQ hzq hHeld ⊢
    refine tk 0 ?_ rfl (fun w hSw=>?_) hHeld ?_
    rotate_left
    ·((try dsimp only at hSw);go_split_ands;go_simp;(try with_reducible rfl))
    try simp only[Act.put,zA,zB,zC,zD,zE,zF]
    refine tk 2 ?_ rfl (fun w hSw=>?_) hHeld ?_
    rotate_left
    ·((try dsimp only at hSw);go_split_ands;go_simp;(try with_reducible rfl))
    try simp only[Act.put,zA,zB,zC,zD,zE,zF]
    refine wpAnyH_ready (rs:=[1,3]) (by kernel_rfl) (by simp) ?_
    refine AllReadyH.cons rfl (fun K hK=>?_) (AllReadyH.cons rfl (fun K hK=>?_) AllReadyH.nil)
    ·skip
     try simp only[List.getElem_toArray,List.getElem_cons_zero,List.getElem_cons_succ]
     go_simp
     refine hK.out _ _ ((ko.next HBQ.out).alloc _).cell (fun hHeldN=>?_)
     clear hHeld hK K
     have hHeld:=hHeldN
     clear hHeldN
     try simp only[Act.put,List.getElem_toArray,List.getElem_cons_zero,List.getElem_cons_succ,List.setIfInBounds_toArray,List.set_cons_zero,List.set_cons_succ]
     have hBq:Below wq.heap.size wq (wq.alloc (.cells #[.slice F lf d,.slice G a.atoms.length g] tAs)):=bbox (Below.refl _ _) _
     obtain ⟨yA,hyA⟩:∃ y,y=wq.heap.size:=⟨_,rfl⟩
     have hyAb:W4.heap.size≤yA:=by omega
     replace HBQ:=Lib.hid (HBQ.out.trans (hBq.mono hzq))
     replace hzq:=Nat.le_trans hzq hBq.size
     try replace kA:=kA.next hBq
     have kA:Blk (wq.alloc (.cells #[.slice F lf d,.slice G a.atoms.length g] tAs)) yA tAs #[.slice F lf d,.slice G a.atoms.length g]:=Blk.newE hyA
     rw[←hyA]
     clear hBq hyA
     generalize wq.alloc (.cells #[.slice F lf d,.slice G a.atoms.length g] tAs)=wq at *
     refine wpAnyH_ready (rs:=[3]) (by kernel_rfl) (by simp) ?_
     refine AllReadyH.cons rfl (fun K hK=>?_) AllReadyH.nil
     try simp only[List.getElem_toArray,List.getElem_cons_zero,List.getElem_cons_succ]
     go_simp
     refine (c_spec_AssertionValid _ (cellX a x k t) _ (OX.out.reads.below HBQ.out)).mono ?_
     rintro e wq ⟨rfl,hBq⟩
     replace HBQ:=Lib.hid (HBQ.out.trans (hBq.mono hzq))
     replace hzq:=Nat.le_trans hzq hBq.size
     try replace kA:=kA.next hBq
     clear hBq
     refine hK.out _ _ (ko.next HBQ.out).cell (fun hHeldN=>?_)
     clear hHeld hK K
     have hHeld:=hHeldN
     clear hHeldN
     try simp only[Act.put,List.getElem_toArray,List.getElem_cons_zero,List.getElem_cons_succ,List.setIfInBounds_toArray,List.set_cons_zero,List.set_cons_succ]
     refine tk 4 ?_ rfl (fun w hSw=>?_) hHeld ?_
     rotate_left
     ·((try dsimp only at hSw);go_split_ands;go_simp;(try with_reducible rfl))
     try simp only[Act.put,zA,zB,zC,zD,zE,zF]
     refine tk 5 ?_ rfl (fun w hSw=>?_) hHeld ?_
     rotate_left
     ·((try dsimp only at hSw);go_split_ands;go_simp;(try with_reducible rfl))
     try simp only[Act.put,zA,zB,zC,zD,zE,zF]
     refine wpAnyH_done (by kernel_rfl) ?_ _
     refine NoPanic.normal ?_
     have hzw4:=HB4.out.size
     go_wp2_with fail
     go_ret2
     have hA:A2O wq w.heap.size (.slice (some ⟨yA,0,none⟩) 1 1) [.slice F lf d,.slice G a.atoms.length g] [cellX a x k t]:=A2O.one kA (by omega) (OX.out.below HBQ.out)
     have hBf:Below w.heap.size w wq:=bgo HB4.out HBQ.out
     have h2n:1≤2 ^ (n+1):=Nat.one_le_two_pow
     cases hcv:(cellX a x k t).valid
     ·have E2:exposeF (n+1) a t Ks=none:=by rw[E.out,hcv];rfl
      exact ⟨_,_,_,by rw[E2];rfl,hA,h2n,.inl E2,hBf⟩
     ·have E2:exposeF (n+1) a t Ks=some [cellX a x k t]:=by rw[E.out,hcv];rfl
      exact ⟨_,_,_,by rw[E2];rfl,hA,h2n,.inr E2,hBf⟩
    ·skip
     try simp only[List.getElem_toArray,List.getElem_cons_zero,List.getElem_cons_succ]
     go_simp
     refine (c_spec_AssertionValid _ (cellX a x k t) _ (OX.out.reads.below HBQ.out)).mono ?_
     rintro e wq ⟨rfl,hBq⟩
     replace HBQ:=Lib.hid (HBQ.out.trans (hBq.mono hzq))
     replace hzq:=Nat.le_trans hzq hBq.size
     try replace kA:=kA.next hBq
     clear hBq
     refine hK.out _ _ (ko.next HBQ.out).cell (fun hHeldN=>?_)
     clear hHeld hK K
     have hHeld:=hHeldN
     clear hHeldN
     try simp only[Act.put,List.getElem_toArray,List.getElem_cons_zero,List.getElem_cons_succ,List.setIfInBounds_toArray,List.set_cons_zero,List.set_cons_succ]
     refine wpAnyH_ready (rs:=[1]) (by kernel_rfl) (by simp) ?_
     refine AllReadyH.cons rfl (fun K hK=>?_) AllReadyH.nil
     try simp only[List.getElem_toArray,List.getElem_cons_zero,List.getElem_cons_succ]
     go_simp
     refine hK.out _ _ ((ko.next HBQ.out).alloc _).cell (fun hHeldN=>?_)
     clear hHeld hK K
     have hHeld:=hHeldN
     clear hHeldN
     try simp only[Act.put,List.getElem_toArray,List.getElem_cons_zero,List.getElem_cons_succ,List.setIfInBounds_toArray,List.set_cons_zero,List.set_cons_succ]
     have hBq:Below wq.heap.size wq (wq.alloc (.cells #[.slice F lf d,.slice G a.atoms.length g] tAs)):=bbox (Below.refl _ _) _
     obtain ⟨yA,hyA⟩:∃ y,y=wq.heap.size:=⟨_,rfl⟩
     have hyAb:W4.heap.size≤yA:=by omega
     replace HBQ:=Lib.hid (HBQ.out.trans (hBq.mono hzq))
     replace hzq:=Nat.le_trans hzq hBq.size
     try replace kA:=kA.next hBq
     have kA:Blk (wq.alloc (.cells #[.slice F lf d,.slice G a.atoms.length g] tAs)) yA tAs #[.slice F lf d,.slice G a.atoms.length g]:=Blk.newE hyA
     rw[←hyA]
     clear hBq hyA
     generalize wq.alloc (.cells #[.slice F lf d,.slice G a.atoms.length g] tAs)=wq at *
     refine tk 4 ?_ rfl (fun w hSw=>?_) hHeld ?_
     rotate_left
     ·((try dsimp only at hSw);go_split_ands;go_simp;(try with_reducible rfl))
     try simp only[Act.put,zA,zB,zC,zD,zE,zF]
     refine tk 5 ?_ rfl (fun w hSw=>?_) hHeld ?_
     rotate_left
     ·((try dsimp only at hSw);go_split_ands;go_simp;(try with_reducible rfl))
     try simp only[Act.put,zA,zB,zC,zD,zE,zF]
     refine wpAnyH_done (by kernel_rfl) ?_ _
     refine NoPanic.normal ?_
     have hzw4:=HB4.out.size
     go_wp2_with fail
     go_ret2
     have hA:A2O wq w.heap.size (.slice (some ⟨yA,0,none⟩) 1 1) [.slice F lf d,.slice G a.atoms.length g] [cellX a x k t]:=A2O.one kA (by omega) (OX.out.below HBQ.out)
     have hBf:Below w.heap.size w wq:=bgo HB4.out HBQ.out
     have h2n:1≤2 ^ (n+1):=Nat.one_le_two_pow
     cases hcv:(cellX a x k t).valid
     ·have E2:exposeF (n+1) a t Ks=none:=by rw[E.out,hcv];rfl
      exact ⟨_,_,_,by rw[E2];rfl,hA,h2n,.inl E2,hBf⟩
     ·have E2:exposeF (n+1) a t Ks=some [cellX a x k t]:=by rw[E.out,hcv];rfl
      exact ⟨_,_,_,by rw[E2];rfl,hA,h2n,.inr E2,hBf⟩
   ·have hb:(x.a != t)=true:=by simpa using hxt
    have HXE:Hid (cellX a x k t=⟨a.facts++[⟨true,x.a,t⟩],[⟨1,t,x.b⟩]++withoutL a.atoms k⟩):=Lib.hid (by unfold cellX;rw[if_neg hxt];rfl)
    clear hxt
    go_wp2_with fail
    have hlg:(⟨a.facts,[⟨1,t,x.b⟩]++withoutL a.atoms k⟩:Asn).atoms.length=a.atoms.length:=by simp;omega
    have HKN:=Lib.hid (fun (Z:World) (hz:Below W4.heap.size W4 Z)=>c_l10Know _ ⟨a.facts,[⟨1,t,x.b⟩]++withoutL a.atoms k⟩ x.a t Z (OF.out.reads.below hz) (by simp only;omega))
    rw[hlg] at HKN
    refine (HKN.out _ (Below.refl _ _)).mono ?_
    rintro e w5 ⟨F5,d5,G5,g5,rfl,o5,hB5⟩
    have OX5:Hid (AsnO w5 w.heap.size (.agg #[.slice F5 (a.facts.length+1) d5,.slice G5 a.atoms.length g5]) (cellX a x k t)):=Lib.hid (by rw[HXE.out];exact o5.lower (by omega))
    have HB5:=Lib.hid (bgo HB4.out hB5)
    replace ko:=ko.next hB5
    have hz5:=hB5.size
    clear HKN hlg OF o5 hB5 HXE HB4 kx qko rko lko qkx rkx lkx
    (replace qko:=ko.cell;replace rko:=ko.frozen;replace lko:=ko.lt)
    go_upto_region 13 with fail
    have ko2:Blk ((w5.setCell ⟨yo,0,none⟩ (.slice F5 (a.facts.length+1) d5)).setCell ⟨yo,1,none⟩ (.slice G5 a.atoms.length g5)) yo tAs #[.slice F5 (a.facts.length+1) d5,.slice G5 a.atoms.length g5]:=by
     have:=(ko.set_ 0 (.slice F5 (a.facts.length+1) d5)).set_ 1 (.slice G5 a.atoms.length g5)
     simpa using this
    have OX2:Hid (AsnO ((w5.setCell ⟨yo,0,none⟩ (.slice F5 (a.facts.length+1) d5)).setCell ⟨yo,1,none⟩ (.slice G5 a.atoms.length g5)) w.heap.size (.agg #[.slice F5 (a.facts.length+1) d5,.slice G5 a.atoms.length g5]) (cellX a x k t)):=Lib.hid ⟨_,_,rfl,(OX5.out.parts.1.setT ko (by decide) 0 _).setT (ko.set_ 0 _) (by decide) 1 _,(OX5.out.parts.2.setT ko (by decide) 0 _).setT (ko.set_ 0 _) (by decide) 1 _⟩
    have HB6:Hid (Below w.heap.size w ((w5.setCell ⟨yo,0,none⟩ (.slice F5 (a.facts.length+1) d5)).setCell ⟨yo,1,none⟩ (.slice G5 a.atoms.length g5))):=Lib.hid ((HB5.out.setCell (p:=⟨yo,0,none⟩) (by simp only;omega) _).setCell (p:=⟨yo,1,none⟩) (by simp only;omega) _)
    have hzo2:yo<((w5.setCell ⟨yo,0,none⟩ (.slice F5 (a.facts.length+1) d5)).setCell ⟨yo,1,none⟩ (.slice G5 a.atoms.length g5)).heap.size:=ko2.lt
    clear ko OX5 HB5 hz5 hzo qko rko lko
    generalize ((w5.setCell ⟨yo,0,none⟩ (.slice F5 (a.facts.length+1) d5)).setCell ⟨yo,1,none⟩ (.slice G5 a.atoms.length g5))=W5 at ko2 OX2 HB6 hzo2 ⊢
    have ko:=ko2
    have OX:=OX2
    have HB4:=HB6
    have hzo:=hzo2
    have hlf:a.facts.length+1≤1000:=by omega
    clear ko2 OX2 HB6 hzo2
    generalize W5=W4 at ko OX HB4 hzo ⊢
    generalize F5=F at ko OX ⊢
    generalize d5=d at ko OX ⊢
    generalize G5=G at ko OX ⊢
    generalize g5=g at ko OX ⊢
    generalize a.facts.length+1=lf at ko OX hlf ⊢
    (replace qko:=ko.cell;replace rko:=ko.frozen;replace lko:=ko.lt)
    refine wp_region_noPanic ?_
    refine wp_region_held_drew (S:=(fun w'=>∀ i,w'.cell? ⟨yo,i,none⟩=#[.slice F lf d,.slice G a.atoms.length g][i]?)) (by kernel_rfl) (ko.drew.cell) (fun hHeld=>?_)
    have HBQ:Hid (Below W4.heap.size W4 W4.drew):=Lib.hid (Below.refl _ _).drew
    have hzq:W4.heap.size≤W4.drew.heap.size:=Nat.le_refl _
    clear qko rko lko
    generalize W4.drew=wq at HBQ hzq hHeld ⊢
    refine tk 0 ?_ rfl (fun w hSw=>?_) hHeld ?_
    rotate_left
    ·((try dsimp only at hSw);go_split_ands;go_simp;(try with_reducible rfl))
    try simp only[Act.put,zA,zB,zC,zD,zE,zF]
    refine tk 2 ?_ rfl (fun w hSw=>?_) hHeld ?_
    rotate_left
    ·((try dsimp only at hSw);go_split_ands;go_simp;(try with_reducible rfl))
    try simp only[Act.put,zA,zB,zC,zD,zE,zF]
    refine wpAnyH_ready (rs:=[1,3]) (by kernel_rfl) (by simp) ?_
    refine AllReadyH.cons rfl (fun K hK=>?_) (AllReadyH.cons rfl (fun K hK=>?_) AllReadyH.nil)
    ·skip
     try simp only[List.getElem_toArray,List.getElem_cons_zero,List.getElem_cons_succ]
     go_simp
     refine hK.out _ _ ((ko.next HBQ.out).alloc _).cell (fun hHeldN=>?_)
     clear hHeld hK K
     have hHeld:=hHeldN
     clear hHeldN
     try simp only[Act.put,List.getElem_toArray,List.getElem_cons_zero,List.getElem_cons_succ,List.setIfInBounds_toArray,List.set_cons_zero,List.set_cons_succ]
     have hBq:Below wq.heap.size wq (wq.alloc (.cells #[.slice F lf d,.slice G a.atoms.length g] tAs)):=bbox (Below.refl _ _) _
     obtain ⟨yA,hyA⟩:∃ y,y=wq.heap.size:=⟨_,rfl⟩
     have hyAb:W4.heap.size≤yA:=by omega
     replace HBQ:=Lib.hid (HBQ.out.trans (hBq.mono hzq))
     replace hzq:=Nat.le_trans hzq hBq.size
     try replace kA:=kA.next hBq
     have kA:Blk (wq.alloc (.cells #[.slice F lf d,.slice G a.atoms.length g] tAs)) yA tAs #[.slice F lf d,.slice G a.atoms.length g]:=Blk.newE hyA
     rw[←hyA]
     clear hBq hyA
     generalize wq.alloc (.cells #[.slice F lf d,.slice G a.atoms.length g] tAs)=wq at *
     refine wpAnyH_ready (rs:=[3]) (by kernel_rfl) (by simp) ?_
     refine AllReadyH.cons rfl (fun K hK=>?_) AllReadyH.nil
     try simp only[List.getElem_toArray,List.getElem_cons_zero,List.getElem_cons_succ]
     go_simp
     refine (c_spec_AssertionValid _ (cellX a x k t) _ (OX.out.reads.below HBQ.out)).mono ?_
     rintro e wq ⟨rfl,hBq⟩
     replace HBQ:=Lib.hid (HBQ.out.trans (hBq.mono hzq))
     replace hzq:=Nat.le_trans hzq hBq.size
     try replace kA:=kA.next hBq
     clear hBq
     refine hK.out _ _ (ko.next HBQ.out).cell (fun hHeldN=>?_)
     clear hHeld hK K
     have hHeld:=hHeldN
     clear hHeldN
     try simp only[Act.put,List.getElem_toArray,List.getElem_cons_zero,List.getElem_cons_succ,List.setIfInBounds_toArray,List.set_cons_zero,List.set_cons_succ]
     refine tk 4 ?_ rfl (fun w hSw=>?_) hHeld ?_
     rotate_left
     ·((try dsimp only at hSw);go_split_ands;go_simp;(try with_reducible rfl))
     try simp only[Act.put,zA,zB,zC,zD,zE,zF]
     refine tk 5 ?_ rfl (fun w hSw=>?_) hHeld ?_
     rotate_left
     ·((try dsimp only at hSw);go_split_ands;go_simp;(try with_reducible rfl))
     try simp only[Act.put,zA,zB,zC,zD,zE,zF]
     refine wpAnyH_done (by kernel_rfl) ?_ _
     refine NoPanic.normal ?_
     have hzw4:=HB4.out.size
     go_wp2_with fail
     go_ret2
     have hA:A2O wq w.heap.size (.slice (some ⟨yA,0,none⟩) 1 1) [.slice F lf d,.slice G a.atoms.length g] [cellX a x k t]:=A2O.one kA (by omega) (OX.out.below HBQ.out)
     have hBf:Below w.heap.size w wq:=bgo HB4.out HBQ.out
     have h2n:1≤2 ^ (n+1):=Nat.one_le_two_pow
     cases hcv:(cellX a x k t).valid
     ·have E2:exposeF (n+1) a t Ks=none:=by rw[E.out,hcv];rfl
      exact ⟨_,_,_,by rw[E2];rfl,hA,h2n,.inl E2,hBf⟩
     ·have E2:exposeF (n+1) a t Ks=some [cellX a x k t]:=by rw[E.out,hcv];rfl
      exact ⟨_,_,_,by rw[E2];rfl,hA,h2n,.inr E2,hBf⟩
    ·skip
     try simp only[List.getElem_toArray,List.getElem_cons_zero,List.getElem_cons_succ]
     go_simp
     refine (c_spec_AssertionValid _ (cellX a x k t) _ (OX.out.reads.below HBQ.out)).mono ?_
     rintro e wq ⟨rfl,hBq⟩
     replace HBQ:=Lib.hid (HBQ.out.trans (hBq.mono hzq))
     replace hzq:=Nat.le_trans hzq hBq.size
     try replace kA:=kA.next hBq
     clear hBq
     refine hK.out _ _ (ko.next HBQ.out).cell (fun hHeldN=>?_)
     clear hHeld hK K
     have hHeld:=hHeldN
     clear hHeldN
     try simp only[Act.put,List.getElem_toArray,List.getElem_cons_zero,List.getElem_cons_succ,List.setIfInBounds_toArray,List.set_cons_zero,List.set_cons_succ]
     refine wpAnyH_ready (rs:=[1]) (by kernel_rfl) (by simp) ?_
     refine AllReadyH.cons rfl (fun K hK=>?_) AllReadyH.nil
     try simp only[List.getElem_toArray,List.getElem_cons_zero,List.getElem_cons_succ]
     go_simp
     refine hK.out _ _ ((ko.next HBQ.out).alloc _).cell (fun hHeldN=>?_)
     clear hHeld hK K
     have hHeld:=hHeldN
     clear hHeldN
     try simp only[Act.put,List.getElem_toArray,List.getElem_cons_zero,List.getElem_cons_succ,List.setIfInBounds_toArray,List.set_cons_zero,List.set_cons_succ]
     have hBq:Below wq.heap.size wq (wq.alloc (.cells #[.slice F lf d,.slice G a.atoms.length g] tAs)):=bbox (Below.refl _ _) _
     obtain ⟨yA,hyA⟩:∃ y,y=wq.heap.size:=⟨_,rfl⟩
     have hyAb:W4.heap.size≤yA:=by omega
     replace HBQ:=Lib.hid (HBQ.out.trans (hBq.mono hzq))
     replace hzq:=Nat.le_trans hzq hBq.size
     try replace kA:=kA.next hBq
     have kA:Blk (wq.alloc (.cells #[.slice F lf d,.slice G a.atoms.length g] tAs)) yA tAs #[.slice F lf d,.slice G a.atoms.length g]:=Blk.newE hyA
     rw[←hyA]
     clear hBq hyA
     generalize wq.alloc (.cells #[.slice F lf d,.slice G a.atoms.length g] tAs)=wq at *
     refine tk 4 ?_ rfl (fun w hSw=>?_) hHeld ?_
     rotate_left
     ·((try dsimp only at hSw);go_split_ands;go_simp;(try with_reducible rfl))
     try simp only[Act.put,zA,zB,zC,zD,zE,zF]
     refine tk 5 ?_ rfl (fun w hSw=>?_) hHeld ?_
     rotate_left
     ·((try dsimp only at hSw);go_split_ands;go_simp;(try with_reducible rfl))
     try simp only[Act.put,zA,zB,zC,zD,zE,zF]
     refine wpAnyH_done (by kernel_rfl) ?_ _
     refine NoPanic.normal ?_
     have hzw4:=HB4.out.size
     go_wp2_with fail
     go_ret2
     have hA:A2O wq w.heap.size (.slice (some ⟨yA,0,none⟩) 1 1) [.slice F lf d,.slice G a.atoms.length g] [cellX a x k t]:=A2O.one kA (by omega) (OX.out.below HBQ.out)
     have hBf:Below w.heap.size w wq:=bgo HB4.out HBQ.out
     have h2n:1≤2 ^ (n+1):=Nat.one_le_two_pow
     cases hcv:(cellX a x k t).valid
     ·have E2:exposeF (n+1) a t Ks=none:=by rw[E.out,hcv];rfl
      exact ⟨_,_,_,by rw[E2];rfl,hA,h2n,.inl E2,hBf⟩
     ·have E2:exposeF (n+1) a t Ks=some [cellX a x k t]:=by rw[E.out,hcv];rfl
      exact ⟨_,_,_,by rw[E2];rfl,hA,h2n,.inr E2,hBf⟩
  ·obtain rfl:k=a.atoms.length:=by omega
   have HF1:=Lib.hid (findK_no (fun j hj=>HA.out j hj))
   clear HA
   (replace qk0:=k0.cell;replace rk0:=k0.frozen;replace lk0:=k0.lt)
   go_wp2_with fail
   clear qk0 rk0 lk0
   go_loopw [13] (fun i wr=>∃ k:Nat,k≤a.atoms.length∧i=.int .i64 k∧Hid (∀ j,j<k→findP a 2 t j=false)∧Blk wr w.heap.size tAs #[.slice A1 a.facts.length c1,.slice A2 a.atoms.length c2]∧Hid (Below w.heap.size w wr)) (fun i _=>a.atoms.length - (intOf i).toNat)
   case atStart=>exact ⟨0,Nat.zero_le _,rfl,Lib.hid fun j h=>by omega,k0,HB.out⟩
   case round=>
    clear k0 HB hzr
    obtain ⟨k,hk,rfl,HA,k0,HB⟩:=hrel
    have hzr:=HB.out.size
    by_cases hlt:k<a.atoms.length
    ·obtain ⟨b,off,rfl,g0,g1,g2⟩:=(H2.out.below HB.out).at hlt
     have hki:(k:Int)<(a.atoms.length:Int):=by omega
     have HP:Hid (findP a 2 t k=(decide (a.atoms[k].kind=2)&&impB a ⟨true,a.atoms[k].a,t⟩)):=Lib.hid (by unfold findP;rw[List.getElem?_eq_getElem hlt])
     have HXK:Hid (a.atoms[k]? = some a.atoms[k]):=Lib.hid (List.getElem?_eq_getElem hlt)
     obtain ⟨x,hx⟩:∃ x,x=a.atoms[k]:=⟨_,rfl⟩
     rw[←hx] at g0 g1 g2 HP HXK
     have hbl:=block_lt_of_cell g0
     simp only at hbl
     clear hx g2
     (replace qk0:=k0.cell;replace rk0:=k0.frozen;replace lk0:=k0.lt)
     by_cases hkd:x.kind=2
     case neg=>
      have hkb:(x.kind == 2)=false:=by simpa using hkd
      have HA2:Hid (∀ j,j<k+1→findP a 2 t j=false):=Lib.hid fun j hj=>by
       by_cases e:j=k
       ·rw[e,HP.out];simp[hkd]
       ·exact HA.out j (by omega)
      clear HA HP hkd HXK
      go_wp2_with fail
      clear qk0 rk0 lk0
      refine wp_region_noPanic ?_
      refine wp_region_held_drew (S:=(fun w'=>(∀ i,w'.cell? ⟨w.heap.size,i,none⟩=#[.slice A1 a.facts.length c1,.slice (some ⟨b,off,none⟩) a.atoms.length c2][i]?)∧w'.cell? ⟨b,off+k * 3,none⟩=some (.int .i64 x.kind)∧w'.cell? ⟨b,off+k * 3+1,none⟩=some (.int .i64 x.a))) (by kernel_rfl) (⟨k0.drew.cell,g0,g1⟩) (fun hHeld=>?_)
      refine tk 0 ?_ rfl (fun w hSw=>?_) hHeld ?_
      rotate_left
      ·((try dsimp only at hSw);go_split_ands;go_simp;(try with_reducible rfl))
      try simp only[Act.put,zA,zB,zC,zD,zE,zF]
      refine tk 1 ?_ rfl (fun w hSw=>?_) hHeld ?_
      rotate_left
      ·((try dsimp only at hSw);go_split_ands;go_simp;(try with_reducible rfl))
      try simp only[Act.put,zA,zB,zC,zD,zE,zF]
      refine tk 2 ?_ rfl (fun w hSw=>?_) hHeld ?_
      rotate_left
      ·((try dsimp only at hSw);go_split_ands;go_simp;(try with_reducible rfl))
      try simp only[Act.put,zA,zB,zC,zD,zE,zF]
      refine tk 3 ?_ rfl (fun w hSw=>?_) hHeld ?_
      rotate_left
      ·((try dsimp only at hSw);go_split_ands;go_simp;(try with_reducible rfl))
      try simp only[Act.put,zA,zB,zC,zD,zE,zF]
      refine tk 4 ?_ rfl (fun w hSw=>?_) hHeld ?_
      rotate_left
      ·((try dsimp only at hSw);go_split_ands;go_simp;(try with_reducible rfl))
      try simp only[Act.put,zA,zB,zC,zD,zE,zF]
      refine tk 5 ?_ rfl (fun w hSw=>?_) hHeld ?_
      rotate_left
      ·((try dsimp only at hSw);go_split_ands;go_simp;(try with_reducible rfl))
      try simp only[Act.put,zA,zB,zC,zD,zE,zF]
      refine tk 6 ?_ rfl (fun w hSw=>?_) hHeld ?_
      rotate_left
      ·((try dsimp only at hSw);go_split_ands;go_simp;(try with_reducible rfl))
      try simp only[Act.put,zA,zB,zC,zD,zE,zF]
      refine tk 7 ?_ rfl (fun w hSw=>?_) hHeld ?_
      rotate_left
      ·((try dsimp only at hSw);go_split_ands;go_simp;(try with_reducible rfl))
      try simp only[Act.put,zA,zB,zC,zD,zE,zF]
      refine tku 8 rfl hHeld ?_
      try simp only[Act.put,zA,zB,zC,zD,zE,zF]
      refine tku 9 rfl hHeld ?_
      try simp only[Act.put,zA,zB,zC,zD,zE,zF]
      refine tku 10 rfl hHeld ?_
      try simp only[Act.put,zA,zB,zC,zD,zE,zF]
      refine tku 11 rfl hHeld ?_
      try simp only[Act.put,zA,zB,zC,zD,zE,zF]
      refine tku 12 rfl hHeld ?_
      try simp only[Act.put,zA,zB,zC,zD,zE,zF]
      refine tku 13 rfl hHeld ?_
      try simp only[Act.put,zA,zB,zC,zD,zE,zF]
      refine tku 14 rfl hHeld ?_
      try simp only[Act.put,zA,zB,zC,zD,zE,zF]
      refine tku 15 rfl hHeld ?_
      try simp only[Act.put,zA,zB,zC,zD,zE,zF]
      refine tku 16 rfl hHeld ?_
      try simp only[Act.put,zA,zB,zC,zD,zE,zF]
      refine tk 17 ?_ rfl (fun w hSw=>?_) hHeld ?_
      rotate_left
      ·((try dsimp only at hSw);go_split_ands;go_simp;(try with_reducible rfl))
      try simp only[Act.put,zA,zB,zC,zD,zE,zF]
      refine wpAnyH_done (by kernel_rfl) ?_ _
      refine NoPanic.normal ?_
      have k0d:=k0.drew
      have HBd:=Lib.hid HB.out.drew
      clear g0 g1 hHeld
      go_wp2_with fail
      go_round
      case rel=>exact ⟨k+1,by omega,by go_num,HA2,k0d,HBd.out⟩
      case measure=>simp[intOf];omega
     have hkb:(x.kind == 2)=true:=by simpa using hkd
     have HKD:=Lib.hid hkd
     clear hkd
     go_wp2_with fail
     clear qk0 rk0 lk0
     refine wp_region_noPanic ?_
     refine wp_region_held_drew (S:=(fun w'=>(∀ i,w'.cell? ⟨w.heap.size,i,none⟩=#[.slice A1 a.facts.length c1,.slice (some ⟨b,off,none⟩) a.atoms.length c2][i]?)∧w'.cell? ⟨b,off+k * 3,none⟩=some (.int .i64 x.kind)∧w'.cell? ⟨b,off+k * 3+1,none⟩=some (.int .i64 x.a))) (by kernel_rfl) (⟨k0.drew.cell,g0,g1⟩) (fun hHeld=>?_)
     refine tk 0 ?_ rfl (fun w hSw=>?_) hHeld ?_
     rotate_left
     ·((try dsimp only at hSw);go_split_ands;go_simp;(try with_reducible rfl))
     try simp only[Act.put,zA,zB,zC,zD,zE,zF]
     refine tk 1 ?_ rfl (fun w hSw=>?_) hHeld ?_
     rotate_left
     ·((try dsimp only at hSw);go_split_ands;go_simp;(try with_reducible rfl))
     try simp only[Act.put,zA,zB,zC,zD,zE,zF]
     refine tk 2 ?_ rfl (fun w hSw=>?_) hHeld ?_
     rotate_left
     ·((try dsimp only at hSw);go_split_ands;go_simp;(try with_reducible rfl))
     try simp only[Act.put,zA,zB,zC,zD,zE,zF]
     refine tk 3 ?_ rfl (fun w hSw=>?_) hHeld ?_
     rotate_left
     ·((try dsimp only at hSw);go_split_ands;go_simp;(try with_reducible rfl))
     try simp only[Act.put,zA,zB,zC,zD,zE,zF]
     refine tk 4 ?_ rfl (fun w hSw=>?_) hHeld ?_
     rotate_left
     ·((try dsimp only at hSw);go_split_ands;go_simp;(try with_reducible rfl))
     try simp only[Act.put,zA,zB,zC,zD,zE,zF]
     refine tk 5 ?_ rfl (fun w hSw=>?_) hHeld ?_
     rotate_left
     ·((try dsimp only at hSw);go_split_ands;go_simp;(try with_reducible rfl))
     try simp only[Act.put,zA,zB,zC,zD,zE,zF]
     refine tk 6 ?_ rfl (fun w hSw=>?_) hHeld ?_
     rotate_left
     ·((try dsimp only at hSw);go_split_ands;go_simp;(try with_reducible rfl))
     try simp only[Act.put,zA,zB,zC,zD,zE,zF]
     refine tk 7 ?_ rfl (fun w hSw=>?_) hHeld ?_
     rotate_left
     ·((try dsimp only at hSw);go_split_ands;go_simp;(try with_reducible rfl))
     try simp only[Act.put,zA,zB,zC,zD,zE,zF]
     refine tk 8 ?_ rfl (fun w hSw=>?_) hHeld ?_
     rotate_left
     ·((try dsimp only at hSw);go_split_ands;go_simp;(try with_reducible rfl))
     try simp only[Act.put,zA,zB,zC,zD,zE,zF]
     refine tk 9 ?_ rfl (fun w hSw=>?_) hHeld ?_
     rotate_left
     ·((try dsimp only at hSw);go_split_ands;go_simp;(try with_reducible rfl))
     try simp only[Act.put,zA,zB,zC,zD,zE,zF]
     refine tk 10 ?_ rfl (fun w hSw=>?_) hHeld ?_
     rotate_left
     ·((try dsimp only at hSw);go_split_ands;go_simp;(try with_reducible rfl))
     try simp only[Act.put,zA,zB,zC,zD,zE,zF]
     refine tk 11 ?_ rfl (fun w hSw=>?_) hHeld ?_
     rotate_left
     ·((try dsimp only at hSw);go_split_ands;go_simp;(try with_reducible rfl))
     try simp only[Act.put,zA,zB,zC,zD,zE,zF]
     refine tk 12 ?_ rfl (fun w hSw=>?_) hHeld ?_
     rotate_left
     ·((try dsimp only at hSw);go_split_ands;go_simp;(try with_reducible rfl))
     try simp only[Act.put,zA,zB,zC,zD,zE,zF]
     refine tk 13 ?_ rfl (fun w hSw=>?_) hHeld ?_
     rotate_left
     ·((try dsimp only at hSw);go_split_ands;go_simp;(try with_reducible rfl))
     try simp only[Act.put,zA,zB,zC,zD,zE,zF]
     refine tk 14 ?_ rfl (fun w hSw=>?_) hHeld ?_
     rotate_left
     ·((try dsimp only at hSw);go_split_ands;go_simp;(try with_reducible rfl))
     try simp only[Act.put,zA,zB,zC,zD,zE,zF]
     refine tk 15 ?_ rfl (fun w hSw=>?_) hHeld ?_
     rotate_left
     ·((try dsimp only at hSw);go_split_ands;go_simp;(try with_reducible rfl))
     try simp only[Act.put,zA,zB,zC,zD,zE,zF]
     refine rdc 16 rfl fun K hK=>?_
     try simp only[zA,zB,zC]
     (go_simp;refine (c_l10Equal _ a x.a t _ (hV.out.V.below HB.out.drew)).mono ?_;rintro e w3 ⟨rfl,hB3⟩;replace hB3:Below wr.heap.size wr w3:=(Below.refl _ _).drew.trans hB3;have k3:=k0.next hB3;have HB3:=Lib.hid (bgo HB.out hB3);have q0:=(hB3.cell (p:=⟨b,off+k * 3,none⟩) hbl).trans g0;have q1:=(hB3.cell (p:=⟨b,off+k * 3+1,none⟩) hbl).trans g1)
     refine hK.out _ _ (⟨k3.cell,q0,q1⟩) ?_
     clear hHeld hK K
     intro hHeld
     try simp only[Act.put,zA,zB,zC,zD,zE,zF]
     refine tk 17 ?_ rfl (fun w hSw=>?_) hHeld ?_
     rotate_left
     ·((try dsimp only at hSw);go_split_ands;go_simp;(try with_reducible rfl))
     try simp only[Act.put,zA,zB,zC,zD,zE,zF]
     refine wpAnyH_done (by kernel_rfl) ?_ _
     refine NoPanic.normal ?_
     have hz3:=hB3.size
     clear hB3 k0 HB hkb hHeld g0 g1 q0 q1
     cases him:impB a ⟨true,x.a,t⟩
     ·have HA2:Hid (∀ j,j<k+1→findP a 2 t j=false):=Lib.hid fun j hj=>by
       by_cases e:j=k
       ·rw[e,HP.out,him];simp
       ·exact HA.out j (by omega)
      clear HA HP him
      go_wp2_with fail
      go_round
      case rel=>exact ⟨k+1,by omega,by go_num,HA2,k3,HB3.out⟩
      case measure=>simp[intOf];omega
     have HFK:=Lib.hid (findK_yes hlt HA.out (by rw[HP.out,him,HKD.out];rfl))
     have E:=Lib.hid (expose_list (n:=n) (K:=Ks) HV.out HC.out HF1.out HFK.out HXK.out)
     have HUN:=Lib.hid (HLL.out k x HV.out HF1.out HFK.out HXK.out HKD.out him)
     clear HA HP him HFK HXK
     (replace qk3:=k3.cell;replace rk3:=k3.frozen;replace lk3:=k3.lt)
     go_wp2_with fail
     refine (HUN.out lo hi lo' hi' _ B cB _ (hV.out.below HB3.out) (HFL.out.below HB3.out)).mono ?_
     rintro e w4 ⟨r,vs,l,rfl,oR,hll,hRR,hB4⟩
     have OR:=Lib.hid oR
     obtain ⟨R1,r1,rfl⟩:=oR.form
     have HLL4:=Lib.hid hll
     have HRR:=Lib.hid hRR
     have HB4:=Lib.hid (bgo HB3.out hB4)
     have hz4:=hB4.size
     clear oR hll hRR hB4
     go_wp2_with fail
     go_ret2
     exact ⟨_,vs,l,by rw[E.out];rfl,OR.out.lower (by omega),HLL4.out,by rw[E.out];exact HRR.out,HB4.out⟩
    ·obtain rfl:k=a.atoms.length:=by omega
     have E:=Lib.hid (expose_none (n:=n) (K:=Ks) HV.out HC.out HF1.out (findK_no (fun j hj=>HA.out j hj)))
     clear HA
     (replace qk0:=k0.cell;replace rk0:=k0.frozen;replace lk0:=k0.lt)
     go_wp2_with fail
     go_ret2
     exact ⟨_,[],[],by rw[E.out];rfl,(A2O.empty wr rfl).lower hzr,Nat.zero_le _,.inl E.out,bbox HB.out _⟩
theorem c_l10Open:∀ (n:Nat),n≤7→∀ (a:Asn) (t:Int) (K:Nat),OpC n a t K
 | 0,_,a,t,K=>c_l10Open_zero a t K
 | n+1,hn,a,t,K=>c_l10Open_step n a t K (by omega) fun i x hv _ _ hx _ _=>c_l10Unfold n a x i t K hv hx (by omega) (c_l10Open n (by omega) _ t K) fun m=>c_l10Open n (by omega) _ t K
end Go.Proofs.YtjjokmlmknllhaaGreat

/- Exposing cells: spec.ExposeCell. -/
namespace Go.Proofs.YtjjokmlmknllhaaGreat
open Go Go.RowKit Go.Proofs
attribute [local go_sem ↓] Go.wp_at_zero Go.wp_at_succ
theorem BoolsO.readsI9 {w:World} {base:Nat} {A:Option Addr} {n c:Nat} {fs:List Bool} (h:BoolsO w base (.slice A n c) fs):BoolsV w base w.heap.size A fs:=by
 obtain ⟨A',c',e,h1⟩:=h.reads
 injection e with e1 e2 e3
 subst e1
 exact h1
end Go.Proofs.YtjjokmlmknllhaaGreat

/- Symbolic execution of a basic command: assignments are equalities, cells are tracked. Plain; no program. -/
namespace Go.Proofs.YtjjokmlmknllhaaGreat
open Go Go.RowKit
theorem symR_some {a:Asn} {ok:Bool} {k A B:Int} {ks:List Int} {l:List Asn} (h:symR a ok k A B ks=some l):a.valid=true∧ok=true∧symB a k A B (keepK (tset ks) A B)=some l:=by
 unfold symR at h
 split at h
 ·rename_i hc
  rw[Bool.and_eq_true] at hc
  exact ⟨hc.1,hc.2,h⟩
 ·cases h
theorem valid_fact {b:Asn} (h:b.valid=true) {f:Fct} (hf:f∈b.facts):f.valid=true:=by
 simp only[Asn.valid,factsValid,Bool.and_eq_true,List.all_eq_true] at h
 exact h.1.2 f hf
theorem imp_mem {b:Asn} (h:b.valid=true) {A B:Int} (hf:(⟨true,A,B⟩:Fct)∈b.facts):impB b ⟨true,A,B⟩=true:=
 imp_iff.2 ⟨h,valid_fact h hf,fun M hM=>hM.facts _ hf⟩
theorem set_law {a:Asn} {ok:Bool} {A B:Int} {ks:List Int} {l:List Asn} (h:symR a ok 1 A B ks=some l) (hne:A≠B):∃ b,l=[b]∧impB b ⟨true,A,B⟩=true:=by
 obtain ⟨-,-,h⟩:=symR_some h
 unfold symB at h
 rw[if_pos rfl,if_neg hne] at h
 obtain ⟨b,hb,rfl⟩:=Option.map_eq_some_iff.1 h
 refine ⟨b,rfl,imp_mem (assignF_ok hb) ?_⟩
 unfold assignF at hb
 obtain ⟨p,-,h2⟩:=Option.bind_eq_some_iff.1 hb
 rw[(okX_ok h2).2]
 unfold setX swp
 rw[if_neg (fun e=>hne e.symm)]
 simp
def frontB (A:Int) (b:Asn):Prop:=b.valid=true∧∃ y rest,b.atoms=⟨1,A,y⟩ :: rest
end Go.Proofs.YtjjokmlmknllhaaGreat
