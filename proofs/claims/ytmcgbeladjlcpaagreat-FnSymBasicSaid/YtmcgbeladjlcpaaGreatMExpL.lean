/- Exposing cells: the helpers of spec. -/
import Derived.Test.YtmcgbeladjlcpaaGreatMImpS
import Derived.Deep.DeepCutAuto
import Derived.Test.YtmcgbeladjlcpaaGreatMModW
set_option linter.unusedSimpArgs false
set_option linter.unusedVariables false
set_option maxRecDepth 100000
set_option maxHeartbeats 25600000
namespace Go.Proofs.YtmcgbeladjlcpaaGreat
section
open Go Go.RowKit Go.Proofs
attribute [local go_sem ↓] Go.wp_at_zero Go.wp_at_succ
theorem c_l10Equal {lo hi:Nat} (v:Value) (a:Asn) (x y:Int) (w:World) (h:AsnV w lo hi v a):Calls Tryz.prog 153 #[v,.int .i64 x,.int .i64 y] w fun e w'=>e=.returned (.bool (impB a ⟨true,x,y⟩))∧Below w.heap.size w w':=by
 have hV:=Lib.hid h
 obtain ⟨A1,c1,A2,c2,rfl,-⟩:=h
 go_enter Tryz.func153,Tryz.ntmps153
 go_wp2_with fail
 refine (c_spec_Implies _ a ⟨true,x,y⟩ _ (hV.out.below bel)).mono ?_
 rintro e w1 ⟨rfl,hB1⟩
 have hB:=bgo (w:=w) bel hB1
 go_wp2_with fail
 go_ret
 exact ⟨rfl,hB⟩
theorem c_l10Front {lo hi:Nat} (v:Value) (a:Asn) (x:Atm) (i:Nat) (w:World) (h:AsnV w lo hi v a) (hv:a.valid=true) (hi':i<a.atoms.length) :
  Calls Tryz.prog 154 #[v,.agg #[.int .i64 x.kind,.int .i64 x.a,.int .i64 x.b],.int .i64 i] w fun e w'=>∃ F d G g,e=.returned (.agg #[.slice F a.facts.length d,.slice G a.atoms.length g])∧AsnO w' w.heap.size (.agg #[.slice F a.facts.length d,.slice G a.atoms.length g]) ⟨a.facts,[x]++withoutL a.atoms i⟩∧Below w.heap.size w w':=by
 have hV:=Lib.hid h
 obtain ⟨A1,c1,A2,c2,rfl,-⟩:=h
 have hvl:=valid_len hv
 have hwl:([x]++withoutL a.atoms i).length=a.atoms.length:=by have:=withoutL_len hi';simp;omega
 have HW:=Lib.hid hwl
 have HE:=Lib.hid (wo_one hi')
 clear hv hwl
 go_enter Tryz.func154,Tryz.ntmps154
 have kr:Blk (((w.alloc (.cells #[.slice A1 a.facts.length c1,.slice A2 a.atoms.length c2] tAs)).alloc (.cells #[.int .i64 x.kind,.int .i64 x.a,.int .i64 x.b] tA)).alloc (.cells #[.slice none 0 0,.slice none 0 0] tAs)) (w.heap.size+2) tAs #[.slice none 0 0,.slice none 0 0]:=blks
 go_wp2_with fail
 refine (c_l6WithoutF _ a i i x _ (hV.out.below bel) (by omega) (by omega)).mono ?_
 rw[HE.out]
 rintro e w1 ⟨r,rfl,o,hB1⟩
 have hB:=bgo (w:=w) bel hB1
 replace kr:=kr.next hB1
 clear hB1
 obtain ⟨fv,av,rfl,o1,o2⟩:=o
 obtain ⟨F,d,rfl,-⟩:=o1.reads
 obtain ⟨G,g,rfl,-⟩:=o2.reads
 simp only[HW.out] at o2 ⊢
 have O1:=Lib.hid (o1.lower (base':=w.heap.size) (by simp;omega))
 have O2:=Lib.hid (o2.lower (base':=w.heap.size) (by simp;omega))
 clear o1 o2
 (replace qkr:=kr.cell;replace rkr:=kr.frozen;replace lkr:=kr.lt)
 go_wp2_with fail
 refine bodyPost_ret (v:=.agg #[.slice F a.facts.length d,.slice G a.atoms.length g]) (by simp[results,Tryz.results154,go_sem,qkr]) rfl ⟨F,d,G,g,rfl,⟨_,_,rfl,?_,?_⟩,bel⟩
 ·exact (O1.out.setT kr (by decide) 0 _).setT (kr.set_ 0 _) (by decide) 1 _
 ·exact (O2.out.setT kr (by decide) 0 _).setT (kr.set_ 0 _) (by decide) 1 _
theorem c_l10Know {lo hi:Nat} (v:Value) (a:Asn) (x t:Int) (w:World) (h:AsnV w lo hi v a) (hl:a.facts.length≤1000) :
  Calls Tryz.prog 149 #[v,.int .i64 x,.int .i64 t] w fun e w'=>∃ F d G g,e=.returned (.agg #[.slice F (a.facts.length+1) d,.slice G a.atoms.length g])∧AsnO w' w.heap.size (.agg #[.slice F (a.facts.length+1) d,.slice G a.atoms.length g]) ⟨a.facts++[⟨true,x,t⟩],a.atoms⟩∧Below w.heap.size w w':=by
 have hV:=Lib.hid h
 obtain ⟨A1,c1,A2,c2,rfl,-⟩:=h
 go_enter Tryz.func149,Tryz.ntmps149
 have kr:Blk ((w.alloc (.cells #[.slice A1 a.facts.length c1,.slice A2 a.atoms.length c2] tAs)).alloc (.cells #[.slice none 0 0,.slice none 0 0] tAs)) (w.heap.size+1) tAs #[.slice none 0 0,.slice none 0 0]:=blks
 go_wp2_with fail
 refine (c_l3Copy _ a _ (hV.out.below bel)).mono ?_
 rintro e w1 ⟨r,rfl,o,hB1⟩
 have hB:=bgo (w:=w) bel hB1
 replace kr:=kr.next hB1
 have hs1:w.heap.size+2≤w1.heap.size:=by have:=hB1.size;simp at this;omega
 clear hB1
 obtain ⟨fv,av,rfl,o1,o2⟩:=o
 obtain ⟨F,d,rfl,-⟩:=o1.reads
 obtain ⟨G,g,rfl,-⟩:=o2.reads
 have O1:=Lib.hid (o1.lower (base':=w.heap.size) (by simp;omega))
 have O2:=Lib.hid (o2.lower (base':=w.heap.size) (by simp;omega))
 have HB:=Lib.hid hB
 clear o1 o2 hB
 go_upto_region 2 with fail
 have ko:Blk (w1.alloc (.cells #[.slice F a.facts.length d,.slice G a.atoms.length g] tAs)) w1.heap.size tAs #[.slice F a.facts.length d,.slice G a.atoms.length g]:=Blk.new _ _ _
 replace kr:=kr.alloc (.cells #[.slice F a.facts.length d,.slice G a.atoms.length g] tAs)
 replace O1:=Lib.hid (O1.out.below (bbox (Below.refl _ _) (.cells #[.slice F a.facts.length d,.slice G a.atoms.length g] tAs)))
 replace O2:=Lib.hid (O2.out.below (bbox (Below.refl _ _) (.cells #[.slice F a.facts.length d,.slice G a.atoms.length g] tAs)))
 replace HB:=Lib.hid (bbox HB.out (.cells #[.slice F a.facts.length d,.slice G a.atoms.length g] tAs))
 have hsw:w1.heap.size<(w1.alloc (.cells #[.slice F a.facts.length d,.slice G a.atoms.length g] tAs)).heap.size:=by simp
 generalize (w1.alloc (.cells #[.slice F a.facts.length d,.slice G a.atoms.length g] tAs))=W at ko kr O1 O2 HB hsw ⊢
 obtain ⟨y,hy⟩:∃ y,y=w1.heap.size:=⟨_,rfl⟩
 rw[←hy] at ko hs1 hsw ⊢
 clear hy
 (replace qko:=ko.cell;replace rko:=ko.frozen;replace lko:=ko.lt;replace qkr:=kr.cell;replace rkr:=kr.frozen;replace lkr:=kr.lt)
 go_wp2_with (at_builtin;refine appFL (ys:=[⟨true,x,t⟩]) (base:=w.heap.size) rfl _ _ rfl rfl (O1.out.below bel) rfl (FactsV.one (f:=⟨true,x,t⟩) (Blk.new W tF _)) (by simp;omega) (by simp;omega) ?_;intro A6 c6 w6 o6 hg6 hB6;have kO:=O1.out.below (w':=W.alloc (.cells #[.bool true,.int .i64 x,.int .i64 t] tF)) bel;have ko6:=Blk.grownO (hg:=hg6) (ko.alloc _) kO.1 (by decide);have kr6:=Blk.grownO (hg:=hg6) (kr.alloc _) kO.1 (by decide);have O26:Hid (AtomsO w6 w.heap.size (.slice G a.atoms.length g) a.atoms):=Lib.hid ⟨own_grownO (O2.out.below (w':=W.alloc (.cells #[.bool true,.int .i64 x,.int .i64 t] tF)) bel).1 kO.1 hg6 (by decide),O2.out.2⟩;have HB6:Hid (Below w.heap.size w w6):=Lib.hid ((bbox HB.out _).trans hB6);have O16:=Lib.hid o6;clear hB6 hg6 o6 kO qko rko lko qkr rkr lkr;(replace qko6:=ko6.cell;replace rko6:=ko6.frozen;replace lko6:=ko6.lt;replace qkr6:=kr6.cell;replace rkr6:=kr6.frozen;replace lkr6:=kr6.lt))
 simp only[List.length_append,List.length_cons,List.length_nil,Nat.zero_add] at O16 ⊢
 refine bodyPost_ret (v:=.agg #[.slice A6 (a.facts.length+1) c6,.slice G a.atoms.length g]) (by simp[results,Tryz.results149,go_sem,qkr6]) rfl ⟨A6,c6,G,g,rfl,⟨_,_,rfl,?_,?_⟩,?_⟩
 ·have kr7:=kr6.far (p:=⟨y,0,none⟩) (by simp only;omega) (.slice A6 (a.facts.length+1) c6)
  exact ((O16.out.setT ko6 (by decide) 0 _).setT kr7 (by decide) 0 _).setT (kr7.set_ 0 _) (by decide) 1 _
 ·have kr7:=kr6.far (p:=⟨y,0,none⟩) (by simp only;omega) (.slice A6 (a.facts.length+1) c6)
  exact ((O26.out.setT ko6 (by decide) 0 _).setT kr7 (by decide) 0 _).setT (kr7.set_ 0 _) (by decide) 1 _
 ·exact ((HB6.out.setCell (p:=⟨y,0,none⟩) (by simp only;omega) _).setCell (p:=⟨w.heap.size+1,0,none⟩) (by simp only;omega) _).setCell (p:=⟨w.heap.size+1,1,none⟩) (by simp only;omega) _
theorem c_l10New {lo hi lo' hi':Nat} (v:Value) (a:Asn) (B:Option Addr) (c K:Nat) (w:World) (h:AsnV w lo hi v a) (h':BoolsV w lo' hi' B (flagsOf K)) (hv:a.valid=true) :
  Calls Tryz.prog 219 #[v,.slice B 9 c] w fun e w'=>e=.returned (.tuple #[.int .i64 (unusedI (tset (termsL a)|||K)),.bool (newT (tset (termsL a)|||K)).isSome])∧Below w.heap.size w w':=by
 have hV:=Lib.hid h
 have HT:=Lib.hid (termsL_ok hv)
 have h'':=Lib.hid h'
 obtain ⟨pb,ob,rfl,lpb⟩:=flags_addr h'
 obtain ⟨A1,c1,A2,c2,rfl,h1,h2⟩:=h
 clear hv h1 h2
 go_enter Tryz.func219,Tryz.ntmps219
 go_wp2_with fail
 refine (c_spec_l3Terms _ a _ (hV.out.below bel) HT.out).mono ?_
 rintro e w1 ⟨r,rfl,oT,hB1⟩
 have hB:=bgo (w:=w) bel hB1
 have fC:=h''.out.below hB
 generalize hTe:tset (termsL a)=T at oT
 have HTE:=Lib.hid hTe
 clear hTe
 obtain ⟨Tb,ct,rfl,fT⟩:=oT.reads
 rw[flagsOf_length]
 obtain ⟨pt,ot,rfl,lpt⟩:=flags_addr fT
 clear hB1 oT h' h''
 go_wp2_with fail
 go_loop [7] (fun i=>∃ k:Nat,5≤k∧k≤9∧i=.int .i64 k∧Hid (∀ j,5≤j→j<k→(T|||K).testBit j=true)) (fun i=>10 - (intOf i).toNat)
 case atStart=>exact ⟨5,by omega,by omega,rfl,Lib.hid fun j h1 h2=>by omega⟩
 case round=>
  obtain ⟨k,h5,h9,rfl,HA⟩:=hrel
  by_cases hlt:k<9
  ·have hki:(k:Int)≤8:=by omega
   have f1:=flags_at fT (m:=k) (by omega)
   have f2:=flags_at fC (m:=k) (by omega)
   have k9:(k:Int)<9:=by omega
   have HBit:Hid ((T|||K).testBit k=(T.testBit k || K.testBit k)):=Lib.hid (Nat.testBit_or ..)
   have HN:Hid ((T|||K).testBit k=true→∀ j,5≤j→j<k+1→(T|||K).testBit j=true):=Lib.hid fun hb j h1 h2=>by
    by_cases e:j=k
    ·rw[e];exact hb
    ·exact HA.out j h1 (by omega)
   cases ht:T.testBit k
   ·cases hc:K.testBit k
    ·have E:=Lib.hid (newT_yes h5 (by omega) HA.out (by rw[HBit.out,ht,hc];rfl))
     rw[ht] at f1
     rw[hc] at f2
     clear ht hc HA HN HBit
     go_wp2_with fail
     go_ret2
     exact ⟨by unfold unusedI;rw[HTE.out,E.out];rfl,hB⟩
    ·have HN2:=Lib.hid (HN.out (by rw[HBit.out,ht,hc];rfl))
     rw[ht] at f1
     rw[hc] at f2
     clear ht hc HA HN HBit
     go_wp2_with fail
     go_round
     case rel=>exact ⟨k+1,by omega,by omega,by go_num,HN2⟩
     case measure=>simp[intOf];omega
   ·have HN2:=Lib.hid (HN.out (by rw[HBit.out,ht];rfl))
    rw[ht] at f1
    clear ht HA HN HBit
    go_wp2_with fail
    go_round
    case rel=>exact ⟨k+1,by omega,by omega,by go_num,HN2⟩
    case measure=>simp[intOf];omega
  ·obtain rfl:k=9:=by omega
   have E:=Lib.hid (newT_no (S:=T|||K) fun j h1 h2=>HA.out j h1 (by omega))
   go_wp2_with fail
   go_ret2
   exact ⟨by unfold unusedI;rw[HTE.out,E.out];rfl,hB⟩
end

/- Exposing cells: spec.l10Unfold. -/
section
open Go Go.RowKit Go.Proofs
attribute [local go_sem ↓] Go.wp_at_zero Go.wp_at_succ
theorem AsnO.parts {w:World} {b:Nat} {f g:Value} {a:Asn} (h:AsnO w b (.agg #[f,g]) a):FactsO w b f a.facts∧AtomsO w b g a.atoms:=by
 obtain ⟨_,_,e,h1,h2⟩:=h
 injection e with e
 injection e with e
 injection e with e1 e2
 injection e2 with e2 e3
 subst e1 e2
 exact ⟨h1,h2⟩
section
variable {ops:Array Oper} {o:Oper} {a:Act} {K:Act→World→Prop} {Q:Exit→Act→World→Prop} {E:Prop} {w:World} {base lo hi c n m:Nat} {v:Value} {A:Option Addr}
theorem stepALm (hgd:o.guard=none) (s x:Operand) (ho:o.op=.call { callee:=.builtin .append,args:=#[s,x],argTypes:=#[24,24] })
  {xs ys zs:List Atm} (hs:a.eval s=v) (hown:AtomsO w base v xs) (hx:a.eval x=.slice A m c) (hm:m=ys.length) (hR:AtomsV w lo hi A ys) (hz:zs=xs++ys) (hn:n=zs.length) (hl:n≤1049600) (hb:base≤w.heap.size)
  (h:∀ A' c' w',AtomsO w' base (.slice A' n c') zs→w.grownBy w' v.ownBlock→Below base w w'→K (a.put o.dst (.slice A' n c')) w'):if Region.wanted o (yielded ops a.tmps)=true then Oper.wp Tryz.prog o a w K Q else E:=by
 subst hm hz hn
 refine stepAL hgd s x ho hs hown hx hR (by rwa [List.length_append] at hl) hb h
end
def OpC (n:Nat) (a:Asn) (t:Int) (K:Nat):Prop:=∀ (lo hi lo' hi':Nat) (v:Value) (B:Option Addr) (c:Nat) (w:World),AsnC w lo hi v a→BoolsV w lo' hi' B (flagsOf (tins K t))→a.facts.length≤1000→a.atoms.length≤1000→
 Calls Tryz.prog 71 #[v,.int .i64 t,.slice B 9 c,.int .i64 (n:Int)] w fun e w'=>∃ r vs l,e=.returned (.tuple #[r,.bool (exposeF n a t K).isSome])∧A2O w' w.heap.size r vs l∧l.length≤2 ^ n∧(exposeF n a t K=none∨exposeF n a t K=some l)∧Below w.heap.size w w'
def UnC (n:Nat) (a:Asn) (x:Atm) (i:Nat) (t:Int) (K:Nat):Prop:=∀ (lo hi lo' hi':Nat) (v:Value) (B:Option Addr) (c:Nat) (w:World),AsnC w lo hi v a→BoolsV w lo' hi' B (flagsOf (tins K t))→
 Calls Tryz.prog 155 #[v,.int .i64 t,.slice B 9 c,.int .i64 ((n:Int)+1),.int .i64 i] w fun e w'=>∃ r vs l,e=.returned (.tuple #[r,.bool (listF n a x i t K).isSome])∧A2O w' w.heap.size r vs l∧l.length≤2 ^ (n+1)∧(listF n a x i t K=none∨listF n a x i t K=some l)∧Below w.heap.size w w'
theorem c_l10Unfold (n:Nat) (a:Asn) (x:Atm) (i:Nat) (t:Int) (Ks:Nat) (hv:a.valid=true) (hx:a.atoms[i]? = some x) (hn:n≤6)
  (HE:OpC n (emptyX a x i) t Ks) (HF:∀ m:Nat,OpC n (fullX a x i (m:Int)) t Ks):UnC n a x i t Ks:=by
 intro lo hi0 lo' hi' v B cB w h hB0
 have hV:=Lib.hid h
 have HFL:=Lib.hid hB0
 obtain ⟨A1,c1,A2,c2,rfl,h1,h2,hcap⟩:=h
 have hvl:=valid_len hv
 have HVa:=Lib.hid hv
 obtain ⟨hi,hxe⟩:=List.getElem?_eq_some_iff.1 hx
 have hwl:=withoutL_len hi
 obtain ⟨b,o,rfl,-⟩:=h2.at hi
 have HV2:=Lib.hid h2
 have hii:(i:Int)<(a.atoms.length:Int):=by omega
 have hw:IntKind.i64.wrap ((i:Int)+1)=(i:Int)+1:=IntWalk.i64_in _ (by omega)
 have hs1:=sliceAh b o a.atoms.length c2 i (by omega)
 obtain ⟨A',hs2,hA'⟩:=sliceAl b o a.atoms.length c2 (i+1) (by omega) hcap
 push_cast at hs2
 have hT:=Lib.hid (h2.take_ (k:=i) (by omega))
 have hD:Hid (AtomsV w lo _ A' (a.atoms.drop (i+1))):=Lib.hid (by
  by_cases hlt:i+1<a.atoms.length
  ·rw[hA' (by omega)]
   exact h2.drop_ (by omega)
  ·rw[List.drop_eq_nil_of_le (by omega)]
   exact Rd.nil _ _ _ _ _)
 have HL1:Hid ((a.atoms.take i).length=i):=Lib.hid (by rw[List.length_take];omega)
 have HL2:Hid ((a.atoms.drop (i+1)).length=a.atoms.length - (i+1)):=Lib.hid List.length_drop
 have HHi:=Lib.hid hi
 have HEH:=Lib.hid HE
 have HFH:=Lib.hid HF
 have HN:=Lib.hid (Nat.pow_le_pow_right (show 0<2 from by decide) hn)
 have HX:=Lib.hid hxe
 clear h1 h2 HE HF hx hv hB0 hA' hxe
 go_enter Tryz.func155,Tryz.ntmps155
 have k0:Blk (w.alloc (.cells #[.slice A1 a.facts.length c1,.slice (some ⟨b,o,none⟩) a.atoms.length c2] tAs)) w.heap.size tAs #[.slice A1 a.facts.length c1,.slice (some ⟨b,o,none⟩) a.atoms.length c2]:=blks
 have hs1':=Lib.hid hs1
 have hs2':=Lib.hid hs2
 have hw':=Lib.hid hw
 clear hs1 hs2 hw
 go_wp2_with fail
 refine (c_l10New _ a B cB (tins Ks t) _ (hV.out.V.below bel) (HFL.out.below bel) HVa.out).mono ?_
 rintro e w1 ⟨rfl,hB1⟩
 have HB:=Lib.hid (bgo (w:=w) bel hB1)
 replace k0:=k0.next hB1
 have hz1:w.heap.size+1≤w1.heap.size:=by have:=hB1.size;simp at this;omega
 clear hB1
 cases hnt:newT (tset (termsL a)|||tins Ks t)
 case none=>
  have E:=Lib.hid (list_none (n:=n) (x:=x) (i:=i) hnt)
  clear hnt
  go_wp2_with fail
  go_ret2
  exact ⟨_,[],[],by rw[E.out];rfl,(A2O.empty w1 rfl).lower (by omega),Nat.zero_le _,.inl E.out,bbox HB.out _⟩
 case some m=>
  have EI:unusedI (tset (termsL a)|||tins Ks t)=(m:Int):=by unfold unusedI;rw[hnt]
  rw[EI]
  clear EI
  have HNT:=Lib.hid hnt
  clear hnt
  (replace qk0:=k0.cell;replace rk0:=k0.frozen;replace lk0:=k0.lt)
  obtain ⟨b',o',hbo,g0,g1,g2⟩:=(HV2.out.below HB.out).at HHi.out
  injection hbo with hbo
  injection hbo with hb1 hb2
  subst hb1 hb2
  rw[HX.out] at g0 g1 g2
  go_upto_region 5 with fail
  clear qk0 rk0 lk0 g0 g1 g2
  have hbq:=bbox (Below.refl w1.heap.size w1) (.cells #[.int .i64 x.kind,.int .i64 x.a,.int .i64 x.b] tA)
  have kx:Blk (w1.alloc (.cells #[.int .i64 x.kind,.int .i64 x.a,.int .i64 x.b] tA)) w1.heap.size tA #[.int .i64 x.kind,.int .i64 x.a,.int .i64 x.b]:=Blk.new _ _ _
  replace k0:=k0.next hbq
  replace HB:=Lib.hid (bgo HB.out hbq)
  have hzw:(w1.alloc (.cells #[.int .i64 x.kind,.int .i64 x.a,.int .i64 x.b] tA)).heap.size=w1.heap.size+1:=by simp
  clear hbq
  generalize w1.alloc (.cells #[.int .i64 x.kind,.int .i64 x.a,.int .i64 x.b] tA)=W1 at k0 kx HB hzw ⊢
  obtain ⟨yx,hyx⟩:∃ y,y=w1.heap.size:=⟨_,rfl⟩
  rw[←hyx] at kx hzw ⊢
  have hyw:w.heap.size<yx:=by omega
  clear hyx hz1
  (replace qk0:=k0.cell;replace rk0:=k0.frozen;replace lk0:=k0.lt)
  go_wp2_with fail
  refine (c_l3Copy _ a _ (hV.out.V.below HB.out)).mono ?_
  rintro e w2 ⟨r,rfl,oc,hB2⟩
  obtain ⟨fv,av,rfl,o1,o2⟩:=oc
  obtain ⟨F,d,rfl,-⟩:=o1.reads
  obtain ⟨G,g,rfl,-⟩:=o2.reads
  have O1:=Lib.hid (o1.lower (base':=w.heap.size) (by omega))
  clear o1 o2
  replace k0:=k0.next hB2
  replace kx:=kx.next hB2
  replace HB:=Lib.hid (bgo HB.out hB2)
  have hz2:=hB2.size
  clear hB2 qk0 rk0 lk0
  go_upto_region 6 with fail
  have hbq:=bbox (Below.refl w2.heap.size w2) (.cells #[.slice F a.facts.length d,.slice G a.atoms.length g] tAs)
  have kE:Blk (w2.alloc (.cells #[.slice F a.facts.length d,.slice G a.atoms.length g] tAs)) w2.heap.size tAs #[.slice F a.facts.length d,.slice G a.atoms.length g]:=Blk.new _ _ _
  replace k0:=k0.next hbq
  replace kx:=kx.next hbq
  replace O1:=Lib.hid (O1.out.below hbq)
  replace HB:=Lib.hid (bgo HB.out hbq)
  have hz3:(w2.alloc (.cells #[.slice F a.facts.length d,.slice G a.atoms.length g] tAs)).heap.size=w2.heap.size+1:=by simp
  clear hbq
  generalize (w2.alloc (.cells #[.slice F a.facts.length d,.slice G a.atoms.length g] tAs))=W2 at k0 kx kE O1 HB hz3 ⊢
  obtain ⟨yE,hyE⟩:∃ y,y=w2.heap.size:=⟨_,rfl⟩
  rw[←hyE] at kE hz3 ⊢
  have hyE2:yx<yE:=by omega
  have hyE3:yE<W2.heap.size:=by omega
  clear hyE hz2 hzw hz3
  (replace qkE:=kE.cell;replace rkE:=kE.frozen;replace lkE:=kE.lt;replace qkx:=kx.cell;replace rkx:=kx.frozen;replace lkx:=kx.lt)
  go_upto_region 7 with (at_builtin;refine appFL (ys:=[⟨true,x.a,x.b⟩]) (base:=w.heap.size) rfl _ _ rfl rfl (O1.out.below bel) rfl (FactsV.one (f:=⟨true,x.a,x.b⟩) (Blk.new W2 tF _)) (by simp<;>omega) (by simp<;>omega) ?_;intro A6 c6 w6 o6 hg6 hB6;have kO:=O1.out.below (w':=W2.alloc (.cells #[.bool true,.int .i64 x.a,.int .i64 x.b] tF)) bel;have kE6:=Blk.grownO (hg:=hg6) (kE.alloc _) kO.1 (by decide);have k06:=Blk.grownO (hg:=hg6) (k0.alloc _) kO.1 (by decide);have kx6:=Blk.grownO (hg:=hg6) (kx.alloc _) kO.1 (by decide);have HB6:Hid (Below w.heap.size w w6):=Lib.hid ((bbox HB.out _).trans hB6);have O16:=Lib.hid o6;have hz6:W2.heap.size+1≤w6.heap.size:=(by have:=hg6.size;simp at this;omega);clear hB6 hg6 o6 kO qkE rkE lkE qkx rkx lkx;(replace qkE6:=kE6.cell;replace rkE6:=kE6.frozen;replace lkE6:=kE6.lt))
  simp only[List.length_append,List.length_cons,List.length_nil,Nat.zero_add] at O16 ⊢
  have kE7:Blk (w6.setCell ⟨yE,0,none⟩ (.slice A6 (a.facts.length+1) c6)) yE tAs #[.slice A6 (a.facts.length+1) c6,.slice G a.atoms.length g]:=by
   have:=kE6.set_ 0 (.slice A6 (a.facts.length+1) c6)
   simpa using this
  have k07:=k06.far (p:=⟨yE,0,none⟩) (by simp only;omega) (.slice A6 (a.facts.length+1) c6)
  have kx7:=kx6.far (p:=⟨yE,0,none⟩) (by simp only;omega) (.slice A6 (a.facts.length+1) c6)
  have O17:=Lib.hid (O16.out.setT kE6 (by decide) 0 (.slice A6 (a.facts.length+1) c6))
  have HB7:=Lib.hid (HB6.out.setCell (p:=⟨yE,0,none⟩) (by simp only;omega) (.slice A6 (a.facts.length+1) c6))
  have hz7:W2.heap.size+1≤(w6.setCell ⟨yE,0,none⟩ (.slice A6 (a.facts.length+1) c6)).heap.size:=by simpa using hz6
  clear k0 kx kE O1 HB kE6 k06 kx6 O16 HB6 hz6 qkE6 rkE6 lkE6
  generalize (w6.setCell ⟨yE,0,none⟩ (.slice A6 (a.facts.length+1) c6))=W7 at kE7 k07 kx7 O17 HB7 hz7 ⊢
  clear w6
  have hs1:=hs1'.out
  have hs2:=hs2'.out
  have hw:=hw'.out
  (replace qk07:=k07.cell;replace rk07:=k07.frozen;replace lk07:=k07.lt;replace qkE7:=kE7.cell;replace rkE7:=kE7.frozen;replace lkE7:=kE7.lt)
  go_wp2_with fail
  clear qk07 rk07 lk07
  refine wp_region_noPanic ?_
  refine wp_region_held_drew (S:=(fun w'=>∀ i,w'.cell? ⟨w.heap.size,i,none⟩=#[.slice A1 a.facts.length c1,.slice (some ⟨b,o,none⟩) a.atoms.length c2][i]?)) (by kernel_rfl) (k07.drew.cell) (fun hHeld=>?_)
  have HBQ:Hid (Below W7.heap.size W7 W7.drew):=Lib.hid (Below.refl _ _).drew
  have hzq:W7.heap.size≤W7.drew.heap.size:=Nat.le_refl _
  clear qkE7 rkE7 lkE7
  generalize W7.drew=wq at HBQ hzq hHeld ⊢
  refine tk2 1 rfl hHeld ?_
  try simp only[zz]
  refine tk2 2 rfl hHeld ?_
  try simp only[zz]
  refine tk2 3 rfl hHeld ?_
  try simp only[zz]
  refine tk2 4 rfl hHeld ?_
  try simp only[zz]
  refine tk2 6 rfl hHeld ?_
  try simp only[zz]
  refine tk2 7 rfl hHeld ?_
  try simp only[zz]
  refine tk2 8 rfl hHeld ?_
  try simp only[zz]
  refine tk2 9 rfl hHeld ?_
  try simp only[zz]
  refine tk2 10 rfl hHeld ?_
  try simp only[zz]
  clear hs1 hs2 hw
  refine rdc 0 rfl fun K hK=>?_
  try simp only[zz]
  go_simp
  refine hK.out _ _ (((k07.next HBQ.out).alloc _).cell) ?_
  clear hHeld hK K
  intro hHeld
  try simp only[zz]
  have OA0:Hid (AtomsO (wq.alloc (.cells #[] tA)) W7.heap.size (.slice (some ⟨wq.heap.size,0,none⟩) 0 0) []):=Lib.hid ((AtomsO.empty wq).lower hzq)
  replace HBQ:=Lib.hid (HBQ.out.alloc hzq (.cells #[] tA))
  have hzq2:W7.heap.size≤(wq.alloc (.cells #[] tA)).heap.size:=by simp;omega
  generalize wq.alloc (.cells #[] tA)=wz at HBQ OA0 hzq2 hHeld ⊢
  refine rdc 5 rfl fun K hK=>?_
  skip
  (refine stepALm (base:=W7.heap.size) (n:=i) (zs:=a.atoms.take i) rfl _ _ rfl rfl OA0.out rfl HL1.out.symm (hT.out.below (bgo HB7.out HBQ.out)) rfl HL1.out.symm (by omega) hzq2 ?_;intro A8 c8 w8 o8 hg8 hB8;replace HBQ:=Lib.hid (HBQ.out.trans hB8);have OA1:=Lib.hid o8;have hzq3:=Nat.le_trans hzq2 hB8.size;clear o8 hg8 hB8 OA0)
  refine hK.out _ _ ((k07.next HBQ.out).cell) ?_
  clear hHeld hK K
  intro hHeld
  try simp only[zz]
  refine rdc 11 rfl fun K hK=>?_
  skip
  (refine stepALm (base:=W7.heap.size) (n:=a.atoms.length - 1) (zs:=withoutL a.atoms i) rfl _ _ rfl rfl OA1.out rfl HL2.out.symm (hD.out.below (bgo HB7.out HBQ.out)) rfl (by omega) (by omega) hzq3 ?_;intro A9 c9 w9 o9 hg9 hB9;replace HBQ:=Lib.hid (HBQ.out.trans hB9);have OA2:=Lib.hid o9;have hzq4:=Nat.le_trans hzq3 hB9.size;clear o9 hg9 hB9 OA1)
  refine hK.out _ _ ((k07.next HBQ.out).cell) ?_
  clear hHeld hK K
  intro hHeld
  try simp only[zz]
  refine tk2 12 rfl hHeld ?_
  try simp only[zz]
  have kE9:=kE7.next HBQ.out
  have qkE9:=kE9.cell
  have rkE9:=kE9.frozen
  have lkE9:=kE9.lt
  refine rdc 13 rfl fun K hK=>?_
  try simp only[zz]
  go_simp
  refine hK.out _ _ (((k07.next HBQ.out).far (p:=⟨yE,1,none⟩) (by simp only;omega) _).cell) ?_
  clear hHeld hK K
  intro hHeld
  try simp only[zz]
  refine wpAnyH_done (by kernel_rfl) ?_ _
  refine NoPanic.normal ?_
  clear qkE9 rkE9 lkE9 hHeld
  have kE10:Blk (w9.setCell ⟨yE,1,none⟩ (.slice A9 (a.atoms.length - 1) c9)) yE tAs #[.slice A6 (a.facts.length+1) c6,.slice A9 (a.atoms.length - 1) c9]:=by
   have:=kE9.set_ 1 (.slice A9 (a.atoms.length - 1) c9)
   simpa using this
  have k010:=(k07.next HBQ.out).far (p:=⟨yE,1,none⟩) (by simp only;omega) (.slice A9 (a.atoms.length - 1) c9)
  have kx10:=(kx7.next HBQ.out).far (p:=⟨yE,1,none⟩) (by simp only;omega) (.slice A9 (a.atoms.length - 1) c9)
  have OE1:=Lib.hid ((O17.out.below HBQ.out).setT kE9 (by decide) 1 (.slice A9 (a.atoms.length - 1) c9))
  have OE2:=Lib.hid ((OA2.out.lower (base':=w.heap.size) HB7.out.size).setT kE9 (by decide) 1 (.slice A9 (a.atoms.length - 1) c9))
  have HB10:=Lib.hid ((bgo HB7.out HBQ.out).setCell (p:=⟨yE,1,none⟩) (by simp only;omega) (.slice A9 (a.atoms.length - 1) c9))
  have hz10:yE<(w9.setCell ⟨yE,1,none⟩ (.slice A9 (a.atoms.length - 1) c9)).heap.size:=kE10.lt
  clear k07 kx7 kE7 O17 HB7 hz7 HBQ OA2 kE9 hzq hzq2 hzq3 hzq4
  generalize (w9.setCell ⟨yE,1,none⟩ (.slice A9 (a.atoms.length - 1) c9))=W8 at kE10 k010 kx10 OE1 OE2 HB10 hz10 ⊢
  (replace qk010:=k010.cell;replace rk010:=k010.frozen;replace lk010:=k010.lt;replace qkx10:=kx10.cell;replace rkx10:=kx10.frozen;replace lkx10:=kx10.lt)
  go_wp2_with fail
  refine (c_l10Front _ a ⟨1,x.a,(m:Int)⟩ i _ (hV.out.V.below HB10.out) HVa.out HHi.out).mono ?_
  rintro e w11 ⟨F2,d2,G2,g2,rfl,oF,hB11⟩
  have OFX:=Lib.hid oF
  have HBX:=Lib.hid hB11
  have hz11:=hB11.size
  clear oF hB11 qk010 rk010 lk010 qkx10 rkx10 lkx10
  go_upto_region 9 with fail
  replace OFX:=Lib.hid (OFX.out.below (bbox (Below.refl _ _) (.cells #[.slice F2 a.facts.length d2,.slice G2 a.atoms.length g2] tAs)))
  replace HBX:=Lib.hid (bbox HBX.out (.cells #[.slice F2 a.facts.length d2,.slice G2 a.atoms.length g2] tAs))
  have kF:Blk (w11.alloc (.cells #[.slice F2 a.facts.length d2,.slice G2 a.atoms.length g2] tAs)) w11.heap.size tAs #[.slice F2 a.facts.length d2,.slice G2 a.atoms.length g2]:=Blk.new _ _ _
  have hzF:w11.heap.size+1≤(w11.alloc (.cells #[.slice F2 a.facts.length d2,.slice G2 a.atoms.length g2] tAs)).heap.size:=by simp
  generalize (w11.alloc (.cells #[.slice F2 a.facts.length d2,.slice G2 a.atoms.length g2] tAs))=W9 at OFX HBX kF hzF ⊢
  obtain ⟨yF,hyF⟩:∃ y,y=w11.heap.size:=⟨_,rfl⟩
  rw[←hyF] at kF hzF hz11 ⊢
  clear hyF
  have OF1:=Lib.hid OFX.out.parts.1
  have OF2:=Lib.hid OFX.out.parts.2
  clear OFX
  simp only at OF1 OF2
  have kx11:=kx10.next HBX.out
  (replace qkF:=kF.cell;replace rkF:=kF.frozen;replace lkF:=kF.lt;replace qkx11:=kx11.cell;replace rkx11:=kx11.frozen;replace lkx11:=kx11.lt)
  go_upto_region 10 with (at_builtin;refine appFL (ys:=[⟨false,x.a,x.b⟩]) (base:=W8.heap.size) rfl _ _ rfl rfl (OF1.out.below bel) rfl (FactsV.one (f:=⟨false,x.a,x.b⟩) (Blk.new W9 tF _)) (by simp<;>omega) (by simp<;>omega) ?_;intro A12 c12 w12 o12 hg12 hB12;have kO:=OF1.out.below (w':=W9.alloc (.cells #[.bool false,.int .i64 x.a,.int .i64 x.b] tF)) bel;have kF12:=Blk.grownO (hg:=hg12) (kF.alloc _) kO.1 (by decide);have OF22:=Lib.hid (AtomsO.grownF (OF2.out.below (w':=W9.alloc (.cells #[.bool false,.int .i64 x.a,.int .i64 x.b] tF)) bel) kO hg12);have HBX12:Hid (Below W8.heap.size W8 w12):=Lib.hid ((bbox HBX.out _).trans hB12);have OF12:=Lib.hid o12;clear hB12 hg12 o12 kO qkF rkF lkF qkx11 rkx11 lkx11;(replace qkF12:=kF12.cell;replace rkF12:=kF12.frozen;replace lkF12:=kF12.lt))
  simp only[List.length_append,List.length_cons,List.length_nil,Nat.zero_add] at OF12 ⊢
  have kF13:Blk (w12.setCell ⟨yF,0,none⟩ (.slice A12 (a.facts.length+1) c12)) yF tAs #[.slice A12 (a.facts.length+1) c12,.slice G2 a.atoms.length g2]:=by
   have:=kF12.set_ 0 (.slice A12 (a.facts.length+1) c12)
   simpa using this
  have OF13:=Lib.hid (OF12.out.setT kF12 (by decide) 0 (.slice A12 (a.facts.length+1) c12))
  have OF23:=Lib.hid (OF22.out.setT kF12 (by decide) 0 (.slice A12 (a.facts.length+1) c12))
  have HBX13:=Lib.hid (HBX12.out.setCell (p:=⟨yF,0,none⟩) (by simp only;omega) (.slice A12 (a.facts.length+1) c12))
  clear kF kx11 OF1 OF2 HBX kF12 OF12 OF22 HBX12 qkF12 rkF12 lkF12
  generalize (w12.setCell ⟨yF,0,none⟩ (.slice A12 (a.facts.length+1) c12))=W10 at kF13 OF13 OF23 HBX13 ⊢
  have kx13:=kx10.next HBX13.out
  (replace qkF13:=kF13.cell;replace rkF13:=kF13.frozen;replace lkF13:=kF13.lt;replace qkx13:=kx13.cell;replace rkx13:=kx13.frozen;replace lkx13:=kx13.lt)
  go_upto_region 11 with (at_builtin;refine appAL (ys:=[⟨2,(m:Int),x.b⟩]) (base:=W8.heap.size) rfl _ _ rfl rfl (OF23.out.below bel) (by rfl) (AtomsV.one (f:=⟨2,(m:Int),x.b⟩) (Blk.new W10 tA _)) (by simp<;>omega) (by have:=HBX13.out.size;simp<;>omega) ?_;intro A14 c14 w14 o14 hg14 hB14;have kO:=OF23.out.below (w':=W10.alloc (.cells #[.int .i64 2,.int .i64 m,.int .i64 x.b] tA)) bel;have kF14:=Blk.grownO (hg:=hg14) (kF13.alloc _) kO.1 (by decide);have OF14:=Lib.hid (FactsO.grownA (OF13.out.below (w':=W10.alloc (.cells #[.int .i64 2,.int .i64 m,.int .i64 x.b] tA)) bel) kO hg14);have HBX14:Hid (Below W8.heap.size W8 w14):=Lib.hid ((bbox HBX13.out _).trans hB14);have OF24:=Lib.hid o14;clear hB14 hg14 o14 kO qkF13 rkF13 lkF13 qkx13 rkx13 lkx13;(replace qkF14:=kF14.cell;replace rkF14:=kF14.frozen;replace lkF14:=kF14.lt))
  simp only[List.length_append,List.length_cons,List.length_nil,Nat.zero_add] at OF24 ⊢
  have hLL:1+(withoutL a.atoms i).length+1=a.atoms.length+1:=by omega
  try rw[hLL]
  replace OF24:Hid (AtomsO w14 W8.heap.size (.slice A14 (a.atoms.length+1) c14) (([⟨1,x.a,(m:Int)⟩]++withoutL a.atoms i)++[⟨2,(m:Int),x.b⟩])):=Lib.hid (by
   have h24:=OF24.out
   try rw[hLL] at h24
   exact h24)
  have kF15:Blk (w14.setCell ⟨yF,1,none⟩ (.slice A14 (a.atoms.length+1) c14)) yF tAs #[.slice A12 (a.facts.length+1) c12,.slice A14 (a.atoms.length+1) c14]:=by
   have:=kF14.set_ 1 (.slice A14 (a.atoms.length+1) c14)
   simpa using this
  have OF15:=Lib.hid (OF14.out.setT kF14 (by decide) 1 (.slice A14 (a.atoms.length+1) c14))
  have OF25:=Lib.hid (OF24.out.setT kF14 (by decide) 1 (.slice A14 (a.atoms.length+1) c14))
  have HBX15:=Lib.hid (HBX14.out.setCell (p:=⟨yF,1,none⟩) (by simp only;omega) (.slice A14 (a.atoms.length+1) c14))
  clear kF13 kx13 OF13 OF23 HBX13 kF14 OF14 OF24 HBX14 qkF14 rkF14 lkF14 hLL
  generalize (w14.setCell ⟨yF,1,none⟩ (.slice A14 (a.atoms.length+1) c14))=W12 at kF15 OF15 OF25 HBX15 ⊢
  have hz15:=HBX15.out.size
  have kE15:=kE10.next HBX15.out
  have OE:Hid (AsnO W12 w.heap.size (.agg #[.slice A6 (a.facts.length+1) c6,.slice A9 (a.atoms.length - 1) c9]) (emptyX a x i)):=Lib.hid ⟨_,_,rfl,OE1.out.below HBX15.out,OE2.out.below HBX15.out⟩
  have OX:Hid (AsnO W12 W8.heap.size (.agg #[.slice A12 (a.facts.length+1) c12,.slice A14 (a.atoms.length+1) c14]) (fullX a x i (m:Int))):=Lib.hid ⟨_,_,rfl,OF15.out,OF25.out⟩
  have HB15:=Lib.hid (bgo HB10.out HBX15.out)
  have hLE:Hid ((emptyX a x i).facts.length≤1000∧(emptyX a x i).atoms.length≤1000):=Lib.hid (by simp only[emptyX,List.length_append,List.length_cons,List.length_nil];omega)
  have hLF:Hid ((fullX a x i (m:Int)).facts.length≤1000∧(fullX a x i (m:Int)).atoms.length≤1000):=Lib.hid (by simp only[fullX,List.length_append,List.length_cons,List.length_nil];omega)
  clear OE1 OE2 HBX15 OF15 OF25 kE10 k010 kx10 HB10
  have hni:(n:Int)≤6:=by omega
  (replace qkE15:=kE15.cell;replace rkE15:=kE15.frozen;replace lkE15:=kE15.lt)
  go_wp2_with fail
  refine (HEH.out w.heap.size _ _ _ _ B cB _ OE.out.C (HFL.out.below HB15.out) hLE.out.1 hLE.out.2).mono ?_
  rintro e w16 ⟨r1,vs1,l1,rfl,o1,hl1,HR1,hB16⟩
  obtain ⟨R1,z1,rfl⟩:=o1.form
  have O1:=Lib.hid o1
  have HR1':=Lib.hid HR1
  replace OX:=Lib.hid (OX.out.below hB16)
  have kF16:=kF15.next hB16
  have HB16:=Lib.hid (bgo HB15.out hB16)
  have hz16:=hB16.size
  clear o1 HR1 hB16 HB15 kF15 kE15 qkE15 rkE15 lkE15 OE
  (replace qkF16:=kF16.cell;replace rkF16:=kF16.frozen;replace lkF16:=kF16.lt)
  go_wp2_with fail
  refine (HFH.out m W8.heap.size _ _ _ _ B cB _ OX.out.C (HFL.out.below HB16.out) hLF.out.1 hLF.out.2).mono ?_
  rintro e w17 ⟨r2,vs2,l2,rfl,o2,hl2,HR2,hB17⟩
  obtain ⟨R2,z2,rfl⟩:=o2.form
  have O2:=Lib.hid o2
  have HR2':=Lib.hid HR2
  have HB17':=Lib.hid hB17
  have HB17:=Lib.hid (bgo HB16.out hB17)
  have hz17:=hB17.size
  have hp:=HN.out
  have hll:l1.length+l2.length≤1049600:=by omega
  have hll2:Hid (l1.length+l2.length≤2 ^ (n+1)):=Lib.hid (by rw[Nat.pow_succ];omega)
  clear o2 HR2 hB17 HB16 kF16 qkF16 rkF16 lkF16 OX hl1 hl2 hp
  have HE1:Hid (∀ e1,exposeF n (emptyX a x i) t Ks=none→(listF n a x i t Ks).isSome=e1→e1=false):=Lib.hid fun e1 h h'=>by rw[←h',list_first HNT.out h];rfl
  have HBoth:Hid ((listF n a x i t Ks).isSome=((exposeF n (emptyX a x i) t Ks).isSome&&(exposeF n (fullX a x i (m:Int)) t Ks).isSome)∧(listF n a x i t Ks=none∨listF n a x i t Ks=some (l1++l2))):=Lib.hid (by
   rcases HR1'.out with e1|e1
   ·rw[list_first HNT.out e1,e1];exact ⟨rfl,.inl rfl⟩
   ·rcases HR2'.out with e2|e2
    ·rw[list_second HNT.out e2,e1,e2];exact ⟨rfl,.inl rfl⟩
    ·rw[list_both HNT.out e1 e2,e1,e2];exact ⟨rfl,.inr rfl⟩)
  clear HE1 HR1' HR2'
  generalize (exposeF n (emptyX a x i) t Ks).isSome=p1 at HBoth ⊢
  generalize (exposeF n (fullX a x i (m:Int)) t Ks).isSome=p2 at HBoth ⊢
  cases p1<;>cases p2
  all_goals
   go_wp2_with (at_builtin;refine wpList_appL (base:=w.heap.size) rfl _ _ 35 rfl Tryz.underlying35 infoAs2 rfl (by decide) (by decide) rfl (own_lower (own_below O1.out.row HB17'.out) (by omega)) rfl O2.out.rd.raw O2.out.els.one_cell hll (by omega) ?_;intro v18 w18 hO18 hg18 hB18;have HR18:=Lib.hid hO18;have HG18:=Lib.hid hg18;have HB18:=Lib.hid (HB17.out.trans hB18);obtain ⟨A18,d18,rfl,-⟩:=own_reads hO18 hll;clear hO18 hg18 hB18)
   go_ret2
   exact ⟨_,vs1++vs2,l1++l2,by rw[HBoth.out.1];rfl,(O1.out.lower (by omega)).cat HB17'.out O2.out (by omega) (Nat.le_refl _) hll HG18.out HR18.out,by rw[List.length_append];exact hll2.out,HBoth.out.2,HB18.out⟩
end

/- Appending assertions to a list of our own. -/
section
open Go Go.RowKit Go.Proofs
attribute [local go_sem ↓] Go.wp_at_zero Go.wp_at_succ
section
variable {ops:Array Oper} {rest:List Oper} {o:Oper} {a:Act} {Q:Exit→Act→World→Prop} {w w0:World} {base mid:Nat} {v v2:Value} {vs vs2:List Value} {ss ss2:List Asn}
theorem appA2 (hgd:o.guard=none) (s x:Operand) (ho:o.op=.call { callee:=.builtin .append,args:=#[s,x],argTypes:=#[35,35] })
  (hs:a.eval s=v) (h0:A2O w0 base v vs ss) (hb0:Below w0.heap.size w0 w) (hbase:base≤w0.heap.size) (h2:A2O w mid v2 vs2 ss2) (hm:w0.heap.size≤mid) (hx:a.eval x=v2) (hl:ss.length+ss2.length≤1049600)
  (h:∀ A' c' w',A2O w' base (.slice A' (ss.length+ss2.length) c') (vs++vs2) (ss++ss2)→w.grownBy w' v.ownBlock→Below base w w'→wpList Tryz.prog ops Q rest (a.put o.dst (.slice A' (ss.length+ss2.length) c')) w'):wpList Tryz.prog ops Q (o :: rest) a w:=by
 obtain ⟨A,c,rfl⟩:=h2.form
 refine wpList_appL (base:=base) hgd s x 35 ho Tryz.underlying35 infoAs2 rfl (by decide) (by decide) hs (own_below h0.row hb0) hx h2.rd.raw h2.els.one_cell hl (Nat.le_trans hbase hb0.size) ?_
 intro v' w' hO hg hB
 have hC:=h0.cat hb0 h2 (Nat.le_trans hbase hm) hm hl hg hO
 obtain ⟨A',d,rfl,-⟩:=own_reads hO hl
 exact h A' d w' hC hg hB
end
end

/- Exposing a cell is exact: the results entail the assertion, and one of them holds where it does. Plain; no program. -/
section
open Go Go.RowKit
section
variable {M:Int→Int} {F G G':List Atm} {a:Asn} {x:Atm} {i:Nat} {t m:Int}
theorem Cover.mk {css:List (List Atm)} (h:Covs M F G css) (hp:F.Perm css.flatten) (hn:(F.map fun y=>M y.a).Nodup):Cover M F G:=by
 have hs:=covs_starts G css h
 obtain ⟨g,g1,g2⟩:=covs_fun G css h (((hp.map fun y=>M y.a).nodup_iff.1 hn).sublist hs)
 exact ⟨g,g2,by rw[←g1];exact hp⟩
theorem cov_self (y:Atm):CovM M F y [y]:=by
 unfold CovM
 split
 ·exact ⟨y,rfl,rfl⟩
 ·exact ⟨rfl,.inl ⟨rfl,rfl⟩⟩
theorem covs_self:∀ (G:List Atm),Covs M F G (G.map fun y=>[y])
 | []=>trivial
 | y :: G=>⟨cov_self y,covs_self G⟩
theorem flat_self:∀ (G:List Atm),(G.map fun y=>[y]).flatten=G
 | []=>rfl
 | y :: G=>by simp[flat_self G]
theorem Cover.permG (h:Cover M F G) (hp:G.Perm G'):Cover M F G':=by
 obtain ⟨g,h1,h2⟩:=h
 exact ⟨g,fun x hx=>h1 x (hp.mem_iff.2 hx),h2.trans (hp.flatMap_right g)⟩
theorem fill_perm (hx:a.atoms[i]? = some x):(a.atoms.filter (fillM M)).Perm ((x :: withoutL a.atoms i).filter (fillM M)):=(without_perm hx).filter _
theorem cell_fill {p q:Int}:fillM M ⟨1,p,q⟩=true:=rfl
theorem ent_cellX (hx:a.atoms[i]? = some x) (hk:x.kind=1) (ht:M x.a=M t) (ha:Sat M a):EntM M a (cellX a x i t):=by
 have hfx:fillM M x=true:=by unfold fillM;rw[decide_eq_true hk];rfl
 refine ⟨fun f hf=>?_,?_⟩
 ·simp only[cellX,List.mem_append] at hf
  rcases hf with hf|hf
  ·exact ha.facts f hf
  ·split at hf
   ·cases hf
   ·rw[List.mem_singleton.1 hf]
    exact decide_eq_true ht
 ·have hp:=fill_perm (M:=M) hx
  rw[List.filter_cons_of_pos hfx] at hp
  simp only[cellX]
  rw[List.filter_cons_of_pos cell_fill]
  refine Cover.mk (css:=[x] :: ((withoutL a.atoms i).filter (fillM M)).map fun y=>[y]) ⟨?_,covs_self _⟩ (by rw[List.flatten_cons,flat_self];exact hp) ha.apart
  unfold CovM
  rw[if_pos rfl]
  exact ⟨x,rfl,by simp[clsM,hk,ht]⟩
theorem ent_ofCell (hx:a.atoms[i]? = some x) (hk:x.kind=1) (hs:Sat M (cellX a x i t)):M x.a=M t∧EntM M (cellX a x i t) a:=by
 have hfx:fillM M x=true:=by unfold fillM;rw[decide_eq_true hk];rfl
 have ht:M x.a=M t:=by
  by_cases e:x.a=t
  ·rw[e]
  ·exact of_decide_eq_true (hs.facts ⟨true,x.a,t⟩ (by simp[cellX,e]))
 refine ⟨ht,fun f hf=>hs.facts f (by simp[cellX,hf]),?_⟩
 have hp:=fill_perm (M:=M) hx
 rw[List.filter_cons_of_pos hfx] at hp
 have hn:=hs.apart
 simp only[cellX] at hn ⊢
 rw[List.filter_cons_of_pos cell_fill] at hn ⊢
 refine (Cover.mk (G:=x :: (withoutL a.atoms i).filter (fillM M)) (css:=[⟨1,t,x.b⟩] :: ((withoutL a.atoms i).filter (fillM M)).map fun y=>[y]) ⟨?_,covs_self _⟩ (by rw[List.flatten_cons,flat_self];exact List.Perm.refl _) hn).permG hp.symm
 unfold CovM
 rw[if_pos hk]
 exact ⟨_,rfl,by simp[clsM,hk,ht]⟩
theorem unfill (hk:x.kind=2) (he:M x.a=M x.b):fillM M x=false:=by
 unfold fillM;rw[decide_eq_false (by omega),decide_eq_true he];rfl
theorem ent_emptyX (hx:a.atoms[i]? = some x) (hk:x.kind=2) (he:M x.a=M x.b) (ha:Sat M a):EntM M a (emptyX a x i):=by
 refine ⟨fun f hf=>?_,?_⟩
 ·simp only[emptyX,List.mem_append,List.mem_singleton] at hf
  rcases hf with hf|rfl
  ·exact ha.facts f hf
  ·exact decide_eq_true he
 ·have hp:=fill_perm (M:=M) hx
  rw[List.filter_cons_of_neg (by simp[unfill hk he])] at hp
  exact Cover.perm hp
theorem ent_ofEmpty (hx:a.atoms[i]? = some x) (hk:x.kind=2) (hs:Sat M (emptyX a x i)):EntM M (emptyX a x i) a:=by
 have he:M x.a=M x.b:=of_decide_eq_true (hs.facts ⟨true,x.a,x.b⟩ (by simp[emptyX]))
 refine ⟨fun f hf=>hs.facts f (by simp[emptyX,hf]),?_⟩
 have hp:=fill_perm (M:=M) hx
 rw[List.filter_cons_of_neg (by simp[unfill hk he])] at hp
 exact Cover.perm hp.symm
theorem ent_ofFull (hx:a.atoms[i]? = some x) (hk:x.kind=2) (hs:Sat M (fullX a x i m)):EntM M (fullX a x i m) a:=by
 have hne:decide (M x.a=M x.b)=false:=hs.facts ⟨false,x.a,x.b⟩ (by simp[fullX])
 have hfx:fillM M x=true:=by unfold fillM;rw[hne];simp
 have hn:=hs.apart
 refine ⟨fun f hf=>hs.facts f (by simp[fullX,hf]),?_⟩
 have hp:=fill_perm (M:=M) hx
 rw[List.filter_cons_of_pos hfx] at hp
 simp only[fullX] at hn ⊢
 rw[List.filter_append,List.filter_append,List.filter_cons_of_pos cell_fill,List.filter_nil] at hn ⊢
 refine Cover.permG ?_ hp.symm
 cases hfl:fillM M ⟨2,m,x.b⟩
 ·have hmb:M m=M x.b:=by simpa [fillM] using hfl
  rw[List.filter_cons_of_neg (by simp[hfl]),List.filter_nil,List.append_nil] at hn ⊢
  refine Cover.mk (css:=[⟨1,x.a,m⟩] :: ((withoutL a.atoms i).filter (fillM M)).map fun y=>[y]) ⟨?_,covs_self _⟩ (by rw[List.flatten_cons,flat_self];done) hn
  unfold CovM
  rw[if_neg (by omega)]
  exact ⟨rfl,.inl ⟨rfl,hmb⟩⟩
 ·have hmb:M m≠M x.b:=by simpa [fillM] using hfl
  rw[List.filter_cons_of_pos hfl,List.filter_nil] at hn ⊢
  refine Cover.mk (css:=[⟨1,x.a,m⟩,⟨2,m,x.b⟩] :: ((withoutL a.atoms i).filter (fillM M)).map fun y=>[y]) ⟨?_,covs_self _⟩ ?_ hn
  ·unfold CovM
   rw[if_neg (by omega)]
   exact ⟨rfl,.inr ⟨by simp,hmb,fun (h:(1:Int)=2)=>absurd h (by decide),rfl,.inl ⟨rfl,rfl⟩⟩⟩
  ·rw[List.flatten_cons,flat_self]
   simp only[List.singleton_append,List.cons_append,List.nil_append]
   exact (List.perm_append_singleton _ _).cons _
end
theorem expose_valid {n:Nat} {a:Asn} {t:Int} {K:Nat} {l:List Asn} (h:exposeF n a t K=some l):a.valid=true:=by
 cases hv:a.valid
 ·rw[expose_bad hv] at h;cases h
 ·rfl
theorem expose_ent:∀ (n:Nat) (a:Asn) (t:Int) (K:Nat) (l:List Asn),exposeF n a t K=some l→∀ e∈l,e.valid=true∧(∀ M,Sat M e→EntM M e a)∧∃ b rest,e.atoms=⟨1,t,b⟩ :: rest
 | 0,_,_,_,_,h=>by cases h
 | n+1,a,t,K,l,h=>by
  intro e he
  have hv:=expose_valid h
  cases hc:consB a
  ·rw[expose_no hv hc] at h
   obtain rfl:=Option.some.inj h
   cases he
  cases hf:findK a 1 t with
  | some i=>
   obtain ⟨x,hx,hk,-,-⟩:=find_some hf
   rw[expose_cell hv hc hf hx] at h
   split at h
   ·rename_i hcv
    obtain rfl:=Option.some.inj h
    obtain rfl:=List.mem_singleton.1 he
    exact ⟨hcv,fun M hM=>(ent_ofCell hx hk hM).2,_,_,rfl⟩
   ·cases h
  | none=>
   cases hg:findK a 2 t with
   | none=>rw[expose_none hv hc hf hg] at h;cases h
   | some i=>
    obtain ⟨x,hx,hk,-,-⟩:=find_some hg
    rw[expose_list hv hc hf hg hx] at h
    unfold listF at h
    split at h
    ·cases h
    ·rename_i m hm
     split at h
     ·cases h
     ·rename_i l1 h1
      split at h
      ·cases h
      ·rename_i l2 h2
       obtain rfl:=Option.some.inj h
       rcases List.mem_append.1 he with he|he
       ·obtain ⟨g1,g2,g3⟩:=expose_ent n _ _ _ _ h1 e he
        exact ⟨g1,fun M hM=>(g2 M hM).trans (ent_ofEmpty hx hk ((g2 M hM).sat hM)) hM (expose_valid h1),g3⟩
       ·obtain ⟨g1,g2,g3⟩:=expose_ent n _ _ _ _ h2 e he
        exact ⟨g1,fun M hM=>(g2 M hM).trans (ent_ofFull hx hk ((g2 M hM).sat hM)) hM (expose_valid h2),g3⟩
theorem tval_set {vs:List Int} (hl:vs.length=8) {m:Int} (h1:1≤m) (h8:m≤8) (v:Int) {u:Int} (hu:0≤u):tval (vs.set (m - 1).toNat v) u=if u=m then v else tval vs u:=by
 unfold tval
 by_cases e0:u=0
 ·rw[if_pos e0,if_pos e0,if_neg (by omega)]
 ·rw[if_neg e0,if_neg e0]
  by_cases e:u=m
  ·rw[if_pos e,e,List.getElem?_set_self (by omega)];rfl
  ·rw[if_neg e,List.getElem?_set_ne (by omega)]
theorem set_valid {s:Ste} (hs:s.valid=true) (k:Nat) {v:Int} (hv:valB v=true):(⟨s.values.set k v,s.heap⟩:Ste).valid=true:=by
 simp only[Ste.valid,Bool.and_eq_true,decide_eq_true_eq,List.length_set] at hs ⊢
 refine ⟨hs.1,List.all_eq_true.2 fun y hy=>?_,hs.2.2⟩
 rcases List.mem_or_eq_of_mem_set hy with hy|rfl
 ·exact List.all_eq_true.1 hs.2.1 y hy
 ·exact hv
theorem holds_parts {s:Ste} {a:Asn}:holdsF s a=true↔s.valid=true∧a.valid=true∧(∀ f∈a.facts,decide (tval s.values f.a=tval s.values f.b)=f.eq)∧(∀ x∈a.atoms,atomCells s x=some (cellsOf s x))∧(a.atoms.flatMap (cellsOf s)).Nodup∧∀ c,allocB s.heap c=true→c∈a.atoms.flatMap (cellsOf s):=by
 rw[holds_iff]
 constructor
 ·rintro ⟨out,h1,h2⟩
  obtain ⟨g1,g2,g3,g4⟩:=partOf_some.1 h1
  obtain ⟨k1,k2,k3⟩:=(parts_iff _ _ _ List.nodup_nil).1 g4
  rw[List.nil_append] at k2
  subst k2
  exact ⟨g1,g2,(part_sat h1).facts,k1,k3,h2⟩
 ·rintro ⟨g1,g2,hf,k1,k3,h2⟩
  refine ⟨_,partOf_some.2 ⟨g1,g2,?_,(parts_iff _ _ _ List.nodup_nil).2 ⟨k1,by simp,k3⟩⟩,h2⟩
  simp only[factsHold,Bool.and_eq_true,decide_eq_true_eq]
  refine ⟨⟨Asn.valid_facts g2,(Ste.valid_len g1).1⟩,List.all_eq_true.2 fun f hm=>?_⟩
  unfold Fct.holds
  rw[beq_iff_eq]
  exact hf f hm
theorem full_holds {s:Ste} {a:Asn} {x:Atm} {i:Nat} {m:Int} (hx:a.atoms[i]? = some x) (hk:x.kind=2) (hne:tval s.values x.a≠tval s.values x.b) (h:holdsF s a=true) (hm5:5≤m) (hm8:m≤8) (hfr:m∉termsL a) (hv:(fullX a x i m).valid=true) :
  holdsF ⟨s.values.set (m - 1).toNat (cont s.heap (tval s.values x.a)),s.heap⟩ (fullX a x i m)=true:=by
 obtain ⟨h1,h2,h3,h4,h5,h6⟩:=holds_parts.1 h
 have hl:=(Ste.valid_len h1).1
 have hxm:x∈a.atoms:=List.mem_of_getElem? hx
 have hT:∀ u∈termsL a,tval (s.values.set (m - 1).toNat (cont s.heap (tval s.values x.a))) u=tval s.values u:=fun u hu=>by
  rw[tval_set hl (by omega) hm8 _ (isTermB_iff.1 (termsL_ok h2 u hu)).1,if_neg fun e=>hfr (by rw[←e];exact hu)]
 have hM:tval (s.values.set (m - 1).toNat (cont s.heap (tval s.values x.a))) m=cont s.heap (tval s.values x.a):=by
  rw[tval_set hl (by omega) hm8 _ (by omega),if_pos rfl]
 have hwx:=h4 x hxm
 have hwx0:=hwx
 unfold atomCells at hwx
 rw[if_pos hk] at hwx
 have hwx':=hwx
 rw[walkF,if_neg hne] at hwx'
 split at hwx'
 case isFalse=>cases hwx'
 rename_i hal
 obtain ⟨ds,hd,hcs⟩:=Option.map_eq_some_iff.1 hwx'
 have hcl:=cont_le (by simp only[Ste.valid,Bool.and_eq_true] at h1;exact h1.2.2) (tval s.values x.a)
 have hcv:valB (cont s.heap (tval s.values x.a))=true:=by
  simp only[allocB,decide_eq_true_eq] at hal
  simp[valB];omega
 have hs':=set_valid h1 (m - 1).toNat hcv
 generalize hvs:s.values.set (m - 1).toNat (cont s.heap (tval s.values x.a))=vs at hT hM hs' ⊢
 have hat:∀ y∈a.atoms,atomCells ⟨vs,s.heap⟩ y=atomCells s y:=fun y hy=>by
  unfold atomCells
  rw[hT _ (termsL_atm hy).1,hT _ (termsL_atm hy).2]
 have hce:∀ y∈a.atoms,cellsOf ⟨vs,s.heap⟩ y=cellsOf s y:=fun y hy=>by unfold cellsOf;rw[hat y hy]
 have hp:=without_perm hx
 have hW:∀ y∈withoutL a.atoms i,y∈a.atoms:=fun y hy=>hp.mem_iff.2 (List.mem_cons_of_mem _ hy)
 have hc1:atomCells ⟨vs,s.heap⟩ ⟨1,x.a,m⟩=some [tval s.values x.a]:=by
  unfold atomCells
  rw[if_neg (show ¬(1:Int)=2 by decide)]
  simp only
  rw[hT _ (termsL_atm hxm).1,hM,if_pos rfl]
 have hc2:atomCells ⟨vs,s.heap⟩ ⟨2,m,x.b⟩=some ds:=by
  unfold atomCells
  rw[if_pos rfl]
  simp only
  rw[hT _ (termsL_atm hxm).2,hM]
  have:=walk_fuel _ _ _ _ hd
  exact this.2 8 (by omega)
 have hflat:((fullX a x i m).atoms.flatMap (cellsOf ⟨vs,s.heap⟩)).Perm (a.atoms.flatMap (cellsOf s)):=by
  have e1:cellsOf ⟨vs,s.heap⟩ ⟨1,x.a,m⟩=[tval s.values x.a]:=by unfold cellsOf;rw[hc1];rfl
  have e2:cellsOf ⟨vs,s.heap⟩ ⟨2,m,x.b⟩=ds:=by unfold cellsOf;rw[hc2];rfl
  have e3:(withoutL a.atoms i).flatMap (cellsOf ⟨vs,s.heap⟩)=(withoutL a.atoms i).flatMap (cellsOf s):=by
   unfold List.flatMap
   congr 1
   exact List.map_congr_left fun y hy=>hce y (hW y hy)
  have e4:cellsOf s x=tval s.values x.a :: ds:=by rw[←hcs]
  have hpp:=hp.flatMap_right (cellsOf s)
  rw[List.flatMap_cons,e4] at hpp
  simp only[fullX,List.flatMap_append,List.flatMap_cons,List.flatMap_nil,List.append_nil,e1,e2,e3]
  refine List.Perm.trans ?_ hpp.symm
  simp only[List.singleton_append,List.cons_append]
  exact List.perm_append_comm.cons _
 refine holds_parts.2 ⟨hs',hv,fun f hf=>?_,fun y hy=>?_,hflat.symm.nodup_iff.1 h5,fun c hc=>hflat.mem_iff.2 (h6 c hc)⟩
 ·simp only[fullX,List.mem_append,List.mem_singleton] at hf
  rcases hf with hf|rfl
  ·show decide (tval vs f.a=tval vs f.b)=f.eq
   rw[hT _ (termsL_facts hf).1,hT _ (termsL_facts hf).2]
   exact h3 f hf
  ·show decide (tval vs x.a=tval vs x.b)=false
   rw[hT _ (termsL_atm hxm).1,hT _ (termsL_atm hxm).2]
   exact decide_eq_false hne
 ·simp only[fullX,List.mem_append,List.mem_singleton] at hy
  unfold cellsOf
  rcases hy with (rfl|hy)|rfl
  ·rw[hc1];rfl
  ·rw[hat y (hW y hy),h4 y (hW y hy)];rfl
  ·rw[hc2];rfl
theorem termsL_empty {a:Asn} {x:Atm} {i:Nat} (hx:a.atoms[i]? = some x) {u:Int} (h:u∈termsL a):u∈termsL (emptyX a x i):=by
 have hp:=without_perm hx
 simp only[termsL,List.mem_append,List.mem_flatMap] at h ⊢
 rcases h with ⟨f,hf,hu⟩|⟨y,hy,hu⟩
 ·exact .inl ⟨f,by simp[emptyX,hf],hu⟩
 ·rcases List.mem_cons.1 (hp.mem_iff.1 hy) with rfl|hy
  ·refine .inl ⟨⟨true,y.a,y.b⟩,by simp[emptyX],?_⟩
   simpa [atomT,factT] using hu
  ·exact .inr ⟨y,hy,hu⟩
theorem newT_spec {S m:Nat} (h:newT S=some m):5≤m∧m≤8∧S.testBit m=false:=by
 unfold newT at h
 have h1:=List.mem_range'_1.1 (List.mem_of_find?_eq_some h)
 have h2:=List.find?_some h
 exact ⟨by omega,by omega,by simpa using h2⟩
theorem expose_model:∀ (n:Nat) (a:Asn) (t:Int) (K:Nat) (l:List Asn),isTermB t=true→exposeF n a t K=some l→∀ s,holdsF s a=true→∃ e∈l,∃ s',holdsF s' e=true∧s'.heap=s.heap∧∀ u,0≤u→u≤8→(u<5∨u∈termsL a∨u=t∨K.testBit u.toNat=true∨u∉termsL e)→tval s'.values u=tval s.values u
 | 0,_,_,_,_,_,h=>by cases h
 | n+1,a,t,K,l,ht,h=>by
  intro s hs
  have hv:=expose_valid h
  obtain ⟨hsv,-,-,hc⟩:=case_of_law hs
  obtain ⟨out,hout,-⟩:=holds_iff.1 hs
  have hsat:=part_sat hout
  cases hf:findK a 1 t with
  | some i=>
   obtain ⟨x,hx,hk,himp,-⟩:=find_some hf
   rw[expose_cell hv hc hf hx] at h
   split at h
   ·rename_i hcv
    obtain rfl:=Option.some.inj h
    have hxt:=(imp_iff.1 himp).2.2 _ hsat
    exact ⟨_,List.mem_singleton.2 rfl,s,snd_holds hs (ent_cellX hx hk (of_decide_eq_true hxt) hsat) hcv,rfl,fun _ _ _ _=>rfl⟩
   ·cases h
  | none=>
   cases hg:findK a 2 t with
   | none=>rw[expose_none hv hc hf hg] at h;cases h
   | some i=>
    obtain ⟨x,hx,hk,himp,-⟩:=find_some hg
    have hxt:=(imp_iff.1 himp).2.2 _ hsat
    rw[expose_list hv hc hf hg hx] at h
    unfold listF at h
    split at h
    ·cases h
    ·rename_i m hm
     split at h
     ·cases h
     ·rename_i l1 h1
      split at h
      ·cases h
      ·rename_i l2 h2
       obtain rfl:=Option.some.inj h
       by_cases hne:tval s.values x.a=tval s.values x.b
       ·obtain ⟨e,he,s',g1,g2,g3⟩:=expose_model n _ _ _ _ ht h1 s (snd_holds hs (ent_emptyX hx hk hne hsat) (expose_valid h1))
        refine ⟨e,List.mem_append_left _ he,s',g1,g2,fun u u0 u8 hu=>g3 u u0 u8 ?_⟩
        rcases hu with hu|hu|hu
        ·exact .inl hu
        ·exact .inr (.inl (termsL_empty hx hu))
        ·exact .inr (.inr hu)
       ·obtain ⟨m5,m8,mb⟩:=newT_spec hm
        have hfv:=expose_valid h2
        rw[Nat.testBit_or,Bool.or_eq_false_iff] at mb
        have hmt:(m:Int)∉termsL a:=fun hmem=>by
         have:=mb.1
         rw[tset_bit,decide_eq_false_iff_not] at this
         exact this ⟨isTermB_iff.2 (by omega),hmem⟩
        have hfull:=full_holds hx hk hne hs (m:=(m:Int)) (by omega) (by omega) hmt hfv
        obtain ⟨n',rfl⟩:∃ n',n=n'+1:=by
         cases n with
         | zero=>cases h2
         | succ n'=>exact ⟨n',rfl⟩
        obtain ⟨-,-,-,hfc⟩:=case_of_law hfull
        have hf0:=full_find hx hk hfv himp
        have hx0:(fullX a x i (m:Int)).atoms[0]? = some ⟨1,x.a,(m:Int)⟩:=by simp[fullX]
        rw[expose_cell hfv hfc hf0 hx0] at h2
        split at h2
        case isFalse=>cases h2
        rename_i hcv
        obtain rfl:=Option.some.inj h2
        obtain ⟨out',hout',-⟩:=holds_iff.1 hfull
        have hsat':=part_sat hout'
        have hxa:tval (s.values.set ((m:Int) - 1).toNat (cont s.heap (tval s.values x.a))) x.a=tval (s.values.set ((m:Int) - 1).toNat (cont s.heap (tval s.values x.a))) t:=
         of_decide_eq_true ((imp_iff.1 (full_imp hx hk hfv himp)).2.2 _ hsat')
        refine ⟨_,List.mem_append_right _ (List.mem_singleton.2 rfl),_,snd_holds hfull (ent_cellX hx0 rfl hxa hsat') hcv,rfl,fun u u0 u8 hu=>?_⟩
        show tval (s.values.set ((m:Int) - 1).toNat _) u=_
        rw[tval_set (Ste.valid_len hsv).1 (by omega) (by omega) _ u0,if_neg]
        rintro rfl
        have hbt:=mb.2
        rw[tins_bit,Bool.or_eq_false_iff] at hbt
        rcases hu with hu|hu|hu|hu|hu
        ·omega
        ·exact hmt hu
        ·have:=hbt.2
         rw[hu,ht] at this
         simp at this
        ·rw[Int.toNat_natCast,hbt.1] at hu;cases hu
        ·refine hu ?_
         refine (termsL_atm (a:=cellX (fullX a x i (m:Int)) ⟨1,x.a,(m:Int)⟩ 0 t) (x:=⟨1,t,(m:Int)⟩) ?_).2
         exact List.mem_cons_self
end

end Go.Proofs.YtmcgbeladjlcpaaGreat
