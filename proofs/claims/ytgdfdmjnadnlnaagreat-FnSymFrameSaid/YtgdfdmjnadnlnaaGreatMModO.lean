/- Exposing cells: spec.l10Unfold. -/
import Derived.Test.YtgdfdmjnadnlnaaGreatMOpnS
import Derived.Deep.DeepCutAuto
import Derived.Deep.LoopGhost
import Derived.Test.YtgdfdmjnadnlnaaGreatMModW
set_option linter.unusedSimpArgs false
set_option linter.unusedVariables false
set_option maxRecDepth 100000
set_option maxHeartbeats 25600000
namespace Go.Proofs.YtgdfdmjnadnlnaaGreat
section
open Go Go.RowKit Go.Proofs
attribute [local go_sem ↓] Go.wp_at_zero Go.wp_at_succ
theorem AsnO.parts {w:World} {b:Nat} {f g:Value} {a:Asn} (h:AsnO w b (.agg #[f,g]) a):FactsO w b f a.facts∧AtomsO w b g a.atoms:=by
 obtain ⟨_,_,e,h1,h2⟩:=h;injection e with e;injection e with e;injection e with e1 e2;injection e2 with e2 e3;subst e1 e2;exact ⟨h1,h2⟩
section
variable {ops:Array Oper} {o:Oper} {a:Act} {K:Act→World→Prop} {Q:Exit→Act→World→Prop} {E:Prop} {w:World} {base lo hi c n m:Nat} {v:Value} {A:Option Addr}
theorem stepALm (hgd:o.guard=none) (s x:Operand) (ho:o.op=.call { callee:=.builtin .append,args:=#[s,x],argTypes:=#[34,34] })
  {xs ys zs:List Atm} (hs:a.eval s=v) (hown:AtomsO w base v xs) (hx:a.eval x=.slice A m c) (hm:m=ys.length) (hR:AtomsV w lo hi A ys) (hz:zs=xs++ys) (hn:n=zs.length) (hl:n≤1049600) (hb:base≤w.heap.size)
  (h:∀ A' c' w',AtomsO w' base (.slice A' n c') zs→w.grownBy w' v.ownBlock→Below base w w'→K (a.put o.dst (.slice A' n c')) w'):if Region.wanted o (yielded ops a.tmps)=true then Oper.wp Tryz.prog o a w K Q else E:=by
 subst hm hz hn;refine stepAL hgd s x ho hs hown hx hR (by rwa [List.length_append] at hl) hb h
end
def OpC (n:Nat) (a:Asn) (t:Int) (K:Nat):Prop:=∀ (lo hi lo' hi':Nat) (v:Value) (B:Option Addr) (c:Nat) (w:World),AsnC w lo hi v a→BoolsV w lo' hi' B (flagsOf (tins K t))→a.facts.length≤1000→a.atoms.length≤1000→
 Calls Tryz.prog 99 #[v,.int .i64 t,.slice B 9 c,.int .i64 (n:Int)] w fun e w'=>∃ r vs l,e=.returned (.tuple #[r,.bool (exposeF n a t K).isSome])∧A2O w' w.heap.size r vs l∧l.length≤2 ^ n∧(exposeF n a t K=none∨exposeF n a t K=some l)∧Below w.heap.size w w'
def UnC (n:Nat) (a:Asn) (x:Atm) (i:Nat) (t:Int) (K:Nat):Prop:=∀ (lo hi lo' hi':Nat) (v:Value) (B:Option Addr) (c:Nat) (w:World),AsnC w lo hi v a→BoolsV w lo' hi' B (flagsOf (tins K t))→
 Calls Tryz.prog 169 #[v,.int .i64 t,.slice B 9 c,.int .i64 ((n:Int)+1),.int .i64 i] w fun e w'=>∃ r vs l,e=.returned (.tuple #[r,.bool (listF n a x i t K).isSome])∧A2O w' w.heap.size r vs l∧l.length≤2 ^ (n+1)∧(listF n a x i t K=none∨listF n a x i t K=some l)∧Below w.heap.size w w'
theorem c_l10Unfold (n:Nat) (a:Asn) (x:Atm) (i:Nat) (t:Int) (Ks:Nat) (hv:a.valid=true) (hx:a.atoms[i]? = some x) (hn:n≤6)
  (HE:OpC n (emptyX a x i) t Ks) (HF:∀ m:Nat,OpC n (fullX a x i (m:Int)) t Ks):UnC n a x i t Ks:=by
 intro lo hi0 lo' hi' v B cB w h hB0;have hV:=ax h;have HFL:=ax hB0;obtain ⟨A1,c1,A2,c2,rfl,h1,h2,hcap⟩:=h;have hvl:=valid_len hv;have HVa:=ax hv;obtain ⟨hi,hxe⟩:=List.getElem?_eq_some_iff.1 hx;have hwl:=withoutL_len hi;obtain ⟨b,o,rfl,-⟩:=h2.at hi;have HV2:=ax h2;have hii:(i:Int)<(a.atoms.length:Int):=by omega
 have hw:IntKind.i64.wrap ((i:Int)+1)=(i:Int)+1:=IntWalk.i64_in _ (by omega);have hs1:=sliceAh b o a.atoms.length c2 i (by omega);obtain ⟨A',hs2,hA'⟩:=sliceAl b o a.atoms.length c2 (i+1) (by omega) hcap
 push_cast at hs2
 have hT:=ax (h2.take_ (k:=i) (by omega))
 have hD:aJ (AtomsV w lo _ A' (a.atoms.drop (i+1))):=ax (by
  by_cases hlt:i+1<a.atoms.length
  ·rw[hA' (by omega)];exact h2.drop_ (by omega)
  ·rw[List.drop_eq_nil_of_le (by omega)]
   exact Rd.nil _ _ _ _ _)
 have HL1:aJ ((a.atoms.take i).length=i):=ax (by rw[List.length_take];omega);have HL2:aJ ((a.atoms.drop (i+1)).length=a.atoms.length - (i+1)):=ax List.length_drop;have HHi:=ax hi;have HEH:=ax HE;have HFH:=ax HF;have HN:=ax (Nat.pow_le_pow_right (show 0<2 from by decide) hn);have HX:=ax hxe;clear h1 h2 HE HF hx hv hB0 hA' hxe;(go_enter Tryz.func169,Tryz.ntmps169);have k0:Blk (w.alloc (.cells #[.slice A1 a.facts.length c1,.slice (some ⟨b,o,none⟩) a.atoms.length c2] tAs)) w.heap.size tAs #[.slice A1 a.facts.length c1,.slice (some ⟨b,o,none⟩) a.atoms.length c2]:=blks;have hs1':=ax hs1;have hs2':=ax hs2;have hw':=ax hw;clear hs1 hs2 hw;(go_wp2_with fail);refine (c_l10New _ a B cB (tins Ks t) _ (hV.o.V.bz bel) (HFL.o.bz bel) HVa.o).mono ?_;rintro e w1 ⟨rfl,hB1⟩;have HB:=ax (bgo (w:=w) bel hB1);replace k0:=k0.nz hB1;have hz1:w.heap.size+1≤w1.heap.size:=by have:=hB1.size;simp at this;omega
 clear hB1;cases hnt:newT (tset (termsL a)|||tins Ks t)
 case none=>
  have E:=ax (list_none (n:=n) (x:=x) (i:=i) hnt);clear hnt;(go_wp2_with fail);go_ret2;exact ⟨_,[],[],by rw[E.o];rfl,(A2O.empty w1 rfl).lower (by omega),Nat.zero_le _,.inl E.o,bbox HB.o _⟩
 case some m=>
  have EI:unusedI (tset (termsL a)|||tins Ks t)=(m:Int):=by unfold unusedI;rw[hnt]
  rw[EI];clear EI;have HNT:=ax hnt;clear hnt;(replace qk0:=k0.z);obtain ⟨b',o',hbo,g0,g1,g2⟩:=(HV2.o.bz HB.o).at HHi.o;injection hbo with hbo;injection hbo with hb1 hb2;subst hb1 hb2;rw[HX.o] at g0 g1 g2;(go_upto_region 5 with fail);clear qk0 g0 g1 g2;have hbq:=bbox (Below.refl w1.heap.size w1) (.cells #[.int .i64 x.kind,.int .i64 x.a,.int .i64 x.b] tA);have kx:Blk (w1.alloc (.cells #[.int .i64 x.kind,.int .i64 x.a,.int .i64 x.b] tA)) w1.heap.size tA #[.int .i64 x.kind,.int .i64 x.a,.int .i64 x.b]:=Blk.new _ _ _;replace k0:=k0.nz hbq;replace HB:=ax (bgo HB.o hbq);have hzw:(w1.alloc (.cells #[.int .i64 x.kind,.int .i64 x.a,.int .i64 x.b] tA)).heap.size=w1.heap.size+1:=by simp
  clear hbq;generalize w1.alloc (.cells #[.int .i64 x.kind,.int .i64 x.a,.int .i64 x.b] tA)=W1 at k0 kx HB hzw ⊢;obtain ⟨yx,hyx⟩:∃ y,y=w1.heap.size:=⟨_,rfl⟩;rw[←hyx] at kx hzw ⊢;have hyw:w.heap.size<yx:=by omega
  clear hyx hz1;(replace qk0:=k0.z);(go_wp2_with fail);refine (c_l3Copy _ a _ (hV.o.V.bz HB.o)).mono ?_;rintro e w2 ⟨r,rfl,oc,hB2⟩;obtain ⟨fv,av,rfl,o1,o2⟩:=oc;obtain ⟨F,d,rfl,-⟩:=o1.reads;obtain ⟨G,g,rfl,-⟩:=o2.reads;have O1:=ax (o1.lower (base':=w.heap.size) (by omega));clear o1 o2;replace k0:=k0.nz hB2;replace kx:=kx.nz hB2;replace HB:=ax (bgo HB.o hB2);have hz2:=hB2.size;clear hB2 qk0;(go_upto_region 6 with fail);have hbq:=bbox (Below.refl w2.heap.size w2) (.cells #[.slice F a.facts.length d,.slice G a.atoms.length g] tAs);have kE:Blk (w2.alloc (.cells #[.slice F a.facts.length d,.slice G a.atoms.length g] tAs)) w2.heap.size tAs #[.slice F a.facts.length d,.slice G a.atoms.length g]:=Blk.new _ _ _;replace k0:=k0.nz hbq;replace kx:=kx.nz hbq;replace O1:=ax (O1.o.bz hbq);replace HB:=ax (bgo HB.o hbq);have hz3:(w2.alloc (.cells #[.slice F a.facts.length d,.slice G a.atoms.length g] tAs)).heap.size=w2.heap.size+1:=by simp
  clear hbq;generalize (w2.alloc (.cells #[.slice F a.facts.length d,.slice G a.atoms.length g] tAs))=W2 at k0 kx kE O1 HB hz3 ⊢;obtain ⟨yE,hyE⟩:∃ y,y=w2.heap.size:=⟨_,rfl⟩;rw[←hyE] at kE hz3 ⊢;have hyE2:yx<yE:=by omega
  have hyE3:yE<W2.heap.size:=by omega
  clear hyE hz2 hzw hz3;(replace qkE:=kE.z;replace qkx:=kx.z);(go_upto_region 7 with (at_builtin;refine appFL (ys:=[⟨true,x.a,x.b⟩]) (base:=w.heap.size) rfl _ _ rfl rfl (O1.o.bz bel) rfl (FactsV.one (f:=⟨true,x.a,x.b⟩) (Blk.new W2 tF _)) (by simp<;>omega) (by simp<;>omega) ?_;intro A6 c6 w6 o6 hg6 hB6;have kO:=O1.o.bz (w':=W2.alloc (.cells #[.bool true,.int .i64 x.a,.int .i64 x.b] tF)) bel;have kE6:=Blk.grownO (hg:=hg6) (kE.alloc _) kO.1 (by decide);have k06:=Blk.grownO (hg:=hg6) (k0.alloc _) kO.1 (by decide);have kx6:=Blk.grownO (hg:=hg6) (kx.alloc _) kO.1 (by decide);have HB6:aJ (Below w.heap.size w w6):=ax ((bbox HB.o _).trans hB6);have O16:=ax o6;have hz6:W2.heap.size+1≤w6.heap.size:=(by have:=hg6.size;simp at this;omega);clear hB6 hg6 o6 kO qkE qkx;(replace qkE6:=kE6.z)));simp only[List.length_append,List.length_cons,List.length_nil,Nat.zero_add] at O16 ⊢
  have kE7:Blk (w6.setCell ⟨yE,0,none⟩ (.slice A6 (a.facts.length+1) c6)) yE tAs #[.slice A6 (a.facts.length+1) c6,.slice G a.atoms.length g]:=by
   have:=kE6.set_ 0 (.slice A6 (a.facts.length+1) c6);simpa using this
  have k07:=k06.far (p:=⟨yE,0,none⟩) (by simp only;omega) (.slice A6 (a.facts.length+1) c6);have kx7:=kx6.far (p:=⟨yE,0,none⟩) (by simp only;omega) (.slice A6 (a.facts.length+1) c6);have O17:=ax (O16.o.setT kE6 (by decide) 0 (.slice A6 (a.facts.length+1) c6));have HB7:=ax (HB6.o.setCell (p:=⟨yE,0,none⟩) (by simp only;omega) (.slice A6 (a.facts.length+1) c6));have hz7:W2.heap.size+1≤(w6.setCell ⟨yE,0,none⟩ (.slice A6 (a.facts.length+1) c6)).heap.size:=by simpa using hz6
  clear k0 kx kE O1 HB kE6 k06 kx6 O16 HB6 hz6 qkE6;generalize (w6.setCell ⟨yE,0,none⟩ (.slice A6 (a.facts.length+1) c6))=W7 at kE7 k07 kx7 O17 HB7 hz7 ⊢;clear w6;have hs1:=hs1'.o;have hs2:=hs2'.o;have hw:=hw'.o;(replace qk07:=k07.z;replace qkE7:=kE7.z);(go_wp2_with fail);clear qk07;refine wp_region_noPanic ?_;refine wp_region_held_drew (S:=(fun w'=>∀ i,w'.cell? ⟨w.heap.size,i,none⟩=#[.slice A1 a.facts.length c1,.slice (some ⟨b,o,none⟩) a.atoms.length c2][i]?)) (by kernel_rfl) (k07.drew.cell) (fun hHeld=>?_);have HBQ:aJ (Below W7.heap.size W7 W7.drew):=ax (Below.refl _ _).drew;have hzq:W7.heap.size≤W7.drew.heap.size:=Nat.le_refl _;clear qkE7;generalize W7.drew=wq at HBQ hzq hHeld ⊢;refine tk2 1 rfl hHeld (h:=tk2 2 rfl hHeld (h:=tk2 3 rfl hHeld (h:=?_)));(try simp only[zz]);refine tk2 4 rfl hHeld (h:=tk2 6 rfl hHeld (h:=tk2 7 rfl hHeld (h:=?_)));(try simp only[zz]);refine tk2 8 rfl hHeld (h:=tk2 9 rfl hHeld (h:=tk2 10 rfl hHeld (h:=?_)));(try simp only[zz]);clear hs1 hs2 hw;refine rdc 0 rfl fun K hK=>?_;(try simp only[zz]);go_simp;refine hK.out _ _ (((k07.nz HBQ.o).alloc _).cell) ?_;clear hHeld hK K;intro hHeld;(try simp only[zz]);have OA0:aJ (AtomsO (wq.alloc (.cells #[] tA)) W7.heap.size (.slice (some ⟨wq.heap.size,0,none⟩) 0 0) []):=ax ((AtomsO.empty wq).lower hzq);replace HBQ:=ax (HBQ.o.alloc hzq (.cells #[] tA));have hzq2:W7.heap.size≤(wq.alloc (.cells #[] tA)).heap.size:=by simp;omega
  generalize wq.alloc (.cells #[] tA)=wz at HBQ OA0 hzq2 hHeld ⊢;refine rdc 5 rfl fun K hK=>?_;skip;(refine stepALm (base:=W7.heap.size) (n:=i) (zs:=a.atoms.take i) rfl _ _ rfl rfl OA0.o rfl HL1.o.symm (hT.o.bz (bgo HB7.o HBQ.o)) rfl HL1.o.symm (by omega) hzq2 ?_;intro A8 c8 w8 o8 hg8 hB8;replace HBQ:=ax (HBQ.o.trans hB8);have OA1:=ax o8;have hzq3:=Nat.le_trans hzq2 hB8.size;clear o8 hg8 hB8 OA0);refine hK.out _ _ ((k07.nz HBQ.o).cell) ?_;clear hHeld hK K;intro hHeld;(try simp only[zz]);refine rdc 11 rfl fun K hK=>?_;skip;(refine stepALm (base:=W7.heap.size) (n:=a.atoms.length - 1) (zs:=withoutL a.atoms i) rfl _ _ rfl rfl OA1.o rfl HL2.o.symm (hD.o.bz (bgo HB7.o HBQ.o)) rfl (by omega) (by omega) hzq3 ?_;intro A9 c9 w9 o9 hg9 hB9;replace HBQ:=ax (HBQ.o.trans hB9);have OA2:=ax o9;have hzq4:=Nat.le_trans hzq3 hB9.size;clear o9 hg9 hB9 OA1);refine hK.out _ _ ((k07.nz HBQ.o).cell) ?_;clear hHeld hK K;intro hHeld;(try simp only[zz]);refine tk2 12 rfl hHeld (h:=?_);(try simp only[zz]);have kE9:=kE7.nz HBQ.o;have qkE9:=kE9.cell;have rkE9:=kE9.frozen;have lkE9:=kE9.lt;refine rdc 13 rfl fun K hK=>?_;(try simp only[zz]);go_simp;refine hK.out _ _ (((k07.nz HBQ.o).far (p:=⟨yE,1,none⟩) (by simp only;omega) _).cell) ?_;clear hHeld hK K;intro hHeld;(try simp only[zz]);refine dn1 ?_;clear qkE9 rkE9 lkE9 hHeld
  have kE10:Blk (w9.setCell ⟨yE,1,none⟩ (.slice A9 (a.atoms.length - 1) c9)) yE tAs #[.slice A6 (a.facts.length+1) c6,.slice A9 (a.atoms.length - 1) c9]:=by
   have:=kE9.set_ 1 (.slice A9 (a.atoms.length - 1) c9);simpa using this
  have k010:=(k07.nz HBQ.o).far (p:=⟨yE,1,none⟩) (by simp only;omega) (.slice A9 (a.atoms.length - 1) c9);have kx10:=(kx7.nz HBQ.o).far (p:=⟨yE,1,none⟩) (by simp only;omega) (.slice A9 (a.atoms.length - 1) c9);have OE1:=ax ((O17.o.bz HBQ.o).setT kE9 (by decide) 1 (.slice A9 (a.atoms.length - 1) c9));have OE2:=ax ((OA2.o.lower (base':=w.heap.size) HB7.o.size).setT kE9 (by decide) 1 (.slice A9 (a.atoms.length - 1) c9));have HB10:=ax ((bgo HB7.o HBQ.o).setCell (p:=⟨yE,1,none⟩) (by simp only;omega) (.slice A9 (a.atoms.length - 1) c9));have hz10:yE<(w9.setCell ⟨yE,1,none⟩ (.slice A9 (a.atoms.length - 1) c9)).heap.size:=kE10.lt;clear k07 kx7 kE7 O17 HB7 hz7 HBQ OA2 kE9 hzq hzq2 hzq3 hzq4;generalize (w9.setCell ⟨yE,1,none⟩ (.slice A9 (a.atoms.length - 1) c9))=W8 at kE10 k010 kx10 OE1 OE2 HB10 hz10 ⊢;(replace qk010:=k010.z;replace qkx10:=kx10.z);(go_wp2_with fail);refine (c_l10Front _ a ⟨1,x.a,(m:Int)⟩ i _ (hV.o.V.bz HB10.o) HVa.o HHi.o).mono ?_;rintro e w11 ⟨F2,d2,G2,g2,rfl,oF,hB11⟩;have OFX:=ax oF;have HBX:=ax hB11;have hz11:=hB11.size;clear oF hB11 qk010 qkx10;(go_upto_region 9 with fail);replace OFX:=ax (OFX.o.bz (bbox (Below.refl _ _) (.cells #[.slice F2 a.facts.length d2,.slice G2 a.atoms.length g2] tAs)));replace HBX:=ax (bbox HBX.o (.cells #[.slice F2 a.facts.length d2,.slice G2 a.atoms.length g2] tAs));have kF:Blk (w11.alloc (.cells #[.slice F2 a.facts.length d2,.slice G2 a.atoms.length g2] tAs)) w11.heap.size tAs #[.slice F2 a.facts.length d2,.slice G2 a.atoms.length g2]:=Blk.new _ _ _;have hzF:w11.heap.size+1≤(w11.alloc (.cells #[.slice F2 a.facts.length d2,.slice G2 a.atoms.length g2] tAs)).heap.size:=by simp
  generalize (w11.alloc (.cells #[.slice F2 a.facts.length d2,.slice G2 a.atoms.length g2] tAs))=W9 at OFX HBX kF hzF ⊢;obtain ⟨yF,hyF⟩:∃ y,y=w11.heap.size:=⟨_,rfl⟩;rw[←hyF] at kF hzF hz11 ⊢;clear hyF;have OF1:=ax OFX.o.parts.1;have OF2:=ax OFX.o.parts.2;clear OFX;simp only at OF1 OF2;have kx11:=kx10.nz HBX.o;(replace qkF:=kF.z;replace qkx11:=kx11.z);(go_upto_region 10 with (at_builtin;refine appFL (ys:=[⟨false,x.a,x.b⟩]) (base:=W8.heap.size) rfl _ _ rfl rfl (OF1.o.bz bel) rfl (FactsV.one (f:=⟨false,x.a,x.b⟩) (Blk.new W9 tF _)) (by simp<;>omega) (by simp<;>omega) ?_;intro A12 c12 w12 o12 hg12 hB12;have kO:=OF1.o.bz (w':=W9.alloc (.cells #[.bool false,.int .i64 x.a,.int .i64 x.b] tF)) bel;have kF12:=Blk.grownO (hg:=hg12) (kF.alloc _) kO.1 (by decide);have OF22:=ax (AtomsO.grownF (OF2.o.bz (w':=W9.alloc (.cells #[.bool false,.int .i64 x.a,.int .i64 x.b] tF)) bel) kO hg12);have HBX12:aJ (Below W8.heap.size W8 w12):=ax ((bbox HBX.o _).trans hB12);have OF12:=ax o12;clear hB12 hg12 o12 kO qkF qkx11;(replace qkF12:=kF12.z)));simp only[List.length_append,List.length_cons,List.length_nil,Nat.zero_add] at OF12 ⊢
  have kF13:Blk (w12.setCell ⟨yF,0,none⟩ (.slice A12 (a.facts.length+1) c12)) yF tAs #[.slice A12 (a.facts.length+1) c12,.slice G2 a.atoms.length g2]:=by
   have:=kF12.set_ 0 (.slice A12 (a.facts.length+1) c12);simpa using this
  have OF13:=ax (OF12.o.setT kF12 (by decide) 0 (.slice A12 (a.facts.length+1) c12));have OF23:=ax (OF22.o.setT kF12 (by decide) 0 (.slice A12 (a.facts.length+1) c12));have HBX13:=ax (HBX12.o.setCell (p:=⟨yF,0,none⟩) (by simp only;omega) (.slice A12 (a.facts.length+1) c12));clear kF kx11 OF1 OF2 HBX kF12 OF12 OF22 HBX12 qkF12;generalize (w12.setCell ⟨yF,0,none⟩ (.slice A12 (a.facts.length+1) c12))=W10 at kF13 OF13 OF23 HBX13 ⊢;have kx13:=kx10.nz HBX13.o;(replace qkF13:=kF13.z;replace qkx13:=kx13.z);(go_upto_region 11 with (at_builtin;refine appAL (ys:=[⟨2,(m:Int),x.b⟩]) (base:=W8.heap.size) rfl _ _ rfl rfl (OF23.o.bz bel) (by rfl) (AtomsV.one (f:=⟨2,(m:Int),x.b⟩) (Blk.new W10 tA _)) (by simp<;>omega) (by have:=HBX13.o.size;simp<;>omega) ?_;intro A14 c14 w14 o14 hg14 hB14;have kO:=OF23.o.bz (w':=W10.alloc (.cells #[.int .i64 2,.int .i64 m,.int .i64 x.b] tA)) bel;have kF14:=Blk.grownO (hg:=hg14) (kF13.alloc _) kO.1 (by decide);have OF14:=ax (FactsO.grownA (OF13.o.bz (w':=W10.alloc (.cells #[.int .i64 2,.int .i64 m,.int .i64 x.b] tA)) bel) kO hg14);have HBX14:aJ (Below W8.heap.size W8 w14):=ax ((bbox HBX13.o _).trans hB14);have OF24:=ax o14;clear hB14 hg14 o14 kO qkF13 qkx13;(replace qkF14:=kF14.z)));simp only[List.length_append,List.length_cons,List.length_nil,Nat.zero_add] at OF24 ⊢;have hLL:1+(withoutL a.atoms i).length+1=a.atoms.length+1:=by omega
  try rw[hLL]
  replace OF24:aJ (AtomsO w14 W8.heap.size (.slice A14 (a.atoms.length+1) c14) (([⟨1,x.a,(m:Int)⟩]++withoutL a.atoms i)++[⟨2,(m:Int),x.b⟩])):=ax (by
   have h24:=OF24.o;(try rw[hLL] at h24)
   exact h24)
  have kF15:Blk (w14.setCell ⟨yF,1,none⟩ (.slice A14 (a.atoms.length+1) c14)) yF tAs #[.slice A12 (a.facts.length+1) c12,.slice A14 (a.atoms.length+1) c14]:=by
   have:=kF14.set_ 1 (.slice A14 (a.atoms.length+1) c14);simpa using this
  have OF15:=ax (OF14.o.setT kF14 (by decide) 1 (.slice A14 (a.atoms.length+1) c14));have OF25:=ax (OF24.o.setT kF14 (by decide) 1 (.slice A14 (a.atoms.length+1) c14));have HBX15:=ax (HBX14.o.setCell (p:=⟨yF,1,none⟩) (by simp only;omega) (.slice A14 (a.atoms.length+1) c14));clear kF13 kx13 OF13 OF23 HBX13 kF14 OF14 OF24 HBX14 qkF14 hLL;generalize (w14.setCell ⟨yF,1,none⟩ (.slice A14 (a.atoms.length+1) c14))=W12 at kF15 OF15 OF25 HBX15 ⊢;have hz15:=HBX15.o.size;have kE15:=kE10.nz HBX15.o;have OE:aJ (AsnO W12 w.heap.size (.agg #[.slice A6 (a.facts.length+1) c6,.slice A9 (a.atoms.length - 1) c9]) (emptyX a x i)):=ax ⟨_,_,rfl,OE1.o.bz HBX15.o,OE2.o.bz HBX15.o⟩;have OX:aJ (AsnO W12 W8.heap.size (.agg #[.slice A12 (a.facts.length+1) c12,.slice A14 (a.atoms.length+1) c14]) (fullX a x i (m:Int))):=ax ⟨_,_,rfl,OF15.o,OF25.o⟩;have HB15:=ax (bgo HB10.o HBX15.o);have hLE:aJ ((emptyX a x i).facts.length≤1000∧(emptyX a x i).atoms.length≤1000):=ax (by simp only[emptyX,List.length_append,List.length_cons,List.length_nil];omega);have hLF:aJ ((fullX a x i (m:Int)).facts.length≤1000∧(fullX a x i (m:Int)).atoms.length≤1000):=ax (by simp only[fullX,List.length_append,List.length_cons,List.length_nil];omega);clear OE1 OE2 HBX15 OF15 OF25 kE10 k010 kx10 HB10;have hni:(n:Int)≤6:=by omega
  (replace qkE15:=kE15.z);(go_wp2_with fail);refine (HEH.o w.heap.size _ _ _ _ B cB _ OE.o.C (HFL.o.bz HB15.o) hLE.o.1 hLE.o.2).mono ?_;rintro e w16 ⟨r1,vs1,l1,rfl,o1,hl1,HR1,hB16⟩;obtain ⟨R1,z1,rfl⟩:=o1.form;have O1:=ax o1;have HR1':=ax HR1;replace OX:=ax (OX.o.bz hB16);have kF16:=kF15.nz hB16;have HB16:=ax (bgo HB15.o hB16);have hz16:=hB16.size;clear o1 HR1 hB16 HB15 kF15 kE15 qkE15 OE;(replace qkF16:=kF16.z);(go_wp2_with fail);refine (HFH.o m W8.heap.size _ _ _ _ B cB _ OX.o.C (HFL.o.bz HB16.o) hLF.o.1 hLF.o.2).mono ?_;rintro e w17 ⟨r2,vs2,l2,rfl,o2,hl2,HR2,hB17⟩;obtain ⟨R2,z2,rfl⟩:=o2.form;have O2:=ax o2;have HR2':=ax HR2;have HB17':=ax hB17;have HB17:=ax (bgo HB16.o hB17);have hz17:=hB17.size;have hp:=HN.o;have hll:l1.length+l2.length≤1049600:=by omega
  have hll2:aJ (l1.length+l2.length≤2 ^ (n+1)):=ax (by rw[Nat.pow_succ];omega);clear o2 HR2 hB17 HB16 kF16 qkF16 OX hl1 hl2 hp;have HE1:aJ (∀ e1,exposeF n (emptyX a x i) t Ks=none→(listF n a x i t Ks).isSome=e1→e1=false):=ax fun e1 h h'=>by rw[←h',list_first HNT.o h];rfl
  have HBoth:aJ ((listF n a x i t Ks).isSome=((exposeF n (emptyX a x i) t Ks).isSome&&(exposeF n (fullX a x i (m:Int)) t Ks).isSome)∧(listF n a x i t Ks=none∨listF n a x i t Ks=some (l1++l2))):=ax (by
   rcases HR1'.o with e1|e1
   ·rw[list_first HNT.o e1,e1];exact ⟨rfl,.inl rfl⟩
   ·rcases HR2'.o with e2|e2
    ·rw[list_second HNT.o e2,e1,e2];exact ⟨rfl,.inl rfl⟩
    ·rw[list_both HNT.o e1 e2,e1,e2];exact ⟨rfl,.inr rfl⟩)
  clear HE1 HR1' HR2';generalize (exposeF n (emptyX a x i) t Ks).isSome=p1 at HBoth ⊢;generalize (exposeF n (fullX a x i (m:Int)) t Ks).isSome=p2 at HBoth ⊢;cases p1<;>cases p2
  all_goals
   (go_wp2_with (at_builtin;refine wpList_appL (base:=w.heap.size) rfl _ _ 30 rfl Tryz.underlying30 infoAs2 rfl (by decide) (by decide) rfl (own_lower (own_below O1.o.row HB17'.o) (by omega)) rfl O2.o.rd.raw O2.o.els.one_cell hll (by omega) ?_;intro v18 w18 hO18 hg18 hB18;have HR18:=ax hO18;have HG18:=ax hg18;have HB18:=ax (HB17.o.trans hB18);obtain ⟨A18,d18,rfl,-⟩:=own_reads hO18 hll;clear hO18 hg18 hB18));go_ret2;exact ⟨_,vs1++vs2,l1++l2,by rw[HBoth.o.1];rfl,(O1.o.lower (by omega)).cat HB17'.o O2.o (by omega) (Nat.le_refl _) hll HG18.o HR18.o,by rw[List.length_append];exact hll2.o,HBoth.o.2,HB18.o⟩
section
variable {ops:Array Oper} {rest:List Oper} {o:Oper} {a:Act} {Q:Exit→Act→World→Prop} {w w0:World} {base mid:Nat} {v v2:Value} {vs vs2:List Value} {ss ss2:List Asn}
theorem appA2 (hgd:o.guard=none) (s x:Operand) (ho:o.op=.call { callee:=.builtin .append,args:=#[s,x],argTypes:=#[30,30] })
  (hs:a.eval s=v) (h0:A2O w0 base v vs ss) (hb0:Below w0.heap.size w0 w) (hbase:base≤w0.heap.size) (h2:A2O w mid v2 vs2 ss2) (hm:w0.heap.size≤mid) (hx:a.eval x=v2) (hl:ss.length+ss2.length≤1049600)
  (h:∀ A' c' w',A2O w' base (.slice A' (ss.length+ss2.length) c') (vs++vs2) (ss++ss2)→w.grownBy w' v.ownBlock→Below base w w'→wpList Tryz.prog ops Q rest (a.put o.dst (.slice A' (ss.length+ss2.length) c')) w'):wpList Tryz.prog ops Q (o :: rest) a w:=by
 obtain ⟨A,c,rfl⟩:=h2.form;refine wpList_appL (base:=base) hgd s x 30 ho Tryz.underlying30 infoAs2 rfl (by decide) (by decide) hs (own_below h0.row hb0) hx h2.rd.raw h2.els.one_cell hl (Nat.le_trans hbase hb0.size) ?_;intro v' w' hO hg hB;have hC:=h0.cat hb0 h2 (Nat.le_trans hbase hm) hm hl hg hO;obtain ⟨A',d,rfl,-⟩:=own_reads hO hl;exact h A' d w' hC hg hB
end
end
section
open Go Go.RowKit
section
variable {M:Int→Int} {F G G':List Atm} {a:Asn} {x:Atm} {i:Nat} {t m:Int}
theorem Cover.mk {css:List (List Atm)} (h:Covs M F G css) (hp:F.Perm css.flatten) (hn:(F.map fun y=>M y.a).Nodup):Cover M F G:=by
 have hs:=covs_starts G css h;obtain ⟨g,g1,g2⟩:=covs_fun G css h (((hp.map fun y=>M y.a).nodup_iff.1 hn).sublist hs);exact ⟨g,g2,by rw[←g1];exact hp⟩
theorem cov_self (y:Atm):CovM M F y [y]:=by
 unfold CovM
 split
 ·exact ⟨y,rfl,rfl⟩
 ·exact ⟨rfl,.inl ⟨rfl,rfl⟩⟩
theorem covs_self:∀ (G:List Atm),Covs M F G (G.map fun y=>[y])
 | []=>trivial
 | y :: G=>⟨cov_self y,covs_self G⟩
theorem flat_self:∀ (G:List Atm),(G.map fun y=>[y]).flatten=G
 | []=>rfl
 | y :: G=>by simp[flat_self G]
theorem Cover.permG (h:Cover M F G) (hp:G.Perm G'):Cover M F G':=by
 obtain ⟨g,h1,h2⟩:=h;exact ⟨g,fun x hx=>h1 x (hp.mem_iff.2 hx),h2.trans (hp.flatMap_right g)⟩
theorem fill_perm (hx:a.atoms[i]? = some x):(a.atoms.filter (fillM M)).Perm ((x :: withoutL a.atoms i).filter (fillM M)):=(without_perm hx).filter _
theorem cell_fill {p q:Int}:fillM M ⟨1,p,q⟩=true:=rfl
theorem ent_cellX (hx:a.atoms[i]? = some x) (hk:x.kind=1) (ht:M x.a=M t) (ha:Sat M a):EntM M a (cellX a x i t):=by
 have hfx:fillM M x=true:=by unfold fillM;rw[decide_eq_true hk];rfl
 refine ⟨fun f hf=>?_,?_⟩
 ·simp only[cellX,List.mem_append] at hf;rcases hf with hf|hf
  ·exact ha.facts f hf
  ·split at hf
   ·cases hf
   ·rw[List.mem_singleton.1 hf];exact decide_eq_true ht
 ·have hp:=fill_perm (M:=M) hx;rw[List.filter_cons_of_pos hfx] at hp;simp only[cellX];rw[List.filter_cons_of_pos cell_fill];refine Cover.mk (css:=[x] :: ((withoutL a.atoms i).filter (fillM M)).map fun y=>[y]) ⟨?_,covs_self _⟩ (by rw[List.flatten_cons,flat_self];exact hp) ha.apart;unfold CovM;rw[if_pos rfl];exact ⟨x,rfl,by simp[clsM,hk,ht]⟩
theorem ent_ofCell (hx:a.atoms[i]? = some x) (hk:x.kind=1) (hs:Sat M (cellX a x i t)):M x.a=M t∧EntM M (cellX a x i t) a:=by
 have hfx:fillM M x=true:=by unfold fillM;rw[decide_eq_true hk];rfl
 have ht:M x.a=M t:=by
  by_cases e:x.a=t
  ·rw[e]
  ·exact of_decide_eq_true (hs.facts ⟨true,x.a,t⟩ (by simp[cellX,e]))
 refine ⟨ht,fun f hf=>hs.facts f (by simp[cellX,hf]),?_⟩;have hp:=fill_perm (M:=M) hx;rw[List.filter_cons_of_pos hfx] at hp;have hn:=hs.apart;simp only[cellX] at hn ⊢;rw[List.filter_cons_of_pos cell_fill] at hn ⊢;refine (Cover.mk (G:=x :: (withoutL a.atoms i).filter (fillM M)) (css:=[⟨1,t,x.b⟩] :: ((withoutL a.atoms i).filter (fillM M)).map fun y=>[y]) ⟨?_,covs_self _⟩ (by rw[List.flatten_cons,flat_self];exact List.Perm.refl _) hn).permG hp.symm;unfold CovM;rw[if_pos hk];exact ⟨_,rfl,by simp[clsM,hk,ht]⟩
theorem unfill (hk:x.kind=2) (he:M x.a=M x.b):fillM M x=false:=by
 unfold fillM;rw[decide_eq_false (by omega),decide_eq_true he];rfl
theorem ent_emptyX (hx:a.atoms[i]? = some x) (hk:x.kind=2) (he:M x.a=M x.b) (ha:Sat M a):EntM M a (emptyX a x i):=by
 refine ⟨fun f hf=>?_,?_⟩
 ·simp only[emptyX,List.mem_append,List.mem_singleton] at hf;rcases hf with hf|rfl
  ·exact ha.facts f hf
  ·exact decide_eq_true he
 ·have hp:=fill_perm (M:=M) hx;rw[List.filter_cons_of_neg (by simp[unfill hk he])] at hp;exact Cover.perm hp
theorem ent_ofEmpty (hx:a.atoms[i]? = some x) (hk:x.kind=2) (hs:Sat M (emptyX a x i)):EntM M (emptyX a x i) a:=by
 have he:M x.a=M x.b:=of_decide_eq_true (hs.facts ⟨true,x.a,x.b⟩ (by simp[emptyX]));refine ⟨fun f hf=>hs.facts f (by simp[emptyX,hf]),?_⟩;have hp:=fill_perm (M:=M) hx;rw[List.filter_cons_of_neg (by simp[unfill hk he])] at hp;exact Cover.perm hp.symm
theorem ent_ofFull (hx:a.atoms[i]? = some x) (hk:x.kind=2) (hs:Sat M (fullX a x i m)):EntM M (fullX a x i m) a:=by
 have hne:decide (M x.a=M x.b)=false:=hs.facts ⟨false,x.a,x.b⟩ (by simp[fullX]);have hfx:fillM M x=true:=by unfold fillM;rw[hne];simp
 have hn:=hs.apart;refine ⟨fun f hf=>hs.facts f (by simp[fullX,hf]),?_⟩;have hp:=fill_perm (M:=M) hx;rw[List.filter_cons_of_pos hfx] at hp;simp only[fullX] at hn ⊢;rw[List.filter_append,List.filter_append,List.filter_cons_of_pos cell_fill,List.filter_nil] at hn ⊢;refine Cover.permG ?_ hp.symm;cases hfl:fillM M ⟨2,m,x.b⟩
 ·have hmb:M m=M x.b:=by simpa [fillM] using hfl
  rw[List.filter_cons_of_neg (by simp[hfl]),List.filter_nil,List.append_nil] at hn ⊢;refine Cover.mk (css:=[⟨1,x.a,m⟩] :: ((withoutL a.atoms i).filter (fillM M)).map fun y=>[y]) ⟨?_,covs_self _⟩ (by rw[List.flatten_cons,flat_self];done) hn;unfold CovM;rw[if_neg (by omega)];exact ⟨rfl,.inl ⟨rfl,hmb⟩⟩
 ·have hmb:M m≠M x.b:=by simpa [fillM] using hfl
  rw[List.filter_cons_of_pos hfl,List.filter_nil] at hn ⊢;refine Cover.mk (css:=[⟨1,x.a,m⟩,⟨2,m,x.b⟩] :: ((withoutL a.atoms i).filter (fillM M)).map fun y=>[y]) ⟨?_,covs_self _⟩ ?_ hn
  ·unfold CovM;rw[if_neg (by omega)];exact ⟨rfl,.inr ⟨by simp,hmb,fun (h:(1:Int)=2)=>absurd h (by decide),rfl,.inl ⟨rfl,rfl⟩⟩⟩
  ·rw[List.flatten_cons,flat_self];simp only[List.singleton_append,List.cons_append,List.nil_append];exact (List.perm_append_singleton _ _).cons _
end
theorem expose_valid {n:Nat} {a:Asn} {t:Int} {K:Nat} {l:List Asn} (h:exposeF n a t K=some l):a.valid=true:=by
 cases hv:a.valid
 ·rw[expose_bad hv] at h;cases h
 ·rfl
theorem expose_ent:∀ (n:Nat) (a:Asn) (t:Int) (K:Nat) (l:List Asn),exposeF n a t K=some l→∀ e∈l,e.valid=true∧(∀ M,Sat M e→EntM M e a)∧∃ b rest,e.atoms=⟨1,t,b⟩ :: rest
 | 0,_,_,_,_,h=>by cases h
 | n+1,a,t,K,l,h=>by
  intro e he;have hv:=expose_valid h;cases hc:consB a
  ·rw[expose_no hv hc] at h;obtain rfl:=Option.some.inj h;cases he
  cases hf:findK a 1 t with
  | some i=>
   obtain ⟨x,hx,hk,-,-⟩:=find_some hf;rw[expose_cell hv hc hf hx] at h
   split at h
   ·rename_i hcv;obtain rfl:=Option.some.inj h;obtain rfl:=List.mem_singleton.1 he;exact ⟨hcv,fun M hM=>(ent_ofCell hx hk hM).2,_,_,rfl⟩
   ·cases h
  | none=>
   cases hg:findK a 2 t with
   | none=>rw[expose_none hv hc hf hg] at h;cases h
   | some i=>
    obtain ⟨x,hx,hk,-,-⟩:=find_some hg;rw[expose_list hv hc hf hg hx] at h;unfold listF at h
    split at h
    ·cases h
    ·rename_i m hm
     split at h
     ·cases h
     ·rename_i l1 h1
      split at h
      ·cases h
      ·rename_i l2 h2;obtain rfl:=Option.some.inj h;rcases List.mem_append.1 he with he|he
       ·obtain ⟨g1,g2,g3⟩:=expose_ent n _ _ _ _ h1 e he;exact ⟨g1,fun M hM=>(g2 M hM).trans (ent_ofEmpty hx hk ((g2 M hM).sat hM)) hM (expose_valid h1),g3⟩
       ·obtain ⟨g1,g2,g3⟩:=expose_ent n _ _ _ _ h2 e he;exact ⟨g1,fun M hM=>(g2 M hM).trans (ent_ofFull hx hk ((g2 M hM).sat hM)) hM (expose_valid h2),g3⟩
theorem tval_set {vs:List Int} (hl:vs.length=8) {m:Int} (h1:1≤m) (h8:m≤8) (v:Int) {u:Int} (hu:0≤u):tval (vs.set (m - 1).toNat v) u=if u=m then v else tval vs u:=by
 unfold tval;by_cases e0:u=0
 ·rw[if_pos e0,if_pos e0,if_neg (by omega)]
 ·rw[if_neg e0,if_neg e0];by_cases e:u=m
  ·rw[if_pos e,e,List.getElem?_set_self (by omega)];rfl
  ·rw[if_neg e,List.getElem?_set_ne (by omega)]
theorem set_valid {s:Ste} (hs:s.valid=true) (k:Nat) {v:Int} (hv:valB v=true):(⟨s.values.set k v,s.heap⟩:Ste).valid=true:=by
 simp only[Ste.valid,Bool.and_eq_true,decide_eq_true_eq,List.length_set] at hs ⊢;refine ⟨hs.1,List.all_eq_true.2 fun y hy=>?_,hs.2.2⟩;rcases List.mem_or_eq_of_mem_set hy with hy|rfl
 ·exact List.all_eq_true.1 hs.2.1 y hy
 ·exact hv
theorem holds_parts {s:Ste} {a:Asn}:holdsF s a=true↔s.valid=true∧a.valid=true∧(∀ f∈a.facts,decide (tval s.values f.a=tval s.values f.b)=f.eq)∧(∀ x∈a.atoms,atomCells s x=some (cellsOf s x))∧(a.atoms.flatMap (cellsOf s)).Nodup∧∀ c,allocB s.heap c=true→c∈a.atoms.flatMap (cellsOf s):=by
 rw[holds_iff];constructor
 ·rintro ⟨out,h1,h2⟩;obtain ⟨g1,g2,g3,g4⟩:=partOf_some.1 h1;obtain ⟨k1,k2,k3⟩:=(parts_iff _ _ _ List.nodup_nil).1 g4;rw[List.nil_append] at k2;subst k2;exact ⟨g1,g2,(part_sat h1).facts,k1,k3,h2⟩
 ·rintro ⟨g1,g2,hf,k1,k3,h2⟩;refine ⟨_,partOf_some.2 ⟨g1,g2,?_,(parts_iff _ _ _ List.nodup_nil).2 ⟨k1,by simp,k3⟩⟩,h2⟩;simp only[factsHold,Bool.and_eq_true,decide_eq_true_eq];refine ⟨⟨Asn.valid_facts g2,(Ste.valid_len g1).1⟩,List.all_eq_true.2 fun f hm=>?_⟩;unfold Fct.holds;rw[beq_iff_eq];exact hf f hm
theorem full_holds {s:Ste} {a:Asn} {x:Atm} {i:Nat} {m:Int} (hx:a.atoms[i]? = some x) (hk:x.kind=2) (hne:tval s.values x.a≠tval s.values x.b) (h:holdsF s a=true) (hm5:5≤m) (hm8:m≤8) (hfr:m∉termsL a) (hv:(fullX a x i m).valid=true) :
  holdsF ⟨s.values.set (m - 1).toNat (cont s.heap (tval s.values x.a)),s.heap⟩ (fullX a x i m)=true:=by
 obtain ⟨h1,h2,h3,h4,h5,h6⟩:=holds_parts.1 h;have hl:=(Ste.valid_len h1).1;have hxm:x∈a.atoms:=List.mem_of_getElem? hx
 have hT:∀ u∈termsL a,tval (s.values.set (m - 1).toNat (cont s.heap (tval s.values x.a))) u=tval s.values u:=fun u hu=>by
  rw[tval_set hl (by omega) hm8 _ (isTermB_iff.1 (termsL_ok h2 u hu)).1,if_neg fun e=>hfr (by rw[←e];exact hu)]
 have hM:tval (s.values.set (m - 1).toNat (cont s.heap (tval s.values x.a))) m=cont s.heap (tval s.values x.a):=by
  rw[tval_set hl (by omega) hm8 _ (by omega),if_pos rfl]
 have hwx:=h4 x hxm;have hwx0:=hwx;unfold atomCells at hwx;rw[if_pos hk] at hwx;have hwx':=hwx;rw[walkF,if_neg hne] at hwx'
 split at hwx'
 case isFalse=>cases hwx'
 rename_i hal;obtain ⟨ds,hd,hcs⟩:=Option.map_eq_some_iff.1 hwx';have hcl:=cont_le (by simp only[Ste.valid,Bool.and_eq_true] at h1;exact h1.2.2) (tval s.values x.a)
 have hcv:valB (cont s.heap (tval s.values x.a))=true:=by
  simp only[allocB,decide_eq_true_eq] at hal;simp[valB];omega
 have hs':=set_valid h1 (m - 1).toNat hcv;generalize hvs:s.values.set (m - 1).toNat (cont s.heap (tval s.values x.a))=vs at hT hM hs' ⊢
 have hat:∀ y∈a.atoms,atomCells ⟨vs,s.heap⟩ y=atomCells s y:=fun y hy=>by
  unfold atomCells;rw[hT _ (termsL_atm hy).1,hT _ (termsL_atm hy).2]
 have hce:∀ y∈a.atoms,cellsOf ⟨vs,s.heap⟩ y=cellsOf s y:=fun y hy=>by unfold cellsOf;rw[hat y hy]
 have hp:=without_perm hx;have hW:∀ y∈withoutL a.atoms i,y∈a.atoms:=fun y hy=>hp.mem_iff.2 (List.mem_cons_of_mem _ hy)
 have hc1:atomCells ⟨vs,s.heap⟩ ⟨1,x.a,m⟩=some [tval s.values x.a]:=by
  unfold atomCells;rw[if_neg (show ¬(1:Int)=2 by decide)];simp only;rw[hT _ (termsL_atm hxm).1,hM,if_pos rfl]
 have hc2:atomCells ⟨vs,s.heap⟩ ⟨2,m,x.b⟩=some ds:=by
  unfold atomCells;rw[if_pos rfl];simp only;rw[hT _ (termsL_atm hxm).2,hM];have:=walk_fuel _ _ _ _ hd;exact this.2 8 (by omega)
 have hflat:((fullX a x i m).atoms.flatMap (cellsOf ⟨vs,s.heap⟩)).Perm (a.atoms.flatMap (cellsOf s)):=by
  have e1:cellsOf ⟨vs,s.heap⟩ ⟨1,x.a,m⟩=[tval s.values x.a]:=by unfold cellsOf;rw[hc1];rfl
  have e2:cellsOf ⟨vs,s.heap⟩ ⟨2,m,x.b⟩=ds:=by unfold cellsOf;rw[hc2];rfl
  have e3:(withoutL a.atoms i).flatMap (cellsOf ⟨vs,s.heap⟩)=(withoutL a.atoms i).flatMap (cellsOf s):=by
   unfold List.flatMap
   congr 1
   exact List.map_congr_left fun y hy=>hce y (hW y hy)
  have e4:cellsOf s x=tval s.values x.a :: ds:=by rw[←hcs]
  have hpp:=hp.flatMap_right (cellsOf s);rw[List.flatMap_cons,e4] at hpp;simp only[fullX,List.flatMap_append,List.flatMap_cons,List.flatMap_nil,List.append_nil,e1,e2,e3];refine List.Perm.trans ?_ hpp.symm;simp only[List.singleton_append,List.cons_append];exact List.perm_append_comm.cons _
 refine holds_parts.2 ⟨hs',hv,fun f hf=>?_,fun y hy=>?_,hflat.symm.nodup_iff.1 h5,fun c hc=>hflat.mem_iff.2 (h6 c hc)⟩
 ·simp only[fullX,List.mem_append,List.mem_singleton] at hf;rcases hf with hf|rfl
  ·show decide (tval vs f.a=tval vs f.b)=f.eq;rw[hT _ (termsL_facts hf).1,hT _ (termsL_facts hf).2];exact h3 f hf
  ·show decide (tval vs x.a=tval vs x.b)=false;rw[hT _ (termsL_atm hxm).1,hT _ (termsL_atm hxm).2];exact decide_eq_false hne
 ·simp only[fullX,List.mem_append,List.mem_singleton] at hy;unfold cellsOf;rcases hy with (rfl|hy)|rfl
  ·rw[hc1];rfl
  ·rw[hat y (hW y hy),h4 y (hW y hy)];rfl
  ·rw[hc2];rfl
theorem termsL_empty {a:Asn} {x:Atm} {i:Nat} (hx:a.atoms[i]? = some x) {u:Int} (h:u∈termsL a):u∈termsL (emptyX a x i):=by
 have hp:=without_perm hx;simp only[termsL,List.mem_append,List.mem_flatMap] at h ⊢;rcases h with ⟨f,hf,hu⟩|⟨y,hy,hu⟩
 ·exact .inl ⟨f,by simp[emptyX,hf],hu⟩
 ·rcases List.mem_cons.1 (hp.mem_iff.1 hy) with rfl|hy
  ·refine .inl ⟨⟨true,y.a,y.b⟩,by simp[emptyX],?_⟩;simpa [atomT,factT] using hu
  ·exact .inr ⟨y,hy,hu⟩
theorem newT_spec {S m:Nat} (h:newT S=some m):5≤m∧m≤8∧S.testBit m=false:=by
 unfold newT at h;have h1:=List.mem_range'_1.1 (List.mem_of_find?_eq_some h);have h2:=List.find?_some h;exact ⟨by omega,by omega,by simpa using h2⟩
theorem expose_model:∀ (n:Nat) (a:Asn) (t:Int) (K:Nat) (l:List Asn),isTermB t=true→exposeF n a t K=some l→∀ s,holdsF s a=true→∃ e∈l,∃ s',holdsF s' e=true∧s'.heap=s.heap∧∀ u,0≤u→u≤8→(u<5∨u∈termsL a∨u=t∨K.testBit u.toNat=true∨u∉termsL e)→tval s'.values u=tval s.values u
 | 0,_,_,_,_,_,h=>by cases h
 | n+1,a,t,K,l,ht,h=>by
  intro s hs;have hv:=expose_valid h;obtain ⟨hsv,-,-,hc⟩:=case_of_law hs;obtain ⟨out,hout,-⟩:=holds_iff.1 hs;have hsat:=part_sat hout
  cases hf:findK a 1 t with
  | some i=>
   obtain ⟨x,hx,hk,himp,-⟩:=find_some hf;rw[expose_cell hv hc hf hx] at h
   split at h
   ·rename_i hcv;obtain rfl:=Option.some.inj h;have hxt:=(imp_iff.1 himp).2.2 _ hsat;exact ⟨_,List.mem_singleton.2 rfl,s,snd_holds hs (ent_cellX hx hk (of_decide_eq_true hxt) hsat) hcv,rfl,fun _ _ _ _=>rfl⟩
   ·cases h
  | none=>
   cases hg:findK a 2 t with
   | none=>rw[expose_none hv hc hf hg] at h;cases h
   | some i=>
    obtain ⟨x,hx,hk,himp,-⟩:=find_some hg;have hxt:=(imp_iff.1 himp).2.2 _ hsat;rw[expose_list hv hc hf hg hx] at h;unfold listF at h
    split at h
    ·cases h
    ·rename_i m hm
     split at h
     ·cases h
     ·rename_i l1 h1
      split at h
      ·cases h
      ·rename_i l2 h2;obtain rfl:=Option.some.inj h;by_cases hne:tval s.values x.a=tval s.values x.b
       ·obtain ⟨e,he,s',g1,g2,g3⟩:=expose_model n _ _ _ _ ht h1 s (snd_holds hs (ent_emptyX hx hk hne hsat) (expose_valid h1));refine ⟨e,List.mem_append_left _ he,s',g1,g2,fun u u0 u8 hu=>g3 u u0 u8 ?_⟩;rcases hu with hu|hu|hu
        ·exact .inl hu
        ·exact .inr (.inl (termsL_empty hx hu))
        ·exact .inr (.inr hu)
       ·obtain ⟨m5,m8,mb⟩:=newT_spec hm;have hfv:=expose_valid h2;rw[Nat.testBit_or,Bool.or_eq_false_iff] at mb
        have hmt:(m:Int)∉termsL a:=fun hmem=>by
         have:=mb.1;rw[tset_bit,decide_eq_false_iff_not] at this;exact this ⟨isTermB_iff.2 (by omega),hmem⟩
        have hfull:=full_holds hx hk hne hs (m:=(m:Int)) (by omega) (by omega) hmt hfv
        obtain ⟨n',rfl⟩:∃ n',n=n'+1:=by
         cases n with
         | zero=>cases h2
         | succ n'=>exact ⟨n',rfl⟩
        obtain ⟨-,-,-,hfc⟩:=case_of_law hfull;have hf0:=full_find hx hk hfv himp;have hx0:(fullX a x i (m:Int)).atoms[0]? = some ⟨1,x.a,(m:Int)⟩:=by simp[fullX]
        rw[expose_cell hfv hfc hf0 hx0] at h2
        split at h2
        case isFalse=>cases h2
        rename_i hcv;obtain rfl:=Option.some.inj h2;obtain ⟨out',hout',-⟩:=holds_iff.1 hfull;have hsat':=part_sat hout'
        have hxa:tval (s.values.set ((m:Int) - 1).toNat (cont s.heap (tval s.values x.a))) x.a=tval (s.values.set ((m:Int) - 1).toNat (cont s.heap (tval s.values x.a))) t:=
         of_decide_eq_true ((imp_iff.1 (full_imp hx hk hfv himp)).2.2 _ hsat')
        refine ⟨_,List.mem_append_right _ (List.mem_singleton.2 rfl),_,snd_holds hfull (ent_cellX hx0 rfl hxa hsat') hcv,rfl,fun u u0 u8 hu=>?_⟩;show tval (s.values.set ((m:Int) - 1).toNat _) u=_;rw[tval_set (Ste.valid_len hsv).1 (by omega) (by omega) _ u0,if_neg];rintro rfl;have hbt:=mb.2;rw[tins_bit,Bool.or_eq_false_iff] at hbt;rcases hu with hu|hu|hu|hu|hu
        ·omega
        ·exact hmt hu
        ·have:=hbt.2;rw[hu,ht] at this;simp at this
        ·rw[Int.toNat_natCast,hbt.1] at hu;cases hu
        ·refine hu ?_;refine (termsL_atm (a:=cellX (fullX a x i (m:Int)) ⟨1,x.a,(m:Int)⟩ 0 t) (x:=⟨1,t,(m:Int)⟩) ?_).2;exact List.mem_cons_self
end
section
open Go Go.RowKit Go.Proofs
attribute [local go_sem ↓] Go.wp_at_zero Go.wp_at_succ
theorem c_l10Open_zero (a:Asn) (t:Int) (Ks:Nat):OpC 0 a t Ks:=by
 intro lo hi lo' hi' v B cB w h hB0 hl1 hl2;have hV:=ax h;obtain ⟨A1,c1,A2,c2,rfl,-⟩:=h;have E:aJ (exposeF 0 a t Ks=none):=rfl;clear hB0;(go_enter Tryz.func99,Tryz.ntmps99);(go_wp2_with fail);refine (c_spec_AssertionValid _ a _ (hV.o.V.bz bel)).mono ?_;rintro e w1 ⟨rfl,hB1⟩;have HB:=ax (bgo (w:=w) bel hB1);have hz1:w.heap.size≤w1.heap.size:=HB.o.size;clear hB1;cases hv:a.valid
 all_goals
  clear hv;(go_wp2_with fail);go_ret2;exact ⟨_,[],[],by rw[E.o];rfl,(A2O.empty w1 rfl).lower hz1,Nat.zero_le _,.inl E.o,bbox HB.o _⟩
theorem c_l10Open_step (n:Nat) (a:Asn) (t:Int) (Ks:Nat) (hn:n≤6) (HL:∀ i x,a.valid=true→findK a 1 t=none→findK a 2 t=some i→a.atoms[i]? = some x→x.kind=2→impB a ⟨true,x.a,t⟩=true→UnC n a x i t Ks):OpC (n+1) a t Ks:=by
 intro lo hi lo' hi' v B cB w h hB0 hl1 hl2;rw[show ((n+1:Nat):Int)=(n:Int)+1 from by omega];have hV:=ax h;have HFL:=ax hB0;obtain ⟨A1,c1,A2,c2,rfl,-,h2,-⟩:=h;have H2:=ax h2;have HLL:=ax HL;have hge:¬((n:Int)+1<1):=by omega
 clear h2 hB0 HL;(go_enter Tryz.func99,Tryz.ntmps99);have k0:Blk (w.alloc (.cells #[.slice A1 a.facts.length c1,.slice A2 a.atoms.length c2] tAs)) w.heap.size tAs #[.slice A1 a.facts.length c1,.slice A2 a.atoms.length c2]:=blks;(go_wp2_with fail);refine (c_spec_AssertionValid _ a _ (hV.o.V.bz bel)).mono ?_;rintro e w1 ⟨rfl,hB1⟩;have HB:=ax (bgo (w:=w) bel hB1);replace k0:=k0.nz hB1;have hz1:w.heap.size≤w1.heap.size:=HB.o.size;clear hB1;cases hv:a.valid
 ·have E:=ax (expose_bad (n:=n+1) (t:=t) (K:=Ks) hv);clear hv;(go_wp2_with fail);go_ret2;exact ⟨_,[],[],by rw[E.o];rfl,(A2O.empty w1 rfl).lower hz1,Nat.zero_le _,.inl E.o,bbox HB.o _⟩
 have HV:=ax hv;have hvl:=valid_len hv;clear hv;(replace qk0:=k0.z);(go_wp2_with fail);refine (c_spec_Consistent _ a _ (hV.o.V.bz HB.o)).mono ?_;rintro e w2 ⟨rfl,hB2⟩;rw[show (a.valid && !(cases a (caseS a 0)).isEmpty)=consB a from rfl];have HB2:=ax (bgo HB.o hB2);replace k0:=k0.nz hB2;have hz2:=HB2.o.size;clear hB2 HB qk0;cases hc:consB a
 ·have E:=ax (expose_no (n:=n) (t:=t) (K:=Ks) HV.o hc);clear hc;(go_wp2_with fail);go_ret2;exact ⟨_,[],[],by rw[E.o];rfl,(A2O.empty w2 rfl).lower hz2,Nat.zero_le _,.inr E.o,bbox HB2.o _⟩
 have HC:=ax hc;clear hc hz1 hge;(go_wp2_with fail)
 go_loopw [10] (fun i wr=>∃ k:Nat,k≤a.atoms.length∧i=.int .i64 k∧aJ (∀ j,j<k→findP a 1 t j=false)∧Blk wr w.heap.size tAs #[.slice A1 a.facts.length c1,.slice A2 a.atoms.length c2]∧aJ (Below w.heap.size w wr)) (fun i _=>a.atoms.length - (intOf i).toNat)
 case atStart=>exact ⟨0,Nat.zero_le _,rfl,ax fun j h=>by omega,k0,HB2.o⟩
 case round=>
  clear k0 HB2 hz2;obtain ⟨k,hk,rfl,HA,k0,HB⟩:=hrel;have hzr:=HB.o.size;by_cases hlt:k<a.atoms.length
  ·obtain ⟨b,off,rfl,g0,g1,g2⟩:=(H2.o.bz HB.o).at hlt;have hki:(k:Int)<(a.atoms.length:Int):=by omega
   have HP:aJ (findP a 1 t k=(decide (a.atoms[k].kind=1)&&impB a ⟨true,a.atoms[k].a,t⟩)):=ax (by unfold findP;rw[List.getElem?_eq_getElem hlt]);have HXK:aJ (a.atoms[k]? = some a.atoms[k]):=ax (List.getElem?_eq_getElem hlt);obtain ⟨x,hx⟩:∃ x,x=a.atoms[k]:=⟨_,rfl⟩;rw[←hx] at g0 g1 g2 HP HXK;have hbx:Below wr.heap.size wr (wr.alloc (.cells #[.int .i64 x.kind,.int .i64 x.a,.int .i64 x.b] tA)):=bbox (Below.refl _ _) _;have kx:Blk (wr.alloc (.cells #[.int .i64 x.kind,.int .i64 x.a,.int .i64 x.b] tA)) wr.heap.size tA #[.int .i64 x.kind,.int .i64 x.a,.int .i64 x.b]:=Blk.new _ _ _;have k1:=k0.nz hbx;have HB1:=ax (bgo HB.o hbx);have hzx:(wr.alloc (.cells #[.int .i64 x.kind,.int .i64 x.a,.int .i64 x.b] tA)).heap.size=wr.heap.size+1:=by simp
   clear hx hbx;(replace qk0:=k0.z);(go_upto_region 9 with fail);clear qk0 g0 g1 g2 k0 HB;generalize (wr.alloc (.cells #[.int .i64 x.kind,.int .i64 x.a,.int .i64 x.b] tA))=W at k1 HB1 kx hzx ⊢;obtain ⟨yx,hyx⟩:∃ y,y=wr.heap.size:=⟨_,rfl⟩;rw[←hyx] at kx hzx hzr ⊢;have hzy:yx<W.heap.size:=by omega
   clear hyx hzx;(replace qk1:=k1.z;replace qkx:=kx.z);by_cases hkd:x.kind=1
   case neg=>
    have hkb:(x.kind == 1)=false:=by simpa using hkd
    have HA2:aJ (∀ j,j<k+1→findP a 1 t j=false):=ax fun j hj=>by
     by_cases e:j=k
     ·rw[e,HP.o];simp[hkd]
     ·exact HA.o j (by omega)
    clear HA HP hkd;(go_wp2_with fail)
    go_round
    case rel=>exact ⟨k+1,by omega,by go_num,HA2,k1,HB1.o⟩
    case measure=>simp[intOf];omega
   have hkb:(x.kind == 1)=true:=by simpa using hkd
   have HKD:=ax hkd;clear hkd;(go_wp2_with fail);refine (c_l10Equal _ a x.a t _ (hV.o.V.bz HB1.o)).mono ?_;rintro e w3 ⟨rfl,hB3⟩;replace k1:=k1.nz hB3;replace kx:=kx.nz hB3;have HB3:=ax (bgo HB1.o hB3);have hz3:=hB3.size;clear hB3 qk1 qkx HB1 hkb;cases him:impB a ⟨true,x.a,t⟩
   ·have HA2:aJ (∀ j,j<k+1→findP a 1 t j=false):=ax fun j hj=>by
     by_cases e:j=k
     ·rw[e,HP.o,him];simp
     ·exact HA.o j (by omega)
    clear HA HP him;(go_wp2_with fail)
    go_round
    case rel=>exact ⟨k+1,by omega,by go_num,HA2,k1,HB3.o⟩
    case measure=>simp[intOf];omega
   have HFK:=ax (findK_yes hlt HA.o (by rw[HP.o,him,HKD.o];rfl));have E:=ax (expose_cell (n:=n) (K:=Ks) HV.o HC.o HFK.o HXK.o);clear HA HP him HFK HXK;have hwl:=withoutL_len hlt;have HLT:=ax hlt;(replace qk1:=k1.z;replace qkx:=kx.z);(go_wp2_with fail);refine (c_l10Front _ a ⟨1,t,x.b⟩ k _ (hV.o.V.bz HB3.o) HV.o HLT.o).mono ?_;rintro e w4 ⟨F,d,G,g,rfl,oF,hB4⟩;have OF:=ax oF;replace kx:=kx.nz hB4;have HB4:=ax (bgo HB3.o hB4);have hz4:=hB4.size;clear oF hB4 qk1 qkx HB3 k1;(replace qkx:=kx.z);(go_upto_region 11 with fail);have hbq:=bbox (Below.refl w4.heap.size w4) (.cells #[.slice F a.facts.length d,.slice G a.atoms.length g] tAs);have ko:Blk (w4.alloc (.cells #[.slice F a.facts.length d,.slice G a.atoms.length g] tAs)) w4.heap.size tAs #[.slice F a.facts.length d,.slice G a.atoms.length g]:=Blk.new _ _ _;replace kx:=kx.nz hbq;replace OF:=ax (OF.o.bz hbq);replace HB4:=ax (bgo HB4.o hbq);have hzo:w4.heap.size<(w4.alloc (.cells #[.slice F a.facts.length d,.slice G a.atoms.length g] tAs)).heap.size:=by simp
   clear hbq qkx;generalize (w4.alloc (.cells #[.slice F a.facts.length d,.slice G a.atoms.length g] tAs))=W4 at ko kx OF HB4 hzo ⊢;obtain ⟨yo,hyo⟩:∃ y,y=w4.heap.size:=⟨_,rfl⟩;rw[←hyo] at ko hzo hz4 ⊢;clear hyo;(replace qko:=ko.z;replace qkx:=kx.z);by_cases hxt:x.a=t
   ·have hb:(x.a != t)=false:=by simpa using hxt
    have HXE:aJ (cellX a x k t=⟨a.facts,[⟨1,t,x.b⟩]++withoutL a.atoms k⟩):=ax (by unfold cellX;rw[if_pos hxt,List.append_nil];rfl);have OX:aJ (AsnO W4 w.heap.size (.agg #[.slice F a.facts.length d,.slice G a.atoms.length g]) (cellX a x k t)):=ax (by rw[HXE.o];exact OF.o.lower (by omega));have hlf:a.facts.length≤1000:=by omega
    clear hxt HXE OF kx;generalize a.facts.length=lf at ko OX hlf ⊢;(go_upto_region 13 with fail);refine wp_region_noPanic ?_;refine wp_region_held_drew (S:=(fun w'=>∀ i,w'.cell? ⟨yo,i,none⟩=#[.slice F lf d,.slice G a.atoms.length g][i]?)) (by kernel_rfl) (ko.drew.cell) (fun hHeld=>?_);have HBQ:aJ (Below W4.heap.size W4 W4.drew):=ax (Below.refl _ _).drew;have hzq:W4.heap.size≤W4.drew.heap.size:=Nat.le_refl _;clear qko;generalize W4.drew=wq at HBQ hzq hHeld ⊢;refine tk2 0 rfl hHeld (h:=tk2 2 rfl hHeld (h:=?_));(try simp only[zz]);refine rdd 1 3 rfl rfl (fun K hK=>?_) fun K hK=>?_
    ·skip;(try simp only[zz]);go_simp;refine hK.out _ _ ((ko.nz HBQ.o).alloc _).cell ?_;clear hHeld hK K;intro hHeld;(try simp only[zz]);have hBq:Below wq.heap.size wq (wq.alloc (.cells #[.slice F lf d,.slice G a.atoms.length g] tAs)):=bbox (Below.refl _ _) _;obtain ⟨yA,hyA⟩:∃ y,y=wq.heap.size:=⟨_,rfl⟩;have hyAb:W4.heap.size≤yA:=by omega
     replace HBQ:=ax (HBQ.o.trans (hBq.mono hzq));replace hzq:=Nat.le_trans hzq hBq.size;(try replace kA:=kA.nz hBq);have kA:Blk (wq.alloc (.cells #[.slice F lf d,.slice G a.atoms.length g] tAs)) yA tAs #[.slice F lf d,.slice G a.atoms.length g]:=Blk.newE hyA;rw[←hyA];clear hBq hyA;generalize wq.alloc (.cells #[.slice F lf d,.slice G a.atoms.length g] tAs)=wq at *;refine rdc 3 rfl fun K hK=>?_;(try simp only[zz]);go_simp;refine (c_spec_AssertionValid _ (cellX a x k t) _ (OX.o.reads.bz HBQ.o)).mono ?_;rintro e wq ⟨rfl,hBq⟩;replace HBQ:=ax (HBQ.o.trans (hBq.mono hzq));replace hzq:=Nat.le_trans hzq hBq.size;(try replace kA:=kA.nz hBq);clear hBq;refine hK.out _ _ (ko.nz HBQ.o).cell ?_;clear hHeld hK K;intro hHeld;(try simp only[zz]);refine tk2 4 rfl hHeld (h:=tk2 5 rfl hHeld (h:=?_));(try simp only[zz]);refine dn1 ?_;have hzw4:=HB4.o.size;(go_wp2_with fail);go_ret2;have hA:A2O wq w.heap.size (.slice (some ⟨yA,0,none⟩) 1 1) [.slice F lf d,.slice G a.atoms.length g] [cellX a x k t]:=A2O.one kA (by omega) (OX.o.bz HBQ.o);have hBf:Below w.heap.size w wq:=bgo HB4.o HBQ.o;have h2n:1≤2 ^ (n+1):=Nat.one_le_two_pow;cases hcv:(cellX a x k t).valid
     ·have E2:exposeF (n+1) a t Ks=none:=by rw[E.o,hcv];rfl
      exact ⟨_,_,_,by rw[E2];rfl,hA,h2n,.inl E2,hBf⟩
     ·have E2:exposeF (n+1) a t Ks=some [cellX a x k t]:=by rw[E.o,hcv];rfl
      exact ⟨_,_,_,by rw[E2];rfl,hA,h2n,.inr E2,hBf⟩
    ·skip;(try simp only[zz]);go_simp;refine (c_spec_AssertionValid _ (cellX a x k t) _ (OX.o.reads.bz HBQ.o)).mono ?_;rintro e wq ⟨rfl,hBq⟩;replace HBQ:=ax (HBQ.o.trans (hBq.mono hzq));replace hzq:=Nat.le_trans hzq hBq.size;(try replace kA:=kA.nz hBq);clear hBq;refine hK.out _ _ (ko.nz HBQ.o).cell ?_;clear hHeld hK K;intro hHeld;refine rdc 1 rfl fun K hK=>?_;(try simp only[zz]);go_simp;refine hK.out _ _ ((ko.nz HBQ.o).alloc _).cell ?_;clear hHeld hK K;intro hHeld;(try simp only[zz]);have hBq:Below wq.heap.size wq (wq.alloc (.cells #[.slice F lf d,.slice G a.atoms.length g] tAs)):=bbox (Below.refl _ _) _;obtain ⟨yA,hyA⟩:∃ y,y=wq.heap.size:=⟨_,rfl⟩;have hyAb:W4.heap.size≤yA:=by omega
     replace HBQ:=ax (HBQ.o.trans (hBq.mono hzq));replace hzq:=Nat.le_trans hzq hBq.size;(try replace kA:=kA.nz hBq);have kA:Blk (wq.alloc (.cells #[.slice F lf d,.slice G a.atoms.length g] tAs)) yA tAs #[.slice F lf d,.slice G a.atoms.length g]:=Blk.newE hyA;rw[←hyA];clear hBq hyA;generalize wq.alloc (.cells #[.slice F lf d,.slice G a.atoms.length g] tAs)=wq at *;refine tk2 4 rfl hHeld (h:=tk2 5 rfl hHeld (h:=?_));(try simp only[zz]);refine dn1 ?_;have hzw4:=HB4.o.size;(go_wp2_with fail);go_ret2;have hA:A2O wq w.heap.size (.slice (some ⟨yA,0,none⟩) 1 1) [.slice F lf d,.slice G a.atoms.length g] [cellX a x k t]:=A2O.one kA (by omega) (OX.o.bz HBQ.o);have hBf:Below w.heap.size w wq:=bgo HB4.o HBQ.o;have h2n:1≤2 ^ (n+1):=Nat.one_le_two_pow;cases hcv:(cellX a x k t).valid
     ·have E2:exposeF (n+1) a t Ks=none:=by rw[E.o,hcv];rfl
      exact ⟨_,_,_,by rw[E2];rfl,hA,h2n,.inl E2,hBf⟩
     ·have E2:exposeF (n+1) a t Ks=some [cellX a x k t]:=by rw[E.o,hcv];rfl
      exact ⟨_,_,_,by rw[E2];rfl,hA,h2n,.inr E2,hBf⟩
   ·have hb:(x.a != t)=true:=by simpa using hxt
    have HXE:aJ (cellX a x k t=⟨a.facts++[⟨true,x.a,t⟩],[⟨1,t,x.b⟩]++withoutL a.atoms k⟩):=ax (by unfold cellX;rw[if_neg hxt];rfl);clear hxt;(go_wp2_with fail);have hlg:(⟨a.facts,[⟨1,t,x.b⟩]++withoutL a.atoms k⟩:Asn).atoms.length=a.atoms.length:=by simp;omega
    have HKN:=ax (fun (Z:World) (hz:Below W4.heap.size W4 Z)=>c_l10Know _ ⟨a.facts,[⟨1,t,x.b⟩]++withoutL a.atoms k⟩ x.a t Z (OF.o.reads.bz hz) (by simp only;omega));rw[hlg] at HKN;refine (HKN.o _ (Below.refl _ _)).mono ?_;rintro e w5 ⟨F5,d5,G5,g5,rfl,o5,hB5⟩;have OX5:aJ (AsnO w5 w.heap.size (.agg #[.slice F5 (a.facts.length+1) d5,.slice G5 a.atoms.length g5]) (cellX a x k t)):=ax (by rw[HXE.o];exact o5.lower (by omega));have HB5:=ax (bgo HB4.o hB5);replace ko:=ko.nz hB5;have hz5:=hB5.size;clear HKN hlg OF o5 hB5 HXE HB4 kx qko qkx;(replace qko:=ko.z);(go_upto_region 13 with fail)
    have ko2:Blk ((w5.setCell ⟨yo,0,none⟩ (.slice F5 (a.facts.length+1) d5)).setCell ⟨yo,1,none⟩ (.slice G5 a.atoms.length g5)) yo tAs #[.slice F5 (a.facts.length+1) d5,.slice G5 a.atoms.length g5]:=by
     have:=(ko.set_ 0 (.slice F5 (a.facts.length+1) d5)).set_ 1 (.slice G5 a.atoms.length g5);simpa using this
    have OX2:aJ (AsnO ((w5.setCell ⟨yo,0,none⟩ (.slice F5 (a.facts.length+1) d5)).setCell ⟨yo,1,none⟩ (.slice G5 a.atoms.length g5)) w.heap.size (.agg #[.slice F5 (a.facts.length+1) d5,.slice G5 a.atoms.length g5]) (cellX a x k t)):=ax ⟨_,_,rfl,(OX5.o.parts.1.setT ko (by decide) 0 _).setT (ko.set_ 0 _) (by decide) 1 _,(OX5.o.parts.2.setT ko (by decide) 0 _).setT (ko.set_ 0 _) (by decide) 1 _⟩;have HB6:aJ (Below w.heap.size w ((w5.setCell ⟨yo,0,none⟩ (.slice F5 (a.facts.length+1) d5)).setCell ⟨yo,1,none⟩ (.slice G5 a.atoms.length g5))):=ax ((HB5.o.setCell (p:=⟨yo,0,none⟩) (by simp only;omega) _).setCell (p:=⟨yo,1,none⟩) (by simp only;omega) _);have hzo2:yo<((w5.setCell ⟨yo,0,none⟩ (.slice F5 (a.facts.length+1) d5)).setCell ⟨yo,1,none⟩ (.slice G5 a.atoms.length g5)).heap.size:=ko2.lt;clear ko OX5 HB5 hz5 hzo qko;generalize ((w5.setCell ⟨yo,0,none⟩ (.slice F5 (a.facts.length+1) d5)).setCell ⟨yo,1,none⟩ (.slice G5 a.atoms.length g5))=W5 at ko2 OX2 HB6 hzo2 ⊢;have ko:=ko2;have OX:=OX2;have HB4:=HB6;have hzo:=hzo2;have hlf:a.facts.length+1≤1000:=by omega
    clear ko2 OX2 HB6 hzo2;generalize W5=W4 at ko OX HB4 hzo ⊢;generalize F5=F at ko OX ⊢;generalize d5=d at ko OX ⊢;generalize G5=G at ko OX ⊢;generalize g5=g at ko OX ⊢;generalize a.facts.length+1=lf at ko OX hlf ⊢;(replace qko:=ko.z);refine wp_region_noPanic ?_;refine wp_region_held_drew (S:=(fun w'=>∀ i,w'.cell? ⟨yo,i,none⟩=#[.slice F lf d,.slice G a.atoms.length g][i]?)) (by kernel_rfl) (ko.drew.cell) (fun hHeld=>?_);have HBQ:aJ (Below W4.heap.size W4 W4.drew):=ax (Below.refl _ _).drew;have hzq:W4.heap.size≤W4.drew.heap.size:=Nat.le_refl _;clear qko;generalize W4.drew=wq at HBQ hzq hHeld ⊢;refine tk2 0 rfl hHeld (h:=tk2 2 rfl hHeld (h:=?_));(try simp only[zz]);refine rdd 1 3 rfl rfl (fun K hK=>?_) fun K hK=>?_
    ·skip;(try simp only[zz]);go_simp;refine hK.out _ _ ((ko.nz HBQ.o).alloc _).cell ?_;clear hHeld hK K;intro hHeld;(try simp only[zz]);have hBq:Below wq.heap.size wq (wq.alloc (.cells #[.slice F lf d,.slice G a.atoms.length g] tAs)):=bbox (Below.refl _ _) _;obtain ⟨yA,hyA⟩:∃ y,y=wq.heap.size:=⟨_,rfl⟩;have hyAb:W4.heap.size≤yA:=by omega
     replace HBQ:=ax (HBQ.o.trans (hBq.mono hzq));replace hzq:=Nat.le_trans hzq hBq.size;(try replace kA:=kA.nz hBq);have kA:Blk (wq.alloc (.cells #[.slice F lf d,.slice G a.atoms.length g] tAs)) yA tAs #[.slice F lf d,.slice G a.atoms.length g]:=Blk.newE hyA;rw[←hyA];clear hBq hyA;generalize wq.alloc (.cells #[.slice F lf d,.slice G a.atoms.length g] tAs)=wq at *;refine rdc 3 rfl fun K hK=>?_;(try simp only[zz]);go_simp;refine (c_spec_AssertionValid _ (cellX a x k t) _ (OX.o.reads.bz HBQ.o)).mono ?_;rintro e wq ⟨rfl,hBq⟩;replace HBQ:=ax (HBQ.o.trans (hBq.mono hzq));replace hzq:=Nat.le_trans hzq hBq.size;(try replace kA:=kA.nz hBq);clear hBq;refine hK.out _ _ (ko.nz HBQ.o).cell ?_;clear hHeld hK K;intro hHeld;(try simp only[zz]);refine tk2 4 rfl hHeld (h:=tk2 5 rfl hHeld (h:=?_));(try simp only[zz]);refine dn1 ?_;have hzw4:=HB4.o.size;(go_wp2_with fail);go_ret2;have hA:A2O wq w.heap.size (.slice (some ⟨yA,0,none⟩) 1 1) [.slice F lf d,.slice G a.atoms.length g] [cellX a x k t]:=A2O.one kA (by omega) (OX.o.bz HBQ.o);have hBf:Below w.heap.size w wq:=bgo HB4.o HBQ.o;have h2n:1≤2 ^ (n+1):=Nat.one_le_two_pow;cases hcv:(cellX a x k t).valid
     ·have E2:exposeF (n+1) a t Ks=none:=by rw[E.o,hcv];rfl
      exact ⟨_,_,_,by rw[E2];rfl,hA,h2n,.inl E2,hBf⟩
     ·have E2:exposeF (n+1) a t Ks=some [cellX a x k t]:=by rw[E.o,hcv];rfl
      exact ⟨_,_,_,by rw[E2];rfl,hA,h2n,.inr E2,hBf⟩
    ·skip;(try simp only[zz]);go_simp;refine (c_spec_AssertionValid _ (cellX a x k t) _ (OX.o.reads.bz HBQ.o)).mono ?_;rintro e wq ⟨rfl,hBq⟩;replace HBQ:=ax (HBQ.o.trans (hBq.mono hzq));replace hzq:=Nat.le_trans hzq hBq.size;(try replace kA:=kA.nz hBq);clear hBq;refine hK.out _ _ (ko.nz HBQ.o).cell ?_;clear hHeld hK K;intro hHeld;refine rdc 1 rfl fun K hK=>?_;(try simp only[zz]);go_simp;refine hK.out _ _ ((ko.nz HBQ.o).alloc _).cell ?_;clear hHeld hK K;intro hHeld;(try simp only[zz]);have hBq:Below wq.heap.size wq (wq.alloc (.cells #[.slice F lf d,.slice G a.atoms.length g] tAs)):=bbox (Below.refl _ _) _;obtain ⟨yA,hyA⟩:∃ y,y=wq.heap.size:=⟨_,rfl⟩;have hyAb:W4.heap.size≤yA:=by omega
     replace HBQ:=ax (HBQ.o.trans (hBq.mono hzq));replace hzq:=Nat.le_trans hzq hBq.size;(try replace kA:=kA.nz hBq);have kA:Blk (wq.alloc (.cells #[.slice F lf d,.slice G a.atoms.length g] tAs)) yA tAs #[.slice F lf d,.slice G a.atoms.length g]:=Blk.newE hyA;rw[←hyA];clear hBq hyA;generalize wq.alloc (.cells #[.slice F lf d,.slice G a.atoms.length g] tAs)=wq at *;refine tk2 4 rfl hHeld (h:=tk2 5 rfl hHeld (h:=?_));(try simp only[zz]);refine dn1 ?_;have hzw4:=HB4.o.size;(go_wp2_with fail);go_ret2;have hA:A2O wq w.heap.size (.slice (some ⟨yA,0,none⟩) 1 1) [.slice F lf d,.slice G a.atoms.length g] [cellX a x k t]:=A2O.one kA (by omega) (OX.o.bz HBQ.o);have hBf:Below w.heap.size w wq:=bgo HB4.o HBQ.o;have h2n:1≤2 ^ (n+1):=Nat.one_le_two_pow;cases hcv:(cellX a x k t).valid
     ·have E2:exposeF (n+1) a t Ks=none:=by rw[E.o,hcv];rfl
      exact ⟨_,_,_,by rw[E2];rfl,hA,h2n,.inl E2,hBf⟩
     ·have E2:exposeF (n+1) a t Ks=some [cellX a x k t]:=by rw[E.o,hcv];rfl
      exact ⟨_,_,_,by rw[E2];rfl,hA,h2n,.inr E2,hBf⟩
  ·obtain rfl:k=a.atoms.length:=by omega
   have HF1:=ax (findK_no (fun j hj=>HA.o j hj));clear HA;(replace qk0:=k0.z);(go_wp2_with fail);clear qk0
   go_loopw [13] (fun i wr=>∃ k:Nat,k≤a.atoms.length∧i=.int .i64 k∧aJ (∀ j,j<k→findP a 2 t j=false)∧Blk wr w.heap.size tAs #[.slice A1 a.facts.length c1,.slice A2 a.atoms.length c2]∧aJ (Below w.heap.size w wr)) (fun i _=>a.atoms.length - (intOf i).toNat)
   case atStart=>exact ⟨0,Nat.zero_le _,rfl,ax fun j h=>by omega,k0,HB.o⟩
   case round=>
    clear k0 HB hzr;obtain ⟨k,hk,rfl,HA,k0,HB⟩:=hrel;have hzr:=HB.o.size;by_cases hlt:k<a.atoms.length
    ·obtain ⟨b,off,rfl,g0,g1,g2⟩:=(H2.o.bz HB.o).at hlt;have hki:(k:Int)<(a.atoms.length:Int):=by omega
     have HP:aJ (findP a 2 t k=(decide (a.atoms[k].kind=2)&&impB a ⟨true,a.atoms[k].a,t⟩)):=ax (by unfold findP;rw[List.getElem?_eq_getElem hlt]);have HXK:aJ (a.atoms[k]? = some a.atoms[k]):=ax (List.getElem?_eq_getElem hlt);obtain ⟨x,hx⟩:∃ x,x=a.atoms[k]:=⟨_,rfl⟩;rw[←hx] at g0 g1 g2 HP HXK;have hbl:=block_lt_of_cell g0;simp only at hbl;clear hx g2;(replace qk0:=k0.z);by_cases hkd:x.kind=2
     case neg=>
      have hkb:(x.kind == 2)=false:=by simpa using hkd
      have HA2:aJ (∀ j,j<k+1→findP a 2 t j=false):=ax fun j hj=>by
       by_cases e:j=k
       ·rw[e,HP.o];simp[hkd]
       ·exact HA.o j (by omega)
      clear HA HP hkd HXK;(go_wp2_with fail);clear qk0;refine wp_region_noPanic ?_;refine wp_region_held_drew (S:=(fun w'=>(∀ i,w'.cell? ⟨w.heap.size,i,none⟩=#[.slice A1 a.facts.length c1,.slice (some ⟨b,off,none⟩) a.atoms.length c2][i]?)∧w'.cell? ⟨b,off+k * 3,none⟩=some (.int .i64 x.kind)∧w'.cell? ⟨b,off+k * 3+1,none⟩=some (.int .i64 x.a))) (by kernel_rfl) (⟨k0.drew.cell,g0,g1⟩) (fun hHeld=>?_);refine tk2 0 rfl hHeld (h:=tk2 1 rfl hHeld (h:=tk2 2 rfl hHeld (h:=?_)));(try simp only[zz]);refine tk2 3 rfl hHeld (h:=tk2 4 rfl hHeld (h:=tk2 5 rfl hHeld (h:=?_)));(try simp only[zz]);refine tk2 6 rfl hHeld (h:=tk2 7 rfl hHeld (h:=?_));(try simp only[zz]);refine tku 8 rfl hHeld ?_;(try simp only[zz]);refine tku 9 rfl hHeld ?_;(try simp only[zz]);refine tku 10 rfl hHeld ?_;(try simp only[zz]);refine tku 11 rfl hHeld ?_;(try simp only[zz]);refine tku 12 rfl hHeld ?_;(try simp only[zz]);refine tku 13 rfl hHeld ?_;(try simp only[zz]);refine tku 14 rfl hHeld ?_;(try simp only[zz]);refine tku 15 rfl hHeld ?_;(try simp only[zz]);refine tku 16 rfl hHeld ?_;(try simp only[zz]);refine tk2 17 rfl hHeld (h:=?_);(try simp only[zz]);refine dn1 ?_;have k0d:=k0.drew;have HBd:=ax HB.o.drew;clear g0 g1 hHeld;(go_wp2_with fail)
      go_round
      case rel=>exact ⟨k+1,by omega,by go_num,HA2,k0d,HBd.o⟩
      case measure=>simp[intOf];omega
     have hkb:(x.kind == 2)=true:=by simpa using hkd
     have HKD:=ax hkd;clear hkd;(go_wp2_with fail);clear qk0;refine wp_region_noPanic ?_;refine wp_region_held_drew (S:=(fun w'=>(∀ i,w'.cell? ⟨w.heap.size,i,none⟩=#[.slice A1 a.facts.length c1,.slice (some ⟨b,off,none⟩) a.atoms.length c2][i]?)∧w'.cell? ⟨b,off+k * 3,none⟩=some (.int .i64 x.kind)∧w'.cell? ⟨b,off+k * 3+1,none⟩=some (.int .i64 x.a))) (by kernel_rfl) (⟨k0.drew.cell,g0,g1⟩) (fun hHeld=>?_);refine tk2 0 rfl hHeld (h:=tk2 1 rfl hHeld (h:=tk2 2 rfl hHeld (h:=?_)));(try simp only[zz]);refine tk2 3 rfl hHeld (h:=tk2 4 rfl hHeld (h:=tk2 5 rfl hHeld (h:=?_)));(try simp only[zz]);refine tk2 6 rfl hHeld (h:=tk2 7 rfl hHeld (h:=tk2 8 rfl hHeld (h:=?_)));(try simp only[zz]);refine tk2 9 rfl hHeld (h:=tk2 10 rfl hHeld (h:=tk2 11 rfl hHeld (h:=?_)));(try simp only[zz]);refine tk2 12 rfl hHeld (h:=tk2 13 rfl hHeld (h:=tk2 14 rfl hHeld (h:=?_)));(try simp only[zz]);refine tk2 15 rfl hHeld (h:=?_);refine rdc 16 rfl fun K hK=>?_;(try simp only[zz]);(go_simp;refine (c_l10Equal _ a x.a t _ (hV.o.V.bz HB.o.drew)).mono ?_;rintro e w3 ⟨rfl,hB3⟩;replace hB3:Below wr.heap.size wr w3:=(Below.refl _ _).drew.trans hB3;have k3:=k0.nz hB3;have HB3:=ax (bgo HB.o hB3);have q0:=(hB3.cell (p:=⟨b,off+k * 3,none⟩) hbl).trans g0;have q1:=(hB3.cell (p:=⟨b,off+k * 3+1,none⟩) hbl).trans g1);refine hK.out _ _ (⟨k3.cell,q0,q1⟩) ?_;clear hHeld hK K;intro hHeld;(try simp only[zz]);refine tk2 17 rfl hHeld (h:=?_);(try simp only[zz]);refine dn1 ?_;have hz3:=hB3.size;clear hB3 k0 HB hkb hHeld g0 g1 q0 q1;cases him:impB a ⟨true,x.a,t⟩
     ·have HA2:aJ (∀ j,j<k+1→findP a 2 t j=false):=ax fun j hj=>by
       by_cases e:j=k
       ·rw[e,HP.o,him];simp
       ·exact HA.o j (by omega)
      clear HA HP him;(go_wp2_with fail)
      go_round
      case rel=>exact ⟨k+1,by omega,by go_num,HA2,k3,HB3.o⟩
      case measure=>simp[intOf];omega
     have HFK:=ax (findK_yes hlt HA.o (by rw[HP.o,him,HKD.o];rfl));have E:=ax (expose_list (n:=n) (K:=Ks) HV.o HC.o HF1.o HFK.o HXK.o);have HUN:=ax (HLL.o k x HV.o HF1.o HFK.o HXK.o HKD.o him);clear HA HP him HFK HXK;(replace qk3:=k3.z);(go_wp2_with fail);refine (HUN.o lo hi lo' hi' _ B cB _ (hV.o.bz HB3.o) (HFL.o.bz HB3.o)).mono ?_;rintro e w4 ⟨r,vs,l,rfl,oR,hll,hRR,hB4⟩;have OR:=ax oR;obtain ⟨R1,r1,rfl⟩:=oR.form;have HLL4:=ax hll;have HRR:=ax hRR;have HB4:=ax (bgo HB3.o hB4);have hz4:=hB4.size;clear oR hll hRR hB4;(go_wp2_with fail);go_ret2;exact ⟨_,vs,l,by rw[E.o];rfl,OR.o.lower (by omega),HLL4.o,by rw[E.o];exact HRR.o,HB4.o⟩
    ·obtain rfl:k=a.atoms.length:=by omega
     have E:=ax (expose_none (n:=n) (K:=Ks) HV.o HC.o HF1.o (findK_no (fun j hj=>HA.o j hj)));clear HA;(replace qk0:=k0.z);(go_wp2_with fail);go_ret2;exact ⟨_,[],[],by rw[E.o];rfl,(A2O.empty wr rfl).lower hzr,Nat.zero_le _,.inl E.o,bbox HB.o _⟩
theorem c_l10Open:∀ (n:Nat),n≤7→∀ (a:Asn) (t:Int) (K:Nat),OpC n a t K
 | 0,_,a,t,K=>c_l10Open_zero a t K
 | n+1,hn,a,t,K=>c_l10Open_step n a t K (by omega) fun i x hv _ _ hx _ _=>c_l10Unfold n a x i t K hv hx (by omega) (c_l10Open n (by omega) _ t K) fun m=>c_l10Open n (by omega) _ t K
theorem BoolsO.readsI9 {w:World} {base:Nat} {A:Option Addr} {n c:Nat} {fs:List Bool} (h:BoolsO w base (.slice A n c) fs):BoolsV w base w.heap.size A fs:=by
 obtain ⟨A',c',e,h1⟩:=h.reads;injection e with e1 e2 e3;subst e1;exact h1
end
section
open Go Go.RowKit
theorem symR_some {a:Asn} {ok:Bool} {k A B:Int} {ks:List Int} {l:List Asn} (h:symR a ok k A B ks=some l):a.valid=true∧ok=true∧symB a k A B (keepK (tset ks) A B)=some l:=by
 unfold symR at h
 split at h
 ·rename_i hc;rw[Bool.and_eq_true] at hc;exact ⟨hc.1,hc.2,h⟩
 ·cases h
theorem keepK_eq (ks:List Int) (A B:Int):keepK (tset ks) A B=tset (ks++[A,B]):=by
 unfold keepK tset;rw[List.foldl_append];rfl
end
section
open Go Go.RowKit Go.Proofs
attribute [local go_sem ↓] Go.wp_at_zero Go.wp_at_succ
theorem BoolsO.open_ {w:World} {base:Nat} {A:Option Addr} {n c k:Nat} {fs:List Bool} (h:BoolsO w base (.slice A n c) fs) (hk:k<fs.length):∃ g cur,n=fs.length∧A=some ⟨g,0,none⟩∧base≤g∧Blk w g tB cur∧cur[k]? = some (.bool fs[k])∧
  (∀ v:Bool,BoolsO (w.setCell ⟨g,k,none⟩ (.bool v)) base (.slice A n c) (fs.set k v)):=by
 obtain ⟨⟨hl,h2⟩,hL⟩:=h;rcases h2 with ⟨e,hn⟩|⟨g,cap,cur,e,hb,hh,hn,hm,hs,ht⟩
 ·omega
 ·injection e with e1 e2 e3;subst e1 e2 e3;have hK:Blk w g tB cur:=hh
  have hP:Pre cur (encB fs) (fs.length * 1):=by
   intro j hj;rw[←ht,List.getElem?_take,if_pos hj];simp
  refine ⟨g,cur,rfl,rfl,hb,hK,(hP _ (by omega)).trans (by simp[List.getElem?_eq_getElem hk]),?_⟩;intro v;refine ⟨?_,by rw[List.length_set];exact hL⟩;rw[show encB (fs.set k v)=(encB fs).set k (.bool v) from by simp[encB,List.map_set],List.length_set];exact own_of_blk (hK.set_ k (.bool v)) hb (by rw[List.length_set,hl]) (hP.setL k (.bool v) (by rw[hs];exact Nat.mul_le_mul hn (Nat.le_refl _)) (by rw[hl];exact Nat.le_refl _)) hn hm (by simpa using hs)
theorem AtomsV.hi_ {w:World} {lo hi b o k:Nat} {xs:List Atm} (h:AtomsV w lo hi (some ⟨b,o,none⟩) xs) (hk:k<xs.length):b<hi:=by
 obtain ⟨g,o',e,h1,h2,-⟩:=h.raw.2 (by omega);injection e with e;injection e with e1;omega
def modelR (a:Asn):Ste:=if consB a then modelL a else ⟨[],[]⟩
theorem modelR_no {a:Asn} (h:consB a=false):modelR a=⟨[],[]⟩:=by unfold modelR;rw[h];rfl
theorem modelR_yes {a:Asn} (h:consB a=true):modelR a=modS a ((cases a (caseS a 0)).head?.getD zeros):=by unfold modelR;rw[h,if_pos rfl];rfl
theorem stateO_none (w:World) (b:Nat):StateO w b (.agg #[.slice none 0 0,.slice none 0 0]) ⟨[],[]⟩:=⟨_,_,rfl,IntsO.nil _ _,IntsO.nil _ _,fun g h=>by simp[Value.ownBlock] at h⟩
theorem head_mem {a:Asn} {S:Nat} (h:(cases a S).isEmpty=false):(cases a S).head?.getD zeros∈cases a S:=by
 cases hc:cases a S with
 | nil=>rw[hc] at h;cases h
 | cons c cs=>exact List.mem_cons_self
theorem StateO.setR {w:World} {b:Nat} {v:Value} {s:Ste} {t:TypeId} (h:StateO w b v s) {g:Nat} {cs:Array Value} (k:Blk w g t cs) (ht:t≠tI) (v0 v1:Value):StateO ((w.setCell ⟨g,0,none⟩ v0).setCell ⟨g,1,none⟩ v1) b v s:=by
 obtain ⟨fv,av,e,h1,h2,h3⟩:=h;exact ⟨fv,av,e,(h1.setT k ht 0 _).setT (k.set_ 0 _) ht 1 _,(h2.setT k ht 0 _).setT (k.set_ 0 _) ht 1 _,h3⟩
theorem c_impl_ModelOf {lo hi:Nat} (v:Value) (a:Asn) (w:World) (h:AsnV w lo hi v a) (hhi:hi≤w.heap.size) :
  Calls Tryz.prog 45 #[v] w fun e w'=>∃ r,e=.returned (.tuple #[r,.bool (consB a)])∧StateO w' w.heap.size r (modelR a)∧Below w.heap.size w w':=by
 have hV:=ax h;obtain ⟨A1,c1,A2,c2,rfl,-,-⟩:=h;(go_enter Tryz.func45,Tryz.ntmps45);have k0:Blk ((w.alloc (.cells #[.slice A1 a.facts.length c1,.slice A2 a.atoms.length c2] tAs)).alloc (.cells #[.slice none 0 0,.slice none 0 0] tSt)) w.heap.size tAs #[.slice A1 a.facts.length c1,.slice A2 a.atoms.length c2]:=blks;have k2:Blk ((w.alloc (.cells #[.slice A1 a.facts.length c1,.slice A2 a.atoms.length c2] tAs)).alloc (.cells #[.slice none 0 0,.slice none 0 0] tSt)) (w.heap.size+1) tSt #[.slice none 0 0,.slice none 0 0]:=blks;(go_wp2_with fail);refine (c_impl_AssertionValid _ a _ (hV.o.bz bel)).mono ?_;rintro e w1 ⟨rfl,hB1⟩;have hB:Below w.heap.size w w1:=bgo (w:=w) bel hB1;replace k0:=k0.nz hB1;replace k2:=k2.nz hB1;have hz:=hB1.size;simp only[World.size_alloc] at hz;clear hB1;(replace qk0:=k0.z;replace qk2:=k2.cell;replace rk2:=k2.frozen;replace lk2:=k2.lt);cases hv:a.valid
 ·have HC:aJ (consB a=false):=by show _=_;unfold consB;rw[hv];rfl
  clear hv;(go_wp2_with fail);refine bodyPost_ret (v:=.tuple #[.agg #[.slice none 0 0,.slice none 0 0],.bool false]) (by simp[results,Tryz.results45,go_sem,qk2,lk2]) rfl ⟨_,by rw[HC.o],by rw[modelR_no HC.o];exact stateO_none _ _,?_⟩;exact (hB.setCell (p:=⟨w.heap.size+1,0,none⟩) (by simp only;omega) _).setCell (p:=⟨w.heap.size+1,1,none⟩) (by simp only;omega) _
 have HV:=ax hv;have HCE:aJ (consB a = !(cases a (caseS a 0)).isEmpty):=by show _=_;unfold consB;rw[hv];rfl
 clear hv;(go_wp2_with fail);refine (c_impl_firstCase _ a _ (hV.o.bz hB) (by omega) HV.o).mono ?_;rintro e w2 ⟨rfl,hB2⟩;obtain ⟨c,hc⟩:∃ c,c=(cases a (caseS a 0)).head?.getD zeros:=⟨_,rfl⟩;have HCC:=ax hc;rw[←hc];replace hB:=bgo hB hB2;replace k0:=k0.nz hB2;replace k2:=k2.nz hB2;have HB2:=ax (bbox hB (.cells (case9 c) tTc));have hz2:=hB2.size;have hne2:w.heap.size≠w2.heap.size:=by omega
 have hne3:w.heap.size+1≠w2.heap.size:=by omega
 have hB0:=hB;clear hc hB2 hB;(replace qk0:=k0.z;replace qk2:=k2.cell;replace rk2:=k2.frozen;replace lk2:=k2.lt);cases he:(cases a (caseS a 0)).isEmpty
 ·have HC:aJ (consB a=true):=by show _=_;rw[HCE.o,he];rfl
  have HMEM:aJ (c∈cases a (caseS a 0)):=by show _∈_;rw[HCC.o];exact head_mem he
  have HR:aJ (modelR a=modS a c):=by show _=_;rw[modelR_yes HC.o,HCC.o]
  clear he HCE HCC;(go_wp2_with fail);refine (c_impl_caseState _ a (caseS a 0) c (w2.alloc (.cells (case9 c) tTc)) (hV.o.bz HB2.o) HV.o (caseS_zero a 0) (caseS_terms HV.o 0) HMEM.o).mono ?_;rintro e w6 ⟨r6,rfl,o6,hB6⟩;rw[World.size_alloc] at o6;obtain ⟨fv,av,rfl,oV,oH,dj⟩:=id o6;obtain ⟨X1,d1,rfl,-⟩:=oV.reads;obtain ⟨X2,d2,rfl,-⟩:=oH.reads;have O6:=ax o6;have HB6:=ax (bgo HB2.o hB6);replace k2:=(k2.alloc (.cells (case9 c) tTc)).nz hB6;clear o6 oV oH dj hB6 k0 qk0;(replace qk2:=k2.cell;replace rk2:=k2.frozen;replace lk2:=k2.lt);(go_wp2_with fail);refine bodyPost_ret (v:=.tuple #[.agg #[.slice X1 (modS a c).values.length d1,.slice X2 (modS a c).heap.length d2],.bool true]) (by simp[results,Tryz.results45,go_sem,qk2,lk2]) rfl ⟨_,by rw[HC.o],by rw[HR.o];exact (O6.o.setR k2 (by decide) _ _).lower (by omega),?_⟩;exact (HB6.o.setCell (p:=⟨w.heap.size+1,0,none⟩) (by simp only;omega) _).setCell (p:=⟨w.heap.size+1,1,none⟩) (by simp only;omega) _
 ·have HC:aJ (consB a=false):=by show _=_;rw[HCE.o,he];rfl
  clear he HCE HCC;(go_wp2_with fail);refine bodyPost_ret (v:=.tuple #[.agg #[.slice none 0 0,.slice none 0 0],.bool false]) (by simp[results,Tryz.results45,go_sem,qk2,lk2]) rfl ⟨_,by rw[HC.o],by rw[modelR_no HC.o];exact stateO_none _ _,?_⟩;exact (((hB0.setCell (p:=⟨w.heap.size+1,0,none⟩) (by simp only;omega) _).setCell (p:=⟨w.heap.size+1,1,none⟩) (by simp only;omega) _)).alloc (by simp;omega) _
end
end Go.Proofs.YtgdfdmjnadnlnaaGreat
