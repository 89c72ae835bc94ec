/- Exposing cells: spec.l6Without, functional. -/
import Derived.Test.YtgdfdmjnadnlnaaGreatMSymK
import Derived.Deep.QuietTactic
import Derived.Deep.DeepCutAuto
import Derived.BigQuiet
set_option linter.unusedSimpArgs false
set_option linter.unusedVariables false
set_option maxRecDepth 100000
set_option maxHeartbeats 25600000
namespace Go.Proofs.YtgdfdmjnadnlnaaGreat
section
open Go Go.RowKit Go.Proofs
attribute [local go_sem ↓] Go.wp_at_zero Go.wp_at_succ
def wo (xs:List Atm) (i k:Int):Nat→List Atm
 | 0=>[]
 | j+1=>if (j:Int)=i∨(j:Int)=k then wo xs i k j else wo xs i k j++(xs[j]?).toList
theorem wo_skip {xs:List Atm} {i k:Int} {j:Nat} (h:(j:Int)=i∨(j:Int)=k):wo xs i k (j+1)=wo xs i k j:=by rw[wo,if_pos h]
theorem wo_take {xs:List Atm} {i k:Int} {j:Nat} (hj:j<xs.length) (h1:¬(j:Int)=i) (h2:¬(j:Int)=k):wo xs i k (j+1)=wo xs i k j++[xs[j]]:=by
 rw[wo,if_neg (by omega),List.getElem?_eq_getElem hj];rfl
theorem wo_one {xs:List Atm} {i:Nat} (hi:i<xs.length):wo xs i i xs.length=zv xs i:=by
 have key:∀ j,j≤xs.length→wo xs i i j=if j≤i then xs.take j else xs.take i++(xs.drop (i+1)).take (j - (i+1)):=by
  intro j
  induction j with
  | zero=>intro _;simp[wo]
  | succ j ih=>
   intro hj;have h:=ih (by omega);by_cases e:j=i
   ·subst e;rw[wo_skip (Or.inl rfl),h,if_pos (Nat.le_refl _),if_neg (by omega)];simp
   ·rw[wo_take (by omega) (by omega) (by omega),h];by_cases hlt:j≤i
    ·rw[if_pos hlt,if_pos (by omega),List.take_succ_eq_append_getElem (by omega)]
    ·rw[if_neg hlt,if_neg (by omega),List.append_assoc,show j+1 - (i+1)=(j - (i+1))+1 by omega];rw[List.take_succ_eq_append_getElem (by rw[List.length_drop];omega)];simp only[List.getElem_drop,show i+1+(j - (i+1))=j by omega]
 rw[key _ (Nat.le_refl _),if_neg (by omega)];unfold zv
 congr 1
 exact List.take_of_length_le (by rw[List.length_drop];omega)
theorem wp_appFL2 {o:Oper} {a:Act} {K:Act→World→Prop} {Q:Exit→Act→World→Prop} {w:World} {base lo hi c:Nat} {v:Value} {A:Option Addr} (s x:Operand) (ho:o.op=.call { callee:=.builtin .append,args:=#[s,x],argTypes:=#[33,33] })
  {xs ys:List Fct} (hs:a.eval s=v) (hown:FactsO w base v xs) (hx:a.eval x=.slice A ys.length c) (hR:FactsV w lo hi A ys) (hn:xs.length+ys.length≤1049600) (hb:base≤w.heap.size)
  (h:∀ A' c' w',FactsO w' base (.slice A' (xs++ys).length c') (xs++ys)→w.grownBy w' v.ownBlock→Below base w w'→K (a.put o.dst (.slice A' (xs++ys).length c')) w'):Oper.wp Tryz.prog o a w K Q:=by
 refine wp_appL s x 33 ho Tryz.underlying33 infoF rfl (by decide) (by decide) hs hown.1 hx hR.raw (encF_one _) hn hb ?_;intro v' w' h1 h2 h3;have hO:FactsO w' base v' (xs++ys):=⟨by rw[List.length_append,show encF (xs++ys)=encF xs++encF ys from List.flatMap_append];exact h1,by simp[Lim];omega⟩;obtain ⟨A',c',rfl,-⟩:=hO.rj;exact h A' c' w' hO h2 h3
theorem AtomsO.oneN2 (w:World) (x:Atm) {base:Nat} (hb:base≤w.heap.size):AtomsO (w.alloc (.cells #[.int .i64 x.kind,.int .i64 x.a,.int .i64 x.b] tA)) base (.slice (some ⟨w.heap.size,0,none⟩) 1 1) [x]:=
 ⟨own_of_blk (Blk.new w _ _) hb rfl (by intro j hj;match j,hj with|0,_=>rfl|1,_=>rfl|2,_=>rfl) (Nat.le_refl _) (by decide) rfl,by simp[Lim]⟩
theorem c_l6WithoutF {lo hi:Nat} (v:Value) (a:Asn) (i k:Int) (x:Atm) (w:World) (h:AsnV w lo hi v a) (hl1:a.facts.length≤1000) (hl2:a.atoms.length≤1000) :
  Calls Tryz.prog 218 #[v,.int .i64 i,.int .i64 k,.agg #[.int .i64 x.kind,.int .i64 x.a,.int .i64 x.b]] w fun e w'=>∃ r,e=.returned r∧AsnO w' w.heap.size r ⟨a.facts,[x]++wo a.atoms i k a.atoms.length⟩∧Below w.heap.size w w':=by
 obtain ⟨A1,c1,A2,c2,rfl,h1,h2⟩:=h;have H1:=ax h1;have H2:=ax h2;clear h1 h2;(go_enter Tryz.func218,Tryz.ntmps218);have k0:Blk (((w.alloc (.cells #[.slice A1 a.facts.length c1,.slice A2 a.atoms.length c2] tAs)).alloc (.cells #[.int .i64 x.kind,.int .i64 x.a,.int .i64 x.b] tA)).alloc (.cells #[.slice none 0 0,.slice none 0 0] tAs)) w.heap.size tAs #[.slice A1 a.facts.length c1,.slice A2 a.atoms.length c2]:=blks;have k1:Blk (((w.alloc (.cells #[.slice A1 a.facts.length c1,.slice A2 a.atoms.length c2] tAs)).alloc (.cells #[.int .i64 x.kind,.int .i64 x.a,.int .i64 x.b] tA)).alloc (.cells #[.slice none 0 0,.slice none 0 0] tAs)) (w.heap.size+1) tA #[.int .i64 x.kind,.int .i64 x.a,.int .i64 x.b]:=blks;have kr:Blk (((w.alloc (.cells #[.slice A1 a.facts.length c1,.slice A2 a.atoms.length c2] tAs)).alloc (.cells #[.int .i64 x.kind,.int .i64 x.a,.int .i64 x.b] tA)).alloc (.cells #[.slice none 0 0,.slice none 0 0] tAs)) (w.heap.size+2) tAs #[.slice none 0 0,.slice none 0 0]:=blks;have hB:Below w.heap.size w (((w.alloc (.cells #[.slice A1 a.facts.length c1,.slice A2 a.atoms.length c2] tAs)).alloc (.cells #[.int .i64 x.kind,.int .i64 x.a,.int .i64 x.b] tA)).alloc (.cells #[.slice none 0 0,.slice none 0 0] tAs)):=bel;(go_wp2_with fail);generalize (((w.alloc (.cells #[.slice A1 a.facts.length c1,.slice A2 a.atoms.length c2] tAs)).alloc (.cells #[.int .i64 x.kind,.int .i64 x.a,.int .i64 x.b] tA)).alloc (.cells #[.slice none 0 0,.slice none 0 0] tAs))=W at k0 k1 kr hB ⊢;refine wp_region_noPanic ?_;refine wp_region_held_drew (S:=(fun w'=>(∀ i,w'.cell? ⟨w.heap.size,i,none⟩=#[.slice A1 a.facts.length c1,.slice A2 a.atoms.length c2][i]?)∧(∀ i,w'.cell? ⟨w.heap.size+1,i,none⟩=#[.int .i64 x.kind,.int .i64 x.a,.int .i64 x.b][i]?))) (by kernel_rfl) (⟨k0.drew.cell,k1.drew.cell⟩) (fun aH=>?_);refine tk2 1 rfl aH (h:=tk2 2 rfl aH (h:=tk2 4 rfl aH (h:=?_)));(try simp only[zz])
 refine wpAnyH_par [0,3,5,6,7] #[true,true,true,true,true,true,true,true,false] 5 (by kernel_rfl) aH
  (fun a0 D a1 w'=>aJ (Below w.heap.size w w'∧Blk w' w.heap.size tAs #[.slice A1 a.facts.length c1,.slice A2 a.atoms.length c2]∧Blk w' (w.heap.size+1) tA #[.int .i64 x.kind,.int .i64 x.a,.int .i64 x.b]∧Blk w' (w.heap.size+2) tAs #[.slice none 0 0,.slice none 0 0])∧
   aJ ((dn D 3=true→dn D 0=true)∧(dn D 6=true→dn D 3=true∧dn D 5=true))∧
   ∃ v11 v14 v16 v17 v9,a1=((((a0.put (some 11) v11).put (some 14) v14).put (some 16) v16).put (some 17) v17).put (some 9) v9∧
    aJ (dn D 0=true→dn D 3=false→(∃ g,v11=.slice (some ⟨g,0,none⟩) 0 0)∧FactsO w' w.heap.size v11 [])∧
    aJ (dn D 3=true→(∃ A c,v14=.slice A a.facts.length c)∧FactsO w' w.heap.size v14 a.facts)∧
    aJ (dn D 5=true→(∃ g,v16=.slice (some ⟨g,0,none⟩) 1 1)∧AtomsO w' w.heap.size v16 [x])∧
    aJ (dn D 6=true→v17=.agg #[v14,v16])∧
    aJ (dn D 7=true→∃ g,v9=.pointer (some ⟨g,0,none⟩)∧w.heap.size+2<g∧Blk w' g tAs #[.slice none 0 0,.slice none 0 0])) ?start ?steps ?fin
 case start=>
  refine ⟨⟨hB.drew,k0.drew,k1.drew,kr.drew⟩,⟨fun h=>absurd h (by decide),fun h=>absurd h (by decide)⟩,undef,undef,undef,undef,undef,rfl,fun h=>absurd h (by decide),fun h=>absurd h (by decide),fun h=>absurd h (by decide),fun h=>absurd h (by decide),fun h=>absurd h (by decide)⟩
 case steps=>
  refine ParSteps.cons rfl (fun D a1 w' hu hd hI hS K' hK G hG=>?_) (ParSteps.cons rfl (fun D a1 w' hu hd hI hS K' hK G hG=>?_) (ParSteps.cons rfl (fun D a1 w' hu hd hI hS K' hK G hG=>?_) (ParSteps.cons rfl (fun D a1 w' hu hd hI hS K' hK G hG=>?_) (ParSteps.cons rfl (fun D a1 w' hu hd hI hS K' hK G hG=>?_) ParSteps.nil))))
  ·
   obtain ⟨HW,HC,v11,v14,v16,v17,v9,ha,h0,h3,h5,h6,h7⟩:=hI;rw[ha] at hG;clear ha a1;have u0:=dn_un hu;have u3:dn D 3=false:=by cases e:dn D 3;rfl;have:=HC.o.1 e;rw[u0] at this;cases this
   have HU:=ax u3;have U6:aJ (dn D 6=false):=by show _=_;cases e:dn D 6;rfl;have:=(HC.o.2 e).1;rw[u3] at this;cases this
   clear u0 u3;refine hG ?_;clear hG hd;(try simp only[zz]);go_simp;have hB2:Below w.heap.size w (w'.alloc (.cells #[] tF)):=HW.o.1.alloc HW.o.1.size _;have hBw:Below w'.heap.size w' (w'.alloc (.cells #[] tF)):=bbox (Below.refl _ _) _;refine hK.out _ _ ⟨(HW.o.2.1.alloc _).cell,(HW.o.2.2.1.alloc _).cell⟩ ⟨⟨hB2,HW.o.2.1.alloc _,HW.o.2.2.1.alloc _,HW.o.2.2.2.alloc _⟩,⟨fun h=>?_,fun h=>?_⟩,.slice (some ⟨w'.heap.size,0,none⟩) 0 0,v14,v16,v17,v9,rfl,?_,?_,?_,?_,?_⟩
   ·exact dn_self hu
   ·rw[dn_ne (by decide)] at h;rw[U6.o] at h;cases h
   ·exact fun _ _=>⟨⟨_,rfl⟩,(FactsO.empty w').bq HW.o.1.size⟩
   ·intro h;rw[dn_ne (by decide)] at h;rw[HU.o] at h;cases h
   ·intro h;rw[dn_ne (by decide)] at h;exact ⟨(h5.o h).1,(h5.o h).2.bz hBw⟩
   ·intro h;rw[dn_ne (by decide)] at h;rw[U6.o] at h;cases h
   ·intro h;rw[dn_ne (by decide)] at h;obtain ⟨g,e,hg,hk⟩:=h7.o h;exact ⟨g,e,hg,hk.alloc _⟩
  ·
   obtain ⟨HW,HC,v11,v14,v16,v17,v9,ha,h0,h3,h5,h6,h7⟩:=hI;rw[ha] at hG;clear ha a1;have u3:=dn_un hu;have t0:dn D 0=true:=hd ⟨0,.data⟩ (by simp) (by decide);obtain ⟨⟨y,rfl⟩,o⟩:=h0.o t0 u3;have HO:=ax o;have HU:=ax (And.intro u3 t0);have U6:aJ (dn D 6=false):=by show _=_;cases e:dn D 6;rfl;have:=(HC.o.2 e).1;rw[u3] at this;cases this
   clear u3 t0 o h0 hd;refine hG ?_;clear hG;(try simp only[zz]);rw[if_pos (by simp[Region.wanted])];refine wp_appFL2 (base:=w.heap.size) (xs:=[]) (ys:=a.facts) _ _ rfl rfl HO.o rfl (H1.o.bz HW.o.1) (by simp;omega) HW.o.1.size ?_;intro A' c' w2 o2 hg2 hB2;simp only[List.nil_append] at o2 ⊢;refine hK.out _ _ ⟨(Blk.zm (hg:=hg2) HW.o.2.1 HO.o.1 (by decide)).cell,(Blk.zm (hg:=hg2) HW.o.2.2.1 HO.o.1 (by decide)).cell⟩ ⟨⟨HW.o.1.trans hB2,Blk.zm (hg:=hg2) HW.o.2.1 HO.o.1 (by decide),Blk.zm (hg:=hg2) HW.o.2.2.1 HO.o.1 (by decide),Blk.zm (hg:=hg2) HW.o.2.2.2 HO.o.1 (by decide)⟩,⟨fun h=>?_,fun h=>?_⟩,.slice (some ⟨y,0,none⟩) 0 0,.slice A' a.facts.length c',v16,v17,v9,rfl,?_,?_,?_,?_,?_⟩
   ·rw[dn_ne (by decide)];exact HU.o.2
   ·rw[dn_ne (by decide)] at h;rw[U6.o] at h;cases h
   ·intro _ h;rw[dn_self hu] at h;cases h
   ·exact fun _=>⟨⟨A',c',rfl⟩,o2⟩
   ·intro h;rw[dn_ne (by decide)] at h;exact ⟨(h5.o h).1,AtomsO.grownF (h5.o h).2 HO.o hg2⟩
   ·intro h;rw[dn_ne (by decide)] at h;rw[U6.o] at h;cases h
   ·intro h;rw[dn_ne (by decide)] at h;obtain ⟨g,e,hg,hk⟩:=h7.o h;exact ⟨g,e,hg,Blk.zm (hg:=hg2) hk HO.o.1 (by decide)⟩
  ·
   obtain ⟨HW,HC,v11,v14,v16,v17,v9,ha,h0,h3,h5,h6,h7⟩:=hI;rw[ha] at hG;clear ha a1;have u5:=dn_un hu;have U6:aJ (dn D 6=false):=by show _=_;cases e:dn D 6;rfl;have:=(HC.o.2 e).2;rw[u5] at this;cases this
   clear u5;refine hG ?_;clear hG hd;(try simp only[zz]);go_simp;have hB2:Below w.heap.size w (w'.alloc (.cells #[.int .i64 x.kind,.int .i64 x.a,.int .i64 x.b] tA)):=HW.o.1.alloc HW.o.1.size _;have hBw:Below w'.heap.size w' (w'.alloc (.cells #[.int .i64 x.kind,.int .i64 x.a,.int .i64 x.b] tA)):=bbox (Below.refl _ _) _;refine hK.out _ _ ⟨(HW.o.2.1.alloc _).cell,(HW.o.2.2.1.alloc _).cell⟩ ⟨⟨hB2,HW.o.2.1.alloc _,HW.o.2.2.1.alloc _,HW.o.2.2.2.alloc _⟩,⟨fun h=>?_,fun h=>?_⟩,v11,v14,.slice (some ⟨w'.heap.size,0,none⟩) 1 1,v17,v9,rfl,?_,?_,?_,?_,?_⟩
   ·rw[dn_ne (by decide)] at h ⊢;exact HC.o.1 h
   ·rw[dn_ne (by decide)] at h;rw[U6.o] at h;cases h
   ·intro h h';rw[dn_ne (by decide)] at h h';exact ⟨(h0.o h h').1,(h0.o h h').2.bz hBw⟩
   ·intro h;rw[dn_ne (by decide)] at h;exact ⟨(h3.o h).1,(h3.o h).2.bz hBw⟩
   ·exact fun _=>⟨⟨_,rfl⟩,AtomsO.oneN2 w' x HW.o.1.size⟩
   ·intro h;rw[dn_ne (by decide)] at h;rw[U6.o] at h;cases h
   ·intro h;rw[dn_ne (by decide)] at h;obtain ⟨g,e,hg,hk⟩:=h7.o h;exact ⟨g,e,hg,hk.alloc _⟩
  ·
   obtain ⟨HW,HC,v11,v14,v16,v17,v9,ha,h0,h3,h5,h6,h7⟩:=hI;rw[ha] at hG;clear ha a1;have t3:dn D 3=true:=hd ⟨3,.data⟩ (by simp) (by decide);have t5:dn D 5=true:=hd ⟨5,.data⟩ (by simp) (by decide);have HT2:=ax (And.intro t3 t5);obtain ⟨⟨A,c,rfl⟩,o3⟩:=h3.o t3;obtain ⟨⟨y,rfl⟩,o5⟩:=h5.o t5;have HO3:=ax o3;have HO5:=ax o5;clear t3 t5 hd o3 o5 h3 h5;refine hG ?_;clear hG;(try simp only[zz]);go_simp;refine hK.out _ _ hS ⟨HW.o,⟨fun h=>?_,fun h=>?_⟩,v11,.slice A a.facts.length c,.slice (some ⟨y,0,none⟩) 1 1,.agg #[.slice A a.facts.length c,.slice (some ⟨y,0,none⟩) 1 1],v9,rfl,?_,?_,?_,?_,?_⟩
   ·rw[dn_ne (by decide)] at h ⊢;exact HC.o.1 h
   ·rw[dn_ne (by decide),dn_ne (by decide)];exact HT2.o
   ·intro h h';rw[dn_ne (by decide)] at h h';exact h0.o h h'
   ·exact fun _=>⟨⟨_,_,rfl⟩,HO3.o⟩
   ·exact fun _=>⟨⟨_,rfl⟩,HO5.o⟩
   ·exact fun _=>rfl
   ·intro h;rw[dn_ne (by decide)] at h;exact h7.o h
  ·
   obtain ⟨HW,HC,v11,v14,v16,v17,v9,ha,h0,h3,h5,h6,h7⟩:=hI;rw[ha] at hG;clear ha a1;refine hG ?_;clear hG hd;(try simp only[zz]);go_simp;have hB2:Below w.heap.size w (w'.alloc (.cells #[.slice none 0 0,.slice none 0 0] tAs)):=HW.o.1.alloc HW.o.1.size _;have hBw:Below w'.heap.size w' (w'.alloc (.cells #[.slice none 0 0,.slice none 0 0] tAs)):=bbox (Below.refl _ _) _;have hlt:=HW.o.2.2.2.lt;refine hK.out _ _ ⟨(HW.o.2.1.alloc _).cell,(HW.o.2.2.1.alloc _).cell⟩ ⟨⟨hB2,HW.o.2.1.alloc _,HW.o.2.2.1.alloc _,HW.o.2.2.2.alloc _⟩,⟨fun h=>?_,fun h=>?_⟩,v11,v14,v16,v17,.pointer (some ⟨w'.heap.size,0,none⟩),rfl,?_,?_,?_,?_,?_⟩
   ·rw[dn_ne (by decide)] at h ⊢;exact HC.o.1 h
   ·rw[dn_ne (by decide)] at h;rw[dn_ne (by decide),dn_ne (by decide)];exact HC.o.2 h
   ·intro h h';rw[dn_ne (by decide)] at h h';exact ⟨(h0.o h h').1,(h0.o h h').2.bz hBw⟩
   ·intro h;rw[dn_ne (by decide)] at h;exact ⟨(h3.o h).1,(h3.o h).2.bz hBw⟩
   ·intro h;rw[dn_ne (by decide)] at h;exact ⟨(h5.o h).1,(h5.o h).2.bz hBw⟩
   ·intro h;rw[dn_ne (by decide)] at h;exact h6.o h
   ·exact fun _=>⟨_,rfl,hlt,Blk.new _ _ _⟩
 case fin=>
  rintro a1 w4 aH ⟨HW,-,v11,v14,v16,v17,v9,rfl,-,h3,h5,h6,h7⟩;obtain rfl:=h6.o (by decide);obtain ⟨⟨A,c,rfl⟩,o3⟩:=h3.o (by decide);obtain ⟨⟨B,rfl⟩,o5⟩:=h5.o (by decide);obtain ⟨g,rfl,hg,kg⟩:=h7.o (by decide);have HO3:=ax o3;have HO5:=ax o5;have hBf:=HW.o.1;have k4:=HW.o.2.1;have k14:=HW.o.2.2.1;have kr4:=HW.o.2.2.2;clear h3 h5 h6 h7 o3 o5 k0 k1 kr hB HW;(try simp only[zz]);(replace qk4:=k4.z;replace qkr4:=kr4.z;replace qkg:=kg.z);refine rdc 8 rfl fun K hK=>?_;(try simp only[zz]);go_simp;refine hK.out _ _ (⟨((k4.far (p:=⟨g,0,none⟩) (by simp only;omega) _).far (p:=⟨g,1,none⟩) (by simp only;omega) _).cell,((k14.far (p:=⟨g,0,none⟩) (by simp only;omega) _).far (p:=⟨g,1,none⟩) (by simp only;omega) _).cell⟩) ?_;clear aH hK K;intro aH;(try simp only[zz]);refine dn1 ?_;have kg2:Blk ((w4.setCell ⟨g,0,none⟩ (.slice A a.facts.length c)).setCell ⟨g,1,none⟩ (.slice (some ⟨B,0,none⟩) 1 1)) g tAs #[.slice A a.facts.length c,.slice (some ⟨B,0,none⟩) 1 1]:=by simpa using (kg.set_ 0 (.slice A a.facts.length c)).set_ 1 (.slice (some ⟨B,0,none⟩) 1 1)
  have hB5:Below w.heap.size w ((w4.setCell ⟨g,0,none⟩ (.slice A a.facts.length c)).setCell ⟨g,1,none⟩ (.slice (some ⟨B,0,none⟩) 1 1)):=(hBf.setCell (p:=⟨g,0,none⟩) (by simp only;omega) _).setCell (p:=⟨g,1,none⟩) (by simp only;omega) _;have k5:=(k4.far (p:=⟨g,0,none⟩) (by simp only;omega) (.slice A a.facts.length c)).far (p:=⟨g,1,none⟩) (by simp only;omega) (.slice (some ⟨B,0,none⟩) 1 1);have kr5:=(kr4.far (p:=⟨g,0,none⟩) (by simp only;omega) (.slice A a.facts.length c)).far (p:=⟨g,1,none⟩) (by simp only;omega) (.slice (some ⟨B,0,none⟩) 1 1);have HF5:=ax ((HO3.o.setT kg (by decide) 0 (.slice A a.facts.length c)).setT (kg.set_ 0 _) (by decide) 1 (.slice (some ⟨B,0,none⟩) 1 1));have HA5:=ax ((HO5.o.setT kg (by decide) 0 (.slice A a.facts.length c)).setT (kg.set_ 0 _) (by decide) 1 (.slice (some ⟨B,0,none⟩) 1 1));clear HO3 HO5 hBf k4 k14 kr4 kg qk4 qkr4 qkg;generalize ((w4.setCell ⟨g,0,none⟩ (.slice A a.facts.length c)).setCell ⟨g,1,none⟩ (.slice (some ⟨B,0,none⟩) 1 1))=w5 at kg2 hB5 k5 kr5 HF5 HA5 ⊢;have HB5:=ax hB5;clear hB5;(go_wp2_with fail)
  go_loopw [10] (fun n wr=>∃ (j:Nat) (xs:List Atm) (A3:Option Addr) (c3:Nat),j≤a.atoms.length∧n=.int .i64 j∧xs.length≤j+1∧aJ (xs=[x]++wo a.atoms i k j)∧aJ (FactsO wr w.heap.size (.slice A a.facts.length c) a.facts)∧aJ (AtomsO wr w.heap.size (.slice A3 xs.length c3) xs)∧
   Blk wr w.heap.size tAs #[.slice A1 a.facts.length c1,.slice A2 a.atoms.length c2]∧Blk wr (w.heap.size+2) tAs #[.slice none 0 0,.slice none 0 0]∧Blk wr g tAs #[.slice A a.facts.length c,.slice A3 xs.length c3]∧aJ (Below w.heap.size w wr)) (fun n _=>a.atoms.length - (intOf n).toNat)
  case atStart=>exact ⟨0,[x],some ⟨B,0,none⟩,1,Nat.zero_le _,rfl,Nat.le_refl _,(by show _=_;rfl),HF5.o,HA5.o,k5,kr5,kg2,HB5.o⟩
  case round=>
   clear k5 kr5 kg2 HF5 HA5 HB5;obtain ⟨j,xs,A3,c3,hj,rfl,hxl,HXS,HF,HA,k0,kr,kg,HB⟩:=hrel;(replace qk0:=k0.z;replace qkr:=kr.cell;replace rkr:=kr.frozen;replace lkr:=kr.lt;replace qkg:=kg.z);have hsz:=HB.o.size;by_cases hlt:j<a.atoms.length
   ·have HX:=ax (H2.o.bz HB.o);obtain ⟨b,off,rfl,hbl⟩:=HX.o.blt hlt;have hji:(j:Int)<(a.atoms.length:Int):=by omega
    by_cases e1:(j:Int)=i
    ·have HXN:aJ (xs=[x]++wo a.atoms i k (j+1)):=ax (by rw[HXS.o,wo_skip (Or.inl e1)]);have e1':((j:Int) != i)=false:=by simpa using e1
     clear e1;(go_wp2_with fail)
     go_round
     case rel=>exact ⟨j+1,xs,A3,c3,by omega,by go_num,by omega,HXN,HF,HA,k0,kr,kg,HB⟩
     case measure=>simp[intOf];omega
    ·have e1':((j:Int) != i)=true:=by simpa using e1
     have HE1:=ax e1;clear e1;by_cases e2:(j:Int)=k
     ·have HXN:aJ (xs=[x]++wo a.atoms i k (j+1)):=ax (by rw[HXS.o,wo_skip (Or.inr e2)]);have e2':((j:Int) != k)=false:=by simpa using e2
      clear e2;(go_wp2_with fail)
      go_round
      case rel=>exact ⟨j+1,xs,A3,c3,by omega,by go_num,by omega,HXN,HF,HA,k0,kr,kg,HB⟩
      case measure=>simp[intOf];omega
     ·have HXN:aJ (xs++[a.atoms[j]]=[x]++wo a.atoms i k (j+1)):=ax (by rw[HXS.o,wo_take hlt HE1.o e2,List.append_assoc]);have e2':((j:Int) != k)=true:=by simpa using e2
      clear e2;(go_wp2_with fail);refine wp_region_noPanic ?_;refine wp_region_last' (S:=(fun w'=>(∀ i,w'.cell? ⟨g,i,none⟩=#[.slice A a.facts.length c,.slice A3 xs.length c3][i]?)∧(∀ i,w'.cell? ⟨w.heap.size,i,none⟩=#[.slice A1 a.facts.length c1,.slice (some ⟨b,off,none⟩) a.atoms.length c2][i]?)∧w'.cell? ⟨b,off+j * 3,none⟩=some (.int .i64 a.atoms[j].kind)∧w'.cell? ⟨b,off+j * 3+1,none⟩=some (.int .i64 a.atoms[j].a)∧w'.cell? ⟨b,off+j * 3+2,none⟩=some (.int .i64 a.atoms[j].b))) (by simp) (by kernel_rfl) (by kernel_rfl) (⟨Blk.cell blks,Blk.cell blks,(AtomsV.bz HX.o bel).cl hlt⟩) (fun aH=>?_);simp only[List.dropLast,List.getLast,nopOf,List.cons_append,List.nil_append,List.length_cons,List.length_nil,Nat.zero_add,Nat.reduceAdd];refine tk2 0 rfl aH (h:=tk2 1 rfl aH (h:=tk2 2 rfl aH (h:=?_)));(try simp only[zz]);refine tk2 3 rfl aH (h:=tk2 4 rfl aH (h:=tk2 5 rfl aH (h:=?_)));(try simp only[zz]);refine tk2 6 rfl aH (h:=?_);refine rdc 7 rfl fun K hK=>?_;(try simp only[zz]);go_simp;refine hK.out _ _ (⟨Blk.cell blks,Blk.cell blks,(AtomsV.bz HX.o bel).cl hlt⟩) ?_;clear aH hK K;intro aH;(try simp only[zz]);have hBX:Below w.heap.size w (wr.alloc (.cells #[.int .i64 a.atoms[j].kind,.int .i64 a.atoms[j].a,.int .i64 a.atoms[j].b] tA)).drew:=(Below.alloc HB.o hsz _).drew;have HAX:=ax (HA.o.bz (((Below.refl wr.heap.size wr).alloc (Nat.le_refl _) (.cells #[.int .i64 a.atoms[j].kind,.int .i64 a.atoms[j].a,.int .i64 a.atoms[j].b] tA)).drew));have HFX:=ax (HF.o.bz (((Below.refl wr.heap.size wr).alloc (Nat.le_refl _) (.cells #[.int .i64 a.atoms[j].kind,.int .i64 a.atoms[j].a,.int .i64 a.atoms[j].b] tA)).drew));have kl:=(Blk.new wr tA #[.int .i64 a.atoms[j].kind,.int .i64 a.atoms[j].a,.int .i64 a.atoms[j].b]).drew;have kgX:=(kg.alloc (.cells #[.int .i64 a.atoms[j].kind,.int .i64 a.atoms[j].a,.int .i64 a.atoms[j].b] tA)).drew;have k0X:=(k0.alloc (.cells #[.int .i64 a.atoms[j].kind,.int .i64 a.atoms[j].a,.int .i64 a.atoms[j].b] tA)).drew;have krX:=(kr.alloc (.cells #[.int .i64 a.atoms[j].kind,.int .i64 a.atoms[j].a,.int .i64 a.atoms[j].b] tA)).drew;clear kg k0 kr HA HF HX qk0 qkg qkr rkr lkr;generalize (wr.alloc (.cells #[.int .i64 a.atoms[j].kind,.int .i64 a.atoms[j].a,.int .i64 a.atoms[j].b] tA)).drew=V at hBX HAX HFX kl kgX k0X krX aH ⊢;have hszV:=hBX.size;generalize wr.heap.size=L at kl ⊢;clear hsz hbl HB;refine rdc 8 rfl fun K hK=>?_;skip;(refine stepAL (base:=w.heap.size) (xs:=xs) (ys:=[a.atoms[j]]) rfl _ _ rfl rfl HAX.o rfl (AtomsV.one' kl) (by simp;omega) hszV ?_;intro A' d' w2 of2 hg2 hB3;have z2:=Blk.zm (hg:=hg2) kgX HAX.o.1 (by decide);have z0:=Blk.zm (hg:=hg2) k0X HAX.o.1 (by decide);have hBw2:Below w.heap.size w w2:=hBX.trans hB3);refine hK.out _ _ (⟨z2.cell,z0.cell,(H2.o.bz hBw2).cl hlt⟩) ?_;clear aH hK K;intro aH;(try simp only[zz]);have rz2:=z2.frozen;have lz2:=z2.lt;refine tk2 9 rfl aH (h:=?_);(try simp only[zz]);refine rdc 10 rfl fun K hK=>?_;go_simp;refine hK.out _ _ (⟨z2.cell,z0.cell,(H2.o.bz hBw2).cl hlt⟩) (fun aH=>?_);clear hK K;refine wpAnyH_done (by kernel_rfl) ?_ _;unfold lastQ;go_simp;refine NoPanic.normal ?_;have zr:=Blk.zm (hg:=hg2) krX HAX.o.1 (by decide);(go_wp2_with fail);have of3:=of2.setT z2 (by decide) 1 (.slice A' (xs.length+1) d')
      go_round
      case rel=>exact ⟨j+1,xs++[a.atoms[j]],A',d',by omega,by go_num,by simp;omega,HXN,(FactsO.grownA HFX.o HAX.o hg2).setT z2 (by decide) _ _,of3,z0.far (by simp only[];omega) _,zr.far (by simp only[];omega) _,(by have:=z2.set_ 1 (.slice A' (xs.length+1) d');simpa using this),hBw2.setCell (p:=⟨g,1,none⟩) (by simp only;omega) _⟩
      case measure=>simp[intOf];omega
   ·obtain rfl:j=a.atoms.length:=by omega
    have hne:g≠w.heap.size+2:=by omega
    (go_wp2_with fail);refine bodyPost_ret (v:=.agg #[.slice A a.facts.length c,.slice A3 xs.length c3]) (by simp[results,Tryz.results218,go_sem,qkr]) rfl ⟨_,rfl,⟨_,_,rfl,?_,?_⟩,?_⟩
    ·exact (HF.o.setT kr (by decide) 0 _).setT (kr.set_ 0 _) (by decide) 1 _
    ·rw[HXS.o] at HA ⊢;exact (HA.o.setT kr (by decide) 0 _).setT (kr.set_ 0 _) (by decide) 1 _
    ·exact (HB.o.setCell (p:=⟨w.heap.size+2,0,none⟩) (by simp only;omega) _).setCell (p:=⟨w.heap.size+2,1,none⟩) (by simp only;omega) _
end
section
open Go Go.RowKit Go.Proofs
structure Fr (g:Nat) (w w':World):Prop where
 os:w'.os=w.os
 tape:w'.tape=w.tape
 output:w'.output=w.output
 size:w.heap.size≤w'.heap.size
 block:∀ k,k<w.heap.size→k≠g→w'.heap[k]? = w.heap[k]?
section
variable {g:Nat} {w a b c:World}
theorem Fr.refl (g:Nat) (w:World):Fr g w w:=⟨rfl,rfl,rfl,Nat.le_refl _,fun _ _ _=>rfl⟩
theorem Fr.trans (h:Fr g a b) (k:Fr g b c):Fr g a c:=
 ⟨k.os.trans h.os,k.tape.trans h.tape,k.output.trans h.output,Nat.le_trans h.size k.size,fun i h1 h2=>(k.block i (Nat.lt_of_lt_of_le h1 h.size) h2).trans (h.block i h1 h2)⟩
theorem Fr.ofBelow (h:Below a.heap.size a b):Fr g a b:=⟨h.os,h.tape,h.output,h.size,fun k h1 _=>h.block k h1⟩
theorem Fr.go (h:Fr g a b) (k:Below b.heap.size b c):Fr g a c:=h.trans (.ofBelow k)
theorem Fr.alloc (h:Fr g a b) (o:Obj):Fr g a (b.alloc o):=h.go (bbox (Below.refl _ _) o)
theorem Fr.drew (h:Fr g a b):Fr g a b.drew:=h.go (Below.refl _ _).drew
theorem Fr.set_ (h:Fr g a b) {p:Addr} (hp:p.block=g∨a.heap.size≤p.block) (u:Value):Fr g a (b.setCell p u):=
 ⟨h.os,h.tape,h.output,by have:=h.size;simp;exact this,fun k h1 h2=>(Below.heap_setCell b p u k (by rcases hp with e|e<;>omega)).trans (h.block k h1 h2)⟩
theorem Fr.bz {B:Nat} (h:Fr g a b) (hg:B≤g) (hB:B≤a.heap.size):Below B a b:=⟨h.os,h.tape,h.output,h.size,fun k hk=>h.block k (by omega) (by omega)⟩
theorem Blk.fr {x:Nat} {t:TypeId} {cs:Array Value} (h:Blk a x t cs) (hf:Fr g a b) (hx:x≠g):Blk b x t cs:=(hf.block x h.lt hx).trans h
theorem Rw.fr {lo hi size n:Nat} {A:Option Addr} {xs:List Value} (h:Rw a lo hi size A n xs) (hf:Fr g a b) (hg:g<lo∨hi≤g):Rw b lo hi size A n xs:=
 ⟨h.1,fun hn=>by
  obtain ⟨k,o,e,h1,h2,hc⟩:=h.2 hn;have h0:=h.1;have hx:xs[0]? = some (xs[0]'(by omega)):=List.getElem?_eq_getElem (by omega);have hlt:k<a.heap.size:=block_lt_of_cell (hc 0 _ hx)
  exact ⟨k,o,e,h1,h2,fun j u hu=>(World.cell?_of_block (a:=⟨k,o+j,none⟩) (hf.block k hlt (by omega))).trans (hc j u hu)⟩⟩
theorem Rd.fr {lo hi size n:Nat} {A:Option Addr} {xs:List Value} (h:Rd a lo hi size A n xs) (hf:Fr g a b) (hg:g<lo∨hi≤g):Rd b lo hi size A n xs:=⟨h.raw.fr hf hg,h.lim⟩
theorem own_fr {base:Nat} {e:TypeId} {size:Nat} {v:Value} {n:Nat} {xs:List Value} (h:a.ownsRow base e size v n xs) (hf:Fr g a b) (hg:g<base):b.ownsRow base e size v n xs:=by
 obtain ⟨h1,h2⟩:=h;refine ⟨h1,?_⟩;rcases h2 with h2|⟨k,cap,cur,hv,hk,hh,r⟩
 ·exact Or.inl h2
 ·exact Or.inr ⟨k,cap,cur,hv,hk,(hf.block k (Blk.lt hh) (by omega)).trans hh,r⟩
variable {base:Nat} {v:Value}
theorem FactsO.fr {fs:List Fct} (h:FactsO a base v fs) (hf:Fr g a b) (hg:g<base):FactsO b base v fs:=⟨own_fr h.1 hf hg,h.2⟩
theorem AtomsO.fr {fs:List Atm} (h:AtomsO a base v fs) (hf:Fr g a b) (hg:g<base):AtomsO b base v fs:=⟨own_fr h.1 hf hg,h.2⟩
theorem IntsO.fr {fs:List Int} (h:IntsO a base v fs) (hf:Fr g a b) (hg:g<base):IntsO b base v fs:=⟨own_fr h.1 hf hg,h.2⟩
theorem AsnO.fr {x:Asn} (h:AsnO a base v x) (hf:Fr g a b) (hg:g<base):AsnO b base v x:=by
 obtain ⟨fv,av,e,h1,h2⟩:=h;exact ⟨fv,av,e,h1.fr hf hg,h2.fr hf hg⟩
end
theorem c_l3Copy {lo hi:Nat} (v:Value) (a:Asn) (w:World) (h:AsnV w lo hi v a) :
  Calls Tryz.prog 60 #[v] w fun e w'=>∃ r,e=.returned r∧AsnO w' w.heap.size r a∧Below w.heap.size w w':=by
 have hV:=ax h;obtain ⟨A1,c1,A2,c2,rfl,h1,h2⟩:=h;have HL:=ax (And.intro h1.le h2.le);clear h1 h2;have e0:aJ (starA a ⟨[],[]⟩=a):=by show _=_;simp[starA]
 (go_enter Tryz.func60,Tryz.ntmps60);have kr:Blk ((w.alloc (.cells #[.slice A1 a.facts.length c1,.slice A2 a.atoms.length c2] 36)).alloc (.cells #[.slice none 0 0,.slice none 0 0] 36)) (w.heap.size+1) 36 #[.slice none 0 0,.slice none 0 0]:=blks;(go_wp2_with fail);refine (c_spec_l3Star _ _ a ⟨[],[]⟩ _ (hV.o.bz bel) (⟨none,0,none,0,rfl,Rd.nil _ 0 0 _ _,Rd.nil _ 0 0 _ _⟩) (by simpa using HL.o.1) (by simpa using HL.o.2)).mono ?_;rintro e w1 ⟨r,rfl,o,hB1⟩;have hB:=bgo (w:=w) bel hB1;replace kr:=kr.nz hB1;rw[e0.o] at o;replace o:=o.bq (base':=w.heap.size) (by simp;omega);obtain ⟨fv,av,rfl,o1,o2⟩:=o;obtain ⟨F,e1,rfl,-⟩:=o1.rj;obtain ⟨G,e2,rfl,-⟩:=o2.rj;have O1:=ax o1;have O2:=ax o2;(replace qkr:=kr.cell;replace rkr:=kr.frozen;replace lkr:=kr.lt);clear o1 o2 hB1;(go_wp2_with fail);refine bodyPost_ret (v:=.agg #[.slice F a.facts.length e1,.slice G a.atoms.length e2]) (by simp[results,Tryz.results60,go_sem,qkr]) rfl ⟨_,rfl,⟨_,_,rfl,?_,?_⟩,bel⟩
 ·exact (O1.o.setT kr (by decide) 0 _).setT (kr.set_ 0 _) (by decide) 1 _
 ·exact (O2.o.setT kr (by decide) 0 _).setT (kr.set_ 0 _) (by decide) 1 _
end
section
open Go Go.RowKit Go.Proofs
attribute [local go_sem ↓] Go.wp_at_zero Go.wp_at_succ
theorem BoolsO.openI {w:World} {base:Nat} {A:Option Addr} {n c k:Nat} {fs:List Bool} (h:BoolsO w base (.slice A n c) fs) (hk:k<fs.length):∃ g cur,n=fs.length∧A=some ⟨g,0,none⟩∧base≤g∧Blk w g tB cur∧cur[k]? = some (.bool fs[k])∧
  (∀ v:Bool,BoolsO (w.setCell ⟨g,k,none⟩ (.bool v)) base (.slice A n c) (fs.set k v)):=by
 obtain ⟨⟨hl,h2⟩,hL⟩:=h;rcases h2 with ⟨e,hn⟩|⟨g,cap,cur,e,hb,hh,hn,hm,hs,ht⟩
 ·omega
 ·injection e with e1 e2 e3;subst e1 e2 e3;have hK:Blk w g tB cur:=hh
  have hP:Pre cur (encB fs) (fs.length * 1):=by
   intro j hj;rw[←ht,List.getElem?_take,if_pos hj];simp
  refine ⟨g,cur,rfl,rfl,hb,hK,(hP _ (by omega)).trans (by simp[List.getElem?_eq_getElem hk]),?_⟩;intro v;refine ⟨?_,by rw[List.length_set];exact hL⟩;rw[show encB (fs.set k v)=(encB fs).set k (.bool v) from by simp[encB,List.map_set],List.length_set];exact own_of_blk (hK.set_ k (.bool v)) hb (by rw[List.length_set,hl]) (hP.setL k (.bool v) (by rw[hs];exact Nat.mul_le_mul hn (Nat.le_refl _)) (by rw[hl];exact Nat.le_refl _)) hn hm (by simpa using hs)
theorem rowB_ {B:Nat} {w w':World} (h:Below B w w') {g:Nat} (hg:g<B) {cs:Array Value} (hc:∀ i,w.cell? ⟨g,i,none⟩=cs[i]?):∀ i,w'.cell? ⟨g,i,none⟩=cs[i]?:=fun i=>(h.cell (p:=⟨g,i,none⟩) hg).trans (hc i)
theorem c_spec_Implies {lo hi:Nat} (v:Value) (a:Asn) (f:Fct) (w:World) (h:AsnV w lo hi v a) :
  Calls Tryz.prog 217 #[v,f.val] w fun e w'=>e=.returned (.bool (impB a f))∧Below w.heap.size w w':=by
 have hV:=ax h;obtain ⟨A1,c1,A2,c2,rfl,h1,h2⟩:=h;have H1:=ax h1;have H2:=ax h2;have HE:aJ (impB a f=(a.valid&&f.valid&&(cases a (caseS a (factS f))).all (Fct.fits · f))):=ax rfl;obtain ⟨fe,fa,fb⟩:=f;clear h1 h2;(go_enter Tryz.func217,Tryz.ntmps217);have k0:Blk ((w.alloc (.cells #[.slice A1 a.facts.length c1,.slice A2 a.atoms.length c2] tAs)).alloc (.cells #[.bool fe,.int .i64 fa,.int .i64 fb] tF)) w.heap.size tAs #[.slice A1 a.facts.length c1,.slice A2 a.atoms.length c2]:=blks;have k1:Blk ((w.alloc (.cells #[.slice A1 a.facts.length c1,.slice A2 a.atoms.length c2] tAs)).alloc (.cells #[.bool fe,.int .i64 fa,.int .i64 fb] tF)) (w.heap.size+1) tF #[.bool fe,.int .i64 fa,.int .i64 fb]:=blks;have hB0:aJ (Below w.heap.size w ((w.alloc (.cells #[.slice A1 a.facts.length c1,.slice A2 a.atoms.length c2] tAs)).alloc (.cells #[.bool fe,.int .i64 fa,.int .i64 fb] tF))):=ax bel;have hs0:((w.alloc (.cells #[.slice A1 a.facts.length c1,.slice A2 a.atoms.length c2] tAs)).alloc (.cells #[.bool fe,.int .i64 fa,.int .i64 fb] tF)).heap.size=w.heap.size+2:=by simp
 (go_wp2_with fail);generalize ((w.alloc (.cells #[.slice A1 a.facts.length c1,.slice A2 a.atoms.length c2] tAs)).alloc (.cells #[.bool fe,.int .i64 fa,.int .i64 fb] tF))=W at k0 k1 hB0 hs0 ⊢;refine (vz _ a _ (hV.o.bz hB0.o)).mono ?_;rintro e w1 ⟨rfl,hB1⟩;replace k0:=k0.nz hB1;replace k1:=k1.nz hB1;have hB:aJ (Below w.heap.size w w1):=ax (bgo hB0.o hB1);have hz1:=hB1.size;clear hB1 hB0;(replace qk0:=k0.z;replace qk1:=k1.z);cases hv:a.valid
 ·(go_wp2_with fail);go_ret;exact ⟨zjD (by rw[HE.o,hv];rfl),hB.o⟩
 have HV:=ax hv;clear hv;(go_wp2_with fail);refine (c_spec_FactValid ⟨fe,fa,fb⟩ _).mono ?_;rintro e w2 ⟨rfl,hB2⟩;replace k0:=k0.nz hB2;replace k1:=k1.nz hB2;replace hB:aJ (Below w.heap.size w w2):=ax (bgo hB.o hB2);have hz2:=hB2.size;clear hB2 qk0 qk1;(replace qk0:=k0.z;replace qk1:=k1.z);cases hf:Fct.valid ⟨fe,fa,fb⟩
 ·(go_wp2_with fail);go_ret;exact ⟨zjD (by rw[HE.o,hf];simp),hB.o⟩
 have HFO:=Fct.valid_ok hf;have HSEEK:=ax (imp_seek (f:=⟨fe,fa,fb⟩) HV.o hf);have HE2:aJ (impB a ⟨fe,fa,fb⟩=(seek ⟨a.facts++[Fct.mk (!fe) fa fb],a.atoms⟩ ((tset (mz a)|||1 <<< fa.toNat)|||1 <<< fb.toNat) 8 opened).isEmpty):=ax (by rw[HE.o,HV.o,hf,HSEEK.o];rfl)
 have HOK:aJ (FactsOk (a.facts++[Fct.mk (!fe) fa fb])∧AtomsOk a.atoms):=ax ⟨fun g hg=>by
  rw[List.mem_append,List.mem_singleton] at hg;rcases hg with hg|rfl
  ·exact (Asn.valid_ok HV.o).1 g hg
  ·exact HFO,(Asn.valid_ok HV.o).2⟩
 have hvl:=zjC HV.o;have HVL:aJ ((a.facts++[Fct.mk (!fe) fa fb]).length≤40∧a.atoms.length≤6):=ax ⟨by simp;omega,hvl.2⟩;have hfl:a.facts.length+1≤1049600:=by omega
 clear hf HSEEK HE hvl;simp only at HFO;obtain ⟨⟨ha0,ha8⟩,hb0,hb8⟩:=HFO;obtain ⟨na,rfl⟩:∃ n:Nat,fa=(n:Int):=⟨fa.toNat,by omega⟩;obtain ⟨nb,rfl⟩:∃ n:Nat,fb=(n:Int):=⟨fb.toNat,by omega⟩;have hna:na<9:=by omega
 have hnb:nb<9:=by omega
 have hnai:(na:Int)<9:=by omega
 have hnbi:(nb:Int)<9:=by omega
 have HT:=ax (termsL_ok HV.o);rw[show ((na:Int)).toNat=na from rfl,show ((nb:Int)).toNat=nb from rfl] at HE2;clear ha0 ha8 hb0 hb8;(go_wp2_with fail);refine (c_spec_l3Terms _ a _ (hV.o.bz hB.o) HT.o).mono ?_;rintro e w3 ⟨r3,rfl,o3,hB3⟩;obtain ⟨Tb,ct,rfl,-⟩:=o3.rj;rw[zjB] at o3 ⊢;obtain ⟨S0,hS0⟩:∃ S0,S0=tset (mz a):=⟨_,rfl⟩;rw[←hS0] at o3 HE2;replace k0:=k0.nz hB3;replace k1:=k1.nz hB3;replace hB:aJ (Below w.heap.size w w3):=ax (bgo hB.o hB3);have hz3:=hB3.size;clear hB3 hS0 qk0 qk1 HT;obtain ⟨g,cur,-,rfl,hg,kg,hc,hset⟩:=o3.openI (k:=na) (by rw[zjB];exact hna);have qg:=kg.cell na;rw[hc] at qg;have fg:=kg.frozen na;have lg:=kg.lt;have hg0:=k0.ne_ kg (by decide);have hg1:=k1.ne_ kg (by decide);have O4:=ax (hset true);have hlg:w2.heap.size≤g:=hg;clear hset hc;(replace qk0:=k0.z;replace qk1:=k1.z);(go_upto_region 5 with fail);rw[flagsOf_set] at O4;replace k0:=k0.far (p:=⟨g,na,none⟩) hg0 (.bool true);replace k1:=k1.far (p:=⟨g,na,none⟩) hg1 (.bool true);replace hB:aJ (Below w.heap.size w (w3.setCell ⟨g,na,none⟩ (.bool true))):=ax (hB.o.setCell (p:=⟨g,na,none⟩) (by simp only;omega) _);have hz4:(w3.setCell ⟨g,na,none⟩ (.bool true)).heap.size=w3.heap.size:=by simp
 clear qg fg kg qk0 qk1 o3;generalize (w3.setCell ⟨g,na,none⟩ (.bool true))=W4 at k0 k1 hB hz4 O4 ⊢;obtain ⟨g',cur',-,eg,-,kg,hc,hset⟩:=O4.o.openI (k:=nb) (by rw[zjB];exact hnb);injection eg with eg;injection eg with eg;subst eg;have qg:=kg.cell nb;rw[hc] at qg;have fg:=kg.frozen nb;have O5:=ax (hset true);clear hset hc;(replace qk0:=k0.z;replace qk1:=k1.z);(go_upto_region 6 with fail);rw[flagsOf_set] at O5;obtain ⟨S1,hS1⟩:∃ S1,S1=(S0|||1 <<< na)|||1 <<< nb:=⟨_,rfl⟩;rw[←hS1] at O5 HE2;replace k0:=k0.far (p:=⟨g,nb,none⟩) hg0 (.bool true);replace k1:=k1.far (p:=⟨g,nb,none⟩) hg1 (.bool true);replace hB:aJ (Below w.heap.size w (W4.setCell ⟨g,nb,none⟩ (.bool true))):=ax (hB.o.setCell (p:=⟨g,nb,none⟩) (by simp only;omega) _);have hz5:(W4.setCell ⟨g,nb,none⟩ (.bool true)).heap.size=W4.heap.size:=by simp
 clear qg fg kg qk0 qk1 O4 hS1;generalize (W4.setCell ⟨g,nb,none⟩ (.bool true))=W5 at k0 k1 hB hz5 O5 ⊢;have T5:=ax (O5.o.rj);clear O5;(replace qk0:=k0.z;replace qk1:=k1.z);(go_upto_region 7 with fail);have hbx:Below W5.heap.size W5 (W5.alloc (.cells #[.bool !fe,.int .i64 na,.int .i64 nb] tF)):=bbox (Below.refl _ _) _;have kn:Blk (W5.alloc (.cells #[.bool !fe,.int .i64 na,.int .i64 nb] tF)) W5.heap.size tF #[.bool !fe,.int .i64 na,.int .i64 nb]:=Blk.new _ _ _;replace k0:=k0.nz hbx;have HB6:=ax (bgo hB.o hbx);have hz6:(W5.alloc (.cells #[.bool !fe,.int .i64 na,.int .i64 nb] tF)).heap.size=W5.heap.size+1:=by simp
 have T6:aJ (BoolsV (W5.alloc (.cells #[.bool !fe,.int .i64 na,.int .i64 nb] tF)) w2.heap.size W5.heap.size (some ⟨g,0,none⟩) (zj S1)):=ax (by
  obtain ⟨A,c,e,h⟩:=T5.o;injection e with e;subst e
  exact h.bz hbx)
 clear T5 hB hbx k1 qk0 qk1;have h53:W5.heap.size=w3.heap.size:=by omega
 obtain ⟨xn,hxn⟩:∃ x,x=w3.heap.size:=⟨_,rfl⟩;rw[h53,←hxn] at kn hz6;rw[←hxn];generalize (W5.alloc (.cells #[.bool !fe,.int .i64 na,.int .i64 nb] tF))=W6 at k0 kn HB6 hz6 T6 ⊢;have hln:xn<W6.heap.size:=by omega
 have hz56:W5.heap.size≤W6.heap.size:=by omega
 clear hxn h53 hz6;have hl0:=k0.lt;have hwW:w.heap.size≤W6.heap.size:=HB6.o.size;have HATM:=ax (fun (W:World) (hb:Below w.heap.size w W)=>(show AtomsV W 0 (hi+W.heap.size) A2 a.atoms from (H2.o.bz hb).mono (Nat.zero_le _) (by omega)))
 go_cut [7,8] (fun s7 s8 wc=>s8=.bool (!(seek ⟨a.facts++[Fct.mk (!fe) na nb],a.atoms⟩ S1 8 opened).isEmpty)∧aJ (Below w.heap.size w wc))
 case first=>
  (go_wp2_with fail);refine wp_region_noPanic ?_;refine wp_region_held_drew (S:=(fun w'=>(∀ i,w'.cell? ⟨w.heap.size,i,none⟩=#[.slice A1 a.facts.length c1,.slice A2 a.atoms.length c2][i]?)∧(∀ i,w'.cell? ⟨xn,i,none⟩=#[.bool !fe,.int .i64 na,.int .i64 nb][i]?))) (by kernel_rfl) (⟨k0.cell,kn.cell⟩) (fun aH=>?_);refine tk2 1 rfl aH (h:=tk2 2 rfl aH (h:=tk2 4 rfl aH (h:=?_)));(try simp only[zz]);refine tk2 7 rfl aH (h:=tk2 8 rfl aH (h:=tk2 10 rfl aH (h:=?_)));(try simp only[zz]);refine rdd 0 5 rfl rfl (fun K hK=>?_) fun K hK=>?_
  ·skip;(try simp only[zz]);go_simp;refine hK.out _ _ ⟨(rowB_ (show Below W6.heap.size W6 _ from bel) (by omega) k0.cell),(rowB_ (show Below W6.heap.size W6 _ from bel) (by omega) kn.cell)⟩ ?_;clear aH hK K;intro aH;have hE:aJ (FactsO (W6.drew.alloc (.cells #[] tF)) W6.heap.size (.slice (some ⟨W6.heap.size,0,none⟩) 0 0) []):=ax (FactsO.empty W6.drew);have hbE:Below W6.heap.size W6 (W6.drew.alloc (.cells #[] tF)):=bel;have HBE:=ax (HB6.o.trans (hbE.mono hwW));have TE:=ax (T6.o.bz hbE);have kE0:=k0.nz hbE;have kEn:=kn.nz hbE;have zE:(W6.drew.alloc (.cells #[] tF)).heap.size=W6.heap.size+1:=by simp
   refine rdd 3 5 rfl rfl (fun K hK=>?_) fun K hK=>?_
   ·skip;refine stepFL (ys:=a.facts) (base:=W6.heap.size) rfl _ _ rfl rfl hE.o rfl (H1.o.bz (HBE.o)) (by simpa using Nat.le_of_succ_le hfl) (by first|omega|(simp;done)|(simp;omega)) ?_;intro A3 c3 w3x o3 hg3 hB3;have kc0:=kE0.bz hB3 (by omega);have kcn:=kEn.bz hB3 (by omega);have HBc0:=ax (HBE.o.trans (hB3.mono hwW));have Tc0:=ax (show BoolsV w3x w2.heap.size W5.heap.size (some ⟨g,0,none⟩) (zj S1) from Rd.keep TE.o fun b h1 h2=>hB3.block b (by omega));have z3x:=hg3.size;simp only[World.size_alloc,World.size_drew] at z3x;have O3:=ax o3;clear hg3 hB3 o3;refine hK.out _ _ ⟨kc0.cell,kcn.cell⟩ ?_;clear aH hK K;intro aH;refine rdc 5 rfl fun K hK=>?_;(try simp only[zz]);go_simp;refine hK.out _ _ (⟨(rowB_ (show Below w3x.heap.size w3x _ from bel) (by omega) kc0.cell),(rowB_ (show Below w3x.heap.size w3x _ from bel) (by omega) kcn.cell)⟩) ?_;clear aH hK K;intro aH;(try simp only[zz]);have hbL:Below w3x.heap.size w3x (w3x.alloc (.cells #[.bool !fe,.int .i64 na,.int .i64 nb] tF)):=bbox (Below.refl _ _) _;have k0c:=kc0.nz hbL;have knc:=kcn.nz hbL;have HBc:=ax (bgo HBc0.o hbL);have Tc:=ax (Tc0.o.bz hbL);have OF:=ax (O3.o.bz hbL);have KL:Blk (w3x.alloc (.cells #[.bool !fe,.int .i64 na,.int .i64 nb] tF)) w3x.heap.size tF #[.bool !fe,.int .i64 na,.int .i64 nb]:=Blk.new _ _ _;clear hbL;refine rdc 6 rfl fun K hK=>?_;skip;(refine stepFL (ys:=[Fct.mk (!fe) na nb]) (base:=W6.heap.size) rfl _ _ rfl rfl OF.o rfl (FactsV.one (f:=Fct.mk (!fe) na nb) KL) (by simpa using hfl) (by first|omega|(simp;done)|(simp;omega)) ?_;intro A6 c6 w6 o6 hg6 hB6;have ka:=k0c.bz hB6 hl0;have kb:=knc.bz hB6 hln;have HB7:=ax (HBc.o.trans (hB6.mono hwW));have T7:=ax (show BoolsV w6 w2.heap.size W5.heap.size (some ⟨g,0,none⟩) (zj S1) from Rd.keep Tc.o fun b h1 h2=>hB6.block b (by omega));have O6:=ax o6;have z6:=hg6.size;clear o6 hg6 hB6);refine hK.out _ _ (⟨ka.cell,kb.cell⟩) ?_;clear aH hK K;intro aH;(try simp only[zz]);refine tk2 9 rfl aH (h:=?_);refine rdc 11 rfl fun K hK=>?_;(try simp only[zz]);(go_simp;refine (c_spec_l5Open _).mono ?_;rintro e w7 ⟨r7,rfl,o7,hB7⟩;obtain ⟨C7,d7,rfl,f7⟩:=o7.rj;have kc:=ka.nz hB7;have kd:=kb.nz hB7;have HB8:=ax (bgo HB7.o hB7);have T8:=ax (T7.o.bz hB7);have O8:=ax (O6.o.bz hB7);have F8:=ax f7;have z7:=hB7.size;clear hB7 o7 f7);refine hK.out _ _ (⟨kc.cell,kd.cell⟩) ?_;clear aH hK K;intro aH;refine rdc 12 rfl fun K hK=>?_;(try simp only[zz]);(go_simp;have hA8:AsnV w7 0 (hi+w7.heap.size) (.agg #[.slice A6 (a.facts++[Fct.mk (!fe) na nb]).length c6,.slice A2 a.atoms.length c2]) ⟨a.facts++[Fct.mk (!fe) na nb],a.atoms⟩:=⟨_,_,_,_,rfl,O8.o.readsI.2.mono (Nat.zero_le _) (by omega),(HATM.o _ HB8.o)⟩;have hcall:=c_spec_l5FirstG (a:=⟨a.facts++[Fct.mk (!fe) na nb],a.atoms⟩) (S:=S1) (some ⟨g,0,none⟩) ct HOK HVL 8 opened C7 d7 _ _ w7 (by omega) rfl (openedB.2 _) openedB.1 hA8 T8.o F8.o;simp only[List.length_append,List.length_cons,List.length_nil,Nat.zero_add] at hcall;refine hcall.mono ?_;rintro e w8 ⟨r8,rfl,o8,hB8⟩;have ke:=kc.nz hB8;have kf:=kd.nz hB8;have HB9:=ax (bgo HB8.o hB8);clear hB8 o8 hcall hA8);refine hK.out _ _ (⟨ke.cell,kf.cell⟩) ?_;clear aH hK K;intro aH;(try simp only[zz]);refine tk2 13 rfl aH (h:=tk2 14 rfl aH (h:=tk2 15 rfl aH (h:=?_)));refine rdc 16 rfl fun K hK=>?_;(try simp only[zz]);go_simp;refine hK.out _ _ (⟨ke.cell,kf.cell⟩) ?_;clear aH hK K;intro aH;refine rdc 17 rfl fun K hK=>?_;(try simp only[zz]);go_simp;refine hK.out _ _ (⟨ke.cell,kf.cell⟩) ?_;clear aH hK K;intro aH;(try simp only[zz]);refine dn1 ?_;(go_wp2_with fail);go_meet
    case rel=>exact ⟨rfl,HB9⟩
   ·skip;(try simp only[zz]);go_simp;refine hK.out _ _ ⟨(rowB_ (show Below W6.heap.size W6 _ from bel) (by omega) k0.cell),(rowB_ (show Below W6.heap.size W6 _ from bel) (by omega) kn.cell)⟩ ?_;clear aH hK K;intro aH;have hbL:Below (W6.drew.alloc (.cells #[] tF)).heap.size (W6.drew.alloc (.cells #[] tF)) ((W6.drew.alloc (.cells #[] tF)).alloc (.cells #[.bool !fe,.int .i64 na,.int .i64 nb] tF)):=bbox (Below.refl _ _) _;have kL:=Blk.new (W6.drew.alloc (.cells #[] tF)) tF #[.bool !fe,.int .i64 na,.int .i64 nb];have kL0:=kE0.nz hbL;have kLn:=kEn.nz hbL;have HBL:=ax (bgo HBE.o hbL);have TL:=ax (TE.o.bz hbL);have hL:=ax (hE.o.bz hbL);refine rdc 3 rfl fun K hK=>?_;skip;(refine stepFL (ys:=a.facts) (base:=W6.heap.size) rfl _ _ rfl rfl hL.o rfl (H1.o.bz (HBL.o)) (by simpa using Nat.le_of_succ_le hfl) (by first|omega|(simp;done)|(simp;omega)) ?_;intro A3 c3 w3x o3 hg3 hB3;have k0c:=kL0.bz hB3 (by omega);have knc:=kLn.bz hB3 (by omega);have HBc:=ax (HBL.o.trans (hB3.mono hwW));have Tc:=ax (show BoolsV w3x w2.heap.size W5.heap.size (some ⟨g,0,none⟩) (zj S1) from Rd.keep TL.o fun b h1 h2=>hB3.block b (by omega));have KL:=kL.grown hg3 (fun e=>by have e2:(W6.drew.alloc (.cells #[] tF)).heap.size=W6.heap.size:=Option.some.inj e;simp only[World.size_alloc,World.size_drew] at e2;omega);have z3x:=hg3.size;have OF:=ax o3;clear hg3 hB3 o3);refine hK.out _ _ (⟨k0c.cell,knc.cell⟩) ?_;clear aH hK K;intro aH;(try simp only[zz]);simp only[World.size_alloc,World.size_drew] at KL z3x;refine rdc 6 rfl fun K hK=>?_;skip;(refine stepFL (ys:=[Fct.mk (!fe) na nb]) (base:=W6.heap.size) rfl _ _ rfl rfl OF.o rfl (FactsV.one (f:=Fct.mk (!fe) na nb) KL) (by simpa using hfl) (by first|omega|(simp;done)|(simp;omega)) ?_;intro A6 c6 w6 o6 hg6 hB6;have ka:=k0c.bz hB6 hl0;have kb:=knc.bz hB6 hln;have HB7:=ax (HBc.o.trans (hB6.mono hwW));have T7:=ax (show BoolsV w6 w2.heap.size W5.heap.size (some ⟨g,0,none⟩) (zj S1) from Rd.keep Tc.o fun b h1 h2=>hB6.block b (by omega));have O6:=ax o6;have z6:=hg6.size;clear o6 hg6 hB6);refine hK.out _ _ (⟨ka.cell,kb.cell⟩) ?_;clear aH hK K;intro aH;(try simp only[zz]);refine tk2 9 rfl aH (h:=?_);refine rdc 11 rfl fun K hK=>?_;(try simp only[zz]);(go_simp;refine (c_spec_l5Open _).mono ?_;rintro e w7 ⟨r7,rfl,o7,hB7⟩;obtain ⟨C7,d7,rfl,f7⟩:=o7.rj;have kc:=ka.nz hB7;have kd:=kb.nz hB7;have HB8:=ax (bgo HB7.o hB7);have T8:=ax (T7.o.bz hB7);have O8:=ax (O6.o.bz hB7);have F8:=ax f7;have z7:=hB7.size;clear hB7 o7 f7);refine hK.out _ _ (⟨kc.cell,kd.cell⟩) ?_;clear aH hK K;intro aH;refine rdc 12 rfl fun K hK=>?_;(try simp only[zz]);(go_simp;have hA8:AsnV w7 0 (hi+w7.heap.size) (.agg #[.slice A6 (a.facts++[Fct.mk (!fe) na nb]).length c6,.slice A2 a.atoms.length c2]) ⟨a.facts++[Fct.mk (!fe) na nb],a.atoms⟩:=⟨_,_,_,_,rfl,O8.o.readsI.2.mono (Nat.zero_le _) (by omega),(HATM.o _ HB8.o)⟩;have hcall:=c_spec_l5FirstG (a:=⟨a.facts++[Fct.mk (!fe) na nb],a.atoms⟩) (S:=S1) (some ⟨g,0,none⟩) ct HOK HVL 8 opened C7 d7 _ _ w7 (by omega) rfl (openedB.2 _) openedB.1 hA8 T8.o F8.o;simp only[List.length_append,List.length_cons,List.length_nil,Nat.zero_add] at hcall;refine hcall.mono ?_;rintro e w8 ⟨r8,rfl,o8,hB8⟩;have ke:=kc.nz hB8;have kf:=kd.nz hB8;have HB9:=ax (bgo HB8.o hB8);clear hB8 o8 hcall hA8);refine hK.out _ _ (⟨ke.cell,kf.cell⟩) ?_;clear aH hK K;intro aH;(try simp only[zz]);refine tk2 13 rfl aH (h:=tk2 14 rfl aH (h:=tk2 15 rfl aH (h:=?_)));refine rdc 16 rfl fun K hK=>?_;(try simp only[zz]);go_simp;refine hK.out _ _ (⟨ke.cell,kf.cell⟩) ?_;clear aH hK K;intro aH;refine rdc 17 rfl fun K hK=>?_;(try simp only[zz]);go_simp;refine hK.out _ _ (⟨ke.cell,kf.cell⟩) ?_;clear aH hK K;intro aH;(try simp only[zz]);refine dn1 ?_;(go_wp2_with fail);go_meet
    case rel=>exact ⟨rfl,HB9⟩
  ·skip;(try simp only[zz]);go_simp;refine hK.out _ _ ⟨(rowB_ (show Below W6.heap.size W6 _ from bel) (by omega) k0.cell),(rowB_ (show Below W6.heap.size W6 _ from bel) (by omega) kn.cell)⟩ ?_;clear aH hK K;intro aH;have kL:=Blk.new W6.drew tF #[.bool !fe,.int .i64 na,.int .i64 nb];refine rdc 0 rfl fun K hK=>?_;(try simp only[zz]);go_simp;refine hK.out _ _ (⟨(rowB_ (show Below W6.heap.size W6 _ from bel) (by omega) k0.cell),(rowB_ (show Below W6.heap.size W6 _ from bel) (by omega) kn.cell)⟩) ?_;clear aH hK K;intro aH;(try simp only[zz]);have hbE:Below W6.heap.size W6 ((W6.drew.alloc (.cells #[.bool !fe,.int .i64 na,.int .i64 nb] tF)).alloc (.cells #[] tF)):=bel;have kE0:=k0.nz hbE;have kEn:=kn.nz hbE;have kL2:=kL.alloc (.cells #[] tF);have HBE:=ax (HB6.o.trans (hbE.mono hwW));have TE:=ax (T6.o.bz hbE)
   have hE:aJ (FactsO ((W6.drew.alloc (.cells #[.bool !fe,.int .i64 na,.int .i64 nb] tF)).alloc (.cells #[] tF)) W6.heap.size (.slice (some ⟨W6.heap.size+1,0,none⟩) 0 0) []):=ax (by
    have:=(FactsO.empty (W6.drew.alloc (.cells #[.bool !fe,.int .i64 na,.int .i64 nb] tF))).bq (base':=W6.heap.size) (by simp)
    simpa using this)
   have zE:((W6.drew.alloc (.cells #[.bool !fe,.int .i64 na,.int .i64 nb] tF)).alloc (.cells #[] tF)).heap.size=W6.heap.size+2:=by simp
   refine rdc 3 rfl fun K hK=>?_;skip;(refine stepFL (ys:=a.facts) (base:=W6.heap.size) rfl _ _ rfl rfl hE.o rfl (H1.o.bz (HBE.o)) (by simpa using Nat.le_of_succ_le hfl) (by first|omega|(simp;done)|(simp;omega)) ?_;intro A3 c3 w3x o3 hg3 hB3;have k0c:=kE0.bz hB3 (by omega);have knc:=kEn.bz hB3 (by omega);have HBc:=ax (HBE.o.trans (hB3.mono hwW));have Tc:=ax (show BoolsV w3x w2.heap.size W5.heap.size (some ⟨g,0,none⟩) (zj S1) from Rd.keep TE.o fun b h1 h2=>hB3.block b (by omega));have KL:=kL2.grown hg3 (fun e=>by have e2:W6.heap.size=W6.heap.size+1:=Option.some.inj e;omega);have z3x:=hg3.size;have OF:=ax o3;clear hg3 hB3 o3);refine hK.out _ _ (⟨k0c.cell,knc.cell⟩) ?_;clear aH hK K;intro aH;(try simp only[zz]);simp only[World.size_alloc,World.size_drew] at z3x;simp only[World.size_drew] at KL;refine rdc 6 rfl fun K hK=>?_;skip;(refine stepFL (ys:=[Fct.mk (!fe) na nb]) (base:=W6.heap.size) rfl _ _ rfl rfl OF.o rfl (FactsV.one (f:=Fct.mk (!fe) na nb) KL) (by simpa using hfl) (by first|omega|(simp;done)|(simp;omega)) ?_;intro A6 c6 w6 o6 hg6 hB6;have ka:=k0c.bz hB6 hl0;have kb:=knc.bz hB6 hln;have HB7:=ax (HBc.o.trans (hB6.mono hwW));have T7:=ax (show BoolsV w6 w2.heap.size W5.heap.size (some ⟨g,0,none⟩) (zj S1) from Rd.keep Tc.o fun b h1 h2=>hB6.block b (by omega));have O6:=ax o6;have z6:=hg6.size;clear o6 hg6 hB6);refine hK.out _ _ (⟨ka.cell,kb.cell⟩) ?_;clear aH hK K;intro aH;(try simp only[zz]);refine tk2 9 rfl aH (h:=?_);refine rdc 11 rfl fun K hK=>?_;(try simp only[zz]);(go_simp;refine (c_spec_l5Open _).mono ?_;rintro e w7 ⟨r7,rfl,o7,hB7⟩;obtain ⟨C7,d7,rfl,f7⟩:=o7.rj;have kc:=ka.nz hB7;have kd:=kb.nz hB7;have HB8:=ax (bgo HB7.o hB7);have T8:=ax (T7.o.bz hB7);have O8:=ax (O6.o.bz hB7);have F8:=ax f7;have z7:=hB7.size;clear hB7 o7 f7);refine hK.out _ _ (⟨kc.cell,kd.cell⟩) ?_;clear aH hK K;intro aH;refine rdc 12 rfl fun K hK=>?_;(try simp only[zz]);(go_simp;have hA8:AsnV w7 0 (hi+w7.heap.size) (.agg #[.slice A6 (a.facts++[Fct.mk (!fe) na nb]).length c6,.slice A2 a.atoms.length c2]) ⟨a.facts++[Fct.mk (!fe) na nb],a.atoms⟩:=⟨_,_,_,_,rfl,O8.o.readsI.2.mono (Nat.zero_le _) (by omega),(HATM.o _ HB8.o)⟩;have hcall:=c_spec_l5FirstG (a:=⟨a.facts++[Fct.mk (!fe) na nb],a.atoms⟩) (S:=S1) (some ⟨g,0,none⟩) ct HOK HVL 8 opened C7 d7 _ _ w7 (by omega) rfl (openedB.2 _) openedB.1 hA8 T8.o F8.o;simp only[List.length_append,List.length_cons,List.length_nil,Nat.zero_add] at hcall;refine hcall.mono ?_;rintro e w8 ⟨r8,rfl,o8,hB8⟩;have ke:=kc.nz hB8;have kf:=kd.nz hB8;have HB9:=ax (bgo HB8.o hB8);clear hB8 o8 hcall hA8);refine hK.out _ _ (⟨ke.cell,kf.cell⟩) ?_;clear aH hK K;intro aH;(try simp only[zz]);refine tk2 13 rfl aH (h:=tk2 14 rfl aH (h:=tk2 15 rfl aH (h:=?_)));refine rdc 16 rfl fun K hK=>?_;(try simp only[zz]);go_simp;refine hK.out _ _ (⟨ke.cell,kf.cell⟩) ?_;clear aH hK K;intro aH;refine rdc 17 rfl fun K hK=>?_;(try simp only[zz]);go_simp;refine hK.out _ _ (⟨ke.cell,kf.cell⟩) ?_;clear aH hK K;intro aH;(try simp only[zz]);refine dn1 ?_;(go_wp2_with fail);go_meet
   case rel=>exact ⟨rfl,HB9⟩
 case rest=>
  obtain ⟨rfl,HB9⟩:=hcut;rw[←HE2.o];(go_wp2_with fail);go_ret;exact ⟨zjD (by simp),HB9.o⟩
theorem c_l10Equal {lo hi:Nat} (v:Value) (a:Asn) (x y:Int) (w:World) (h:AsnV w lo hi v a):Calls Tryz.prog 167 #[v,.int .i64 x,.int .i64 y] w fun e w'=>e=.returned (.bool (impB a ⟨true,x,y⟩))∧Below w.heap.size w w':=by
 have hV:=ax h;obtain ⟨A1,c1,A2,c2,rfl,-⟩:=h;(go_enter Tryz.func167,Tryz.ntmps167);(go_wp2_with fail);refine (c_spec_Implies _ a ⟨true,x,y⟩ _ (hV.o.bz bel)).mono ?_;rintro e w1 ⟨rfl,hB1⟩;have hB:=bgo (w:=w) bel hB1;(go_wp2_with fail);go_ret;exact ⟨rfl,hB⟩
theorem c_l10Front {lo hi:Nat} (v:Value) (a:Asn) (x:Atm) (i:Nat) (w:World) (h:AsnV w lo hi v a) (hv:a.valid=true) (hi':i<a.atoms.length) :
  Calls Tryz.prog 168 #[v,.agg #[.int .i64 x.kind,.int .i64 x.a,.int .i64 x.b],.int .i64 i] w fun e w'=>∃ F d G g,e=.returned (.agg #[.slice F a.facts.length d,.slice G a.atoms.length g])∧AsnO w' w.heap.size (.agg #[.slice F a.facts.length d,.slice G a.atoms.length g]) ⟨a.facts,[x]++zv a.atoms i⟩∧Below w.heap.size w w':=by
 have hV:=ax h;obtain ⟨A1,c1,A2,c2,rfl,-⟩:=h;have hvl:=zjC hv;have hwl:([x]++zv a.atoms i).length=a.atoms.length:=by have:=withoutL_len hi';simp;omega
 have HW:=ax hwl;have HE:=ax (wo_one hi');clear hv hwl;(go_enter Tryz.func168,Tryz.ntmps168);have kr:Blk (((w.alloc (.cells #[.slice A1 a.facts.length c1,.slice A2 a.atoms.length c2] tAs)).alloc (.cells #[.int .i64 x.kind,.int .i64 x.a,.int .i64 x.b] tA)).alloc (.cells #[.slice none 0 0,.slice none 0 0] tAs)) (w.heap.size+2) tAs #[.slice none 0 0,.slice none 0 0]:=blks;(go_wp2_with fail);refine (c_l6WithoutF _ a i i x _ (hV.o.bz bel) (by omega) (by omega)).mono ?_;rw[HE.o];rintro e w1 ⟨r,rfl,o,hB1⟩;have hB:=bgo (w:=w) bel hB1;replace kr:=kr.nz hB1;clear hB1;obtain ⟨fv,av,rfl,o1,o2⟩:=o;obtain ⟨F,d,rfl,-⟩:=o1.rj;obtain ⟨G,g,rfl,-⟩:=o2.rj;simp only[HW.o] at o2 ⊢;have O1:=ax (o1.bq (base':=w.heap.size) (by simp;omega));have O2:=ax (o2.bq (base':=w.heap.size) (by simp;omega));clear o1 o2;(replace qkr:=kr.cell;replace rkr:=kr.frozen;replace lkr:=kr.lt);(go_wp2_with fail);refine bodyPost_ret (v:=.agg #[.slice F a.facts.length d,.slice G a.atoms.length g]) (by simp[results,Tryz.results168,go_sem,qkr]) rfl ⟨F,d,G,g,rfl,⟨_,_,rfl,?_,?_⟩,bel⟩
 ·exact (O1.o.setT kr (by decide) 0 _).setT (kr.set_ 0 _) (by decide) 1 _
 ·exact (O2.o.setT kr (by decide) 0 _).setT (kr.set_ 0 _) (by decide) 1 _
theorem c_l10Know {lo hi:Nat} (v:Value) (a:Asn) (x t:Int) (w:World) (h:AsnV w lo hi v a) (hl:a.facts.length≤1000) :
  Calls Tryz.prog 164 #[v,.int .i64 x,.int .i64 t] w fun e w'=>∃ F d G g,e=.returned (.agg #[.slice F (a.facts.length+1) d,.slice G a.atoms.length g])∧AsnO w' w.heap.size (.agg #[.slice F (a.facts.length+1) d,.slice G a.atoms.length g]) ⟨a.facts++[⟨true,x,t⟩],a.atoms⟩∧Below w.heap.size w w':=by
 have hV:=ax h;obtain ⟨A1,c1,A2,c2,rfl,-⟩:=h;(go_enter Tryz.func164,Tryz.ntmps164);have kr:Blk ((w.alloc (.cells #[.slice A1 a.facts.length c1,.slice A2 a.atoms.length c2] tAs)).alloc (.cells #[.slice none 0 0,.slice none 0 0] tAs)) (w.heap.size+1) tAs #[.slice none 0 0,.slice none 0 0]:=blks;(go_wp2_with fail);refine (c_l3Copy _ a _ (hV.o.bz bel)).mono ?_;rintro e w1 ⟨r,rfl,o,hB1⟩;have hB:=bgo (w:=w) bel hB1;replace kr:=kr.nz hB1;have hs1:w.heap.size+2≤w1.heap.size:=by have:=hB1.size;simp at this;omega
 clear hB1;obtain ⟨fv,av,rfl,o1,o2⟩:=o;obtain ⟨F,d,rfl,-⟩:=o1.rj;obtain ⟨G,g,rfl,-⟩:=o2.rj;have O1:=ax (o1.bq (base':=w.heap.size) (by simp;omega));have O2:=ax (o2.bq (base':=w.heap.size) (by simp;omega));have HB:=ax hB;clear o1 o2 hB;(go_upto_region 2 with fail);have ko:Blk (w1.alloc (.cells #[.slice F a.facts.length d,.slice G a.atoms.length g] tAs)) w1.heap.size tAs #[.slice F a.facts.length d,.slice G a.atoms.length g]:=Blk.new _ _ _;replace kr:=kr.alloc (.cells #[.slice F a.facts.length d,.slice G a.atoms.length g] tAs);replace O1:=ax (O1.o.bz (bbox (Below.refl _ _) (.cells #[.slice F a.facts.length d,.slice G a.atoms.length g] tAs)));replace O2:=ax (O2.o.bz (bbox (Below.refl _ _) (.cells #[.slice F a.facts.length d,.slice G a.atoms.length g] tAs)));replace HB:=ax (bbox HB.o (.cells #[.slice F a.facts.length d,.slice G a.atoms.length g] tAs));have hsw:w1.heap.size<(w1.alloc (.cells #[.slice F a.facts.length d,.slice G a.atoms.length g] tAs)).heap.size:=by simp
 generalize (w1.alloc (.cells #[.slice F a.facts.length d,.slice G a.atoms.length g] tAs))=W at ko kr O1 O2 HB hsw ⊢;obtain ⟨y,hy⟩:∃ y,y=w1.heap.size:=⟨_,rfl⟩;rw[←hy] at ko hs1 hsw ⊢;clear hy;(replace qko:=ko.z;replace qkr:=kr.cell;replace rkr:=kr.frozen;replace lkr:=kr.lt);(go_wp2_with (at_builtin;refine appFL (ys:=[⟨true,x,t⟩]) (base:=w.heap.size) rfl _ _ rfl rfl (O1.o.bz bel) rfl (FactsV.one (f:=⟨true,x,t⟩) (Blk.new W tF _)) (by simp;omega) (by simp;omega) ?_;intro A6 c6 w6 o6 hg6 hB6;have kO:=O1.o.bz (w':=W.alloc (.cells #[.bool true,.int .i64 x,.int .i64 t] tF)) bel;have ko6:=Blk.zm (hg:=hg6) (ko.alloc _) kO.1 (by decide);have kr6:=Blk.zm (hg:=hg6) (kr.alloc _) kO.1 (by decide);have O26:aJ (AtomsO w6 w.heap.size (.slice G a.atoms.length g) a.atoms):=ax ⟨own_grownO (O2.o.bz (w':=W.alloc (.cells #[.bool true,.int .i64 x,.int .i64 t] tF)) bel).1 kO.1 hg6 (by decide),O2.o.2⟩;have HB6:aJ (Below w.heap.size w w6):=ax ((bbox HB.o _).trans hB6);have O16:=ax o6;clear hB6 hg6 o6 kO qko qkr rkr lkr;(replace qko6:=ko6.z;replace qkr6:=kr6.cell;replace rkr6:=kr6.frozen;replace lkr6:=kr6.lt)));simp only[List.length_append,List.length_cons,List.length_nil,Nat.zero_add] at O16 ⊢;refine bodyPost_ret (v:=.agg #[.slice A6 (a.facts.length+1) c6,.slice G a.atoms.length g]) (by simp[results,Tryz.results164,go_sem,qkr6]) rfl ⟨A6,c6,G,g,rfl,⟨_,_,rfl,?_,?_⟩,?_⟩
 ·have kr7:=kr6.far (p:=⟨y,0,none⟩) (by simp only;omega) (.slice A6 (a.facts.length+1) c6);exact ((O16.o.setT ko6 (by decide) 0 _).setT kr7 (by decide) 0 _).setT (kr7.set_ 0 _) (by decide) 1 _
 ·have kr7:=kr6.far (p:=⟨y,0,none⟩) (by simp only;omega) (.slice A6 (a.facts.length+1) c6);exact ((O26.o.setT ko6 (by decide) 0 _).setT kr7 (by decide) 0 _).setT (kr7.set_ 0 _) (by decide) 1 _
 ·exact ((HB6.o.setCell (p:=⟨y,0,none⟩) (by simp only;omega) _).setCell (p:=⟨w.heap.size+1,0,none⟩) (by simp only;omega) _).setCell (p:=⟨w.heap.size+1,1,none⟩) (by simp only;omega) _
theorem c_l10New {lo hi lo' hi':Nat} (v:Value) (a:Asn) (B:Option Addr) (c K:Nat) (w:World) (h:AsnV w lo hi v a) (h':BoolsV w lo' hi' B (zj K)) (hv:a.valid=true) :
  Calls Tryz.prog 214 #[v,.slice B 9 c] w fun e w'=>e=.returned (.tuple #[.int .i64 (unusedI (tset (mz a)|||K)),.bool (newT (tset (mz a)|||K)).isSome])∧Below w.heap.size w w':=by
 have hV:=ax h;have HT:=ax (termsL_ok hv);have h'':=ax h';obtain ⟨pb,ob,rfl,lpb⟩:=flags_addr h';obtain ⟨A1,c1,A2,c2,rfl,h1,h2⟩:=h;clear hv h1 h2;(go_enter Tryz.func214,Tryz.ntmps214);(go_wp2_with fail);refine (c_spec_l3Terms _ a _ (hV.o.bz bel) HT.o).mono ?_;rintro e w1 ⟨r,rfl,oT,hB1⟩;have hB:=bgo (w:=w) bel hB1;have fC:=h''.o.bz hB;generalize hTe:tset (mz a)=T at oT;have HTE:=ax hTe;clear hTe;obtain ⟨Tb,ct,rfl,fT⟩:=oT.rj;rw[zjB];obtain ⟨pt,ot,rfl,lpt⟩:=flags_addr fT;clear hB1 oT h' h'';(go_wp2_with fail)
 go_loop [7] (fun i=>∃ k:Nat,5≤k∧k≤9∧i=.int .i64 k∧aJ (∀ j,5≤j→j<k→(T|||K).testBit j=true)) (fun i=>10 - (intOf i).toNat)
 case atStart=>exact ⟨5,by omega,by omega,rfl,ax fun j h1 h2=>by omega⟩
 case round=>
  obtain ⟨k,h5,h9,rfl,HA⟩:=hrel;by_cases hlt:k<9
  ·have hki:(k:Int)≤8:=by omega
   have f1:=flags_at fT (m:=k) (by omega);have f2:=flags_at fC (m:=k) (by omega);have k9:(k:Int)<9:=by omega
   have HBit:aJ ((T|||K).testBit k=(T.testBit k || K.testBit k)):=ax (Nat.testBit_or ..)
   have HN:aJ ((T|||K).testBit k=true→∀ j,5≤j→j<k+1→(T|||K).testBit j=true):=ax fun hb j h1 h2=>by
    by_cases e:j=k
    ·rw[e];exact hb
    ·exact HA.o j h1 (by omega)
   cases ht:T.testBit k
   ·cases hc:K.testBit k
    ·have E:=ax (newT_yes h5 (by omega) HA.o (by rw[HBit.o,ht,hc];rfl));rw[ht] at f1;rw[hc] at f2;clear ht hc HA HN HBit;(go_wp2_with fail);go_ret2;exact ⟨by unfold unusedI;rw[HTE.o,E.o];rfl,hB⟩
    ·have HN2:=ax (HN.o (by rw[HBit.o,ht,hc];rfl));rw[ht] at f1;rw[hc] at f2;clear ht hc HA HN HBit;(go_wp2_with fail)
     go_round
     case rel=>exact ⟨k+1,by omega,by omega,by go_num,HN2⟩
     case measure=>simp[intOf];omega
   ·have HN2:=ax (HN.o (by rw[HBit.o,ht];rfl));rw[ht] at f1;clear ht HA HN HBit;(go_wp2_with fail)
    go_round
    case rel=>exact ⟨k+1,by omega,by omega,by go_num,HN2⟩
    case measure=>simp[intOf];omega
  ·obtain rfl:k=9:=by omega
   have E:=ax (newT_no (S:=T|||K) fun j h1 h2=>HA.o j h1 (by omega));(go_wp2_with fail);go_ret2;exact ⟨by unfold unusedI;rw[HTE.o,E.o];rfl,hB⟩
theorem AsnO.parts {w:World} {b:Nat} {f g:Value} {a:Asn} (h:AsnO w b (.agg #[f,g]) a):FactsO w b f a.facts∧AtomsO w b g a.atoms:=by
 obtain ⟨_,_,e,h1,h2⟩:=h;injection e with e;injection e with e;injection e with e1 e2;injection e2 with e2 e3;subst e1 e2;exact ⟨h1,h2⟩
section
variable {ops:Array Oper} {o:Oper} {a:Act} {K:Act→World→Prop} {Q:Exit→Act→World→Prop} {E:Prop} {w:World} {base lo hi c n m:Nat} {v:Value} {A:Option Addr}
theorem stepALm (hgd:o.guard=none) (s x:Operand) (ho:o.op=.call { callee:=.builtin .append,args:=#[s,x],argTypes:=#[34,34] })
  {xs ys zs:List Atm} (hs:a.eval s=v) (hown:AtomsO w base v xs) (hx:a.eval x=.slice A m c) (hm:m=ys.length) (hR:AtomsV w lo hi A ys) (hz:zs=xs++ys) (hn:n=zs.length) (hl:n≤1049600) (hb:base≤w.heap.size)
  (h:∀ A' c' w',AtomsO w' base (.slice A' n c') zs→w.grownBy w' v.ownBlock→Below base w w'→K (a.put o.dst (.slice A' n c')) w'):if Region.wanted o (yielded ops a.tmps)=true then Oper.wp Tryz.prog o a w K Q else E:=by
 subst hm hz hn;refine stepAL hgd s x ho hs hown hx hR (by rwa [List.length_append] at hl) hb h
end
def OpC (n:Nat) (a:Asn) (t:Int) (K:Nat):Prop:=∀ (lo hi lo' hi':Nat) (v:Value) (B:Option Addr) (c:Nat) (w:World),AsnC w lo hi v a→BoolsV w lo' hi' B (zj (tins K t))→a.facts.length≤1000→a.atoms.length≤1000→
 Calls Tryz.prog 99 #[v,.int .i64 t,.slice B 9 c,.int .i64 (n:Int)] w fun e w'=>∃ r vs l,e=.returned (.tuple #[r,.bool (exposeF n a t K).isSome])∧A2O w' w.heap.size r vs l∧l.length≤2 ^ n∧(exposeF n a t K=none∨exposeF n a t K=some l)∧Below w.heap.size w w'
def UnC (n:Nat) (a:Asn) (x:Atm) (i:Nat) (t:Int) (K:Nat):Prop:=∀ (lo hi lo' hi':Nat) (v:Value) (B:Option Addr) (c:Nat) (w:World),AsnC w lo hi v a→BoolsV w lo' hi' B (zj (tins K t))→
 Calls Tryz.prog 169 #[v,.int .i64 t,.slice B 9 c,.int .i64 ((n:Int)+1),.int .i64 i] w fun e w'=>∃ r vs l,e=.returned (.tuple #[r,.bool (listF n a x i t K).isSome])∧A2O w' w.heap.size r vs l∧l.length≤2 ^ (n+1)∧(listF n a x i t K=none∨listF n a x i t K=some l)∧Below w.heap.size w w'
theorem c_l10Unfold (n:Nat) (a:Asn) (x:Atm) (i:Nat) (t:Int) (Ks:Nat) (hv:a.valid=true) (hx:a.atoms[i]? = some x) (hn:n≤6)
  (HE:OpC n (emptyX a x i) t Ks) (HF:∀ m:Nat,OpC n (fullX a x i (m:Int)) t Ks):UnC n a x i t Ks:=by
 intro lo hi0 lo' hi' v B cB w h hB0;have hV:=ax h;have HFL:=ax hB0;obtain ⟨A1,c1,A2,c2,rfl,h1,h2,hcap⟩:=h;have hvl:=zjC hv;have HVa:=ax hv;obtain ⟨hi,hxe⟩:=List.getElem?_eq_some_iff.1 hx;have hwl:=withoutL_len hi;obtain ⟨b,o,rfl,-⟩:=h2.at hi;have HV2:=ax h2;have hii:(i:Int)<(a.atoms.length:Int):=by omega
 have hw:IntKind.i64.wrap ((i:Int)+1)=(i:Int)+1:=IntWalk.i64_in _ (by omega);have hs1:=sliceAh b o a.atoms.length c2 i (by omega);obtain ⟨A',hs2,hA'⟩:=sliceAl b o a.atoms.length c2 (i+1) (by omega) hcap
 push_cast at hs2
 have hT:=ax (h2.take_ (k:=i) (by omega))
 have hD:aJ (AtomsV w lo _ A' (a.atoms.drop (i+1))):=ax (by
  by_cases hlt:i+1<a.atoms.length
  ·rw[hA' (by omega)];exact h2.drop_ (by omega)
  ·rw[List.drop_eq_nil_of_le (by omega)]
   exact Rd.nil _ _ _ _ _)
 have HL1:aJ ((a.atoms.take i).length=i):=ax (by rw[List.length_take];omega);have HL2:aJ ((a.atoms.drop (i+1)).length=a.atoms.length - (i+1)):=ax List.length_drop;have HHi:=ax hi;have HEH:=ax HE;have HFH:=ax HF;have HN:=ax (Nat.pow_le_pow_right (show 0<2 from by decide) hn);have HX:=ax hxe;clear h1 h2 HE HF hx hv hB0 hA' hxe;(go_enter Tryz.func169,Tryz.ntmps169);have k0:Blk (w.alloc (.cells #[.slice A1 a.facts.length c1,.slice (some ⟨b,o,none⟩) a.atoms.length c2] tAs)) w.heap.size tAs #[.slice A1 a.facts.length c1,.slice (some ⟨b,o,none⟩) a.atoms.length c2]:=blks;have hs1':=ax hs1;have hs2':=ax hs2;have hw':=ax hw;clear hs1 hs2 hw;(go_wp2_with fail);refine (c_l10New _ a B cB (tins Ks t) _ (hV.o.V.bz bel) (HFL.o.bz bel) HVa.o).mono ?_;rintro e w1 ⟨rfl,hB1⟩;have HB:=ax (bgo (w:=w) bel hB1);replace k0:=k0.nz hB1;have hz1:w.heap.size+1≤w1.heap.size:=by have:=hB1.size;simp at this;omega
 clear hB1;cases hnt:newT (tset (mz a)|||tins Ks t)
 case none=>
  have E:=ax (list_none (n:=n) (x:=x) (i:=i) hnt);clear hnt;(go_wp2_with fail);go_ret2;exact ⟨_,[],[],by rw[E.o];rfl,(A2O.empty w1 rfl).bq (by omega),Nat.zero_le _,.inl E.o,bbox HB.o _⟩
 case some m=>
  have EI:unusedI (tset (mz a)|||tins Ks t)=(m:Int):=by unfold unusedI;rw[hnt]
  rw[EI];clear EI;have HNT:=ax hnt;clear hnt;(replace qk0:=k0.z);obtain ⟨b',o',hbo,g0,g1,g2⟩:=(HV2.o.bz HB.o).at HHi.o;injection hbo with hbo;injection hbo with hb1 hb2;subst hb1 hb2;rw[HX.o] at g0 g1 g2;(go_upto_region 5 with fail);clear qk0 g0 g1 g2;have hbq:=bbox (Below.refl w1.heap.size w1) (.cells #[.int .i64 x.kind,.int .i64 x.a,.int .i64 x.b] tA);have kx:Blk (w1.alloc (.cells #[.int .i64 x.kind,.int .i64 x.a,.int .i64 x.b] tA)) w1.heap.size tA #[.int .i64 x.kind,.int .i64 x.a,.int .i64 x.b]:=Blk.new _ _ _;replace k0:=k0.nz hbq;replace HB:=ax (bgo HB.o hbq);have hzw:(w1.alloc (.cells #[.int .i64 x.kind,.int .i64 x.a,.int .i64 x.b] tA)).heap.size=w1.heap.size+1:=by simp
  clear hbq;generalize w1.alloc (.cells #[.int .i64 x.kind,.int .i64 x.a,.int .i64 x.b] tA)=W1 at k0 kx HB hzw ⊢;obtain ⟨yx,hyx⟩:∃ y,y=w1.heap.size:=⟨_,rfl⟩;rw[←hyx] at kx hzw ⊢;have hyw:w.heap.size<yx:=by omega
  clear hyx hz1;(replace qk0:=k0.z);(go_wp2_with fail);refine (c_l3Copy _ a _ (hV.o.V.bz HB.o)).mono ?_;rintro e w2 ⟨r,rfl,oc,hB2⟩;obtain ⟨fv,av,rfl,o1,o2⟩:=oc;obtain ⟨F,d,rfl,-⟩:=o1.rj;obtain ⟨G,g,rfl,-⟩:=o2.rj;have O1:=ax (o1.bq (base':=w.heap.size) (by omega));clear o1 o2;replace k0:=k0.nz hB2;replace kx:=kx.nz hB2;replace HB:=ax (bgo HB.o hB2);have hz2:=hB2.size;clear hB2 qk0;(go_upto_region 6 with fail);have hbq:=bbox (Below.refl w2.heap.size w2) (.cells #[.slice F a.facts.length d,.slice G a.atoms.length g] tAs);have kE:Blk (w2.alloc (.cells #[.slice F a.facts.length d,.slice G a.atoms.length g] tAs)) w2.heap.size tAs #[.slice F a.facts.length d,.slice G a.atoms.length g]:=Blk.new _ _ _;replace k0:=k0.nz hbq;replace kx:=kx.nz hbq;replace O1:=ax (O1.o.bz hbq);replace HB:=ax (bgo HB.o hbq);have hz3:(w2.alloc (.cells #[.slice F a.facts.length d,.slice G a.atoms.length g] tAs)).heap.size=w2.heap.size+1:=by simp
  clear hbq;generalize (w2.alloc (.cells #[.slice F a.facts.length d,.slice G a.atoms.length g] tAs))=W2 at k0 kx kE O1 HB hz3 ⊢;obtain ⟨yE,hyE⟩:∃ y,y=w2.heap.size:=⟨_,rfl⟩;rw[←hyE] at kE hz3 ⊢;have hyE2:yx<yE:=by omega
  have hyE3:yE<W2.heap.size:=by omega
  clear hyE hz2 hzw hz3;(replace qkE:=kE.z;replace qkx:=kx.z);(go_upto_region 7 with (at_builtin;refine appFL (ys:=[⟨true,x.a,x.b⟩]) (base:=w.heap.size) rfl _ _ rfl rfl (O1.o.bz bel) rfl (FactsV.one (f:=⟨true,x.a,x.b⟩) (Blk.new W2 tF _)) (by simp<;>omega) (by simp<;>omega) ?_;intro A6 c6 w6 o6 hg6 hB6;have kO:=O1.o.bz (w':=W2.alloc (.cells #[.bool true,.int .i64 x.a,.int .i64 x.b] tF)) bel;have kE6:=Blk.zm (hg:=hg6) (kE.alloc _) kO.1 (by decide);have k06:=Blk.zm (hg:=hg6) (k0.alloc _) kO.1 (by decide);have kx6:=Blk.zm (hg:=hg6) (kx.alloc _) kO.1 (by decide);have HB6:aJ (Below w.heap.size w w6):=ax ((bbox HB.o _).trans hB6);have O16:=ax o6;have hz6:W2.heap.size+1≤w6.heap.size:=(by have:=hg6.size;simp at this;omega);clear hB6 hg6 o6 kO qkE qkx;(replace qkE6:=kE6.z)));simp only[List.length_append,List.length_cons,List.length_nil,Nat.zero_add] at O16 ⊢
  have kE7:Blk (w6.setCell ⟨yE,0,none⟩ (.slice A6 (a.facts.length+1) c6)) yE tAs #[.slice A6 (a.facts.length+1) c6,.slice G a.atoms.length g]:=by
   have:=kE6.set_ 0 (.slice A6 (a.facts.length+1) c6);simpa using this
  have k07:=k06.far (p:=⟨yE,0,none⟩) (by simp only;omega) (.slice A6 (a.facts.length+1) c6);have kx7:=kx6.far (p:=⟨yE,0,none⟩) (by simp only;omega) (.slice A6 (a.facts.length+1) c6);have O17:=ax (O16.o.setT kE6 (by decide) 0 (.slice A6 (a.facts.length+1) c6));have HB7:=ax (HB6.o.setCell (p:=⟨yE,0,none⟩) (by simp only;omega) (.slice A6 (a.facts.length+1) c6));have hz7:W2.heap.size+1≤(w6.setCell ⟨yE,0,none⟩ (.slice A6 (a.facts.length+1) c6)).heap.size:=by simpa using hz6
  clear k0 kx kE O1 HB kE6 k06 kx6 O16 HB6 hz6 qkE6;generalize (w6.setCell ⟨yE,0,none⟩ (.slice A6 (a.facts.length+1) c6))=W7 at kE7 k07 kx7 O17 HB7 hz7 ⊢;clear w6;have hs1:=hs1'.o;have hs2:=hs2'.o;have hw:=hw'.o;(replace qk07:=k07.z;replace qkE7:=kE7.z);(go_wp2_with fail);clear qk07;refine wp_region_noPanic ?_;refine wp_region_held_drew (S:=(fun w'=>∀ i,w'.cell? ⟨w.heap.size,i,none⟩=#[.slice A1 a.facts.length c1,.slice (some ⟨b,o,none⟩) a.atoms.length c2][i]?)) (by kernel_rfl) (k07.drew.cell) (fun aH=>?_);have HBQ:aJ (Below W7.heap.size W7 W7.drew):=ax (Below.refl _ _).drew;have hzq:W7.heap.size≤W7.drew.heap.size:=Nat.le_refl _;clear qkE7;generalize W7.drew=wq at HBQ hzq aH ⊢;refine tk2 1 rfl aH (h:=tk2 2 rfl aH (h:=tk2 3 rfl aH (h:=?_)));(try simp only[zz]);refine tk2 4 rfl aH (h:=tk2 6 rfl aH (h:=tk2 7 rfl aH (h:=?_)));(try simp only[zz]);refine tk2 8 rfl aH (h:=tk2 9 rfl aH (h:=tk2 10 rfl aH (h:=?_)));(try simp only[zz]);clear hs1 hs2 hw;refine rdc 0 rfl fun K hK=>?_;(try simp only[zz]);go_simp;refine hK.out _ _ (((k07.nz HBQ.o).alloc _).cell) ?_;clear aH hK K;intro aH;(try simp only[zz]);have OA0:aJ (AtomsO (wq.alloc (.cells #[] tA)) W7.heap.size (.slice (some ⟨wq.heap.size,0,none⟩) 0 0) []):=ax ((AtomsO.empty wq).bq hzq);replace HBQ:=ax (HBQ.o.alloc hzq (.cells #[] tA));have hzq2:W7.heap.size≤(wq.alloc (.cells #[] tA)).heap.size:=by simp;omega
  generalize wq.alloc (.cells #[] tA)=wz at HBQ OA0 hzq2 aH ⊢;refine rdc 5 rfl fun K hK=>?_;skip;(refine stepALm (base:=W7.heap.size) (n:=i) (zs:=a.atoms.take i) rfl _ _ rfl rfl OA0.o rfl HL1.o.symm (hT.o.bz (bgo HB7.o HBQ.o)) rfl HL1.o.symm (by omega) hzq2 ?_;intro A8 c8 w8 o8 hg8 hB8;replace HBQ:=ax (HBQ.o.trans hB8);have OA1:=ax o8;have hzq3:=Nat.le_trans hzq2 hB8.size;clear o8 hg8 hB8 OA0);refine hK.out _ _ ((k07.nz HBQ.o).cell) ?_;clear aH hK K;intro aH;(try simp only[zz]);refine rdc 11 rfl fun K hK=>?_;skip;(refine stepALm (base:=W7.heap.size) (n:=a.atoms.length - 1) (zs:=zv a.atoms i) rfl _ _ rfl rfl OA1.o rfl HL2.o.symm (hD.o.bz (bgo HB7.o HBQ.o)) rfl (by omega) (by omega) hzq3 ?_;intro A9 c9 w9 o9 hg9 hB9;replace HBQ:=ax (HBQ.o.trans hB9);have OA2:=ax o9;have hzq4:=Nat.le_trans hzq3 hB9.size;clear o9 hg9 hB9 OA1);refine hK.out _ _ ((k07.nz HBQ.o).cell) ?_;clear aH hK K;intro aH;(try simp only[zz]);refine tk2 12 rfl aH (h:=?_);(try simp only[zz]);have kE9:=kE7.nz HBQ.o;have qkE9:=kE9.cell;have rkE9:=kE9.frozen;have lkE9:=kE9.lt;refine rdc 13 rfl fun K hK=>?_;(try simp only[zz]);go_simp;refine hK.out _ _ (((k07.nz HBQ.o).far (p:=⟨yE,1,none⟩) (by simp only;omega) _).cell) ?_;clear aH hK K;intro aH;(try simp only[zz]);refine dn1 ?_;clear qkE9 rkE9 lkE9 aH
  have kE10:Blk (w9.setCell ⟨yE,1,none⟩ (.slice A9 (a.atoms.length - 1) c9)) yE tAs #[.slice A6 (a.facts.length+1) c6,.slice A9 (a.atoms.length - 1) c9]:=by
   have:=kE9.set_ 1 (.slice A9 (a.atoms.length - 1) c9);simpa using this
  have k010:=(k07.nz HBQ.o).far (p:=⟨yE,1,none⟩) (by simp only;omega) (.slice A9 (a.atoms.length - 1) c9);have kx10:=(kx7.nz HBQ.o).far (p:=⟨yE,1,none⟩) (by simp only;omega) (.slice A9 (a.atoms.length - 1) c9);have OE1:=ax ((O17.o.bz HBQ.o).setT kE9 (by decide) 1 (.slice A9 (a.atoms.length - 1) c9));have OE2:=ax ((OA2.o.bq (base':=w.heap.size) HB7.o.size).setT kE9 (by decide) 1 (.slice A9 (a.atoms.length - 1) c9));have HB10:=ax ((bgo HB7.o HBQ.o).setCell (p:=⟨yE,1,none⟩) (by simp only;omega) (.slice A9 (a.atoms.length - 1) c9));have hz10:yE<(w9.setCell ⟨yE,1,none⟩ (.slice A9 (a.atoms.length - 1) c9)).heap.size:=kE10.lt;clear k07 kx7 kE7 O17 HB7 hz7 HBQ OA2 kE9 hzq hzq2 hzq3 hzq4;generalize (w9.setCell ⟨yE,1,none⟩ (.slice A9 (a.atoms.length - 1) c9))=W8 at kE10 k010 kx10 OE1 OE2 HB10 hz10 ⊢;(replace qk010:=k010.z;replace qkx10:=kx10.z);(go_wp2_with fail);refine (c_l10Front _ a ⟨1,x.a,(m:Int)⟩ i _ (hV.o.V.bz HB10.o) HVa.o HHi.o).mono ?_;rintro e w11 ⟨F2,d2,G2,g2,rfl,oF,hB11⟩;have OFX:=ax oF;have HBX:=ax hB11;have hz11:=hB11.size;clear oF hB11 qk010 qkx10;(go_upto_region 9 with fail);replace OFX:=ax (OFX.o.bz (bbox (Below.refl _ _) (.cells #[.slice F2 a.facts.length d2,.slice G2 a.atoms.length g2] tAs)));replace HBX:=ax (bbox HBX.o (.cells #[.slice F2 a.facts.length d2,.slice G2 a.atoms.length g2] tAs));have kF:Blk (w11.alloc (.cells #[.slice F2 a.facts.length d2,.slice G2 a.atoms.length g2] tAs)) w11.heap.size tAs #[.slice F2 a.facts.length d2,.slice G2 a.atoms.length g2]:=Blk.new _ _ _;have hzF:w11.heap.size+1≤(w11.alloc (.cells #[.slice F2 a.facts.length d2,.slice G2 a.atoms.length g2] tAs)).heap.size:=by simp
  generalize (w11.alloc (.cells #[.slice F2 a.facts.length d2,.slice G2 a.atoms.length g2] tAs))=W9 at OFX HBX kF hzF ⊢;obtain ⟨yF,hyF⟩:∃ y,y=w11.heap.size:=⟨_,rfl⟩;rw[←hyF] at kF hzF hz11 ⊢;clear hyF;have OF1:=ax OFX.o.parts.1;have OF2:=ax OFX.o.parts.2;clear OFX;simp only at OF1 OF2;have kx11:=kx10.nz HBX.o;(replace qkF:=kF.z;replace qkx11:=kx11.z);(go_upto_region 10 with (at_builtin;refine appFL (ys:=[⟨false,x.a,x.b⟩]) (base:=W8.heap.size) rfl _ _ rfl rfl (OF1.o.bz bel) rfl (FactsV.one (f:=⟨false,x.a,x.b⟩) (Blk.new W9 tF _)) (by simp<;>omega) (by simp<;>omega) ?_;intro A12 c12 w12 o12 hg12 hB12;have kO:=OF1.o.bz (w':=W9.alloc (.cells #[.bool false,.int .i64 x.a,.int .i64 x.b] tF)) bel;have kF12:=Blk.zm (hg:=hg12) (kF.alloc _) kO.1 (by decide);have OF22:=ax (AtomsO.grownF (OF2.o.bz (w':=W9.alloc (.cells #[.bool false,.int .i64 x.a,.int .i64 x.b] tF)) bel) kO hg12);have HBX12:aJ (Below W8.heap.size W8 w12):=ax ((bbox HBX.o _).trans hB12);have OF12:=ax o12;clear hB12 hg12 o12 kO qkF qkx11;(replace qkF12:=kF12.z)));simp only[List.length_append,List.length_cons,List.length_nil,Nat.zero_add] at OF12 ⊢
  have kF13:Blk (w12.setCell ⟨yF,0,none⟩ (.slice A12 (a.facts.length+1) c12)) yF tAs #[.slice A12 (a.facts.length+1) c12,.slice G2 a.atoms.length g2]:=by
   have:=kF12.set_ 0 (.slice A12 (a.facts.length+1) c12);simpa using this
  have OF13:=ax (OF12.o.setT kF12 (by decide) 0 (.slice A12 (a.facts.length+1) c12));have OF23:=ax (OF22.o.setT kF12 (by decide) 0 (.slice A12 (a.facts.length+1) c12));have HBX13:=ax (HBX12.o.setCell (p:=⟨yF,0,none⟩) (by simp only;omega) (.slice A12 (a.facts.length+1) c12));clear kF kx11 OF1 OF2 HBX kF12 OF12 OF22 HBX12 qkF12;generalize (w12.setCell ⟨yF,0,none⟩ (.slice A12 (a.facts.length+1) c12))=W10 at kF13 OF13 OF23 HBX13 ⊢;have kx13:=kx10.nz HBX13.o;(replace qkF13:=kF13.z;replace qkx13:=kx13.z);(go_upto_region 11 with (at_builtin;refine appAL (ys:=[⟨2,(m:Int),x.b⟩]) (base:=W8.heap.size) rfl _ _ rfl rfl (OF23.o.bz bel) (by rfl) (AtomsV.one (f:=⟨2,(m:Int),x.b⟩) (Blk.new W10 tA _)) (by simp<;>omega) (by have:=HBX13.o.size;simp<;>omega) ?_;intro A14 c14 w14 o14 hg14 hB14;have kO:=OF23.o.bz (w':=W10.alloc (.cells #[.int .i64 2,.int .i64 m,.int .i64 x.b] tA)) bel;have kF14:=Blk.zm (hg:=hg14) (kF13.alloc _) kO.1 (by decide);have OF14:=ax (FactsO.grownA (OF13.o.bz (w':=W10.alloc (.cells #[.int .i64 2,.int .i64 m,.int .i64 x.b] tA)) bel) kO hg14);have HBX14:aJ (Below W8.heap.size W8 w14):=ax ((bbox HBX13.o _).trans hB14);have OF24:=ax o14;clear hB14 hg14 o14 kO qkF13 qkx13;(replace qkF14:=kF14.z)));simp only[List.length_append,List.length_cons,List.length_nil,Nat.zero_add] at OF24 ⊢;have hLL:1+(zv a.atoms i).length+1=a.atoms.length+1:=by omega
  try rw[hLL]
  replace OF24:aJ (AtomsO w14 W8.heap.size (.slice A14 (a.atoms.length+1) c14) (([⟨1,x.a,(m:Int)⟩]++zv a.atoms i)++[⟨2,(m:Int),x.b⟩])):=ax (by
   have h24:=OF24.o;(try rw[hLL] at h24)
   exact h24)
  have kF15:Blk (w14.setCell ⟨yF,1,none⟩ (.slice A14 (a.atoms.length+1) c14)) yF tAs #[.slice A12 (a.facts.length+1) c12,.slice A14 (a.atoms.length+1) c14]:=by
   have:=kF14.set_ 1 (.slice A14 (a.atoms.length+1) c14);simpa using this
  have OF15:=ax (OF14.o.setT kF14 (by decide) 1 (.slice A14 (a.atoms.length+1) c14));have OF25:=ax (OF24.o.setT kF14 (by decide) 1 (.slice A14 (a.atoms.length+1) c14));have HBX15:=ax (HBX14.o.setCell (p:=⟨yF,1,none⟩) (by simp only;omega) (.slice A14 (a.atoms.length+1) c14));clear kF13 kx13 OF13 OF23 HBX13 kF14 OF14 OF24 HBX14 qkF14 hLL;generalize (w14.setCell ⟨yF,1,none⟩ (.slice A14 (a.atoms.length+1) c14))=W12 at kF15 OF15 OF25 HBX15 ⊢;have hz15:=HBX15.o.size;have kE15:=kE10.nz HBX15.o;have OE:aJ (AsnO W12 w.heap.size (.agg #[.slice A6 (a.facts.length+1) c6,.slice A9 (a.atoms.length - 1) c9]) (emptyX a x i)):=ax ⟨_,_,rfl,OE1.o.bz HBX15.o,OE2.o.bz HBX15.o⟩;have OX:aJ (AsnO W12 W8.heap.size (.agg #[.slice A12 (a.facts.length+1) c12,.slice A14 (a.atoms.length+1) c14]) (fullX a x i (m:Int))):=ax ⟨_,_,rfl,OF15.o,OF25.o⟩;have HB15:=ax (bgo HB10.o HBX15.o);have hLE:aJ ((emptyX a x i).facts.length≤1000∧(emptyX a x i).atoms.length≤1000):=ax (by simp only[emptyX,List.length_append,List.length_cons,List.length_nil];omega);have hLF:aJ ((fullX a x i (m:Int)).facts.length≤1000∧(fullX a x i (m:Int)).atoms.length≤1000):=ax (by simp only[fullX,List.length_append,List.length_cons,List.length_nil];omega);clear OE1 OE2 HBX15 OF15 OF25 kE10 k010 kx10 HB10;have hni:(n:Int)≤6:=by omega
  (replace qkE15:=kE15.z);(go_wp2_with fail);refine (HEH.o w.heap.size _ _ _ _ B cB _ OE.o.C (HFL.o.bz HB15.o) hLE.o.1 hLE.o.2).mono ?_;rintro e w16 ⟨r1,vs1,l1,rfl,o1,hl1,HR1,hB16⟩;obtain ⟨R1,z1,rfl⟩:=o1.form;have O1:=ax o1;have HR1':=ax HR1;replace OX:=ax (OX.o.bz hB16);have kF16:=kF15.nz hB16;have HB16:=ax (bgo HB15.o hB16);have hz16:=hB16.size;clear o1 HR1 hB16 HB15 kF15 kE15 qkE15 OE;(replace qkF16:=kF16.z);(go_wp2_with fail);refine (HFH.o m W8.heap.size _ _ _ _ B cB _ OX.o.C (HFL.o.bz HB16.o) hLF.o.1 hLF.o.2).mono ?_;rintro e w17 ⟨r2,vs2,l2,rfl,o2,hl2,HR2,hB17⟩;obtain ⟨R2,z2,rfl⟩:=o2.form;have O2:=ax o2;have HR2':=ax HR2;have HB17':=ax hB17;have HB17:=ax (bgo HB16.o hB17);have hz17:=hB17.size;have hp:=HN.o;have hll:l1.length+l2.length≤1049600:=by omega
  have hll2:aJ (l1.length+l2.length≤2 ^ (n+1)):=ax (by rw[Nat.pow_succ];omega);clear o2 HR2 hB17 HB16 kF16 qkF16 OX hl1 hl2 hp;have HE1:aJ (∀ e1,exposeF n (emptyX a x i) t Ks=none→(listF n a x i t Ks).isSome=e1→e1=false):=ax fun e1 h h'=>by rw[←h',list_first HNT.o h];rfl
  have HBoth:aJ ((listF n a x i t Ks).isSome=((exposeF n (emptyX a x i) t Ks).isSome&&(exposeF n (fullX a x i (m:Int)) t Ks).isSome)∧(listF n a x i t Ks=none∨listF n a x i t Ks=some (l1++l2))):=ax (by
   rcases HR1'.o with e1|e1
   ·rw[list_first HNT.o e1,e1];exact ⟨rfl,.inl rfl⟩
   ·rcases HR2'.o with e2|e2
    ·rw[list_second HNT.o e2,e1,e2];exact ⟨rfl,.inl rfl⟩
    ·rw[list_both HNT.o e1 e2,e1,e2];exact ⟨rfl,.inr rfl⟩)
  clear HE1 HR1' HR2';generalize (exposeF n (emptyX a x i) t Ks).isSome=p1 at HBoth ⊢;generalize (exposeF n (fullX a x i (m:Int)) t Ks).isSome=p2 at HBoth ⊢;cases p1<;>cases p2
  all_goals
   (go_wp2_with (at_builtin;refine wpList_appL (base:=w.heap.size) rfl _ _ 30 rfl Tryz.underlying30 infoAs2 rfl (by decide) (by decide) rfl (own_lower (own_below O1.o.row HB17'.o) (by omega)) rfl O2.o.rd.raw O2.o.els.one_cell hll (by omega) ?_;intro v18 w18 hO18 hg18 hB18;have HR18:=ax hO18;have HG18:=ax hg18;have HB18:=ax (HB17.o.trans hB18);obtain ⟨A18,d18,rfl,-⟩:=own_reads hO18 hll;clear hO18 hg18 hB18));go_ret2;exact ⟨_,vs1++vs2,l1++l2,by rw[HBoth.o.1];rfl,(O1.o.bq (by omega)).cat HB17'.o O2.o (by omega) (Nat.le_refl _) hll HG18.o HR18.o,by rw[List.length_append];exact hll2.o,HBoth.o.2,HB18.o⟩
section
variable {ops:Array Oper} {rest:List Oper} {o:Oper} {a:Act} {Q:Exit→Act→World→Prop} {w w0:World} {base mid:Nat} {v v2:Value} {vs vs2:List Value} {ss ss2:List Asn}
theorem appA2 (hgd:o.guard=none) (s x:Operand) (ho:o.op=.call { callee:=.builtin .append,args:=#[s,x],argTypes:=#[30,30] })
  (hs:a.eval s=v) (h0:A2O w0 base v vs ss) (hb0:Below w0.heap.size w0 w) (hbase:base≤w0.heap.size) (h2:A2O w mid v2 vs2 ss2) (hm:w0.heap.size≤mid) (hx:a.eval x=v2) (hl:ss.length+ss2.length≤1049600)
  (h:∀ A' c' w',A2O w' base (.slice A' (ss.length+ss2.length) c') (vs++vs2) (ss++ss2)→w.grownBy w' v.ownBlock→Below base w w'→wpList Tryz.prog ops Q rest (a.put o.dst (.slice A' (ss.length+ss2.length) c')) w'):wpList Tryz.prog ops Q (o :: rest) a w:=by
 obtain ⟨A,c,rfl⟩:=h2.form;refine wpList_appL (base:=base) hgd s x 30 ho Tryz.underlying30 infoAs2 rfl (by decide) (by decide) hs (own_below h0.row hb0) hx h2.rd.raw h2.els.one_cell hl (Nat.le_trans hbase hb0.size) ?_;intro v' w' hO hg hB;have hC:=h0.cat hb0 h2 (Nat.le_trans hbase hm) hm hl hg hO;obtain ⟨A',d,rfl,-⟩:=own_reads hO hl;exact h A' d w' hC hg hB
end
end
section
open Go
def clsM (M:Int→Int) (x:Atm):Atm:=⟨x.kind,M x.a,M x.b⟩
def Clo (M:Int→Int) (F:List Atm) (q:Int):Prop:=q=M 0∨∃ y∈F,M y.a=q
def SegM (M:Int→Int) (F:List Atm) (q:Int):Int→List Atm→Prop
 | _,[]=>False
 | p,y :: ys=>M y.a=p∧((ys=[]∧M y.b=q)∨(ys≠[]∧M y.b≠q∧(y.kind=2→Clo M F q)∧SegM M F q (M y.b) ys))
def CovM (M:Int→Int) (F:List Atm) (x:Atm) (cs:List Atm):Prop:=if x.kind=1 then ∃ y,cs=[y]∧clsM M y=clsM M x else SegM M F (M x.b) (M x.a) cs
def Cover (M:Int→Int) (F G:List Atm):Prop:=∃ g:Atm→List Atm,(∀ x∈G,CovM M F x (g x))∧F.Perm (G.flatMap g)
section
variable {M:Int→Int} {F G H:List Atm}
def Covs (M:Int→Int) (F:List Atm):List Atm→List (List Atm)→Prop
 | [],[]=>True
 | x :: xs,cs :: css=>CovM M F x cs∧Covs M F xs css
 | _,_=>False
theorem cls_inj {y x:Atm} (h:clsM M y=clsM M x):y.kind=x.kind∧M y.a=M x.a∧M y.b=M x.b:=by
 simpa [clsM] using h
theorem seg_head {q p:Int} {cs:List Atm} (h:SegM M F q p cs):∃ y ys,cs=y :: ys∧M y.a=p:=by
 cases cs with
 | nil=>exact absurd h id
 | cons y ys=>exact ⟨y,ys,rfl,h.1⟩
theorem cov_head {x:Atm} {cs:List Atm} (h:CovM M F x cs):∃ y ys,cs=y :: ys∧M y.a=M x.a:=by
 unfold CovM at h
 split at h
 ·obtain ⟨y,rfl,e⟩:=h;exact ⟨y,[],rfl,(cls_inj e).2.1⟩
 ·exact seg_head h
theorem covs_starts:∀ (G:List Atm) (css:List (List Atm)),Covs M F G css→(G.map fun x=>M x.a).Sublist (css.flatten.map fun x=>M x.a)
 | [],[],_=>by simp
 | [],_ :: _,h=>absurd h id
 | _ :: _,[],h=>absurd h id
 | x :: G,cs :: css,h=>by
  have ih:=covs_starts G css h.2;obtain ⟨y,ys,rfl,e⟩:=cov_head h.1;simp only[List.map_cons,List.flatten_cons,List.cons_append,List.map_append];rw[e];exact List.Sublist.cons_cons _ (ih.trans (List.sublist_append_right _ _))
theorem covs_fun:∀ (G:List Atm) (css:List (List Atm)),Covs M F G css→(G.map fun x=>M x.a).Nodup→∃ g:Atm→List Atm,css.flatten=G.flatMap g∧∀ x∈G,CovM M F x (g x)
 | [],[],_,_=>⟨fun _=>[],by simp,by simp⟩
 | [],_ :: _,h,_=>absurd h id
 | _ :: _,[],h,_=>absurd h id
 | x :: G,cs :: css,h,hn=>by
  rw[List.map_cons,List.nodup_cons] at hn;obtain ⟨g,h1,h2⟩:=covs_fun G css h.2 hn.2;have hx:∀ y∈G,y≠x:=fun y hy e=>hn.1 (List.mem_map.2 ⟨y,hy,by rw[e]⟩);refine ⟨fun y=>if y=x then cs else g y,?_,fun y hy=>?_⟩
  ·rw[List.flatten_cons,List.flatMap_cons,if_pos rfl,h1]
   congr 1
   unfold List.flatMap
   congr 1
   exact List.map_congr_left fun y hy=>(if_neg (hx y hy)).symm
  ·show CovM M F y (if y=x then cs else g y);rcases List.mem_cons.1 hy with rfl|hy
   ·rw[if_pos rfl];exact h.1
   ·rw[if_neg (hx y hy)];exact h2 y hy
theorem covs_of_fun {g:Atm→List Atm}:∀ (G:List Atm),(∀ x∈G,CovM M F x (g x))→Covs M F G (G.map g)
 | [],_=>trivial
 | x :: G,h=>⟨h x List.mem_cons_self,covs_of_fun G fun y hy=>h y (List.mem_cons_of_mem _ hy)⟩
theorem Cover.starts (h:Cover M F G) (hn:(F.map fun y=>M y.a).Nodup):(G.map fun y=>M y.a).Nodup:=by
 obtain ⟨g,h1,h2⟩:=h;have:=covs_starts G _ (covs_of_fun G h1);rw[←List.flatMap_def] at this;exact ((h2.map fun y=>M y.a).nodup_iff.1 hn).sublist this
/-! coverings compose -/
theorem cov_seg {x:Atm} {cs:List Atm} (h:CovM M F x cs):SegM M F (M x.b) (M x.a) cs:=by
 unfold CovM at h
 split at h
 ·obtain ⟨y,rfl,e⟩:=h;exact ⟨(cls_inj e).2.1,.inl ⟨rfl,(cls_inj e).2.2⟩⟩
 ·exact h
theorem seg_append {q r:Int}:∀ (cs rest:List Atm) (p:Int),SegM M F r p cs→(∀ y∈cs,M y.b≠q)→(∀ y∈cs,y.kind=2→Clo M F q)→SegM M F q r rest→SegM M F q p (cs++rest)
 | [],_,_,h,_,_,_=>absurd h id
 | y :: cs,rest,p,h,h1,h2,h3=>by
  refine ⟨h.1,.inr ⟨?_,h1 y List.mem_cons_self,h2 y List.mem_cons_self,?_⟩⟩
  ·cases cs
   ·intro e;have e:rest=[]:=e;rw[e] at h3;exact h3
   ·simp
  ·rcases h.2 with ⟨rfl,e⟩|⟨-,-,-,hs⟩
   ·rw[e];exact h3
   ·exact seg_append cs rest _ hs (fun z hz=>h1 z (List.mem_cons_of_mem _ hz)) (fun z hz=>h2 z (List.mem_cons_of_mem _ hz)) h3
theorem seg_ends {r:Int}:∀ (cs:List Atm) (p:Int),SegM M F r p cs→∀ y∈cs,M y.b=r∨∃ z∈cs.tail,M z.a=M y.b
 | [],_,h,_,_=>absurd h id
 | y :: cs,p,h,z,hz=>by
  rcases List.mem_cons.1 hz with rfl|hz
  ·rcases h.2 with ⟨rfl,e⟩|⟨-,-,-,hs⟩
   ·exact .inl e
   ·obtain ⟨w,ws,rfl,e⟩:=seg_head hs;exact .inr ⟨w,by simp,e⟩
  ·rcases h.2 with ⟨rfl,e⟩|⟨-,-,-,hs⟩
   ·cases hz
   ·rcases seg_ends cs _ hs z hz with h1|⟨w,hw,e⟩
    ·exact .inl h1
    ·exact .inr ⟨w,List.mem_of_mem_tail hw,e⟩
theorem flat_sublist {α β:Type} (g:α→List β):∀ (L:List α) (z:α),z∈L→(g z).Sublist (L.flatMap g)
 | [],_,h=>by cases h
 | y :: L,z,h=>by
  rw[List.flatMap_cons];rcases List.mem_cons.1 h with rfl|h
  ·exact List.sublist_append_left _ _
  ·exact (flat_sublist g L z h).trans (List.sublist_append_right _ _)
theorem flat_apart {α β γ:Type} (g:α→List β) (f:β→γ):∀ (L:List α),((L.flatMap g).map f).Nodup→∀ z∈L,∀ w∈L,z≠w→∀ x∈g z,∀ y∈g w,f x≠f y
 | [],_,_,h,_,_,_,_,_,_,_=>by cases h
 | v :: L,hn,z,hz,w,hw,hne,x,hx,y,hy=>by
  rw[List.flatMap_cons,List.map_append,List.nodup_append] at hn;have hin:∀ (u:α) (t:β),u∈L→t∈g u→f t∈(L.flatMap g).map f:=fun u t hu ht=>List.mem_map.2 ⟨t,List.mem_flatMap.2 ⟨u,hu,ht⟩,rfl⟩;rcases List.mem_cons.1 hz with rfl|hz1
  ·rcases List.mem_cons.1 hw with rfl|hw1
   ·exact absurd rfl hne
   ·exact hn.2.2 _ (List.mem_map.2 ⟨x,hx,rfl⟩) _ (hin w y hw1 hy)
  ·rcases List.mem_cons.1 hw with rfl|hw1
   ·exact fun e=>hn.2.2 _ (List.mem_map.2 ⟨y,hy,rfl⟩) _ (hin z x hz1 hx) e.symm
   ·exact flat_apart g f L hn.2.1 z hz1 w hw1 hne x hx y hy
theorem Cover.trans (h1:Cover M F G) (h2:Cover M G H) (hn:(F.map fun y=>M y.a).Nodup) (h0:∀ y∈F,M y.a≠M 0) (hG:∀ z∈G,z.kind=1∨z.kind=2):Cover M F H:=by
 obtain ⟨g,g1,g2⟩:=h1;obtain ⟨d,d1,d2⟩:=h2;have hgn:((G.flatMap g).map fun y=>M y.a).Nodup:=(g2.map fun y=>M y.a).nodup_iff.1 hn;have hmem:∀ z∈G,∀ y∈g z,y∈F:=fun z hz y hy=>g2.mem_iff.2 (List.mem_flatMap.2 ⟨z,hz,hy⟩)
 have hclo:∀ q,Clo M G q→Clo M F q:=fun q h=>by
  rcases h with h|⟨w,hw,e⟩
  ·exact .inl h
  ·obtain ⟨y,ys,e1,e2⟩:=cov_head (g1 w hw);exact .inr ⟨y,hmem w hw y (by rw[e1];simp),e2.trans e⟩
 have hin:∀ x∈H,∀ z∈d x,z∈G:=fun x hx z hz=>d2.mem_iff.2 (List.mem_flatMap.2 ⟨x,hx,hz⟩)
 have hnot:∀ z∈G,∀ y∈(g z).tail,¬Clo M G (M y.a):=fun z hz y hy h=>by
  have hyz:=List.mem_of_mem_tail hy;rcases h with h|⟨w,hw,e⟩
  ·exact h0 y (hmem z hz y hyz) h
  ·obtain ⟨y',ys,e1,e2⟩:=cov_head (g1 w hw);by_cases hzw:z=w
   ·subst hzw;have:=hgn.sublist ((flat_sublist g G z hz).map fun y=>M y.a);rw[e1] at this hy;rw[List.map_cons,List.nodup_cons] at this;exact this.1 (List.mem_map.2 ⟨y,hy,by rw[e2,e]⟩)
   ·exact flat_apart g (fun y=>M y.a) G hgn z hz w hw hzw y hyz y' (by rw[e1];simp) (by rw[e2,e])
 have comp:∀ (q:Int) (ds:List Atm) (p:Int),SegM M G q p ds→(∀ z∈ds,z∈G)→SegM M F q p (ds.flatMap g):=by
  intro q ds
  induction ds with
  | nil=>intro p h;exact absurd h id
  | cons z ds ih=>
   intro p h hD;have hz:=hD z List.mem_cons_self;have hs:=cov_seg (g1 z hz);rw[List.flatMap_cons];obtain ⟨rfl,h⟩:=h;rcases h with ⟨rfl,e⟩|⟨-,hb,hc,hr⟩
   ·rw[List.flatMap_nil,List.append_nil,←e];exact hs
   ·have hkind:∀ y∈g z,(g z).tail≠[]∨y.kind=2→Clo M G q:=fun y hy hor=>by
     have hcov:=g1 z hz;unfold CovM at hcov;by_cases hk:z.kind=1
     ·rw[if_pos hk] at hcov;obtain ⟨y',e1,e2⟩:=hcov;rw[e1] at hor hy;rcases hor with h|h
      ·exact absurd rfl h
      ·rw[List.mem_singleton.1 hy] at h;rw[(cls_inj e2).1,hk] at h;exact absurd h (by decide)
     ·exact hc ((hG z hz).resolve_left hk)
    refine seg_append (g z) _ _ hs (fun y hy e=>?_) (fun y hy hk=>hclo _ (hkind y hy (.inr hk))) (ih _ hr fun w hw=>hD w (List.mem_cons_of_mem _ hw));rcases seg_ends _ _ hs y hy with e2|⟨y',hy',e2⟩
    ·exact hb (e2.symm.trans e)
    ·have:=hkind y hy (.inl fun h=>by rw[h] at hy';cases hy');rw[←e,←e2] at this;exact hnot z hz y' hy' this
 refine ⟨fun x=>(d x).flatMap g,fun x hx=>?_,?_⟩
 ·have hd:=d1 x hx;unfold CovM at hd ⊢;by_cases hk:x.kind=1
  ·rw[if_pos hk] at hd ⊢;obtain ⟨z,e1,e2⟩:=hd;have hz:=hin x hx z (by rw[e1];simp);have hg:=g1 z hz;unfold CovM at hg;rw[if_pos ((cls_inj e2).1.trans hk)] at hg;obtain ⟨y,e3,e4⟩:=hg;exact ⟨y,by show List.flatMap g (d x)=_;rw[e1];simp[e3],e4.trans e2⟩
  ·rw[if_neg hk] at hd ⊢;exact comp _ _ _ hd (hin x hx)
 ·refine g2.trans ?_;have:=d2.flatMap_right g;rw[List.flatMap_assoc] at this;exact this
end
end
section
open Go Go.RowKit Go.Proofs
section
variable {ops:Array Oper} {rest:List Oper} {o:Oper} {a:Act} {K:Act→World→Prop} {Q:Exit→Act→World→Prop} {E:Prop} {w:World} {base:Nat} {v:Value}
end
theorem wp_appLX {P:Program} {o:Oper} {a:Act} {K:Act→World→Prop} {Q:Exit→Act→World→Prop} {w:World} (s x:Operand) (t:TypeId)
  (ho:o.op=.call { callee:=.builtin .append,args:=#[s,x],argTypes:=#[t,t] })
  {base:Nat} {e:TypeId} {z:Value} {size bytes:Nat} (ht:P.underlying t=some (.slice e)) (hinfo:(P.info? e).map (fun i=>(i.zero,i.size,i.bytes))=some (some z,size,bytes)) (hzs:z.cells.size=size) (hsz:0<size) (hby:bytes≤200)
  {v:Value} {n:Nat} {xs:List Value} (hs:a.eval s=v) (hown:w.ownsRow base e size v n xs)
  {A:Option Addr} {m c lo hi:Nat} {news:List Value} (hx:a.eval x=.slice A m c) (hR:Rw w lo hi size A m news) (h1:∀ u∈news,u.oneCell'=true)
  (hn:n+m≤1049600) (hb:base≤w.heap.size)
  (h:∀ v' w',w'.ownsRow base e size v' (n+m) (xs++news)→w.grownBy w' v.ownBlock→Below base w w'→(v'.ownBlock=v.ownBlock∨v'.ownBlock=some w.heap.size)→K (a.put o.dst v') w'):Oper.wp P o a w K Q:=by
 obtain ⟨i,hi',hz,hsize,hbytes⟩:=info_parts hinfo
 have key:∀ (ad:Addr),A=some ad→(∀ j u,news[j]? = some u→w.cell? (ad.add j)=some u)→Oper.wp P o a w K Q:=by
  rintro ad rfl hnews;obtain ⟨v',w',hr,h2,h3,h4,h5⟩:=run_append_own_at (P:=P) w base t o.type e i z size bytes ht hi' hz hsize hbytes hzs hsz v n xs hown ad m c news hR.1 hnews h1 (by unfold maxLen;omega) (Nat.le_trans (Nat.mul_le_mul hn hby) (by omega)) hb;unfold Oper.wp execOp;simp only[ho,resolve,invoke,builtin,Sem.run_bind,Sem.run_pure,Result.andThen_ok,List.map_toArray,List.map_cons,List.map_nil,hs,hx,hr];exact h v' w' h2 h3 (own_row_below hown h3 hb) h5
 by_cases hm:m=0
 ·subst hm;have hnil:news=[]:=List.eq_nil_of_length_eq_zero (by simpa using hR.1);subst hnil
  cases A with
  | some ad=>exact key ad rfl (by simp)
  | none=>
   have hrun:=run_append_none (P:=P) t o.type i ht hi' v n c xs hown;unfold Oper.wp execOp;simp only[ho,resolve,invoke,builtin,Sem.run_bind,Sem.run_pure,Result.andThen_ok,List.map_toArray,List.map_cons,List.map_nil,hs,hx,hrun];exact h v w (by simpa using hown) (World.grownBy.refl _ _) (Below.refl _ _) (Or.inl rfl)
 ·have h0:0<m * size:=Nat.mul_pos (by omega) hsz;obtain ⟨b,off,rfl,_,_,hc⟩:=hR.2 h0;exact key _ rfl fun j u hu=>by rw[show (⟨b,off,none⟩:Addr).add j=⟨b,off+j,none⟩ from by unfold Addr.add;split<;>simp_all];exact hc j u hu
theorem IntsO.grown {w w':World} {b:Nat} {v v':Value} {xs:List Int} (h:IntsO w b v' xs) (hg:w.grownBy w' v.ownBlock) (hne:∀ g,v'.ownBlock=some g→v.ownBlock≠some g):IntsO w' b v' xs:=by
 obtain ⟨⟨h1,h2⟩,h3⟩:=h;refine ⟨⟨h1,?_⟩,h3⟩;rcases h2 with h2|⟨k,cap,cur,hv,hk,hh,r⟩
 ·exact Or.inl h2
 ·exact Or.inr ⟨k,cap,cur,hv,hk,Blk.grown hh hg (fun e=>hne k (by rw[hv];rfl) e.symm),r⟩
end
section
open Go Go.RowKit
/-! states -/
/-! the laws -/
def EntM (M:Int→Int) (a b:Asn):Prop:=(∀ f∈b.facts,decide (M f.a=M f.b)=f.eq)∧Cover M (a.atoms.filter (fillM M)) (b.atoms.filter (fillM M))
section
variable {M N:Int→Int} {T:Int→Prop} {F G:List Atm}
theorem Clo.same (h0:T 0) (he:∀ s t,T s→T t→(M s=M t↔N s=N t)) {q:Int} (hF:∀ y∈F,T y.a∧T y.b) (hq:T q) (h:Clo M F (M q)):Clo N F (N q):=by
 rcases h with h|⟨y,hy,e⟩
 ·exact .inl ((he _ _ hq h0).1 h)
 ·exact .inr ⟨y,hy,(he _ _ (hF y hy).1 hq).1 e⟩
theorem SegM.same (h0:T 0) (he:∀ s t,T s→T t→(M s=M t↔N s=N t)) (hF:∀ y∈F,T y.a∧T y.b) {q:Int} (hq:T q):∀ (cs:List Atm) (p:Int),T p→(∀ y∈cs,y∈F)→SegM M F (M q) (M p) cs→SegM N F (N q) (N p) cs
 | [],_,_,_,h=>absurd h id
 | y :: cs,p,hp,hm,h=>by
  have hy:=hF y (hm y List.mem_cons_self);refine ⟨(he _ _ hy.1 hp).1 h.1,?_⟩;rcases h.2 with ⟨e,hb⟩|⟨hne,hb,hc,hs⟩
  ·exact .inl ⟨e,(he _ _ hy.2 hq).1 hb⟩
  ·exact .inr ⟨hne,fun e=>hb ((he _ _ hy.2 hq).2 e),fun hk=>(hc hk).same h0 he hF hq,SegM.same h0 he hF hq cs y.b hy.2 (fun z hz=>hm z (List.mem_cons_of_mem _ hz)) hs⟩
theorem Cover.same (h0:T 0) (he:∀ s t,T s→T t→(M s=M t↔N s=N t)) (hF:∀ y∈F,T y.a∧T y.b) (hG:∀ y∈G,T y.a∧T y.b) (h:Cover M F G):Cover N F G:=by
 obtain ⟨g,h1,h2⟩:=h;refine ⟨g,fun x hx=>?_,h2⟩;have hm:∀ y∈g x,y∈F:=fun y hy=>h2.mem_iff.2 (List.mem_flatMap.2 ⟨x,hx,hy⟩);have hc:=h1 x hx;unfold CovM at hc ⊢
 split
 ·rename_i hk;rw[if_pos hk] at hc;obtain ⟨y,e,e2⟩:=hc;have hy:=hF y (hm y (by rw[e];simp));obtain ⟨e3,e4,e5⟩:=cls_inj e2;refine ⟨y,e,?_⟩;unfold clsM;rw[e3,(he _ _ hy.1 (hG x hx).1).1 e4,(he _ _ hy.2 (hG x hx).2).1 e5]
 ·rename_i hk;rw[if_neg hk] at hc;exact SegM.same h0 he hF (hG x hx).2 _ _ (hG x hx).1 hm hc
theorem fill_same (he:∀ s t,T s→T t→(M s=M t↔N s=N t)) {xs:List Atm} (hx:∀ y∈xs,T y.a∧T y.b):xs.filter (fillM M)=xs.filter (fillM N):=by
 refine List.filter_congr fun y hy=>?_;unfold fillM;rw[decide_eq_decide.2 (he _ _ (hx y hy).1 (hx y hy).2)]
theorem EntM.same {a b:Asn} (h0:T 0) (he:∀ s t,T s→T t→(M s=M t↔N s=N t)) (ha:∀ y∈a.atoms,T y.a∧T y.b) (hb:∀ y∈b.atoms,T y.a∧T y.b) (hf:∀ f∈b.facts,T f.a∧T f.b) (h:EntM M a b):EntM N a b:=by
 refine ⟨fun f hm=>?_,?_⟩
 ·rw[←h.1 f hm,decide_eq_decide];exact (he _ _ (hf f hm).1 (hf f hm).2).symm
 ·rw[←fill_same he ha,←fill_same he hb];exact h.2.same h0 he (fun y hy=>ha y (List.mem_filter.1 hy).1) (fun y hy=>hb y (List.mem_filter.1 hy).1)
end
theorem valid_kind {a:Asn} (h:a.valid=true) {x:Atm} (hx:x∈a.atoms):x.kind=1∨x.kind=2:=by
 simp only[Asn.valid,Bool.and_eq_true] at h;have:=List.all_eq_true.1 h.2.2 x hx;simp[Atm.valid] at this;exact this.1.1
section
variable {M:Int→Int} {a b c:Asn}
theorem EntM.sat (h:EntM M a b) (ha:Sat M a):Sat M b:=by
 refine ⟨h.1,fun x hx hf=>?_,h.2.starts ha.apart⟩;obtain ⟨g,h1,h2⟩:=h.2;have hx':x∈b.atoms.filter (fillM M):=List.mem_filter.2 ⟨hx,hf⟩;obtain ⟨y,ys,e1,e2⟩:=cov_head (h1 x hx');have hy:y∈a.atoms.filter (fillM M):=h2.mem_iff.2 (List.mem_flatMap.2 ⟨x,hx',by rw[e1];simp⟩);rw[List.mem_filter] at hy;rw[←e2];exact ha.nil y hy.1 hy.2
theorem EntM.trans (h1:EntM M a b) (h2:EntM M b c) (ha:Sat M a) (hb:b.valid=true):EntM M a c:=
 ⟨h2.1,h1.2.trans h2.2 ha.apart (fun y hy=>ha.nil y (List.mem_filter.1 hy).1 (List.mem_filter.1 hy).2) fun z hz=>valid_kind hb (List.mem_filter.1 hz).1⟩
theorem Cover.perm {F G:List Atm} (h:F.Perm G):Cover M F G:=by
 refine ⟨fun x=>[x],fun x hx=>?_,by simpa using h⟩;unfold CovM
 split
 ·exact ⟨x,rfl,rfl⟩
 ·exact ⟨rfl,.inl ⟨rfl,rfl⟩⟩
theorem EntM.refl (ha:Sat M a):EntM M a a:=⟨ha.facts,Cover.perm (List.Perm.refl _)⟩
end
/-! truth in states -/
def cellsOf (s:Ste) (x:Atm):List Int:=(atomCells s x).getD []
section
variable {M:Int→Int} {F G G':List Atm} {a:Asn} {x:Atm} {i:Nat} {t m:Int}
theorem Cover.mk {css:List (List Atm)} (h:Covs M F G css) (hp:F.Perm css.flatten) (hn:(F.map fun y=>M y.a).Nodup):Cover M F G:=by
 have hs:=covs_starts G css h;obtain ⟨g,g1,g2⟩:=covs_fun G css h (((hp.map fun y=>M y.a).nodup_iff.1 hn).sublist hs);exact ⟨g,g2,by rw[←g1];exact hp⟩
theorem cov_self (y:Atm):CovM M F y [y]:=by
 unfold CovM
 split
 ·exact ⟨y,rfl,rfl⟩
 ·exact ⟨rfl,.inl ⟨rfl,rfl⟩⟩
theorem covs_self:∀ (G:List Atm),Covs M F G (G.map fun y=>[y])
 | []=>trivial
 | y :: G=>⟨cov_self y,covs_self G⟩
theorem flat_self:∀ (G:List Atm),(G.map fun y=>[y]).flatten=G
 | []=>rfl
 | y :: G=>by simp[flat_self G]
theorem Cover.permG (h:Cover M F G) (hp:G.Perm G'):Cover M F G':=by
 obtain ⟨g,h1,h2⟩:=h;exact ⟨g,fun x hx=>h1 x (hp.mem_iff.2 hx),h2.trans (hp.flatMap_right g)⟩
theorem fill_perm (hx:a.atoms[i]? = some x):(a.atoms.filter (fillM M)).Perm ((x :: zv a.atoms i).filter (fillM M)):=(without_perm hx).filter _
theorem cell_fill {p q:Int}:fillM M ⟨1,p,q⟩=true:=rfl
theorem ent_ofCell (hx:a.atoms[i]? = some x) (hk:x.kind=1) (hs:Sat M (cellX a x i t)):M x.a=M t∧EntM M (cellX a x i t) a:=by
 have hfx:fillM M x=true:=by unfold fillM;rw[decide_eq_true hk];rfl
 have ht:M x.a=M t:=by
  by_cases e:x.a=t
  ·rw[e]
  ·exact of_decide_eq_true (hs.facts ⟨true,x.a,t⟩ (by simp[cellX,e]))
 refine ⟨ht,fun f hf=>hs.facts f (by simp[cellX,hf]),?_⟩;have hp:=fill_perm (M:=M) hx;rw[List.filter_cons_of_pos hfx] at hp;have hn:=hs.apart;simp only[cellX] at hn ⊢;rw[List.filter_cons_of_pos cell_fill] at hn ⊢;refine (Cover.mk (G:=x :: (zv a.atoms i).filter (fillM M)) (css:=[⟨1,t,x.b⟩] :: ((zv a.atoms i).filter (fillM M)).map fun y=>[y]) ⟨?_,covs_self _⟩ (by rw[List.flatten_cons,flat_self];exact List.Perm.refl _) hn).permG hp.symm;unfold CovM;rw[if_pos hk];exact ⟨_,rfl,by simp[clsM,hk,ht]⟩
theorem unfill (hk:x.kind=2) (he:M x.a=M x.b):fillM M x=false:=by
 unfold fillM;rw[decide_eq_false (by omega),decide_eq_true he];rfl
theorem ent_ofEmpty (hx:a.atoms[i]? = some x) (hk:x.kind=2) (hs:Sat M (emptyX a x i)):EntM M (emptyX a x i) a:=by
 have he:M x.a=M x.b:=of_decide_eq_true (hs.facts ⟨true,x.a,x.b⟩ (by simp[emptyX]));refine ⟨fun f hf=>hs.facts f (by simp[emptyX,hf]),?_⟩;have hp:=fill_perm (M:=M) hx;rw[List.filter_cons_of_neg (by simp[unfill hk he])] at hp;exact Cover.perm hp.symm
theorem ent_ofFull (hx:a.atoms[i]? = some x) (hk:x.kind=2) (hs:Sat M (fullX a x i m)):EntM M (fullX a x i m) a:=by
 have hne:decide (M x.a=M x.b)=false:=hs.facts ⟨false,x.a,x.b⟩ (by simp[fullX]);have hfx:fillM M x=true:=by unfold fillM;rw[hne];simp
 have hn:=hs.apart;refine ⟨fun f hf=>hs.facts f (by simp[fullX,hf]),?_⟩;have hp:=fill_perm (M:=M) hx;rw[List.filter_cons_of_pos hfx] at hp;simp only[fullX] at hn ⊢;rw[List.filter_append,List.filter_append,List.filter_cons_of_pos cell_fill,List.filter_nil] at hn ⊢;refine Cover.permG ?_ hp.symm;cases hfl:fillM M ⟨2,m,x.b⟩
 ·have hmb:M m=M x.b:=by simpa [fillM] using hfl
  rw[List.filter_cons_of_neg (by simp[hfl]),List.filter_nil,List.append_nil] at hn ⊢;refine Cover.mk (css:=[⟨1,x.a,m⟩] :: ((zv a.atoms i).filter (fillM M)).map fun y=>[y]) ⟨?_,covs_self _⟩ (by rw[List.flatten_cons,flat_self];done) hn;unfold CovM;rw[if_neg (by omega)];exact ⟨rfl,.inl ⟨rfl,hmb⟩⟩
 ·have hmb:M m≠M x.b:=by simpa [fillM] using hfl
  rw[List.filter_cons_of_pos hfl,List.filter_nil] at hn ⊢;refine Cover.mk (css:=[⟨1,x.a,m⟩,⟨2,m,x.b⟩] :: ((zv a.atoms i).filter (fillM M)).map fun y=>[y]) ⟨?_,covs_self _⟩ ?_ hn
  ·unfold CovM;rw[if_neg (by omega)];exact ⟨rfl,.inr ⟨by simp,hmb,fun (h:(1:Int)=2)=>absurd h (by decide),rfl,.inl ⟨rfl,rfl⟩⟩⟩
  ·rw[List.flatten_cons,flat_self];simp only[List.singleton_append,List.cons_append,List.nil_append];exact (List.perm_append_singleton _ _).cons _
end
theorem expose_valid {n:Nat} {a:Asn} {t:Int} {K:Nat} {l:List Asn} (h:exposeF n a t K=some l):a.valid=true:=by
 cases hv:a.valid
 ·rw[expose_bad hv] at h;cases h
 ·rfl
theorem expose_ent:∀ (n:Nat) (a:Asn) (t:Int) (K:Nat) (l:List Asn),exposeF n a t K=some l→∀ e∈l,e.valid=true∧(∀ M,Sat M e→EntM M e a)∧∃ b rest,e.atoms=⟨1,t,b⟩ :: rest
 | 0,_,_,_,_,h=>by cases h
 | n+1,a,t,K,l,h=>by
  intro e he;have hv:=expose_valid h;cases hc:consB a
  ·rw[expose_no hv hc] at h;obtain rfl:=Option.some.inj h;cases he
  cases hf:findK a 1 t with
  | some i=>
   obtain ⟨x,hx,hk,-,-⟩:=find_some hf;rw[expose_cell hv hc hf hx] at h
   split at h
   ·rename_i hcv;obtain rfl:=Option.some.inj h;obtain rfl:=List.mem_singleton.1 he;exact ⟨hcv,fun M hM=>(ent_ofCell hx hk hM).2,_,_,rfl⟩
   ·cases h
  | none=>
   cases hg:findK a 2 t with
   | none=>rw[expose_none hv hc hf hg] at h;cases h
   | some i=>
    obtain ⟨x,hx,hk,-,-⟩:=find_some hg;rw[expose_list hv hc hf hg hx] at h;unfold listF at h
    split at h
    ·cases h
    ·rename_i m hm
     split at h
     ·cases h
     ·rename_i l1 h1
      split at h
      ·cases h
      ·rename_i l2 h2;obtain rfl:=Option.some.inj h;rcases List.mem_append.1 he with he|he
       ·obtain ⟨g1,g2,g3⟩:=expose_ent n _ _ _ _ h1 e he;exact ⟨g1,fun M hM=>(g2 M hM).trans (ent_ofEmpty hx hk ((g2 M hM).sat hM)) hM (expose_valid h1),g3⟩
       ·obtain ⟨g1,g2,g3⟩:=expose_ent n _ _ _ _ h2 e he;exact ⟨g1,fun M hM=>(g2 M hM).trans (ent_ofFull hx hk ((g2 M hM).sat hM)) hM (expose_valid h2),g3⟩
end
section
open Go Go.RowKit Go.Proofs
attribute [local go_sem ↓] Go.wp_at_zero Go.wp_at_succ
theorem symB_eq {a:Asn} {A:Int} {K:Nat}:symB a 1 A A K=some [a]:=by unfold symB;rw[if_pos rfl,if_pos rfl]
theorem symB_set {a:Asn} {A B:Int} {K:Nat} (h:¬A=B):symB a 1 A B K=(assignF a A B K).map fun x=>[x]:=by unfold symB;rw[if_pos rfl,if_neg h]
theorem symB_new {a:Asn} {A B:Int} {K:Nat}:symB a 4 A B K=(cellNF a A K).map fun x=>[x]:=rfl
theorem symB_acc {a:Asn} {k A B:Int} {K:Nat} (h1:¬k=1) (h4:¬k=4):symB a k A B K=(exposeF 7 a (symT k A B) K).bind fun l=>mapF (fun x=>accF k A B x K) l:=by unfold symB;rw[if_neg h1,if_neg h4]
theorem c_symB1 {lo hi:Nat} (v:Value) (a:Asn) (A B:Int) (t:Fct) (X1 X2 X3 X4:Option Addr) (n1 n2 n3 n4 d1 d2 d3 d4 K0:Nat) (w:World) (h:AsnC w lo hi v a) (hhi:hi≤w.heap.size) (hv:a.valid=true) (hK0:K0<512) (hA:jq A=true) :
  Calls Tryz.prog 96 #[v,.agg #[.int .i64 1,.int .i64 A,.int .i64 B,.bool t.eq,.int .i64 t.a,.int .i64 t.b,.slice X1 n1 d1,.slice X2 n2 d2,.slice X3 n3 d3,.slice X4 n4 d4],.int .u16 K0] w fun e w'=>∃ r vs,e=.returned (.tuple #[r,.bool (symB a 1 A B (keepK K0 A B)).isSome])∧A2O w' w.heap.size r vs ((symB a 1 A B (keepK K0 A B)).getD [])∧Below w.heap.size w w':=by
 have hV:=ax h;obtain ⟨A1,c1,A2,c2,rfl,-⟩:=h;have hvl:=zjC hv;have HV:=ax hv;obtain ⟨K1,hK1⟩:∃ x,x=tins K0 A:=⟨_,rfl⟩;have l1:K1<512:=by rw[hK1];exact tins_lt hK0 _
 obtain ⟨K2,hK2⟩:∃ x,x=tins K1 B:=⟨_,rfl⟩;have l2:K2<512:=by rw[hK2];exact tins_lt l1 _
 have EK:aJ (keepK K0 A B=K2):=ax (by rw[hK2,hK1];rfl);rw[EK.o];replace hK1:=ax hK1;replace hK2:=ax hK2;clear hv EK;(go_enter Tryz.func96,Tryz.ntmps96);(go_upto_region 1 with fail);refine bx2 (w:=w) (F:=Code.wp _ _ _ _) ?_;rintro W k3 k4 HB hz;replace HB:=ax HB;refine wp_region_noPanic ?_;refine wp_region_held_drew (S:=(fun w'=>(∀ i,w'.cell? ⟨w.heap.size,i,none⟩=#[.slice A1 a.facts.length c1,.slice A2 a.atoms.length c2][i]?)∧(∀ i,w'.cell? ⟨w.heap.size+1,i,none⟩=#[.int .i64 1,.int .i64 A,.int .i64 B,.bool t.eq,.int .i64 t.a,.int .i64 t.b,.slice X1 n1 d1,.slice X2 n2 d2,.slice X3 n3 d3,.slice X4 n4 d4][i]?))) (by kernel_rfl) (⟨k3.drew.cell,k4.drew.cell⟩) (fun aH=>?_);refine tk2 0 rfl aH (h:=tk2 1 rfl aH (h:=tk2 2 rfl aH (h:=?_)));(try simp only[zz]);refine tk2 4 rfl aH (h:=tk2 5 rfl aH (h:=?_));refine rdc 3 rfl fun K hK=>?_;(try simp only[zz]);(go_simp;refine (c_impl_with K0 A _ hK0).mono ?_;rintro e w1 ⟨rfl,rfl⟩;rw[←hK1.o]);refine hK.out _ _ (⟨k3.drew.cell,k4.drew.cell⟩) ?_;clear aH hK K;intro aH;refine rdc 6 rfl fun K hK=>?_;(try simp only[zz]);(go_simp;refine (c_impl_with K1 B _ l1).mono ?_;rintro e w1 ⟨rfl,rfl⟩;rw[←hK2.o]);refine hK.out _ _ (⟨k3.drew.cell,k4.drew.cell⟩) ?_;clear aH hK K;intro aH;(try simp only[zz]);refine tk2 7 rfl aH (h:=?_);(try simp only[zz]);refine dn1 ?_;replace k3:=k3.drew;replace k4:=k4.drew;replace HB:=ax HB.o.drew;have hzd:W.drew.heap.size=W.heap.size:=rfl;clear aH hK1 hK2 l1;generalize W.drew=V at k3 k4 HB hzd ⊢;by_cases hAB:A=B
 ·subst hAB;have E:aJ (symB a 1 A A K2=some [a]):=ax symB_eq;(replace qk3:=k3.z;replace qk4:=k4.z);(go_wp2_with fail);refine (c_impl_copyAssertion _ a _ (hV.o.V.bz HB.o)).mono ?_;rintro e w1 ⟨r,rfl,oC,hB1⟩;obtain ⟨F,f,G,g,rfl⟩:=oC.I.form;have OC:=ax oC;have HB1:=ax (bgo HB.o hB1);have hz1:=hB1.size;clear hB1 oC qk3 qk4 k3 k4;(go_wp2_with fail);go_ret2;refine ⟨.slice (some ⟨w1.heap.size,0,none⟩) 1 1,[.slice F a.facts.length f,.slice G a.atoms.length g],by rw[E.o];rfl,?_,bbox HB1.o _⟩;rw[E.o];refine A2O.one (Blk.newE rfl) ?_ (AsnO.bz (AsnO.bq OC.o (by omega)) bel);omega
 have E:=ax (symB_set (a:=a) (K:=K2) hAB);have hb:(A == B)=false:=beq_false_of_ne hAB;(replace qk3:=k3.z;replace qk4:=k4.z);(go_wp2_with fail);refine (c_impl_assigned _ a A B K2 _ (hV.o.V.bz HB.o) l2 hA (by omega)).mono ?_;rintro e w1 ⟨r,rfl,oX,hB1⟩;obtain ⟨⟨F,n,f,G,m,g,rfl⟩,oX⟩:=oX;have HB1:=ax (bgo HB.o hB1);have hz1:=hB1.size;have OX:=ax oX;clear hB1 oX qk3 qk4 k3 k4
 cases hx:assignF a A B K2 with
 | none=>
  have E2:aJ (symB a 1 A B K2=none):=ax (by rw[E.o,hx];rfl);clear hx;(go_wp2_with fail);go_ret2;exact ⟨_,_,by rw[E2.o];rfl,by rw[E2.o];exact A2O.nil _ _,bbox HB1.o _⟩
 | some y=>
  have E2:aJ (symB a 1 A B K2=some [y]):=ax (by rw[E.o,hx];rfl);have OY:=ax (OX.o y hx);clear hx OX;(go_wp2_with fail);go_ret2;refine ⟨.slice (some ⟨w1.heap.size+1,0,none⟩) 1 1,[.slice F n f,.slice G m g],by rw[E2.o];rfl,?_,bbox (bbox HB1.o _) _⟩;rw[E2.o];refine A2O.one (Blk.newE ?_) ?_ (AsnO.bz (AsnO.bq OY.o (by omega)) bel)
  ·simp
  ·omega
theorem c_symB4 {lo hi:Nat} (v:Value) (a:Asn) (A B:Int) (t:Fct) (X1 X2 X3 X4:Option Addr) (n1 n2 n3 n4 d1 d2 d3 d4 K0:Nat) (w:World) (h:AsnC w lo hi v a) (hhi:hi≤w.heap.size) (hv:a.valid=true) (hK0:K0<512) (hA:jq A=true) :
  Calls Tryz.prog 96 #[v,.agg #[.int .i64 4,.int .i64 A,.int .i64 B,.bool t.eq,.int .i64 t.a,.int .i64 t.b,.slice X1 n1 d1,.slice X2 n2 d2,.slice X3 n3 d3,.slice X4 n4 d4],.int .u16 K0] w fun e w'=>∃ r vs,e=.returned (.tuple #[r,.bool (symB a 4 A B (keepK K0 A B)).isSome])∧A2O w' w.heap.size r vs ((symB a 4 A B (keepK K0 A B)).getD [])∧Below w.heap.size w w':=by
 have hV:=ax h;obtain ⟨A1,c1,A2,c2,rfl,-⟩:=h;have hvl:=zjC hv;have HV:=ax hv;obtain ⟨K1,hK1⟩:∃ x,x=tins K0 A:=⟨_,rfl⟩;have l1:K1<512:=by rw[hK1];exact tins_lt hK0 _
 obtain ⟨K2,hK2⟩:∃ x,x=tins K1 B:=⟨_,rfl⟩;have l2:K2<512:=by rw[hK2];exact tins_lt l1 _
 have EK:aJ (keepK K0 A B=K2):=ax (by rw[hK2,hK1];rfl);rw[EK.o];replace hK1:=ax hK1;replace hK2:=ax hK2;clear hv EK;(go_enter Tryz.func96,Tryz.ntmps96);(go_upto_region 1 with fail);refine bx2 (w:=w) (F:=Code.wp _ _ _ _) ?_;rintro W k3 k4 HB hz;replace HB:=ax HB;refine wp_region_noPanic ?_;refine wp_region_held_drew (S:=(fun w'=>(∀ i,w'.cell? ⟨w.heap.size,i,none⟩=#[.slice A1 a.facts.length c1,.slice A2 a.atoms.length c2][i]?)∧(∀ i,w'.cell? ⟨w.heap.size+1,i,none⟩=#[.int .i64 4,.int .i64 A,.int .i64 B,.bool t.eq,.int .i64 t.a,.int .i64 t.b,.slice X1 n1 d1,.slice X2 n2 d2,.slice X3 n3 d3,.slice X4 n4 d4][i]?))) (by kernel_rfl) (⟨k3.drew.cell,k4.drew.cell⟩) (fun aH=>?_);refine tk2 0 rfl aH (h:=tk2 1 rfl aH (h:=tk2 2 rfl aH (h:=?_)));(try simp only[zz]);refine tk2 4 rfl aH (h:=tk2 5 rfl aH (h:=?_));refine rdc 3 rfl fun K hK=>?_;(try simp only[zz]);(go_simp;refine (c_impl_with K0 A _ hK0).mono ?_;rintro e w1 ⟨rfl,rfl⟩;rw[←hK1.o]);refine hK.out _ _ (⟨k3.drew.cell,k4.drew.cell⟩) ?_;clear aH hK K;intro aH;refine rdc 6 rfl fun K hK=>?_;(try simp only[zz]);(go_simp;refine (c_impl_with K1 B _ l1).mono ?_;rintro e w1 ⟨rfl,rfl⟩;rw[←hK2.o]);refine hK.out _ _ (⟨k3.drew.cell,k4.drew.cell⟩) ?_;clear aH hK K;intro aH;(try simp only[zz]);refine tk2 7 rfl aH (h:=?_);(try simp only[zz]);refine dn1 ?_;replace k3:=k3.drew;replace k4:=k4.drew;replace HB:=ax HB.o.drew;have hzd:W.drew.heap.size=W.heap.size:=rfl;clear aH hK1 hK2 l1;generalize W.drew=V at k3 k4 HB hzd ⊢;have E:aJ (symB a 4 A B K2=(cellNF a A K2).map fun x=>[x]):=ax symB_new;(replace qk3:=k3.z;replace qk4:=k4.z);(go_wp2_with fail);refine (c_impl_allocatedFor _ a A K2 _ (hV.o.V.bz HB.o) l2 hA (by omega)).mono ?_;rintro e w1 ⟨r,rfl,oX,hB1⟩;obtain ⟨⟨F,n,f,G,m,g,rfl⟩,oX⟩:=oX;have HB1:=ax (bgo HB.o hB1);have hz1:=hB1.size;have OX:=ax oX;clear hB1 oX qk3 qk4 k3 k4
 cases hx:cellNF a A K2 with
 | none=>
  have E2:aJ (symB a 4 A B K2=none):=ax (by rw[E.o,hx];rfl);clear hx;(go_wp2_with fail);go_ret2;exact ⟨_,_,by rw[E2.o];rfl,by rw[E2.o];exact A2O.nil _ _,bbox HB1.o _⟩
 | some y=>
  have E2:aJ (symB a 4 A B K2=some [y]):=ax (by rw[E.o,hx];rfl);have OY:=ax (OX.o y hx);clear hx OX;(go_wp2_with fail);go_ret2;refine ⟨.slice (some ⟨w1.heap.size+1,0,none⟩) 1 1,[.slice F n f,.slice G m g],by rw[E2.o];rfl,?_,bbox (bbox HB1.o _) _⟩;rw[E2.o];refine A2O.one (Blk.newE ?_) ?_ (AsnO.bz (AsnO.bq OY.o (by omega)) bel)
  ·simp
  ·omega
theorem c_symBc {lo hi:Nat} (v:Value) (a:Asn) (k A B:Int) (t:Fct) (X1 X2 X3 X4:Option Addr) (n1 n2 n3 n4 d1 d2 d3 d4 K0:Nat) (w:World) (h:AsnC w lo hi v a) (hhi:hi≤w.heap.size) (hv:a.valid=true) (hK0:K0<512) (hA:jq A=true) (hk1:¬k=1) (hk4:¬k=4) :
  Calls Tryz.prog 96 #[v,.agg #[.int .i64 k,.int .i64 A,.int .i64 B,.bool t.eq,.int .i64 t.a,.int .i64 t.b,.slice X1 n1 d1,.slice X2 n2 d2,.slice X3 n3 d3,.slice X4 n4 d4],.int .u16 K0] w fun e w'=>∃ r vs,e=.returned (.tuple #[r,.bool (symB a k A B (keepK K0 A B)).isSome])∧A2O w' w.heap.size r vs ((symB a k A B (keepK K0 A B)).getD [])∧Below w.heap.size w w':=by
 have hV:=ax h;obtain ⟨A1,c1,A2,c2,rfl,-⟩:=h;have hvl:=zjC hv;have HV:=ax hv;obtain ⟨K1,hK1⟩:∃ x,x=tins K0 A:=⟨_,rfl⟩;have l1:K1<512:=by rw[hK1];exact tins_lt hK0 _
 obtain ⟨K2,hK2⟩:∃ x,x=tins K1 B:=⟨_,rfl⟩;have l2:K2<512:=by rw[hK2];exact tins_lt l1 _
 have EK:aJ (keepK K0 A B=K2):=ax (by rw[hK2,hK1];rfl);rw[EK.o];replace hK1:=ax hK1;replace hK2:=ax hK2;clear hv EK;(go_enter Tryz.func96,Tryz.ntmps96);(go_upto_region 1 with fail);refine bx2 (w:=w) (F:=Code.wp _ _ _ _) ?_;rintro W k3 k4 HB hz;replace HB:=ax HB;refine wp_region_noPanic ?_;refine wp_region_held_drew (S:=(fun w'=>(∀ i,w'.cell? ⟨w.heap.size,i,none⟩=#[.slice A1 a.facts.length c1,.slice A2 a.atoms.length c2][i]?)∧(∀ i,w'.cell? ⟨w.heap.size+1,i,none⟩=#[.int .i64 k,.int .i64 A,.int .i64 B,.bool t.eq,.int .i64 t.a,.int .i64 t.b,.slice X1 n1 d1,.slice X2 n2 d2,.slice X3 n3 d3,.slice X4 n4 d4][i]?))) (by kernel_rfl) (⟨k3.drew.cell,k4.drew.cell⟩) (fun aH=>?_);refine tk2 0 rfl aH (h:=tk2 1 rfl aH (h:=tk2 2 rfl aH (h:=?_)));(try simp only[zz]);refine tk2 4 rfl aH (h:=tk2 5 rfl aH (h:=?_));refine rdc 3 rfl fun K hK=>?_;(try simp only[zz]);(go_simp;refine (c_impl_with K0 A _ hK0).mono ?_;rintro e w1 ⟨rfl,rfl⟩;rw[←hK1.o]);refine hK.out _ _ (⟨k3.drew.cell,k4.drew.cell⟩) ?_;clear aH hK K;intro aH;refine rdc 6 rfl fun K hK=>?_;(try simp only[zz]);(go_simp;refine (c_impl_with K1 B _ l1).mono ?_;rintro e w1 ⟨rfl,rfl⟩;rw[←hK2.o]);refine hK.out _ _ (⟨k3.drew.cell,k4.drew.cell⟩) ?_;clear aH hK K;intro aH;(try simp only[zz]);refine tk2 7 rfl aH (h:=?_);(try simp only[zz]);refine dn1 ?_;replace k3:=k3.drew;replace k4:=k4.drew;replace HB:=ax HB.o.drew;have hzd:W.drew.heap.size=W.heap.size:=rfl;clear aH hK1 hK2 l1;generalize W.drew=V at k3 k4 HB hzd ⊢;have E:=ax (symB_acc (a:=a) (A:=A) (B:=B) (K:=K2) hk1 hk4);have b1:(k == 1)=false:=beq_false_of_ne hk1;have b4:(k == 4)=false:=beq_false_of_ne hk4;obtain ⟨T,hT⟩:∃ x,x=symT k A B:=⟨_,rfl⟩;rw[←hT] at E;replace hT:=ax hT;clear hk1 hk4;(replace qk3:=k3.z;replace qk4:=k4.z);(go_upto_if 71 with fail)
 go_cut [12] (fun s12 wc=>s12=.int .i64 T∧wc=V)
 case first=>
  by_cases hk2:k=2
  ·have eT:aJ (T=B):=ax (by rw[hT.o,symT,if_pos hk2]);subst hk2;clear hT;(go_wp2_with fail);go_meet
   case rel=>exact ⟨by rw[eT.o],rfl⟩
  ·have eT:aJ (T=A):=ax (by rw[hT.o,symT,if_neg hk2]);have b2:(k == 2)=false:=beq_false_of_ne hk2;clear hT hk2;(go_wp2_with fail);go_meet
   case rel=>exact ⟨by rw[eT.o],rfl⟩
 case rest=>
  obtain ⟨rfl,rfl⟩:=hcut;clear hT;(go_wp2_with fail);refine (c_impl_expose 7 (Nat.le_refl _) a T K2 l2 (by omega) lo hi _ _ (hV.o.bz HB.o) (by omega) HV.o).mono ?_;rintro e w1 ⟨r,vs,rfl,oR,hB1⟩;have HB1:=ax (bgo HB.o hB1);have k41:=k4.nz hB1;have hz1:=hB1.size
  cases he:exposeF 7 a T K2 with
  | none=>
   rw[he] at oR;obtain ⟨R,c,rfl⟩:=oR.form;have E2:aJ (symB a k A B K2=none):=ax (by rw[E.o,he];rfl);clear he oR;(go_wp2_with fail);go_ret2;exact ⟨_,_,by rw[E2.o];rfl,by rw[E2.o];exact A2O.nil _ _,HB1.o⟩
  | some l=>
   rw[he] at oR;simp only[Option.getD_some] at oR;obtain ⟨R,c,rfl⟩:=oR.form;have E2:aJ (symB a k A B K2=mapF (fun x=>accF k A B x K2) l):=ax (by rw[E.o,he];rfl);have hll:l.length≤128:=(expose_ok he).1;have HE:=ax (expose_ent _ _ _ _ _ he);have OR:=ax oR;clear he oR E hB1 k3 k4 qk3 qk4 HB hV HV;(go_wp2_with fail)
   go_loopw [15,85] (fun rs i wr=>∃ (j:Nat) (R2:Option Addr) (r2:Nat) (ys:List Asn) (us:List Value),j≤l.length∧ys.length=j∧i=.int .i64 j∧rs=.slice R2 j r2∧aJ (∀ (q:Nat) (h1:q<ys.length) (h2:q<l.length),accF k A B l[q] K2=some ys[q])∧aJ (A2O wr w1.heap.size (.slice R2 j r2) us ys)∧aJ (Below w1.heap.size w1 wr)) (fun _ i _=>l.length - (intOf i).toNat)
   case atStart=>exact ⟨0,none,0,[],[],Nat.zero_le _,rfl,rfl,rfl,fun q h1=>absurd h1 (by simp),A2O.nil _ _,Below.refl _ _⟩
   case round=>
    obtain ⟨j,R2,r2,ys,us,hj,hyl,rfl,rfl,HY,OY,HBl⟩:=hrel;have HL:aJ (ys.length=j):=ax hyl;clear hyl;have hzr:=HBl.o.size;have k4r:=k41.nz HBl.o;by_cases hlt:j<l.length
    ·obtain ⟨gb,go,P,p,Q,q,rfl,hgl,q0,q1,hC⟩:=OR.o.atC hlt;obtain ⟨x,hx⟩:∃ x,x=l[j]:=⟨_,rfl⟩;rw[←hx] at q0 q1 hC;obtain ⟨hxv,-,xb,xr,hxa⟩:=HE.o x (by rw[hx];exact List.getElem_mem hlt);have hx0:0<x.atoms.length:=by rw[hxa];simp
     have hxl:=zjC hxv;have HC:=ax hC;have hji:(j:Int)<(l.length:Int):=by omega
     have p0:wr.cell? ⟨gb,go+j*2,none⟩=some (.slice P x.facts.length p):=(HBl.o.cell (p:=⟨gb,go+j*2,none⟩) hgl).trans q0;have p1:wr.cell? ⟨gb,go+j*2+1,none⟩=some (.slice Q x.atoms.length q):=(HBl.o.cell (p:=⟨gb,go+j*2+1,none⟩) hgl).trans q1;have hgr:gb<wr.heap.size:=by omega
     replace hx:=ax hx;clear q0 q1 hC hxa hxv;(replace qk4r:=k4r.z);(go_wp2_with fail);refine (c_impl_accessed _ x k A B t X1 X2 X3 X4 n1 n2 n3 n4 d1 d2 d3 d4 K2 _ (HC.o.bz (bbox HBl.o _)) hx0 (by omega) l2 (fun _=>hA)).mono ?_;rintro e w2 ⟨r,rfl,oX,hB2⟩;obtain ⟨⟨F,n,f,G,m,g,rfl⟩,oX⟩:=oX;have OX:=ax oX;have hbx:Below wr.heap.size wr (wr.alloc (.cells #[.slice P x.facts.length p,.slice Q x.atoms.length q] tAs)):=bbox (Below.refl _ _) _;have HB2:=ax ((hbx.trans (hB2.mono hbx.size)));have hz2:=HB2.o.size;have OY2:=ax (OY.o.bz HB2.o);clear oX hB2 hbx p0 p1 qk4r
     cases hy:accF k A B x K2 with
     | none=>
      have E3:aJ (symB a k A B K2=none):=ax (by rw[E2.o];exact mapF_none hlt (by rw[←hx.o];exact hy));clear hy;(go_wp2_with fail);go_ret2;exact ⟨_,_,by rw[E3.o];rfl,by rw[E3.o];exact A2O.nil _ _,bbox (HB1.o.trans ((HBl.o.trans (HB2.o.mono hzr)).mono (by omega))) _⟩
     | some y=>
      have OX2:=ax (OX.o y hy)
      have HY2:aJ (∀ (q:Nat) (h1:q<(ys++[y]).length) (h2:q<l.length),accF k A B l[q] K2=some (ys++[y])[q]):=ax fun q h1 h2=>by
       have hl:=HL.o;by_cases e:q<ys.length
       ·rw[List.getElem_append_left e];exact HY.o q e h2
       ·have eq:q=j:=by simp at h1;omega
        subst eq;rw[List.getElem_append_right (by omega)];simp only[hl,Nat.sub_self,List.getElem_cons_zero];rw[←hx.o];exact hy
      have hjl:aJ (ys.length+1≤1049600):=ax (by have:=HL.o;omega);have OY3:aJ (A2O wr w1.heap.size (.slice R2 j r2) us ys):=OY;clear hy OX HY OY;(go_wp2_with (at_builtin;refine appA2 (w0:=wr) (base:=w1.heap.size) (mid:=wr.heap.size) (ss2:=[y]) rfl _ _ rfl rfl OY3.o (bbox (bbox HB2.o _) _) hzr (A2O.one (g:=w2.heap.size+1) (Blk.newE (by simp)) (by omega) (AsnO.bz (AsnO.bq OX2.o (by simp)) (bbox (bbox (Below.refl _ _) _) _))) (Nat.le_refl _) rfl hjl.o ?_;intro A3 c3 w3 hO3 hg3 hB3;have O3:=ax hO3;have HB3:=ax (((HBl.o.trans (HB2.o.mono hzr)).trans (Below.mono (bbox (bbox (Below.refl _ _) (.cells #[.slice F n f,.slice G m g] tAs)) (.cells #[.slice F n f,.slice G m g] tAs)) (by omega))).trans hB3);clear hO3 hg3 hB3;simp only[List.length_cons,List.length_nil,Nat.zero_add] at O3 ⊢;rw[HL.o] at O3 ⊢))
      go_round
      case rel=>exact ⟨j+1,A3,c3,ys++[y],_,by omega,by simp[HL.o],by go_num,rfl,HY2.o,O3.o,HB3.o⟩
      case measure=>simp[intOf];omega
    ·obtain rfl:j=l.length:=by omega
     have E3:aJ (symB a k A B K2=some ys):=ax (by rw[E2.o];exact mapF_some HL.o fun q h1 h2=>HY.o q h2 h1);(go_wp2_with fail);go_ret2;exact ⟨_,us,by rw[E3.o];rfl,by rw[E3.o];exact OY.o.bq (by omega),HB1.o.trans (HBl.o.mono (by omega))⟩
def okC (k A B:Int) (t:Fct) (i:Asn) (body els:Cms):Bool:=plainB t i body els&&fieldsB k A B
theorem okC_term {k A B:Int} {t:Fct} {i:Asn} {body els:Cms} (h:okC k A B t i body els=true):jq A=true∧jq B=true∧(1≤k∧k≤5):=by
 unfold okC fieldsB at h;rw[Bool.and_eq_true] at h;have hp:∀ x,isProgB x=true→jq x=true:=fun x hx=>by simp[isProgB] at hx;simp[jq];omega
 have h0:jq 0=true:=by decide
 have h2:=h.2
 split at h2
 ·rw[Bool.and_eq_true] at h2;exact ⟨hp _ h2.1,h2.2,by omega⟩
 ·split at h2
  ·rw[Bool.and_eq_true] at h2;exact ⟨h2.1,h2.2,by omega⟩
  ·split at h2
   ·rw[Bool.and_eq_true,decide_eq_true_eq] at h2;exact ⟨hp _ h2.1,by rw[h2.2];exact h0,by omega⟩
   ·split at h2
    ·rw[Bool.and_eq_true,decide_eq_true_eq] at h2;exact ⟨h2.1,by rw[h2.2];exact h0,by omega⟩
    ·cases h2
end
section
open Go Go.RowKit Go.Proofs
def Fct.neg (f:Fct):Fct:=⟨!f.eq,f.a,f.b⟩
def stepX (C:Asn→Int×List Asn):List Asn→List Asn→Int×List Asn
 | [],acc=>(0,acc)
 | a :: xs,acc=>if (C a).1≠0 then ((C a).1,[]) else if 24<acc.length+(C a).2.length then (1,[]) else stepX C xs (acc++(C a).2)
def wayX (a:Asn) (f:Fct) (B:List Asn→Int×List Asn) (acc:List Asn):Int×List Asn:=
 if (addF a f).valid then (if consB (addF a f) then (if (B [addF a f]).1≠0 then ((B [addF a f]).1,[]) else (0,acc++(B [addF a f]).2)) else (0,acc)) else (1,[])
def ifX (a:Asn) (t:Fct) (B E:List Asn→Int×List Asn):Int×List Asn:=if (wayX a t B []).1≠0 then wayX a t B [] else wayX a t.neg E (wayX a t B []).2
def keepsX (i:Asn) (t:Fct) (B:List Asn→Int×List Asn):Bool:=
 (addF i t).valid&&(!consB (addF i t) || (decide ((B [addF i t]).1=0)&&(B [addF i t]).2.all fun p=>entF p i))
def freeX2 (C:Nat) (g:Fct):Bool:=!C.testBit g.a.toNat && !C.testBit g.b.toNat
def outX (a i:Asn) (t:Fct) (C:Nat) (f:Asn):Asn:=⟨(a.facts.filter (freeX2 C)++i.facts)++[t.neg],i.atoms++f.atoms⟩
def loopX (a i:Asn) (t:Fct) (C:Nat) (B:List Asn→Int×List Asn):Int×Asn:=
 match frameF a i with
 | none=>(3,⟨[],[]⟩)
 | some f=>if tset (mz f) &&& C≠0 then (3,⟨[],[]⟩) else if keepsX i t B then (if (outX a i t C f).valid then (0,outX a i t C f) else (1,⟨[],[]⟩)) else (4,⟨[],[]⟩)
def basX (K:Nat) (k A B:Int) (a:Asn):Int×List Asn:=
 match symB a k A B (keepK K A B) with
 | none=>(1,[])
 | some l=>(0,l.map (tidyF K))
def whileX (lp:Bool) (K:Nat) (a i:Asn) (t:Fct) (C:Nat) (B:List Asn→Int×List Asn):Int×List Asn:=
 if lp then (if (loopX a i t C B).1≠0 then ((loopX a i t C B).1,[]) else (0,[tidyF K (loopX a i t C B).2])) else (1,[])
def cmdX (lp:Bool) (K:Nat) (k A B:Int) (t:Fct) (i:Asn) (C:Nat) (BX EX:List Asn→Int×List Asn) (a:Asn):Int×List Asn:=
 if k=6 then ifX a t BX EX else if k=7 then whileX lp K a i t C BX else basX K k A B a
def Cms.exe (lp:Bool) (K:Nat):Cms→List Asn→Int×List Asn
 | .nil,now=>(0,now)
 | .cons k a b t i body els r,now=>
  if (stepX (cmdX lp K k a b t i (body.fold chF 0) (body.exe lp K) (els.exe lp K)) now []).1≠0 then (stepX (cmdX lp K k a b t i (body.fold chF 0) (body.exe lp K) (els.exe lp K)) now [])
  else r.exe lp K (stepX (cmdX lp K k a b t i (body.fold chF 0) (body.exe lp K) (els.exe lp K)) now []).2
structure ResX (n:Nat) (q:Int×List Asn):Prop where
 code:0≤q.1∧q.1≤4
 nil:q.1≠0→q.2=[]
 len:q.2.length≤n
 ok:∀ b∈q.2,b.valid=true
theorem ResX.err {n:Nat} {c:Int} (h:0≤c∧c≤4):ResX n (c,[]):=⟨h,fun _=>rfl,Nat.zero_le _,fun _ h=>by cases h⟩
theorem ResX.mono {n m:Nat} {q:Int×List Asn} (h:ResX n q) (e:n≤m):ResX m q:=⟨h.code,h.nil,Nat.le_trans h.len e,h.ok⟩
theorem stepX_ok {C:Asn→Int×List Asn} (hC:∀ a:Asn,a.valid=true→ResX 128 (C a)):∀ (xs acc:List Asn),(∀ a∈xs,a.valid=true)→(∀ a∈acc,a.valid=true)→acc.length≤24→ResX 24 (stepX C xs acc)
 | [],acc,_,h2,h3=>⟨by simp[stepX],fun _=>by simp[stepX] at *,h3,h2⟩
 | a :: xs,acc,h1,h2,h3=>by
  have hc:=hC a (h1 a List.mem_cons_self);unfold stepX
  split
  ·exact ResX.err hc.code
  split
  ·exact ResX.err (by decide)
  ·refine stepX_ok hC xs _ (fun b hb=>h1 b (List.mem_cons_of_mem _ hb)) (fun b hb=>?_) (by simp;omega);rcases List.mem_append.1 hb with hb|hb
   ·exact h2 b hb
   ·exact hc.ok b hb
theorem wayX_ok {a:Asn} {f:Fct} {B:List Asn→Int×List Asn} {acc:List Asn} {n:Nat} (hB:∀ x:Asn,x.valid=true→ResX 24 (B [x])) (h2:∀ b∈acc,b.valid=true) (hl:acc.length≤n):ResX (n+24) (wayX a f B acc):=by
 unfold wayX
 split
 ·rename_i hv;have hb:=hB _ hv
  split
  ·split
   ·exact ResX.err hb.code
   ·refine ⟨by simp,fun h=>absurd rfl h,by simp;have:=hb.len;omega,fun x hx=>?_⟩;rcases List.mem_append.1 hx with hx|hx
    ·exact h2 x hx
    ·exact hb.ok x hx
  ·exact ⟨by simp,fun h=>absurd rfl h,by simp;omega,h2⟩
 ·exact ResX.err (by decide)
theorem ifX_ok {a:Asn} {t:Fct} {B E:List Asn→Int×List Asn} (hB:∀ x:Asn,x.valid=true→ResX 24 (B [x])) (hE:∀ x:Asn,x.valid=true→ResX 24 (E [x])):ResX 48 (ifX a t B E):=by
 have h1:=wayX_ok (a:=a) (f:=t) (acc:=[]) (n:=0) hB (fun _ h=>by cases h) (Nat.le_refl _);unfold ifX
 split
 ·exact h1.mono (by omega)
 ·exact wayX_ok (n:=24) hE h1.ok (by have:=h1.len;omega)
theorem loopX_ok {a i:Asn} {t:Fct} {C:Nat} {B:List Asn→Int×List Asn}:(0≤(loopX a i t C B).1∧(loopX a i t C B).1≤4)∧((loopX a i t C B).1=0→(loopX a i t C B).2.valid=true)∧((loopX a i t C B).1≠0→(loopX a i t C B).2=⟨[],[]⟩):=by
 unfold loopX
 split
 ·exact ⟨by simp,by simp,by simp⟩
 ·split
  ·exact ⟨by simp,by simp,by simp⟩
  ·split
   ·split
    ·rename_i h;exact ⟨by simp,fun _=>h,by simp⟩
    ·exact ⟨by simp,by simp,by simp⟩
   ·exact ⟨by simp,by simp,by simp⟩
theorem basX_ok {K:Nat} {k A B:Int} {a:Asn} (hv:a.valid=true) (hB:k=3→jq B=true):ResX 128 (basX K k A B a):=by
 unfold basX
 split
 ·exact ResX.err (by decide)
 ·rename_i l h;obtain ⟨h1,h2⟩:=symB_ok hv hB h;refine ⟨by simp,fun h=>absurd rfl h,by simpa using h1,fun b hb=>?_⟩;obtain ⟨c,hc,rfl⟩:=List.mem_map.1 hb;exact tidy_valid (h2 c hc)
theorem cmdX_ok {lp:Bool} {K:Nat} {k A B:Int} {t:Fct} {i:Asn} {C:Nat} {BX EX:List Asn→Int×List Asn} (hB:∀ x:Asn,x.valid=true→ResX 24 (BX [x])) (hE:∀ x:Asn,x.valid=true→ResX 24 (EX [x])) (hk:k=3→jq B=true) {a:Asn} (hv:a.valid=true):ResX 128 (cmdX lp K k A B t i C BX EX a):=by
 unfold cmdX
 split
 ·exact (ifX_ok hB hE).mono (by omega)
 split
 ·unfold whileX;obtain ⟨h1,h2,-⟩:=loopX_ok (a:=a) (i:=i) (t:=t) (C:=C) (B:=BX)
  split
  ·split
   ·exact ResX.err h1
   ·rename_i hq;refine ⟨by simp,fun h=>absurd rfl h,by simp,fun b hb=>?_⟩;obtain rfl:=List.mem_singleton.1 hb;exact tidy_valid (h2 (by omega))
  ·exact ResX.err (by decide)
 ·exact basX_ok hv hk
theorem fvalB_store {k a b:Int} {t:Fct} {i:Asn} {body els:Cms} (h:fvalB k a b t i body els=true) (hk:k=3):jq b=true:=by
 subst hk;rw[fvalB_basic (by decide) (by decide)] at h;have hok:okC 3 a b t i body els=true:=h;exact (okC_term hok).2.1
theorem Cms.exe_ok {lp:Bool} {K:Nat}:∀ (L:Cms) (d:Nat) (now:List Asn),L.shape d=true→(∀ a∈now,a.valid=true)→now.length≤24→ResX 24 (L.exe lp K now)
 | .nil,_,now,_,h1,h2=>⟨by simp[Cms.exe],fun h=>by simp[Cms.exe] at h,h2,h1⟩
 | .cons k a b t i body els r,d,now,hs,h1,h2=>by
  simp only[Cms.shape,Bool.and_eq_true,decide_eq_true_eq] at hs;obtain ⟨-,hf,hb,he,hr⟩:=hs;have hB:∀ x:Asn,x.valid=true→ResX 24 (body.exe lp K [x]):=fun x hx=>Cms.exe_ok body _ [x] hb (fun y hy=>by obtain rfl:=List.mem_singleton.1 hy;exact hx) (by simp);have hE:∀ x:Asn,x.valid=true→ResX 24 (els.exe lp K [x]):=fun x hx=>Cms.exe_ok els _ [x] he (fun y hy=>by obtain rfl:=List.mem_singleton.1 hy;exact hx) (by simp);have h3:=stepX_ok (C:=cmdX lp K k a b t i (body.fold chF 0) (body.exe lp K) (els.exe lp K)) (fun x hx=>cmdX_ok hB hE (fvalB_store hf) hx) now [] h1 (fun _ h=>by cases h) (by simp);simp only[Cms.exe]
  split
  ·exact h3
  ·exact Cms.exe_ok r d _ hr h3.ok h3.len
theorem Cms.exe_one {lp:Bool} {K:Nat} {L:Cms} {d:Nat} (hs:L.shape d=true) {x:Asn} (hx:x.valid=true):ResX 24 (L.exe lp K [x]):=Cms.exe_ok L d [x] hs (fun y hy=>by obtain rfl:=List.mem_singleton.1 hy;exact hx) (by simp)
end
section
open Go Go.RowKit
/-! the filled atoms stay the same -/
/-! separated atoms describe themselves -/
/-! no further terms -/
end
section
open Go Go.RowKit Go.Proofs
end
section
open Go Go.RowKit Go.Proofs
attribute [local go_sem ↓] Go.wp_at_zero Go.wp_at_succ
end
section
open Go Go.RowKit Go.Proofs
def keepE (a:Asn) (L:Cms) (ks:List Int):Nat:=(tset ks|||logS (tset (mz a)))|||logS (L.fold loF 0)
def Cm1.one (x:Cm1):Cms:=.cons x.k x.a x.b x.t x.i x.body x.els .nil
def loopB (x:Cm1):Bool:=decide (x.k=7)&&x.one.prog
def loopP (a:Asn) (x:Cm1) (ks:List Int):Int×Asn:=if a.valid&&loopB x then loopX a x.i x.t (x.body.fold chF 0) (x.body.exe true (keepE a x.one ks)) else (5,⟨[],[]⟩)
theorem keepE_lt (a:Asn) (L:Cms) (ks:List Int):keepE a L ks<512:=
 Nat.or_lt_two_pow (n:=9) (Nat.or_lt_two_pow (n:=9) (tset_lt _) (logS_lt (tset_lt _))) (logS_lt (Cms.fold_lt (fun S k a b t i h=>loF_lt h k a b t i) L (by decide)))
theorem prog_sh {L:Cms} (h:L.prog=true):L.shape 4=true∧L.sz≤16:=by
 unfold Cms.prog at h;rw[Bool.and_eq_true,decide_eq_true_eq] at h;exact h
end
section
open Go Go.RowKit Go.Proofs
attribute [local go_sem ↓] Go.wp_at_zero Go.wp_at_succ
def NowV (w:World) (A:Option Addr) (ss:List Asn):Prop:=∀ (k:Nat) (_:k<ss.length),∃ b o B c D d,A=some ⟨b,o,none⟩∧b<w.heap.size∧w.cell? ⟨b,o+k*2,none⟩=some (.slice B ss[k].facts.length c)∧w.cell? ⟨b,o+k*2+1,none⟩=some (.slice D ss[k].atoms.length d)∧AsnC w 0 w.heap.size (.agg #[.slice B ss[k].facts.length c,.slice D ss[k].atoms.length d]) ss[k]
theorem AsnC.mono0 {w:World} {lo hi:Nat} {v:Value} {a:Asn} (h:AsnC w lo hi v a) (hh:hi≤w.heap.size):AsnC w 0 w.heap.size v a:=by
 obtain ⟨A1,c1,A2,c2,e,h1,h2,h3⟩:=h;exact ⟨A1,c1,A2,c2,e,h1.mono (Nat.zero_le _) hh,h2.mono (Nat.zero_le _) hh,h3⟩
theorem NowV.bz {w w':World} {A:Option Addr} {ss:List Asn} (h:NowV w A ss) (hb:Below w.heap.size w w'):NowV w' A ss:=fun k hk=>by
 obtain ⟨b,o,B,c,D,d,e,lb,g0,g1,hC⟩:=h k hk;exact ⟨b,o,B,c,D,d,e,Nat.lt_of_lt_of_le lb hb.size,(hb.cell (p:=⟨b,_,none⟩) lb).trans g0,(hb.cell (p:=⟨b,_,none⟩) lb).trans g1,(hC.bz hb).mono0 hb.size⟩
theorem A2O.now {w:World} {base n c:Nat} {A:Option Addr} {vs:List Value} {ss:List Asn} (h:A2O w base (.slice A n c) vs ss):NowV w A ss:=fun k hk=>by
 obtain ⟨b,o,B,c,D,d,e,lb,g0,g1,hC⟩:=h.atC hk;exact ⟨b,o,B,c,D,d,e,lb,g0,g1,hC.mono0 (Nat.le_refl _)⟩
theorem NowV.one {w:World} {g:Nat} {s1 s2:Value} {s:Asn} (hk:Blk w g tAs #[s1,s2]) (h:AsnC w 0 w.heap.size (.agg #[s1,s2]) s):NowV w (some ⟨g,0,none⟩) [s]:=fun k hk1=>by
 have e:k=0:=by simp at hk1;exact hk1
 subst e;have h':=h;obtain ⟨A1,c1,A2,c2,ev,-⟩:=h';injection ev with ev;injection ev with ev;injection ev with ev1 ev2;injection ev2 with ev2;subst ev1;subst ev2;exact ⟨g,0,A1,c1,A2,c2,rfl,hk.lt,by rw[hk.cell];rfl,by rw[hk.cell];rfl,h⟩
theorem rowsA_set:∀ (ss:List Asn) (j:Nat) (s:Asn),j<ss.length→rowsA (ss.set j s)=((rowsA ss).set (j*2) (.inl s.facts)).set (j*2+1) (.inr s.atoms)
 | x :: ss,0,s,_=>by simp[rowsA]
 | x :: ss,j+1,s,h=>by
  have ih:=rowsA_set ss j s (by simpa using h);have e1:rowsA (x :: ss)=.inl x.facts :: .inr x.atoms :: rowsA ss:=rfl;have e2:rowsA ((x :: ss).set (j+1) s)=.inl x.facts :: .inr x.atoms :: rowsA (ss.set j s):=rfl;rw[e1,e2,ih,show (j+1)*2=j*2+1+1 by omega];rfl
theorem A2O.put {w:World} {base n c j:Nat} {A:Option Addr} {vs:List Value} {ss:List Asn} (h:A2O w base (.slice A n c) vs ss) (hj:j<ss.length):∃ g,A=some ⟨g,0,none⟩∧base≤g∧(∃ cur,Blk w g tAs cur∧j*2+1<cur.size)∧
  ∀ (s1 s2:Value) (s:Asn) (mid:Nat),AsnO w mid (.agg #[s1,s2]) s→base≤mid→(∀ (k:Nat) (hk:k<vs.length),Und vs[k] mid)→A2O ((w.setCell ⟨g,j*2,none⟩ s1).setCell ⟨g,j*2+1,none⟩ s2) base (.slice A n c) ((vs.set (j*2) s1).set (j*2+1) s2) (ss.set j s):=by
 have hlen:=h.els.len;have hrl:=rowsA_len ss;obtain ⟨hl,h2⟩:=h.row;rcases h2 with ⟨e,hn⟩|⟨g,cap,cur,e,hb,hh,hn,hm,hs,ht⟩
 ·omega
 ·injection e with e1 e2 e3;subst e1 e2 e3;have hK:Blk w g tAs cur:=hh
  have hP:Pre cur vs (ss.length * 2):=by
   intro i hi;rw[←ht,List.getElem?_take,if_pos hi];simp
  have hsz:ss.length * 2≤cur.size:=by rw[hs];exact Nat.mul_le_mul hn (Nat.le_refl _)
  refine ⟨g,rfl,hb,⟨cur,hK,by omega⟩,fun s1 s2 s mid hS hbm hU=>?_⟩;have ers:=rowsA_set ss j s hj;have hK1:=hK.set_ (j*2) s1;refine ⟨?_,by rw[List.length_set];exact h.lim,⟨?_,fun k k1 k2=>?_,fun i k hi hk hik x hx1 hx2=>?_⟩⟩
  ·rw[List.length_set];refine own_of_blk (hK1.set_ (j*2+1) s2) hb (by simp[hl]) ?_ hn hm (by simpa using hs);have hP1:=hP.setL (j*2) s1 hsz (by omega);exact hP1.setL (j*2+1) s2 (by simpa using hsz) (by simp;omega)
  ·rw[ers];simp[hlen]
  ·obtain ⟨_,_,e,n1,n2⟩:=hS;injection e with e;injection e with e;injection e with e1 e2;injection e2 with e2 e3;subst e1 e2;have n1':RowO w base s1 (.inl s.facts):=RowO.bq (show RowO w mid s1 (.inl s.facts) from n1) hbm;have n2':RowO w base s2 (.inr s.atoms):=RowO.bq (show RowO w mid s2 (.inr s.atoms) from n2) hbm;have up:∀ {u:Value} {r:RowT},RowO w base u r→RowO ((w.setCell ⟨g,j*2,none⟩ s1).setCell ⟨g,j*2+1,none⟩ s2) base u r:=fun hu=>(hu.setT hK (by decide) (by decide) _ _).setT hK1 (by decide) (by decide) _ _;simp only[List.length_set] at k1;have k2':k<(rowsA ss).length:=by omega
   generalize (w.setCell ⟨g,j*2,none⟩ s1).setCell ⟨g,j*2+1,none⟩ s2=W' at up ⊢
   have key:∀ (r:RowT),(rowsA (ss.set j s))[k]? = some r→RowO W' base (((vs.set (j*2) s1).set (j*2+1) s2)[k]'(by simpa using k1)) r:=fun r hr=>by
    rw[ers] at hr;by_cases c2:k=j*2+1
    ·subst c2;rw[List.getElem?_set_self (by simpa using k2')] at hr;obtain rfl:=Option.some.inj hr;rw[List.getElem_set_self];exact up n2'
    ·rw[List.getElem?_set_ne (by omega)] at hr;rw[List.getElem_set_ne (by omega)];by_cases c1:k=j*2
     ·subst c1;rw[List.getElem?_set_self (by simpa using k2')] at hr;obtain rfl:=Option.some.inj hr;rw[List.getElem_set_self];exact up n1'
     ·rw[List.getElem?_set_ne (by omega),List.getElem?_eq_getElem k2'] at hr;rw[List.getElem_set_ne (by omega)];obtain rfl:=Option.some.inj hr;exact up (h.els.at_ k k1 k2')
   exact key _ (List.getElem?_eq_getElem k2)
  ·obtain ⟨_,_,e,n1,n2⟩:=hS;injection e with e;injection e with e;injection e with e1 e2;injection e2 with e2 e3;subst e1 e2;have t1:∀ y,s1.ownBlock=some y→mid≤y:=fun y hy=>(n1.1.lt y hy).1;have t2:∀ y,s2.ownBlock=some y→mid≤y:=fun y hy=>(n2.1.lt y hy).1;simp only[List.length_set] at hi hk;rw[List.getElem_set,List.getElem_set] at hx1 hx2
   have cl:∀ (q:Nat) (hq:q<vs.length),(if j*2+1=q then s2 else if j*2=q then s1 else vs[q]).ownBlock=some x→(q=j*2+1∧s2.ownBlock=some x)∨(q=j*2∧s1.ownBlock=some x)∨((q≠j*2+1∧q≠j*2)∧vs[q].ownBlock=some x):=fun q hq hh=>by
    by_cases d2:j*2+1=q
    ·rw[if_pos d2] at hh;exact .inl ⟨d2.symm,hh⟩
    ·rw[if_neg d2] at hh;by_cases d1:j*2=q
     ·rw[if_pos d1] at hh;exact .inr (.inl ⟨d1.symm,hh⟩)
     ·rw[if_neg d1] at hh;exact .inr (.inr ⟨⟨fun e=>d2 e.symm,fun e=>d1 e.symm⟩,hh⟩)
   rcases cl i hi (by simpa only[List.getElem_set] using hx1) with ⟨a1,b1⟩|⟨a1,b1⟩|⟨a1,b1⟩<;>rcases cl k hk (by simpa only[List.getElem_set] using hx2) with ⟨a2,b2⟩|⟨a2,b2⟩|⟨a2,b2⟩
   ·omega
   ·omega
   ·have:=hU k hk x b2;have:=t2 x b1;omega
   ·exact own_ne n1.1 n2.1 (by decide) x b1 b2
   ·omega
   ·have:=hU k hk x b2;have:=t1 x b1;omega
   ·have:=hU i hi x b1;have:=t2 x b2;omega
   ·have:=hU i hi x b1;have:=t1 x b2;omega
   ·exact h.els.apart i k hi hk hik x b1 b2
theorem c_copyAsns (A:Option Addr) (c:Nat) (ss:List Asn) (w:World) (h:NowV w A ss) (hl:ss.length≤1000) :
  Calls Tryz.prog 129 #[.slice A ss.length c] w fun e w'=>∃ r vs,e=.returned r∧A2O w' w.heap.size r vs ss∧Below w.heap.size w w':=by
 have hmk:=mkAs0 ss.length (by unfold Lim;omega);have hO0:=madeAs w ss.length (by omega);have HO0:aJ (A2O (w.alloc (.cells (madeCells #[.slice none 0 0,.slice none 0 0] (ss.length * 2)) tAs)) w.heap.size (.slice (some ⟨w.heap.size,0,none⟩) 0 ss.length) [] []):=ax ⟨hO0,by simp[Lim],AEls.nil _ _⟩;have H:=ax h;clear h hO0;(go_enter Tryz.func129,Tryz.ntmps129);(go_wp2_with fail)
 go_loopw [3,11] (fun rs i wr=>∃ (j:Nat) (R:Option Addr) (r:Nat) (us:List Value),j≤ss.length∧i=.int .i64 j∧rs=.slice R j r∧aJ (A2O wr w.heap.size (.slice R j r) us (ss.take j))∧aJ (Below w.heap.size w wr)) (fun _ i _=>ss.length - (intOf i).toNat)
 case atStart=>exact ⟨0,some ⟨w.heap.size,0,none⟩,ss.length,[],Nat.zero_le _,rfl,rfl,by rw[List.take_zero];exact HO0,bbox (Below.refl _ _) _⟩
 case round=>
  obtain ⟨j,R,r,us,hj,rfl,rfl,HO,HB⟩:=hrel;have hzr:=HB.o.size;by_cases hlt:j<ss.length
  ·obtain ⟨b,o,P,p,Q,q,rfl,lb,g0,g1,hC⟩:=H.o.bz HB.o j hlt;have HT:aJ (ss.take (j+1)=ss.take j++[ss[j]]):=ax (List.take_succ_eq_append_getElem hlt);obtain ⟨s,hs⟩:∃ s,s=ss[j]:=⟨_,rfl⟩;rw[←hs] at g0 g1 hC HT;have HC:=ax hC;have hji:(j:Int)<(ss.length:Int):=by omega
   have HL:aJ ((ss.take j).length=j):=ax (by rw[List.length_take];omega);clear hs hC;(go_wp2_with fail);refine (c_impl_copyAssertion _ s _ (HC.o.V.bz (bbox (Below.refl _ _) _))).mono ?_;rintro e w2 ⟨r2,rfl,oS,hB2⟩;obtain ⟨F,f,G,g,rfl⟩:=oS.I.form;have OS:=ax oS;have hbx:Below wr.heap.size wr (wr.alloc (.cells #[.slice P s.facts.length p,.slice Q s.atoms.length q] tAs)):=bbox (Below.refl _ _) _;have HB2:=ax (hbx.trans (hB2.mono hbx.size));have hz2:=HB2.o.size;have HO2:aJ (A2O wr w.heap.size (.slice R j r) us (ss.take j)):=HO;have hjl:aJ ((ss.take j).length+1≤1049600):=ax (by rw[HL.o];omega);clear oS hB2 hbx g0 g1 HO;(go_wp2_with (at_builtin;refine appA2 (w0:=wr) (base:=w.heap.size) (mid:=wr.heap.size) (ss2:=[s]) rfl _ _ rfl rfl HO2.o (bbox HB2.o _) hzr (A2O.one (g:=w2.heap.size) (Blk.newE (by simp)) (by omega) (AsnO.bz (AsnO.bq OS.o (by simp)) (bbox (Below.refl _ _) _))) (Nat.le_refl _) rfl hjl.o ?_;intro A3 c3 w3 hO3 hg3 hB3;have O3:=ax hO3;have HB3:=ax (((HB.o.trans (HB2.o.mono hzr)).trans (Below.mono (bbox (Below.refl _ _) (.cells #[.slice F s.facts.length f,.slice G s.atoms.length g] tAs)) (by omega))).trans hB3);clear hO3 hg3 hB3;rw[←HT.o] at O3;simp only[List.length_cons,List.length_nil,Nat.zero_add] at O3 ⊢;rw[HL.o] at O3 ⊢))
   go_round
   case rel=>exact ⟨j+1,A3,c3,_,by omega,by go_num,rfl,O3.o,HB3.o⟩
   case measure=>simp[intOf];omega
  ·obtain rfl:j=ss.length:=by omega
   have HO2:aJ (A2O wr w.heap.size (.slice R ss.length r) us ss):=ax (by have:=HO.o;rwa [List.take_length] at this);clear HO;(go_wp2_with fail);go_ret;exact ⟨_,us,rfl,HO2.o,HB.o⟩
theorem ofInt_i64m (a:Nat) (ha:a<9223372036854775808):(BitVec.ofInt 64 (a:Int)).toNat=a:=by
 rw[BitVec.ofInt_natCast,BitVec.toNat_ofNat];exact Nat.mod_eq_of_lt (by omega)
theorem i64_and_nat (a b:Nat) (ha:a<9223372036854775808) (hb:b<9223372036854775808):bits .and .i64 (a:Int) (b:Int)=((a &&& b:Nat):Int):=by
 have hx:a &&& b<2 ^ 63:=Nat.and_lt_two_pow _ (by omega);show IntKind.i64.wrap ((BitVec.ofInt 64 (a:Int) &&& BitVec.ofInt 64 (b:Int)).toNat:Int)=_;rw[BitVec.toNat_and,ofInt_i64m a ha,ofInt_i64m b hb];simp[IntKind.wrap,IntKind.bits,IntKind.signed];omega
theorem bit_at (m k:Nat) (hm:m<9223372036854775808):(bits .and .i64 ((m:Int) / 2 ^ k) 1 == 1)=m.testBit k:=by
 have e:((m:Int) / 2 ^ k)=((m / 2 ^ k:Nat):Int):=by simp
 have h:m / 2 ^ k<9223372036854775808:=Nat.lt_of_le_of_lt (Nat.div_le_self _ _) hm;rw[e,show (1:Int)=((1:Nat):Int) from rfl,i64_and_nat _ _ h (by decide),Nat.and_one_is_mod,Nat.testBit_eq_decide_div_mod_eq,Bool.eq_iff_iff];simp;omega
theorem maskA_snoc (m:Nat) (xs:List Atm) (k:Nat) (hk:k<xs.length):maskA m 0 (xs.take (k+1))=maskA m 0 (xs.take k)++if m.testBit k then [xs[k]] else []:=by
 have gen:∀ (ys:List Atm) (y:Atm) (i:Nat),maskA m i (ys++[y])=maskA m i ys++if m.testBit (i+ys.length) then [y] else []:=by
  intro ys y
  induction ys with
  | nil=>intro i;simp[maskA]
  | cons z zs ih=>
   intro i;simp only[List.cons_append,maskA,ih,List.length_cons];rw[show i+1+zs.length=i+(zs.length+1) by omega]
   split<;>simp
 rw[List.take_succ_eq_append_getElem hk,gen,List.length_take,Nat.zero_add,Nat.min_eq_left (by omega)]
theorem c_impl_pick {lo hi:Nat} (v:Value) (a:Asn) (m:Nat) (w:World) (h:AsnV w lo hi v a) (hm:m≤1000000) (hla:a.atoms.length≤60) :
  Calls Tryz.prog 200 #[v,.int .i64 m] w fun e w'=>∃ r,e=.returned r∧AsnO w' w.heap.size r (pickA a m)∧Below w.heap.size w w':=by
 obtain ⟨A1,c1,A2,c2,rfl,-,h2⟩:=h;have H2:=ax h2;have hl:=h2.le;clear h2;(go_enter Tryz.func200,Tryz.ntmps200);obtain ⟨-,k4,k5⟩:=blk3 w tAs tAs tAs #[.slice A1 a.facts.length c1,.slice A2 a.atoms.length c2] #[.slice none 0 0,.slice none 0 0] #[.slice none 0 0,.slice none 0 0];have HB:aJ (Below w.heap.size w (((w.alloc (.cells #[.slice A1 a.facts.length c1,.slice A2 a.atoms.length c2] tAs)).alloc (.cells #[.slice none 0 0,.slice none 0 0] tAs)).alloc (.cells #[.slice none 0 0,.slice none 0 0] tAs))):=ax bel;(go_wp2_with fail);generalize (((w.alloc (.cells #[.slice A1 a.facts.length c1,.slice A2 a.atoms.length c2] tAs)).alloc (.cells #[.slice none 0 0,.slice none 0 0] tAs)).alloc (.cells #[.slice none 0 0,.slice none 0 0] tAs))=W at k4 k5 HB ⊢
 go_loopw [11] (fun i wr=>∃ (k:Nat) (acc:List Atm) (A:Option Addr) (c:Nat),k≤a.atoms.length∧i=.int .i64 k∧aJ (acc=maskA m 0 (a.atoms.take k))∧acc.length≤k∧AtomsO wr (w.heap.size+1+1+1) (.slice A acc.length c) acc∧Blk wr (w.heap.size+1) tAs #[.slice none 0 0,.slice none 0 0]∧Blk wr (w.heap.size+1+1) tAs #[.slice none 0 0,.slice A acc.length c]∧aJ (Below w.heap.size w wr)) (fun i _=>a.atoms.length - (intOf i).toNat)
 case atStart=>exact ⟨0,[],none,0,Nat.zero_le _,rfl,by simp[aJ,maskA],Nat.le_refl _,AtomsO.nil _ _,k4,k5,HB⟩
 case round=>
  clear k4 k5 HB;obtain ⟨k,acc,A,c,hk,rfl,HACC,hal,of,k4,k5,HB⟩:=hrel;by_cases hlt:k<a.atoms.length
  ·obtain ⟨b,off,rfl,g0,g1,g2⟩:=(H2.o.bz HB.o).at hlt;have hki:(k:Int)<(a.atoms.length:Int):=by omega
   have HS:=ax (maskA_snoc m a.atoms k hlt);obtain ⟨x,hx⟩:∃ x,x=a.atoms[k]:=⟨_,rfl⟩;rw[←hx] at g0 g1 g2 HS;have hbit:=bit_at m k (by omega);have hk64:min k 64=k:=by omega
   have hbx:Below wr.heap.size wr (wr.alloc (.cells #[.int .i64 x.kind,.int .i64 x.a,.int .i64 x.b] tA)):=bbox (Below.refl _ _) _;have k41:=k4.nz hbx;have k51:=k5.nz hbx;have l5:=k51.lt;have HB1:=ax (bgo HB.o hbx);have of1:=of.bz hbx;clear hx;cases hb:m.testBit k
   ·rw[hb] at hbit;have HA2:aJ (acc=maskA m 0 (a.atoms.take (k+1))):=ax (by rw[HS.o,hb,←HACC.o];simp);clear hb HS;(replace qk51:=k51.z);(go_wp2_with fail)
    go_round
    case rel=>exact ⟨k+1,acc,A,c,by omega,by go_num,HA2,by omega,of1,k41,k51,HB1⟩
    case measure=>simp[intOf];omega
   ·rw[hb] at hbit;have HA2:aJ (acc++[x]=maskA m 0 (a.atoms.take (k+1))):=ax (by rw[HS.o,hb,←HACC.o];simp);clear hb HS;have kx:=Blk.new wr tA #[.int .i64 x.kind,.int .i64 x.a,.int .i64 x.b];have hz1:(wr.alloc (.cells #[.int .i64 x.kind,.int .i64 x.a,.int .i64 x.b] tA)).heap.size=wr.heap.size+1:=by simp
    have hzB:=HB.o.size;have hl0:=k5.lt;(replace qk41:=k41.z;replace qk51:=k51.z;replace qkx:=kx.z);(go_wp2_with (at_builtin;refine appAL (ys:=[x]) rfl _ _ rfl (v:=.slice A acc.length c) rfl (of1.bz (bbox (Below.refl _ _) _)) rfl (AtomsV.one (f:=x) (Blk.newE (by simp))) (by simp;omega) (by simp;omega) ?_;intro A' c' w5 of2 hg2 hB5;have z5:=Blk.zm (g:=w.heap.size+1+1) (k51.alloc _) (of1.bz (bbox (Below.refl _ _) _)).1 hg2 (by decide);have z4:=Blk.zm (g:=w.heap.size+1) (k41.alloc _) (of1.bz (bbox (Below.refl _ _) _)).1 hg2 (by decide);have z5c:=z5.cell;have z5f:=z5.frozen;have z5l:=z5.lt))
    go_round
    case rel=>
     refine ⟨k+1,acc++[x],A',c',by omega,by go_num,HA2,by simp;omega,?_,z4.far (by simp only[];omega) _,?_,?_⟩
     ·simpa using of2.setT z5 (by decide) _ _
     ·simpa using z5.set_ 1 (.slice A' (acc.length+1) c')
     ·have hb5:=hB5.mono (show w.heap.size≤w.heap.size+1+1+1 by omega);exact ax (((bbox HB1.o _).trans hb5).setCell (p:=⟨w.heap.size+1+1,1,none⟩) (by simp only;omega) _)
    case measure=>simp[intOf];omega
  ·obtain rfl:k=a.atoms.length:=by omega
   have hacc:acc=maskA m 0 a.atoms:=by have:=HACC.o;rwa [List.take_length] at this
   subst hacc;have hBl:=HB.o;(replace qk4:=k4.cell;replace rk4:=k4.frozen;replace lk4:=k4.lt;replace qk5:=k5.z);(go_wp2_with fail);refine bodyPost_ret (v:=.agg #[.slice none 0 0,.slice A (maskA m 0 a.atoms).length c]) (by simp[results,Tryz.results200,go_sem,qk4,lk4]) rfl ⟨_,rfl,⟨_,_,rfl,FactsO.nil _ _,?_⟩,?_⟩
   ·exact ((of.setT k4 (by decide) 0 _).setT (k4.set_ 0 _) (by decide) 1 _).bq (by omega)
   ·exact ((hBl.setCell (p:=⟨w.heap.size+1,0,none⟩) (by simp only;omega) _).setCell (p:=⟨w.heap.size+1,1,none⟩) (by simp only;omega) _)
theorem AsnO.setW {w:World} {base:Nat} {v:Value} {a:Asn} (h:AsnO w base v a) {g:Nat} {cs:Array Value} (hk:Blk w g tAs cs) (u0 u1:Value):AsnO ((w.setCell ⟨g,0,none⟩ u0).setCell ⟨g,1,none⟩ u1) base v a:=by
 obtain ⟨fv,av,e,p1,p2⟩:=h;have k1:=hk.set_ 0 u0;exact ⟨fv,av,e,(p1.setT hk (by decide) _ _).setT k1 (by decide) _ _,(p2.setT hk (by decide) _ _).setT k1 (by decide) _ _⟩
theorem c_frClo {lo hi lo' hi':Nat} (g g':Nat) (a b:Asn) (A1 A2 A3 A4:Option Addr) (c1 c2 c3 c4 m:Nat) (w:World) (ha:AsnV w lo hi (.agg #[.slice A1 a.facts.length c1,.slice A2 a.atoms.length c2]) a) (hb:AsnV w lo' hi' (.agg #[.slice A3 b.facts.length c3,.slice A4 b.atoms.length c4]) b) (hhi:hi≤w.heap.size) (hv:a.valid=true) (hv':b.valid=true) (hm:m≤1000000)
  (k1:Blk w g tAs #[.slice A1 a.facts.length c1,.slice A2 a.atoms.length c2]) (k2:Blk w g' tAs #[.slice A3 b.facts.length c3,.slice A4 b.atoms.length c4]) :
  Calls Tryz.prog 199 #[.int .i64 m,.pointer (some ⟨g',0,none⟩),.pointer (some ⟨g,0,none⟩)] w fun e w'=>e=.returned (.bool (frB a b m))∧Below w.heap.size w w':=by
 have HA:=ax ha;have HB:=ax hb;have HE:=ax (frB_star hv hv' m);have hla:=(zjC hv).2;obtain ⟨fb,hfb⟩:∃ x,x=frB a b m:=⟨_,rfl⟩;obtain ⟨P,hP⟩:∃ P,P=pickA a m:=⟨_,rfl⟩;obtain ⟨q,hq⟩:∃ q,q=(starF b (pickA a m)).isSome:=⟨_,rfl⟩;obtain ⟨C,hC⟩:∃ C,C=(starF b (pickA a m)).getD ⟨[],[]⟩:=⟨_,rfl⟩;rw[←hfb,←hq,←hC] at HE;rw[←hfb];have CS:aJ (∀ {lo hi lo' hi':Nat} (v v':Value) (W:World),AsnV W lo hi v b→AsnV W lo' hi' v' P→Calls Tryz.prog 41 #[v,v'] W fun e w'=>∃ r,e=.returned (.tuple #[r,.bool q])∧AsnO w' W.heap.size r C∧Below W.heap.size W w'):=ax fun v v' W h1 h2=>by rw[hq,hC,←hP];exact c_impl_Star v v' b P W h1 h2
 have CP:aJ (∀ {lo hi:Nat} (v:Value) (W:World),AsnV W lo hi v a→Calls Tryz.prog 200 #[v,.int .i64 m] W fun e w'=>∃ r,e=.returned r∧AsnO w' W.heap.size r P∧Below W.heap.size W w'):=ax fun v W h=>by rw[hP];exact c_impl_pick v a m W h hm (by omega)
 clear hfb hP hq hC hv hv' ha hb;have hlg:=k1.lt;have hlg':=k2.lt;(go_enter Tryz.func199,Tryz.ntmps199);have q1:=k1.cell;have q2:=k2.cell;(go_upto_region 1 with fail)
 go_cut [5,6] (fun s5 s6 wc=>∃ (x:Nat) (F:Option Addr) (f:Nat) (G:Option Addr) (e:Nat),s5=.pointer (some ⟨x,0,none⟩)∧s6=.bool q∧Blk wc x tAs #[.slice F C.facts.length f,.slice G C.atoms.length e]∧AsnV wc 0 wc.heap.size (.agg #[.slice F C.facts.length f,.slice G C.atoms.length e]) C∧aJ (Below w.heap.size w wc))
 case first=>
  (go_wp2_with fail);refine wp_region_noPanic ?_;refine wp_region_held_drew (S:=(fun w'=>(∀ j,w'.cell? ⟨g',j,none⟩=#[.slice A3 b.facts.length c3,.slice A4 b.atoms.length c4][j]?)∧(∀ j,w'.cell? ⟨g,j,none⟩=#[.slice A1 a.facts.length c1,.slice A2 a.atoms.length c2][j]?))) (by kernel_rfl) (⟨k2.drew.cell,k1.drew.cell⟩) (fun aH=>?_);have hB0:Below w.heap.size w w.drew:=(Below.refl _ _).drew;refine tk2 0 rfl aH (h:=tk2 1 rfl aH (h:=tk2 2 rfl aH (h:=?_)));(try simp only[zz]);refine wpAnyH_ready (rs:=[3,8]) (by kernel_rfl) (by simp) (AllReadyH.cons rfl (fun K hK=>?_) (AllReadyH.cons rfl (fun K hK=>?_) AllReadyH.nil))
  ·(try simp only[zz]);(go_simp;refine (CP.o _ _ (HA.o.bz hB0)).mono ?_;rintro e w1 ⟨r1,rfl,o1,hB1⟩;obtain ⟨F1,f1,G1,e1,rfl⟩:=o1.I.form;replace hB1:Below w.heap.size w w1:=bgo hB0 hB1);refine hK.out _ _ (⟨(k2.nz hB1).cell,(k1.nz hB1).cell⟩) ?_;clear aH hK K;intro aH;(try simp only[zz]);have hP1:=o1.rj;refine wpAnyH_ready (rs:=[4,8]) (by kernel_rfl) (by simp) (AllReadyH.cons rfl (fun K hK=>?_) (AllReadyH.cons rfl (fun K hK=>?_) AllReadyH.nil))
   ·(try simp only[zz]);(go_simp;refine (CS.o _ _ _ (HB.o.bz hB1) hP1).mono ?_;rintro e w2 ⟨r2,rfl,o2,hB2⟩;obtain ⟨F,f,G,e,rfl⟩:=o2.I.form;replace hB2:Below w.heap.size w w2:=bgo hB1 hB2);refine hK.out _ _ (⟨(k2.nz hB2).cell,(k1.nz hB2).cell⟩) ?_;clear aH hK K;intro aH;(try simp only[zz]);refine tk2 5 rfl aH (h:=tk2 6 rfl aH (h:=tk2 7 rfl aH (h:=?_)));refine rdc 8 rfl fun K hK=>?_;(try simp only[zz]);go_simp;refine hK.out _ _ (⟨(k2.nz (bbox hB2 (.cells #[.slice none 0 0,.slice none 0 0] tAs))).cell,(k1.nz (bbox hB2 (.cells #[.slice none 0 0,.slice none 0 0] tAs))).cell⟩) ?_;clear aH hK K;intro aH;refine rdc 9 rfl fun K hK=>?_;(try simp only[zz]);go_simp;refine hK.out _ _ (⟨(k2.nz (bbox hB2 (.cells #[.slice F C.facts.length f,.slice G C.atoms.length e] tAs))).cell,(k1.nz (bbox hB2 (.cells #[.slice F C.facts.length f,.slice G C.atoms.length e] tAs))).cell⟩) ?_;clear aH hK K;intro aH;(try simp only[zz]);refine tk2 10 rfl aH (h:=?_);(try simp only[zz]);refine dn1 ?_;(go_wp2_with fail);go_meet
    case rel=>exact ⟨w2.heap.size,F,f,G,e,rfl,rfl,Blk.new _ _ _,(o2.rj.bz (bbox (Below.refl _ _) _)).mono (Nat.zero_le _) (by simp),ax (bbox hB2 _)⟩
   ·(try simp only[zz]);go_simp;refine hK.out _ _ (⟨(k2.nz (bbox hB1 (.cells #[.slice none 0 0,.slice none 0 0] tAs))).cell,(k1.nz (bbox hB1 (.cells #[.slice none 0 0,.slice none 0 0] tAs))).cell⟩) ?_;clear aH hK K;intro aH;(try simp only[zz]);have kb:=Blk.new w1 tAs #[.slice none 0 0,.slice none 0 0];have hb:=bbox hB1 (.cells #[.slice none 0 0,.slice none 0 0] tAs);have hP2:=hP1.bz (bbox (Below.refl _ w1) (.cells #[.slice none 0 0,.slice none 0 0] tAs));refine rdc 4 rfl fun K hK=>?_;(try simp only[zz]);(go_simp;refine (CS.o _ _ _ (HB.o.bz hb) hP2).mono ?_;rintro e w2 ⟨r2,rfl,o2,hB2⟩;obtain ⟨F,f,G,e,rfl⟩:=o2.I.form;have kb2:=kb.nz hB2;replace hB2:Below w.heap.size w w2:=bgo hb hB2);refine hK.out _ _ (⟨(k2.nz hB2).cell,(k1.nz hB2).cell⟩) ?_;clear aH hK K;intro aH;(try simp only[zz]);refine tk2 5 rfl aH (h:=tk2 6 rfl aH (h:=tk2 7 rfl aH (h:=?_)));(try simp only[zz]);have hlb:=kb2.lt;have ql:=kb2.cell;have rl:=kb2.frozen;have hle:w.heap.size≤w1.heap.size:=by first|exact Nat.le_refl _|exact hB1.size
    have hn1:g≠w1.heap.size:=by omega
    have hn2:g'≠w1.heap.size:=by omega
    refine rdc 9 rfl fun K hK=>?_;(try simp only[zz]);go_simp;refine hK.out _ _ (⟨(((k2.nz hB2).far (p:=⟨w1.heap.size,0,none⟩) (fun e=>hn2 e) (.slice F C.facts.length f)).far (p:=⟨w1.heap.size,1,none⟩) (fun e=>hn2 e) (.slice G C.atoms.length e)).cell,(((k1.nz hB2).far (p:=⟨w1.heap.size,0,none⟩) (fun e=>hn1 e) (.slice F C.facts.length f)).far (p:=⟨w1.heap.size,1,none⟩) (fun e=>hn1 e) (.slice G C.atoms.length e)).cell⟩) ?_;clear aH hK K;intro aH;(try simp only[zz]);refine tk2 10 rfl aH (h:=?_);(try simp only[zz]);refine dn1 ?_;(go_wp2_with fail);go_meet
    case rel=>exact ⟨w1.heap.size,F,f,G,e,rfl,rfl,(kb2.set_ 0 (.slice F C.facts.length f)).set_ 1 (.slice G C.atoms.length e),(AsnO.setW o2 kb2 _ _).rj.mono (Nat.zero_le _) (by simp),ax ((hB2.setCell (p:=⟨w1.heap.size,0,none⟩) hle _).setCell (p:=⟨w1.heap.size,1,none⟩) hle _)⟩
  ·(try simp only[zz]);go_simp;refine hK.out _ _ (⟨(k2.nz (bbox hB0 (.cells #[.slice none 0 0,.slice none 0 0] tAs))).cell,(k1.nz (bbox hB0 (.cells #[.slice none 0 0,.slice none 0 0] tAs))).cell⟩) ?_;clear aH hK K;intro aH;(try simp only[zz]);have kb:Blk (w.drew.alloc (.cells #[.slice none 0 0,.slice none 0 0] tAs)) w.heap.size tAs #[.slice none 0 0,.slice none 0 0]:=Blk.new w.drew _ _;have hb:=bbox hB0 (.cells #[.slice none 0 0,.slice none 0 0] tAs);refine rdc 3 rfl fun K hK=>?_;(try simp only[zz]);(go_simp;refine (CP.o _ _ (HA.o.bz hb)).mono ?_;rintro e w1 ⟨r1,rfl,o1,hB1⟩;obtain ⟨F1,f1,G1,e1,rfl⟩:=o1.I.form;have kb1:=kb.nz hB1;replace hB1:Below w.heap.size w w1:=bgo hb hB1);refine hK.out _ _ (⟨(k2.nz hB1).cell,(k1.nz hB1).cell⟩) ?_;clear aH hK K;intro aH;(try simp only[zz]);have hP1:=o1.rj;refine rdc 4 rfl fun K hK=>?_;(try simp only[zz]);(go_simp;refine (CS.o _ _ _ (HB.o.bz hB1) hP1).mono ?_;rintro e w2 ⟨r2,rfl,o2,hB2⟩;obtain ⟨F,f,G,e,rfl⟩:=o2.I.form;have kb2:=kb1.nz hB2;replace hB2:Below w.heap.size w w2:=bgo hB1 hB2);refine hK.out _ _ (⟨(k2.nz hB2).cell,(k1.nz hB2).cell⟩) ?_;clear aH hK K;intro aH;(try simp only[zz]);refine tk2 5 rfl aH (h:=tk2 6 rfl aH (h:=tk2 7 rfl aH (h:=?_)));(try simp only[zz]);have hlb:=kb2.lt;have ql:=kb2.cell;have rl:=kb2.frozen;have hle:w.heap.size≤w.heap.size:=by first|exact Nat.le_refl _|exact hB1.size
   have hn1:g≠w.heap.size:=by omega
   have hn2:g'≠w.heap.size:=by omega
   refine rdc 9 rfl fun K hK=>?_;(try simp only[zz]);go_simp;refine hK.out _ _ (⟨(((k2.nz hB2).far (p:=⟨w.heap.size,0,none⟩) (fun e=>hn2 e) (.slice F C.facts.length f)).far (p:=⟨w.heap.size,1,none⟩) (fun e=>hn2 e) (.slice G C.atoms.length e)).cell,(((k1.nz hB2).far (p:=⟨w.heap.size,0,none⟩) (fun e=>hn1 e) (.slice F C.facts.length f)).far (p:=⟨w.heap.size,1,none⟩) (fun e=>hn1 e) (.slice G C.atoms.length e)).cell⟩) ?_;clear aH hK K;intro aH;(try simp only[zz]);refine tk2 10 rfl aH (h:=?_);(try simp only[zz]);refine dn1 ?_;(go_wp2_with fail);go_meet
   case rel=>exact ⟨w.heap.size,F,f,G,e,rfl,rfl,(kb2.set_ 0 (.slice F C.facts.length f)).set_ 1 (.slice G C.atoms.length e),(AsnO.setW o2 kb2 _ _).rj.mono (Nat.zero_le _) (by simp),ax ((hB2.setCell (p:=⟨w.heap.size,0,none⟩) hle _).setCell (p:=⟨w.heap.size,1,none⟩) hle _)⟩
 case rest=>
  obtain ⟨x,F,f,G,e,rfl,rfl,kx,hC,hB⟩:=hcut;have kg:=k1.nz hB.o;have hzB:=hB.o.size;(replace qkx:=kx.z;replace qkg:=kg.z);cases q
  ·have E:fb=false:=by rw[HE.o];rfl
   (go_wp2_with fail);go_ret;exact ⟨zjD E.symm,hB.o⟩
  ·have E:aJ (fb=entF a C):=by show _=_;rw[HE.o];rfl
   (go_wp2_with fail);refine (c_impl_Entails _ _ a C _ (HA.o.bz hB.o) hC (by omega) (Nat.le_refl _)).mono ?_;rintro e w2 ⟨rfl,hB2⟩;rw[←E.o];(go_wp2_with fail);go_ret;exact ⟨rfl,bgo hB.o hB2⟩
theorem c_frLeast {lo hi lo' hi':Nat} (g g':Nat) (a b:Asn) (A1 A2 A3 A4:Option Addr) (c1 c2 c3 c4:Nat) (w:World) (ha:AsnV w lo hi (.agg #[.slice A1 a.facts.length c1,.slice A2 a.atoms.length c2]) a) (hb:AsnV w lo' hi' (.agg #[.slice A3 b.facts.length c3,.slice A4 b.atoms.length c4]) b) (hhi:hi≤w.heap.size) (hv:a.valid=true) (hv':b.valid=true)
  (k1:Blk w g tAs #[.slice A1 a.facts.length c1,.slice A2 a.atoms.length c2]) (k2:Blk w g' tAs #[.slice A3 b.facts.length c3,.slice A4 b.atoms.length c4]) :
  Calls Tryz.prog 198 #[.int .i64 a.atoms.length,.func (.func 199) #[] #[.pointer (some ⟨g',0,none⟩),.pointer (some ⟨g,0,none⟩)]] w fun e w'=>e=.returned (.tuple #[.int .i64 ((frM a b).getD 0:Nat),.bool (frM a b).isSome])∧Below w.heap.size w w':=by
 have HA:=ax ha;have HB:=ax hb;have hla:=(zjC hv).2;have HV:=ax hv;have HV':=ax hv';have K1:=ax k1;have K2:=ax k2;obtain ⟨n,hn⟩:∃ n,n=a.atoms.length:=⟨_,rfl⟩;obtain ⟨N,hN⟩:∃ N:Nat,N=2 ^ n:=⟨_,rfl⟩;have hN64:N≤64:=by rw[hN];exact Nat.pow_le_pow_right (n:=2) (by decide) (show n≤6 by omega)
 have HM:aJ (frM a b=seekM (frB a b) (N - 0) 0):=ax (by rw[hN,hn];rfl);have hp:(2:Int) ^ n=(N:Int):=by rw[hN];simp
 have hn64:min n 64=n:=by omega
 rw[←hn] at hla;replace hN:=ax hN;clear ha hb hv hv' k1 k2;(go_enter Tryz.func198,Tryz.ntmps198);rw[←hn];replace hn:=ax hn;(go_wp2_with fail)
 go_loopw [6] (fun i wr=>∃ k:Nat,k≤N∧i=.int .i64 k∧aJ (frM a b=seekM (frB a b) (N - k) k)∧aJ (Below w.heap.size w wr)) (fun i _=>N - (intOf i).toNat)
 case atStart=>exact ⟨0,Nat.zero_le _,rfl,HM,ax (Below.refl _ _)⟩
 case round=>
  clear HM;obtain ⟨k,hk,rfl,HM,hB⟩:=hrel;by_cases hlt:k<N
  ·have hki:(k:Int)<(N:Int):=by omega
   (go_wp2_with fail);refine (c_frClo g g' a b A1 A2 A3 A4 c1 c2 c3 c4 k wr (HA.o.bz hB.o) (HB.o.bz hB.o) (by have:=hB.o.size;omega) HV.o HV'.o (by omega) (K1.o.nz hB.o) (K2.o.nz hB.o)).mono ?_;rintro e w1 ⟨rfl,hB1⟩;have hBw:=ax (bgo hB.o hB1);have HS:aJ (frM a b=if frB a b k then some k else seekM (frB a b) (N - (k+1)) (k+1)):=ax (by rw[HM.o,seekM_step hlt]);clear hB1;cases hp:frB a b k
   ·have HM2:aJ (frM a b=seekM (frB a b) (N - (k+1)) (k+1)):=ax (by rw[HS.o,hp];rfl);clear hp HM HS;(go_wp2_with fail)
    go_round
    case rel=>exact ⟨k+1,by omega,by go_num,HM2,hBw⟩
    case measure=>simp[intOf];omega
   ·have E:aJ (frM a b=some k):=ax (by rw[HS.o,hp];rfl);clear hp HM HS;(go_wp2_with fail);go_ret2;exact ⟨by rw[E.o];rfl,hBw.o⟩
  ·obtain rfl:k=N:=by omega
   have E:aJ (frM a b=none):=ax (by rw[HM.o,Nat.sub_self];rfl);(go_wp2_with fail);go_ret2;exact ⟨by rw[E.o];rfl,hB.o⟩
theorem frame_none1 {a b:Asn} (h:a.valid=false):frameF a b=none:=by unfold frameF;rw[h];rfl
theorem frame_none2 {a b:Asn} (h:a.valid=true) (h':b.valid=false):frameF a b=none:=by unfold frameF;rw[h,h'];rfl
theorem frame_map {a b:Asn} (h:a.valid=true) (h':b.valid=true):frameF a b=(frM a b).map (pickA a):=by unfold frameF;rw[h,h'];rfl
theorem c_impl_FrameOf {lo hi lo' hi':Nat} (v v':Value) (a b:Asn) (w:World) (h:AsnV w lo hi v a) (h':AsnV w lo' hi' v' b) (hhi:hi≤w.heap.size) :
  Calls Tryz.prog 139 #[v,v'] w fun e w'=>∃ r,e=.returned (.tuple #[r,.bool (frameF a b).isSome])∧AsnO w' w.heap.size r ((frameF a b).getD ⟨[],[]⟩)∧Below w.heap.size w w':=by
 have HA:=ax h;have HB:=ax h';obtain ⟨A1,c1,A2,c2,rfl,-,-⟩:=h;obtain ⟨A3,c3,A4,c4,rfl,-,-⟩:=h';have H1:=ax (@frame_none1 a b);have H2:=ax (@frame_none2 a b);have H3:=ax (@frame_map a b);obtain ⟨k1,k2,k4⟩:=blk3 w tAs tAs tAs #[.slice A1 a.facts.length c1,.slice A2 a.atoms.length c2] #[.slice A3 b.facts.length c3,.slice A4 b.atoms.length c4] #[.slice none 0 0,.slice none 0 0];have hB:Below w.heap.size w (((w.alloc (.cells #[.slice A1 a.facts.length c1,.slice A2 a.atoms.length c2] tAs)).alloc (.cells #[.slice A3 b.facts.length c3,.slice A4 b.atoms.length c4] tAs)).alloc (.cells #[.slice none 0 0,.slice none 0 0] tAs)):=bel;(go_enter Tryz.func139,Tryz.ntmps139);(go_upto_region 1 with fail);generalize (((w.alloc (.cells #[.slice A1 a.facts.length c1,.slice A2 a.atoms.length c2] tAs)).alloc (.cells #[.slice A3 b.facts.length c3,.slice A4 b.atoms.length c4] tAs)).alloc (.cells #[.slice none 0 0,.slice none 0 0] tAs))=W at k1 k2 k4 hB ⊢;(replace qk1:=k1.z;replace qk2:=k2.z;replace qk4:=k4.cell;replace rk4:=k4.frozen;replace lk4:=k4.lt);(go_wp2_with fail);refine (jz _ a _ (HA.o.bz hB)).mono ?_;rintro e w1 ⟨rfl,hB1⟩;(replace hB:=bgo hB hB1;replace k1:=k1.nz hB1;replace qk1:=k1.z;replace k2:=k2.nz hB1;replace qk2:=k2.z;replace k4:=k4.nz hB1;replace qk4:=k4.cell;replace rk4:=k4.frozen;replace lk4:=k4.lt);clear hB1;cases ha:a.valid
 ·have E:=ax (H1.o ha);clear ha H1 H2 H3;(go_wp2_with fail);refine bodyPost_ret (v:=.tuple #[.agg #[.slice none 0 0,.slice none 0 0],.bool false]) (by simp[results,Tryz.results139,go_sem,qk4,lk4]) rfl ⟨_,by rw[E.o];rfl,by rw[E.o];exact AsnO.zero _ _,bel⟩
 have HV:=ax ha;clear ha;(go_wp2_with fail);refine (jz _ b _ (HB.o.bz hB)).mono ?_;rintro e w2 ⟨rfl,hB2⟩;(replace hB:=bgo hB hB2;replace k1:=k1.nz hB2;replace qk1:=k1.z;replace k2:=k2.nz hB2;replace qk2:=k2.z;replace k4:=k4.nz hB2;replace qk4:=k4.cell;replace rk4:=k4.frozen;replace lk4:=k4.lt);clear hB2;cases hb:b.valid
 ·have E:=ax (H2.o HV.o hb);clear hb H1 H2 H3;(go_wp2_with fail);refine bodyPost_ret (v:=.tuple #[.agg #[.slice none 0 0,.slice none 0 0],.bool false]) (by simp[results,Tryz.results139,go_sem,qk4,lk4]) rfl ⟨_,by rw[E.o];rfl,by rw[E.o];exact AsnO.zero _ _,bel⟩
 have HV':=ax hb;have E:=ax (H3.o HV.o HV'.o);have hla:=(zjC HV.o).2;clear hb H1 H2 H3;(go_wp2_with fail);refine (c_frLeast _ _ a b A1 A2 A3 A4 c1 c2 c3 c4 _ (HA.o.bz hB) (HB.o.bz hB) (by have:=hB.size;omega) HV.o HV'.o k1 k2).mono ?_;rintro e w3 ⟨rfl,hB3⟩;have hz:=hB.size;(replace hB:=bgo hB hB3;replace k1:=k1.nz hB3;replace qk1:=k1.z;replace k2:=k2.nz hB3;replace qk2:=k2.z;replace k4:=k4.nz hB3;replace qk4:=k4.cell;replace rk4:=k4.frozen;replace lk4:=k4.lt);clear hB3
 cases hm:frM a b with
 | none=>
  rw[hm] at E;clear hm;(go_wp2_with fail);refine bodyPost_ret (v:=.tuple #[.agg #[.slice none 0 0,.slice none 0 0],.bool false]) (by simp[results,Tryz.results139,go_sem,qk4,lk4]) rfl ⟨_,by rw[E.o];rfl,by rw[E.o];exact AsnO.zero _ _,bel⟩
 | some m=>
  rw[hm] at E
  have hm64:m≤1000000:=by
   have h1:=(seekM_lt hm).2.1;have h2:2 ^ a.atoms.length≤2 ^ 6:=Nat.pow_le_pow_right (by decide) hla;omega
  clear hm;(go_wp2_with fail);refine (c_impl_pick _ a m _ (HA.o.bz hB) hm64 (by omega)).mono ?_;rintro e w4 ⟨r,rfl,o,hB4⟩;have hz4:=hB.size;(replace hB:=bgo hB hB4;replace k4:=k4.nz hB4;replace qk4:=k4.cell;replace rk4:=k4.frozen;replace lk4:=k4.lt);clear hB4 k1 k2 qk1 qk2;obtain ⟨F,f,G,g,rfl⟩:=o.I.form;have O:=ax o;clear o;(go_wp2_with fail);refine bodyPost_ret (v:=.tuple #[.agg #[.slice F (pickA a m).facts.length f,.slice G (pickA a m).atoms.length g],.bool true]) (by simp[results,Tryz.results139,go_sem,qk4,lk4]) rfl ⟨_,by rw[E.o];rfl,?_,bel⟩;rw[E.o];exact (AsnO.setW O.o k4 _ _).bq (by omega)
end
end Go.Proofs.YtgdfdmjnadnlnaaGreat
