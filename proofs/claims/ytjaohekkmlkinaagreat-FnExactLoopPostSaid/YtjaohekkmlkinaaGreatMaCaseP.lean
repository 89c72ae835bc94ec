/- Exposing cells: spec.l6Without, functional. -/
import Derived.Test.YtjaohekkmlkinaaGreatMaNorm
import Derived.Deep.QuietTactic
import Derived.Deep.DeepCutAuto
set_option linter.unusedSimpArgs false
set_option linter.unusedVariables false
set_option maxRecDepth 100000
set_option maxHeartbeats 25600000
namespace Go.Proofs.YtjaohekkmlkinaaGreat
section
open Go Go.RowKit Go.Proofs
attribute [local go_sem ↓] Go.wp_at_zero Go.wp_at_succ
def wo (xs:List Atm) (i k:Int):Nat→List Atm
 | 0=>[]
 | j+1=>if (j:Int)=i∨(j:Int)=k then wo xs i k j else wo xs i k j++(xs[j]?).toList
theorem wo_skip {xs:List Atm} {i k:Int} {j:Nat} (h:(j:Int)=i∨(j:Int)=k):wo xs i k (j+1)=wo xs i k j:=by rw[wo,if_pos h]
theorem wo_take {xs:List Atm} {i k:Int} {j:Nat} (hj:j<xs.length) (h1:¬(j:Int)=i) (h2:¬(j:Int)=k):wo xs i k (j+1)=wo xs i k j++[xs[j]]:=by
 rw[wo,if_neg (by omega),List.getElem?_eq_getElem hj];rfl
theorem wo_one {xs:List Atm} {i:Nat} (hi:i<xs.length):wo xs i i xs.length=zv xs i:=by
 have key:∀ j,j≤xs.length→wo xs i i j=if j≤i then xs.take j else xs.take i++(xs.drop (i+1)).take (j - (i+1)):=by
  intro j
  induction j with
  | zero=>intro _;simp[wo]
  | succ j ih=>
   intro hj;have h:=ih (by omega);by_cases e:j=i
   ·subst e;rw[wo_skip (Or.inl rfl),h,if_pos (Nat.le_refl _),if_neg (by omega)];simp
   ·rw[wo_take (by omega) (by omega) (by omega),h];by_cases hlt:j≤i
    ·rw[if_pos hlt,if_pos (by omega),List.take_succ_eq_append_getElem (by omega)]
    ·rw[if_neg hlt,if_neg (by omega),List.append_assoc,show j+1 - (i+1)=(j - (i+1))+1 by omega];rw[List.take_succ_eq_append_getElem (by rw[List.length_drop];omega)];simp only[List.getElem_drop,show i+1+(j - (i+1))=j by omega]
 rw[key _ (Nat.le_refl _),if_neg (by omega)];unfold zv
 congr 1
 exact List.take_of_length_le (by rw[List.length_drop];omega)
theorem wp_appFL2 {o:Oper} {a:Act} {K:Act→World→Prop} {Q:Exit→Act→World→Prop} {w:World} {base lo hi c:Nat} {v:Value} {A:Option Addr} (s x:Operand) (ho:o.op=.call { callee:=.builtin .append,args:=#[s,x],argTypes:=#[34,34] })
  {xs ys:List Fct} (hs:a.eval s=v) (hown:FactsO w base v xs) (hx:a.eval x=.slice A ys.length c) (hR:FactsV w lo hi A ys) (hn:xs.length+ys.length≤1049600) (hb:base≤w.heap.size)
  (h:∀ A' c' w',FactsO w' base (.slice A' (xs++ys).length c') (xs++ys)→w.grownBy w' v.ownBlock→Below base w w'→K (a.put o.dst (.slice A' (xs++ys).length c')) w'):Oper.wp Tryz.prog o a w K Q:=by
 refine wp_appL s x 34 ho Tryz.underlying34 infoF rfl (by decide) (by decide) hs hown.1 hx hR.raw (encF_one _) hn hb ?_;intro v' w' h1 h2 h3;have hO:FactsO w' base v' (xs++ys):=⟨by rw[List.length_append,show encF (xs++ys)=encF xs++encF ys from List.flatMap_append];exact h1,by simp[Lim];omega⟩;obtain ⟨A',c',rfl,-⟩:=hO.rj;exact h A' c' w' hO h2 h3
theorem AtomsO.oneN2 (w:World) (x:Atm) {base:Nat} (hb:base≤w.heap.size):AtomsO (w.alloc (.cells #[.int .i64 x.kind,.int .i64 x.a,.int .i64 x.b] tA)) base (.slice (some ⟨w.heap.size,0,none⟩) 1 1) [x]:=
 ⟨own_of_blk (Blk.new w _ _) hb rfl (by intro j hj;match j,hj with|0,_=>rfl|1,_=>rfl|2,_=>rfl) (Nat.le_refl _) (by decide) rfl,by simp[Lim]⟩
theorem c_l6WithoutF {lo hi:Nat} (v:Value) (a:Asn) (i k:Int) (x:Atm) (w:World) (h:AsnV w lo hi v a) (hl1:a.facts.length≤1000) (hl2:a.atoms.length≤1000) :
  Calls Tryz.prog 225 #[v,.int .i64 i,.int .i64 k,.agg #[.int .i64 x.kind,.int .i64 x.a,.int .i64 x.b]] w fun e w'=>∃ r,e=.returned r∧AsnO w' w.heap.size r ⟨a.facts,[x]++wo a.atoms i k a.atoms.length⟩∧Below w.heap.size w w':=by
 obtain ⟨A1,c1,A2,c2,rfl,h1,h2⟩:=h;have H1:=ax h1;have H2:=ax h2;clear h1 h2;(go_enter Tryz.func225,Tryz.ntmps225);have k0:Blk (((w.alloc (.cells #[.slice A1 a.facts.length c1,.slice A2 a.atoms.length c2] tAs)).alloc (.cells #[.int .i64 x.kind,.int .i64 x.a,.int .i64 x.b] tA)).alloc (.cells #[.slice none 0 0,.slice none 0 0] tAs)) w.heap.size tAs #[.slice A1 a.facts.length c1,.slice A2 a.atoms.length c2]:=blks;have k1:Blk (((w.alloc (.cells #[.slice A1 a.facts.length c1,.slice A2 a.atoms.length c2] tAs)).alloc (.cells #[.int .i64 x.kind,.int .i64 x.a,.int .i64 x.b] tA)).alloc (.cells #[.slice none 0 0,.slice none 0 0] tAs)) (w.heap.size+1) tA #[.int .i64 x.kind,.int .i64 x.a,.int .i64 x.b]:=blks;have kr:Blk (((w.alloc (.cells #[.slice A1 a.facts.length c1,.slice A2 a.atoms.length c2] tAs)).alloc (.cells #[.int .i64 x.kind,.int .i64 x.a,.int .i64 x.b] tA)).alloc (.cells #[.slice none 0 0,.slice none 0 0] tAs)) (w.heap.size+2) tAs #[.slice none 0 0,.slice none 0 0]:=blks;have hB:Below w.heap.size w (((w.alloc (.cells #[.slice A1 a.facts.length c1,.slice A2 a.atoms.length c2] tAs)).alloc (.cells #[.int .i64 x.kind,.int .i64 x.a,.int .i64 x.b] tA)).alloc (.cells #[.slice none 0 0,.slice none 0 0] tAs)):=bel;(go_wp2_with fail);generalize (((w.alloc (.cells #[.slice A1 a.facts.length c1,.slice A2 a.atoms.length c2] tAs)).alloc (.cells #[.int .i64 x.kind,.int .i64 x.a,.int .i64 x.b] tA)).alloc (.cells #[.slice none 0 0,.slice none 0 0] tAs))=W at k0 k1 kr hB ⊢;refine wp_region_noPanic ?_;refine wp_region_held_drew (S:=(fun w'=>(∀ i,w'.cell? ⟨w.heap.size,i,none⟩=#[.slice A1 a.facts.length c1,.slice A2 a.atoms.length c2][i]?)∧(∀ i,w'.cell? ⟨w.heap.size+1,i,none⟩=#[.int .i64 x.kind,.int .i64 x.a,.int .i64 x.b][i]?))) (by kernel_rfl) (⟨k0.drew.cell,k1.drew.cell⟩) (fun aH=>?_);refine tk2 1 rfl aH (h:=tk2 2 rfl aH (h:=tk2 4 rfl aH (h:=?_)));(try simp only[zz])
 refine wpAnyH_par [0,3,5,6,7] #[true,true,true,true,true,true,true,true,false] 5 (by kernel_rfl) aH
  (fun a0 D a1 w'=>aJ (Below w.heap.size w w'∧Blk w' w.heap.size tAs #[.slice A1 a.facts.length c1,.slice A2 a.atoms.length c2]∧Blk w' (w.heap.size+1) tA #[.int .i64 x.kind,.int .i64 x.a,.int .i64 x.b]∧Blk w' (w.heap.size+2) tAs #[.slice none 0 0,.slice none 0 0])∧
   aJ ((dn D 3=true→dn D 0=true)∧(dn D 6=true→dn D 3=true∧dn D 5=true))∧
   ∃ v11 v14 v16 v17 v9,a1=((((a0.put (some 11) v11).put (some 14) v14).put (some 16) v16).put (some 17) v17).put (some 9) v9∧
    aJ (dn D 0=true→dn D 3=false→(∃ g,v11=.slice (some ⟨g,0,none⟩) 0 0)∧FactsO w' w.heap.size v11 [])∧
    aJ (dn D 3=true→(∃ A c,v14=.slice A a.facts.length c)∧FactsO w' w.heap.size v14 a.facts)∧
    aJ (dn D 5=true→(∃ g,v16=.slice (some ⟨g,0,none⟩) 1 1)∧AtomsO w' w.heap.size v16 [x])∧
    aJ (dn D 6=true→v17=.agg #[v14,v16])∧
    aJ (dn D 7=true→∃ g,v9=.pointer (some ⟨g,0,none⟩)∧w.heap.size+2<g∧Blk w' g tAs #[.slice none 0 0,.slice none 0 0])) ?start ?steps ?fin
 case start=>
  refine ⟨⟨hB.drew,k0.drew,k1.drew,kr.drew⟩,⟨fun h=>absurd h (by decide),fun h=>absurd h (by decide)⟩,undef,undef,undef,undef,undef,rfl,fun h=>absurd h (by decide),fun h=>absurd h (by decide),fun h=>absurd h (by decide),fun h=>absurd h (by decide),fun h=>absurd h (by decide)⟩
 case steps=>
  refine ParSteps.cons rfl (fun D a1 w' hu hd hI hS K' hK G hG=>?_) (ParSteps.cons rfl (fun D a1 w' hu hd hI hS K' hK G hG=>?_) (ParSteps.cons rfl (fun D a1 w' hu hd hI hS K' hK G hG=>?_) (ParSteps.cons rfl (fun D a1 w' hu hd hI hS K' hK G hG=>?_) (ParSteps.cons rfl (fun D a1 w' hu hd hI hS K' hK G hG=>?_) ParSteps.nil))))
  ·
   obtain ⟨HW,HC,v11,v14,v16,v17,v9,ha,h0,h3,h5,h6,h7⟩:=hI;rw[ha] at hG;clear ha a1;have u0:=dn_un hu;have u3:dn D 3=false:=by cases e:dn D 3;rfl;have:=HC.o.1 e;rw[u0] at this;cases this
   have HU:=ax u3;have U6:aJ (dn D 6=false):=by show _=_;cases e:dn D 6;rfl;have:=(HC.o.2 e).1;rw[u3] at this;cases this
   clear u0 u3;refine hG ?_;clear hG hd;(try simp only[zz]);go_simp;have hB2:Below w.heap.size w (w'.alloc (.cells #[] tF)):=HW.o.1.alloc HW.o.1.size _;have hBw:Below w'.heap.size w' (w'.alloc (.cells #[] tF)):=bbox (Below.refl _ _) _;refine hK.out _ _ ⟨(HW.o.2.1.alloc _).cell,(HW.o.2.2.1.alloc _).cell⟩ ⟨⟨hB2,HW.o.2.1.alloc _,HW.o.2.2.1.alloc _,HW.o.2.2.2.alloc _⟩,⟨fun h=>?_,fun h=>?_⟩,.slice (some ⟨w'.heap.size,0,none⟩) 0 0,v14,v16,v17,v9,rfl,?_,?_,?_,?_,?_⟩
   ·exact dn_self hu
   ·rw[dn_ne (by decide)] at h;rw[U6.o] at h;cases h
   ·exact fun _ _=>⟨⟨_,rfl⟩,(FactsO.empty w').bq HW.o.1.size⟩
   ·intro h;rw[dn_ne (by decide)] at h;rw[HU.o] at h;cases h
   ·intro h;rw[dn_ne (by decide)] at h;exact ⟨(h5.o h).1,(h5.o h).2.bz hBw⟩
   ·intro h;rw[dn_ne (by decide)] at h;rw[U6.o] at h;cases h
   ·intro h;rw[dn_ne (by decide)] at h;obtain ⟨g,e,hg,hk⟩:=h7.o h;exact ⟨g,e,hg,hk.alloc _⟩
  ·
   obtain ⟨HW,HC,v11,v14,v16,v17,v9,ha,h0,h3,h5,h6,h7⟩:=hI;rw[ha] at hG;clear ha a1;have u3:=dn_un hu;have t0:dn D 0=true:=hd ⟨0,.data⟩ (by simp) (by decide);obtain ⟨⟨y,rfl⟩,o⟩:=h0.o t0 u3;have HO:=ax o;have HU:=ax (And.intro u3 t0);have U6:aJ (dn D 6=false):=by show _=_;cases e:dn D 6;rfl;have:=(HC.o.2 e).1;rw[u3] at this;cases this
   clear u3 t0 o h0 hd;refine hG ?_;clear hG;(try simp only[zz]);rw[if_pos (by simp[Region.wanted])];refine wp_appFL2 (base:=w.heap.size) (xs:=[]) (ys:=a.facts) _ _ rfl rfl HO.o rfl (H1.o.bz HW.o.1) (by simp;omega) HW.o.1.size ?_;intro A' c' w2 o2 hg2 hB2;simp only[List.nil_append] at o2 ⊢;refine hK.out _ _ ⟨(Blk.zm (hg:=hg2) HW.o.2.1 HO.o.1 (by decide)).cell,(Blk.zm (hg:=hg2) HW.o.2.2.1 HO.o.1 (by decide)).cell⟩ ⟨⟨HW.o.1.trans hB2,Blk.zm (hg:=hg2) HW.o.2.1 HO.o.1 (by decide),Blk.zm (hg:=hg2) HW.o.2.2.1 HO.o.1 (by decide),Blk.zm (hg:=hg2) HW.o.2.2.2 HO.o.1 (by decide)⟩,⟨fun h=>?_,fun h=>?_⟩,.slice (some ⟨y,0,none⟩) 0 0,.slice A' a.facts.length c',v16,v17,v9,rfl,?_,?_,?_,?_,?_⟩
   ·rw[dn_ne (by decide)];exact HU.o.2
   ·rw[dn_ne (by decide)] at h;rw[U6.o] at h;cases h
   ·intro _ h;rw[dn_self hu] at h;cases h
   ·exact fun _=>⟨⟨A',c',rfl⟩,o2⟩
   ·intro h;rw[dn_ne (by decide)] at h;exact ⟨(h5.o h).1,AtomsO.grownF (h5.o h).2 HO.o hg2⟩
   ·intro h;rw[dn_ne (by decide)] at h;rw[U6.o] at h;cases h
   ·intro h;rw[dn_ne (by decide)] at h;obtain ⟨g,e,hg,hk⟩:=h7.o h;exact ⟨g,e,hg,Blk.zm (hg:=hg2) hk HO.o.1 (by decide)⟩
  ·
   obtain ⟨HW,HC,v11,v14,v16,v17,v9,ha,h0,h3,h5,h6,h7⟩:=hI;rw[ha] at hG;clear ha a1;have u5:=dn_un hu;have U6:aJ (dn D 6=false):=by show _=_;cases e:dn D 6;rfl;have:=(HC.o.2 e).2;rw[u5] at this;cases this
   clear u5;refine hG ?_;clear hG hd;(try simp only[zz]);go_simp;have hB2:Below w.heap.size w (w'.alloc (.cells #[.int .i64 x.kind,.int .i64 x.a,.int .i64 x.b] tA)):=HW.o.1.alloc HW.o.1.size _;have hBw:Below w'.heap.size w' (w'.alloc (.cells #[.int .i64 x.kind,.int .i64 x.a,.int .i64 x.b] tA)):=bbox (Below.refl _ _) _;refine hK.out _ _ ⟨(HW.o.2.1.alloc _).cell,(HW.o.2.2.1.alloc _).cell⟩ ⟨⟨hB2,HW.o.2.1.alloc _,HW.o.2.2.1.alloc _,HW.o.2.2.2.alloc _⟩,⟨fun h=>?_,fun h=>?_⟩,v11,v14,.slice (some ⟨w'.heap.size,0,none⟩) 1 1,v17,v9,rfl,?_,?_,?_,?_,?_⟩
   ·rw[dn_ne (by decide)] at h ⊢;exact HC.o.1 h
   ·rw[dn_ne (by decide)] at h;rw[U6.o] at h;cases h
   ·intro h h';rw[dn_ne (by decide)] at h h';exact ⟨(h0.o h h').1,(h0.o h h').2.bz hBw⟩
   ·intro h;rw[dn_ne (by decide)] at h;exact ⟨(h3.o h).1,(h3.o h).2.bz hBw⟩
   ·exact fun _=>⟨⟨_,rfl⟩,AtomsO.oneN2 w' x HW.o.1.size⟩
   ·intro h;rw[dn_ne (by decide)] at h;rw[U6.o] at h;cases h
   ·intro h;rw[dn_ne (by decide)] at h;obtain ⟨g,e,hg,hk⟩:=h7.o h;exact ⟨g,e,hg,hk.alloc _⟩
  ·
   obtain ⟨HW,HC,v11,v14,v16,v17,v9,ha,h0,h3,h5,h6,h7⟩:=hI;rw[ha] at hG;clear ha a1;have t3:dn D 3=true:=hd ⟨3,.data⟩ (by simp) (by decide);have t5:dn D 5=true:=hd ⟨5,.data⟩ (by simp) (by decide);have HT2:=ax (And.intro t3 t5);obtain ⟨⟨A,c,rfl⟩,o3⟩:=h3.o t3;obtain ⟨⟨y,rfl⟩,o5⟩:=h5.o t5;have HO3:=ax o3;have HO5:=ax o5;clear t3 t5 hd o3 o5 h3 h5;refine hG ?_;clear hG;(try simp only[zz]);go_simp;refine hK.out _ _ hS ⟨HW.o,⟨fun h=>?_,fun h=>?_⟩,v11,.slice A a.facts.length c,.slice (some ⟨y,0,none⟩) 1 1,.agg #[.slice A a.facts.length c,.slice (some ⟨y,0,none⟩) 1 1],v9,rfl,?_,?_,?_,?_,?_⟩
   ·rw[dn_ne (by decide)] at h ⊢;exact HC.o.1 h
   ·rw[dn_ne (by decide),dn_ne (by decide)];exact HT2.o
   ·intro h h';rw[dn_ne (by decide)] at h h';exact h0.o h h'
   ·exact fun _=>⟨⟨_,_,rfl⟩,HO3.o⟩
   ·exact fun _=>⟨⟨_,rfl⟩,HO5.o⟩
   ·exact fun _=>rfl
   ·intro h;rw[dn_ne (by decide)] at h;exact h7.o h
  ·
   obtain ⟨HW,HC,v11,v14,v16,v17,v9,ha,h0,h3,h5,h6,h7⟩:=hI;rw[ha] at hG;clear ha a1;refine hG ?_;clear hG hd;(try simp only[zz]);go_simp;have hB2:Below w.heap.size w (w'.alloc (.cells #[.slice none 0 0,.slice none 0 0] tAs)):=HW.o.1.alloc HW.o.1.size _;have hBw:Below w'.heap.size w' (w'.alloc (.cells #[.slice none 0 0,.slice none 0 0] tAs)):=bbox (Below.refl _ _) _;have hlt:=HW.o.2.2.2.lt;refine hK.out _ _ ⟨(HW.o.2.1.alloc _).cell,(HW.o.2.2.1.alloc _).cell⟩ ⟨⟨hB2,HW.o.2.1.alloc _,HW.o.2.2.1.alloc _,HW.o.2.2.2.alloc _⟩,⟨fun h=>?_,fun h=>?_⟩,v11,v14,v16,v17,.pointer (some ⟨w'.heap.size,0,none⟩),rfl,?_,?_,?_,?_,?_⟩
   ·rw[dn_ne (by decide)] at h ⊢;exact HC.o.1 h
   ·rw[dn_ne (by decide)] at h;rw[dn_ne (by decide),dn_ne (by decide)];exact HC.o.2 h
   ·intro h h';rw[dn_ne (by decide)] at h h';exact ⟨(h0.o h h').1,(h0.o h h').2.bz hBw⟩
   ·intro h;rw[dn_ne (by decide)] at h;exact ⟨(h3.o h).1,(h3.o h).2.bz hBw⟩
   ·intro h;rw[dn_ne (by decide)] at h;exact ⟨(h5.o h).1,(h5.o h).2.bz hBw⟩
   ·intro h;rw[dn_ne (by decide)] at h;exact h6.o h
   ·exact fun _=>⟨_,rfl,hlt,Blk.new _ _ _⟩
 case fin=>
  rintro a1 w4 aH ⟨HW,-,v11,v14,v16,v17,v9,rfl,-,h3,h5,h6,h7⟩;obtain rfl:=h6.o (by decide);obtain ⟨⟨A,c,rfl⟩,o3⟩:=h3.o (by decide);obtain ⟨⟨B,rfl⟩,o5⟩:=h5.o (by decide);obtain ⟨g,rfl,hg,kg⟩:=h7.o (by decide);have HO3:=ax o3;have HO5:=ax o5;have hBf:=HW.o.1;have k4:=HW.o.2.1;have k14:=HW.o.2.2.1;have kr4:=HW.o.2.2.2;clear h3 h5 h6 h7 o3 o5 k0 k1 kr hB HW;(try simp only[zz]);(replace qk4:=k4.z;replace qkr4:=kr4.z;replace qkg:=kg.z);refine rdc 8 rfl fun K hK=>?_;(try simp only[zz]);go_simp;refine hK.out _ _ (⟨((k4.far (p:=⟨g,0,none⟩) (by simp only;omega) _).far (p:=⟨g,1,none⟩) (by simp only;omega) _).cell,((k14.far (p:=⟨g,0,none⟩) (by simp only;omega) _).far (p:=⟨g,1,none⟩) (by simp only;omega) _).cell⟩) ?_;clear aH hK K;intro aH;(try simp only[zz]);refine dn1 ?_;have kg2:Blk ((w4.setCell ⟨g,0,none⟩ (.slice A a.facts.length c)).setCell ⟨g,1,none⟩ (.slice (some ⟨B,0,none⟩) 1 1)) g tAs #[.slice A a.facts.length c,.slice (some ⟨B,0,none⟩) 1 1]:=by simpa using (kg.set_ 0 (.slice A a.facts.length c)).set_ 1 (.slice (some ⟨B,0,none⟩) 1 1)
  have hB5:Below w.heap.size w ((w4.setCell ⟨g,0,none⟩ (.slice A a.facts.length c)).setCell ⟨g,1,none⟩ (.slice (some ⟨B,0,none⟩) 1 1)):=(hBf.setCell (p:=⟨g,0,none⟩) (by simp only;omega) _).setCell (p:=⟨g,1,none⟩) (by simp only;omega) _;have k5:=(k4.far (p:=⟨g,0,none⟩) (by simp only;omega) (.slice A a.facts.length c)).far (p:=⟨g,1,none⟩) (by simp only;omega) (.slice (some ⟨B,0,none⟩) 1 1);have kr5:=(kr4.far (p:=⟨g,0,none⟩) (by simp only;omega) (.slice A a.facts.length c)).far (p:=⟨g,1,none⟩) (by simp only;omega) (.slice (some ⟨B,0,none⟩) 1 1);have HF5:=ax ((HO3.o.setT kg (by decide) 0 (.slice A a.facts.length c)).setT (kg.set_ 0 _) (by decide) 1 (.slice (some ⟨B,0,none⟩) 1 1));have HA5:=ax ((HO5.o.setT kg (by decide) 0 (.slice A a.facts.length c)).setT (kg.set_ 0 _) (by decide) 1 (.slice (some ⟨B,0,none⟩) 1 1));clear HO3 HO5 hBf k4 k14 kr4 kg qk4 qkr4 qkg;generalize ((w4.setCell ⟨g,0,none⟩ (.slice A a.facts.length c)).setCell ⟨g,1,none⟩ (.slice (some ⟨B,0,none⟩) 1 1))=w5 at kg2 hB5 k5 kr5 HF5 HA5 ⊢;have HB5:=ax hB5;clear hB5;(go_wp2_with fail)
  go_loopw [10] (fun n wr=>∃ (j:Nat) (xs:List Atm) (A3:Option Addr) (c3:Nat),j≤a.atoms.length∧n=.int .i64 j∧xs.length≤j+1∧aJ (xs=[x]++wo a.atoms i k j)∧aJ (FactsO wr w.heap.size (.slice A a.facts.length c) a.facts)∧aJ (AtomsO wr w.heap.size (.slice A3 xs.length c3) xs)∧
   Blk wr w.heap.size tAs #[.slice A1 a.facts.length c1,.slice A2 a.atoms.length c2]∧Blk wr (w.heap.size+2) tAs #[.slice none 0 0,.slice none 0 0]∧Blk wr g tAs #[.slice A a.facts.length c,.slice A3 xs.length c3]∧aJ (Below w.heap.size w wr)) (fun n _=>a.atoms.length - (intOf n).toNat)
  case atStart=>exact ⟨0,[x],some ⟨B,0,none⟩,1,Nat.zero_le _,rfl,Nat.le_refl _,(by show _=_;rfl),HF5.o,HA5.o,k5,kr5,kg2,HB5.o⟩
  case round=>
   clear k5 kr5 kg2 HF5 HA5 HB5;obtain ⟨j,xs,A3,c3,hj,rfl,hxl,HXS,HF,HA,k0,kr,kg,HB⟩:=hrel;(replace qk0:=k0.z;replace qkr:=kr.cell;replace rkr:=kr.frozen;replace lkr:=kr.lt;replace qkg:=kg.z);have hsz:=HB.o.size;by_cases hlt:j<a.atoms.length
   ·have HX:=ax (H2.o.bz HB.o);obtain ⟨b,off,rfl,hbl⟩:=HX.o.blt hlt;have hji:(j:Int)<(a.atoms.length:Int):=by omega
    by_cases e1:(j:Int)=i
    ·have HXN:aJ (xs=[x]++wo a.atoms i k (j+1)):=ax (by rw[HXS.o,wo_skip (Or.inl e1)]);have e1':((j:Int) != i)=false:=by simpa using e1
     clear e1;(go_wp2_with fail)
     go_round
     case rel=>exact ⟨j+1,xs,A3,c3,by omega,by go_num,by omega,HXN,HF,HA,k0,kr,kg,HB⟩
     case measure=>simp[intOf];omega
    ·have e1':((j:Int) != i)=true:=by simpa using e1
     have HE1:=ax e1;clear e1;by_cases e2:(j:Int)=k
     ·have HXN:aJ (xs=[x]++wo a.atoms i k (j+1)):=ax (by rw[HXS.o,wo_skip (Or.inr e2)]);have e2':((j:Int) != k)=false:=by simpa using e2
      clear e2;(go_wp2_with fail)
      go_round
      case rel=>exact ⟨j+1,xs,A3,c3,by omega,by go_num,by omega,HXN,HF,HA,k0,kr,kg,HB⟩
      case measure=>simp[intOf];omega
     ·have HXN:aJ (xs++[a.atoms[j]]=[x]++wo a.atoms i k (j+1)):=ax (by rw[HXS.o,wo_take hlt HE1.o e2,List.append_assoc]);have e2':((j:Int) != k)=true:=by simpa using e2
      clear e2;(go_wp2_with fail);refine wp_region_noPanic ?_;refine wp_region_last' (S:=(fun w'=>(∀ i,w'.cell? ⟨g,i,none⟩=#[.slice A a.facts.length c,.slice A3 xs.length c3][i]?)∧(∀ i,w'.cell? ⟨w.heap.size,i,none⟩=#[.slice A1 a.facts.length c1,.slice (some ⟨b,off,none⟩) a.atoms.length c2][i]?)∧w'.cell? ⟨b,off+j * 3,none⟩=some (.int .i64 a.atoms[j].kind)∧w'.cell? ⟨b,off+j * 3+1,none⟩=some (.int .i64 a.atoms[j].a)∧w'.cell? ⟨b,off+j * 3+2,none⟩=some (.int .i64 a.atoms[j].b))) (by simp) (by kernel_rfl) (by kernel_rfl) (⟨Blk.cell blks,Blk.cell blks,(AtomsV.bz HX.o bel).cl hlt⟩) (fun aH=>?_);simp only[List.dropLast,List.getLast,nopOf,List.cons_append,List.nil_append,List.length_cons,List.length_nil,Nat.zero_add,Nat.reduceAdd];refine tk2 0 rfl aH (h:=tk2 1 rfl aH (h:=tk2 2 rfl aH (h:=?_)));(try simp only[zz]);refine tk2 3 rfl aH (h:=tk2 4 rfl aH (h:=tk2 5 rfl aH (h:=?_)));(try simp only[zz]);refine tk2 6 rfl aH (h:=?_);refine rdc 7 rfl fun K hK=>?_;(try simp only[zz]);go_simp;refine hK.out _ _ (⟨Blk.cell blks,Blk.cell blks,(AtomsV.bz HX.o bel).cl hlt⟩) ?_;clear aH hK K;intro aH;(try simp only[zz]);have hBX:Below w.heap.size w (wr.alloc (.cells #[.int .i64 a.atoms[j].kind,.int .i64 a.atoms[j].a,.int .i64 a.atoms[j].b] tA)).drew:=(Below.alloc HB.o hsz _).drew;have HAX:=ax (HA.o.bz (((Below.refl wr.heap.size wr).alloc (Nat.le_refl _) (.cells #[.int .i64 a.atoms[j].kind,.int .i64 a.atoms[j].a,.int .i64 a.atoms[j].b] tA)).drew));have HFX:=ax (HF.o.bz (((Below.refl wr.heap.size wr).alloc (Nat.le_refl _) (.cells #[.int .i64 a.atoms[j].kind,.int .i64 a.atoms[j].a,.int .i64 a.atoms[j].b] tA)).drew));have kl:=(Blk.new wr tA #[.int .i64 a.atoms[j].kind,.int .i64 a.atoms[j].a,.int .i64 a.atoms[j].b]).drew;have kgX:=(kg.alloc (.cells #[.int .i64 a.atoms[j].kind,.int .i64 a.atoms[j].a,.int .i64 a.atoms[j].b] tA)).drew;have k0X:=(k0.alloc (.cells #[.int .i64 a.atoms[j].kind,.int .i64 a.atoms[j].a,.int .i64 a.atoms[j].b] tA)).drew;have krX:=(kr.alloc (.cells #[.int .i64 a.atoms[j].kind,.int .i64 a.atoms[j].a,.int .i64 a.atoms[j].b] tA)).drew;clear kg k0 kr HA HF HX qk0 qkg qkr rkr lkr;generalize (wr.alloc (.cells #[.int .i64 a.atoms[j].kind,.int .i64 a.atoms[j].a,.int .i64 a.atoms[j].b] tA)).drew=V at hBX HAX HFX kl kgX k0X krX aH ⊢;have hszV:=hBX.size;generalize wr.heap.size=L at kl ⊢;clear hsz hbl HB;refine rdc 8 rfl fun K hK=>?_;skip;(refine stepAL (base:=w.heap.size) (xs:=xs) (ys:=[a.atoms[j]]) rfl _ _ rfl rfl HAX.o rfl (AtomsV.one' kl) (by simp;omega) hszV ?_;intro A' d' w2 of2 hg2 hB3;have z2:=Blk.zm (hg:=hg2) kgX HAX.o.1 (by decide);have z0:=Blk.zm (hg:=hg2) k0X HAX.o.1 (by decide);have hBw2:Below w.heap.size w w2:=hBX.trans hB3);refine hK.out _ _ (⟨z2.cell,z0.cell,(H2.o.bz hBw2).cl hlt⟩) ?_;clear aH hK K;intro aH;(try simp only[zz]);have rz2:=z2.frozen;have lz2:=z2.lt;refine tk2 9 rfl aH (h:=?_);(try simp only[zz]);refine rdc 10 rfl fun K hK=>?_;go_simp;refine hK.out _ _ (⟨z2.cell,z0.cell,(H2.o.bz hBw2).cl hlt⟩) (fun aH=>?_);clear hK K;refine wpAnyH_done (by kernel_rfl) ?_ _;unfold lastQ;go_simp;refine NoPanic.normal ?_;have zr:=Blk.zm (hg:=hg2) krX HAX.o.1 (by decide);(go_wp2_with fail);have of3:=of2.setT z2 (by decide) 1 (.slice A' (xs.length+1) d')
      go_round
      case rel=>exact ⟨j+1,xs++[a.atoms[j]],A',d',by omega,by go_num,by simp;omega,HXN,(FactsO.grownA HFX.o HAX.o hg2).setT z2 (by decide) _ _,of3,z0.far (by simp only[];omega) _,zr.far (by simp only[];omega) _,(by have:=z2.set_ 1 (.slice A' (xs.length+1) d');simpa using this),hBw2.setCell (p:=⟨g,1,none⟩) (by simp only;omega) _⟩
      case measure=>simp[intOf];omega
   ·obtain rfl:j=a.atoms.length:=by omega
    have hne:g≠w.heap.size+2:=by omega
    (go_wp2_with fail);refine bodyPost_ret (v:=.agg #[.slice A a.facts.length c,.slice A3 xs.length c3]) (by simp[results,Tryz.results225,go_sem,qkr]) rfl ⟨_,rfl,⟨_,_,rfl,?_,?_⟩,?_⟩
    ·exact (HF.o.setT kr (by decide) 0 _).setT (kr.set_ 0 _) (by decide) 1 _
    ·rw[HXS.o] at HA ⊢;exact (HA.o.setT kr (by decide) 0 _).setT (kr.set_ 0 _) (by decide) 1 _
    ·exact (HB.o.setCell (p:=⟨w.heap.size+2,0,none⟩) (by simp only;omega) _).setCell (p:=⟨w.heap.size+2,1,none⟩) (by simp only;omega) _
end
section
open Go Go.RowKit Go.Proofs
structure Fr (g:Nat) (w w':World):Prop where
 os:w'.os=w.os
 tape:w'.tape=w.tape
 output:w'.output=w.output
 size:w.heap.size≤w'.heap.size
 block:∀ k,k<w.heap.size→k≠g→w'.heap[k]? = w.heap[k]?
section
variable {g:Nat} {w a b c:World}
theorem Fr.refl (g:Nat) (w:World):Fr g w w:=⟨rfl,rfl,rfl,Nat.le_refl _,fun _ _ _=>rfl⟩
theorem Fr.trans (h:Fr g a b) (k:Fr g b c):Fr g a c:=
 ⟨k.os.trans h.os,k.tape.trans h.tape,k.output.trans h.output,Nat.le_trans h.size k.size,fun i h1 h2=>(k.block i (Nat.lt_of_lt_of_le h1 h.size) h2).trans (h.block i h1 h2)⟩
theorem Fr.ofBelow (h:Below a.heap.size a b):Fr g a b:=⟨h.os,h.tape,h.output,h.size,fun k h1 _=>h.block k h1⟩
theorem Fr.go (h:Fr g a b) (k:Below b.heap.size b c):Fr g a c:=h.trans (.ofBelow k)
theorem Fr.alloc (h:Fr g a b) (o:Obj):Fr g a (b.alloc o):=h.go (bbox (Below.refl _ _) o)
theorem Fr.drew (h:Fr g a b):Fr g a b.drew:=h.go (Below.refl _ _).drew
theorem Fr.set_ (h:Fr g a b) {p:Addr} (hp:p.block=g∨a.heap.size≤p.block) (u:Value):Fr g a (b.setCell p u):=
 ⟨h.os,h.tape,h.output,by have:=h.size;simp;exact this,fun k h1 h2=>(Below.heap_setCell b p u k (by rcases hp with e|e<;>omega)).trans (h.block k h1 h2)⟩
theorem Fr.bz {B:Nat} (h:Fr g a b) (hg:B≤g) (hB:B≤a.heap.size):Below B a b:=⟨h.os,h.tape,h.output,h.size,fun k hk=>h.block k (by omega) (by omega)⟩
theorem Blk.fr {x:Nat} {t:TypeId} {cs:Array Value} (h:Blk a x t cs) (hf:Fr g a b) (hx:x≠g):Blk b x t cs:=(hf.block x h.lt hx).trans h
theorem Rw.fr {lo hi size n:Nat} {A:Option Addr} {xs:List Value} (h:Rw a lo hi size A n xs) (hf:Fr g a b) (hg:g<lo∨hi≤g):Rw b lo hi size A n xs:=
 ⟨h.1,fun hn=>by
  obtain ⟨k,o,e,h1,h2,hc⟩:=h.2 hn;have h0:=h.1;have hx:xs[0]? = some (xs[0]'(by omega)):=List.getElem?_eq_getElem (by omega);have hlt:k<a.heap.size:=block_lt_of_cell (hc 0 _ hx)
  exact ⟨k,o,e,h1,h2,fun j u hu=>(World.cell?_of_block (a:=⟨k,o+j,none⟩) (hf.block k hlt (by omega))).trans (hc j u hu)⟩⟩
theorem Rd.fr {lo hi size n:Nat} {A:Option Addr} {xs:List Value} (h:Rd a lo hi size A n xs) (hf:Fr g a b) (hg:g<lo∨hi≤g):Rd b lo hi size A n xs:=⟨h.raw.fr hf hg,h.lim⟩
theorem own_fr {base:Nat} {e:TypeId} {size:Nat} {v:Value} {n:Nat} {xs:List Value} (h:a.ownsRow base e size v n xs) (hf:Fr g a b) (hg:g<base):b.ownsRow base e size v n xs:=by
 obtain ⟨h1,h2⟩:=h;refine ⟨h1,?_⟩;rcases h2 with h2|⟨k,cap,cur,hv,hk,hh,r⟩
 ·exact Or.inl h2
 ·exact Or.inr ⟨k,cap,cur,hv,hk,(hf.block k (Blk.lt hh) (by omega)).trans hh,r⟩
variable {base:Nat} {v:Value}
theorem FactsO.fr {fs:List Fct} (h:FactsO a base v fs) (hf:Fr g a b) (hg:g<base):FactsO b base v fs:=⟨own_fr h.1 hf hg,h.2⟩
theorem AtomsO.fr {fs:List Atm} (h:AtomsO a base v fs) (hf:Fr g a b) (hg:g<base):AtomsO b base v fs:=⟨own_fr h.1 hf hg,h.2⟩
theorem IntsO.fr {fs:List Int} (h:IntsO a base v fs) (hf:Fr g a b) (hg:g<base):IntsO b base v fs:=⟨own_fr h.1 hf hg,h.2⟩
theorem AsnO.fr {x:Asn} (h:AsnO a base v x) (hf:Fr g a b) (hg:g<base):AsnO b base v x:=by
 obtain ⟨fv,av,e,h1,h2⟩:=h;exact ⟨fv,av,e,h1.fr hf hg,h2.fr hf hg⟩
end
theorem c_l3Copy {lo hi:Nat} (v:Value) (a:Asn) (w:World) (h:AsnV w lo hi v a) :
  Calls Tryz.prog 124 #[v] w fun e w'=>∃ r,e=.returned r∧AsnO w' w.heap.size r a∧Below w.heap.size w w':=by
 have hV:=ax h;obtain ⟨A1,c1,A2,c2,rfl,h1,h2⟩:=h;have HL:=ax (And.intro h1.le h2.le);clear h1 h2;have e0:aJ (starA a ⟨[],[]⟩=a):=by show _=_;simp[starA]
 (go_enter Tryz.func124,Tryz.ntmps124);have kr:Blk ((w.alloc (.cells #[.slice A1 a.facts.length c1,.slice A2 a.atoms.length c2] 37)).alloc (.cells #[.slice none 0 0,.slice none 0 0] 37)) (w.heap.size+1) 37 #[.slice none 0 0,.slice none 0 0]:=blks;(go_wp2_with fail);refine (c_spec_l3Star _ _ a ⟨[],[]⟩ _ (hV.o.bz bel) (⟨none,0,none,0,rfl,Rd.nil _ 0 0 _ _,Rd.nil _ 0 0 _ _⟩) (by simpa using HL.o.1) (by simpa using HL.o.2)).mono ?_;rintro e w1 ⟨r,rfl,o,hB1⟩;have hB:=bgo (w:=w) bel hB1;replace kr:=kr.nz hB1;rw[e0.o] at o;replace o:=o.bq (base':=w.heap.size) (by simp;omega);obtain ⟨fv,av,rfl,o1,o2⟩:=o;obtain ⟨F,e1,rfl,-⟩:=o1.rj;obtain ⟨G,e2,rfl,-⟩:=o2.rj;have O1:=ax o1;have O2:=ax o2;(replace qkr:=kr.cell;replace rkr:=kr.frozen;replace lkr:=kr.lt);clear o1 o2 hB1;(go_wp2_with fail);refine bodyPost_ret (v:=.agg #[.slice F a.facts.length e1,.slice G a.atoms.length e2]) (by simp[results,Tryz.results124,go_sem,qkr]) rfl ⟨_,rfl,⟨_,_,rfl,?_,?_⟩,bel⟩
 ·exact (O1.o.setT kr (by decide) 0 _).setT (kr.set_ 0 _) (by decide) 1 _
 ·exact (O2.o.setT kr (by decide) 0 _).setT (kr.set_ 0 _) (by decide) 1 _
end
section
open Go Go.RowKit Go.Proofs
attribute [local go_sem ↓] Go.wp_at_zero Go.wp_at_succ
theorem BoolsO.openI {w:World} {base:Nat} {A:Option Addr} {n c k:Nat} {fs:List Bool} (h:BoolsO w base (.slice A n c) fs) (hk:k<fs.length):∃ g cur,n=fs.length∧A=some ⟨g,0,none⟩∧base≤g∧Blk w g tB cur∧cur[k]? = some (.bool fs[k])∧
  (∀ v:Bool,BoolsO (w.setCell ⟨g,k,none⟩ (.bool v)) base (.slice A n c) (fs.set k v)):=by
 obtain ⟨⟨hl,h2⟩,hL⟩:=h;rcases h2 with ⟨e,hn⟩|⟨g,cap,cur,e,hb,hh,hn,hm,hs,ht⟩
 ·omega
 ·injection e with e1 e2 e3;subst e1 e2 e3;have hK:Blk w g tB cur:=hh
  have hP:Pre cur (encB fs) (fs.length * 1):=by
   intro j hj;rw[←ht,List.getElem?_take,if_pos hj];simp
  refine ⟨g,cur,rfl,rfl,hb,hK,(hP _ (by omega)).trans (by simp[List.getElem?_eq_getElem hk]),?_⟩;intro v;refine ⟨?_,by rw[List.length_set];exact hL⟩;rw[show encB (fs.set k v)=(encB fs).set k (.bool v) from by simp[encB,List.map_set],List.length_set];exact own_of_blk (hK.set_ k (.bool v)) hb (by rw[List.length_set,hl]) (hP.setL k (.bool v) (by rw[hs];exact Nat.mul_le_mul hn (Nat.le_refl _)) (by rw[hl];exact Nat.le_refl _)) hn hm (by simpa using hs)
theorem rowB_ {B:Nat} {w w':World} (h:Below B w w') {g:Nat} (hg:g<B) {cs:Array Value} (hc:∀ i,w.cell? ⟨g,i,none⟩=cs[i]?):∀ i,w'.cell? ⟨g,i,none⟩=cs[i]?:=fun i=>(h.cell (p:=⟨g,i,none⟩) hg).trans (hc i)
theorem c_spec_Implies {lo hi:Nat} (v:Value) (a:Asn) (f:Fct) (w:World) (h:AsnV w lo hi v a) :
  Calls Tryz.prog 304 #[v,f.val] w fun e w'=>e=.returned (.bool (impB a f))∧Below w.heap.size w w':=by
 have hV:=ax h;obtain ⟨A1,c1,A2,c2,rfl,h1,h2⟩:=h;have H1:=ax h1;have H2:=ax h2;have HE:aJ (impB a f=(a.valid&&f.valid&&(cases a (caseS a (factS f))).all (Fct.fits · f))):=ax rfl;obtain ⟨fe,fa,fb⟩:=f;clear h1 h2;(go_enter Tryz.func304,Tryz.ntmps304);have k0:Blk ((w.alloc (.cells #[.slice A1 a.facts.length c1,.slice A2 a.atoms.length c2] tAs)).alloc (.cells #[.bool fe,.int .i64 fa,.int .i64 fb] tF)) w.heap.size tAs #[.slice A1 a.facts.length c1,.slice A2 a.atoms.length c2]:=blks;have k1:Blk ((w.alloc (.cells #[.slice A1 a.facts.length c1,.slice A2 a.atoms.length c2] tAs)).alloc (.cells #[.bool fe,.int .i64 fa,.int .i64 fb] tF)) (w.heap.size+1) tF #[.bool fe,.int .i64 fa,.int .i64 fb]:=blks;have hB0:aJ (Below w.heap.size w ((w.alloc (.cells #[.slice A1 a.facts.length c1,.slice A2 a.atoms.length c2] tAs)).alloc (.cells #[.bool fe,.int .i64 fa,.int .i64 fb] tF))):=ax bel;have hs0:((w.alloc (.cells #[.slice A1 a.facts.length c1,.slice A2 a.atoms.length c2] tAs)).alloc (.cells #[.bool fe,.int .i64 fa,.int .i64 fb] tF)).heap.size=w.heap.size+2:=by simp
 (go_wp2_with fail);generalize ((w.alloc (.cells #[.slice A1 a.facts.length c1,.slice A2 a.atoms.length c2] tAs)).alloc (.cells #[.bool fe,.int .i64 fa,.int .i64 fb] tF))=W at k0 k1 hB0 hs0 ⊢;refine (vz _ a _ (hV.o.bz hB0.o)).mono ?_;rintro e w1 ⟨rfl,hB1⟩;replace k0:=k0.nz hB1;replace k1:=k1.nz hB1;have hB:aJ (Below w.heap.size w w1):=ax (bgo hB0.o hB1);have hz1:=hB1.size;clear hB1 hB0;(replace qk0:=k0.z;replace qk1:=k1.z);cases hv:a.valid
 ·(go_wp2_with fail);go_ret;exact ⟨zjD (by rw[HE.o,hv];rfl),hB.o⟩
 have HV:=ax hv;clear hv;(go_wp2_with fail);refine (c_spec_FactValid ⟨fe,fa,fb⟩ _).mono ?_;rintro e w2 ⟨rfl,hB2⟩;replace k0:=k0.nz hB2;replace k1:=k1.nz hB2;replace hB:aJ (Below w.heap.size w w2):=ax (bgo hB.o hB2);have hz2:=hB2.size;clear hB2 qk0 qk1;(replace qk0:=k0.z;replace qk1:=k1.z);cases hf:Fct.valid ⟨fe,fa,fb⟩
 ·(go_wp2_with fail);go_ret;exact ⟨zjD (by rw[HE.o,hf];simp),hB.o⟩
 have HFO:=Fct.valid_ok hf;have HSEEK:=ax (imp_seek (f:=⟨fe,fa,fb⟩) HV.o hf);have HE2:aJ (impB a ⟨fe,fa,fb⟩=(seek ⟨a.facts++[Fct.mk (!fe) fa fb],a.atoms⟩ ((tset (mz a)|||1 <<< fa.toNat)|||1 <<< fb.toNat) 8 opened).isEmpty):=ax (by rw[HE.o,HV.o,hf,HSEEK.o];rfl)
 have HOK:aJ (FactsOk (a.facts++[Fct.mk (!fe) fa fb])∧AtomsOk a.atoms):=ax ⟨fun g hg=>by
  rw[List.mem_append,List.mem_singleton] at hg;rcases hg with hg|rfl
  ·exact (Asn.valid_ok HV.o).1 g hg
  ·exact HFO,(Asn.valid_ok HV.o).2⟩
 have hvl:=zjC HV.o;have HVL:aJ ((a.facts++[Fct.mk (!fe) fa fb]).length≤40∧a.atoms.length≤6):=ax ⟨by simp;omega,hvl.2⟩;have hfl:a.facts.length+1≤1049600:=by omega
 clear hf HSEEK HE hvl;simp only at HFO;obtain ⟨⟨ha0,ha8⟩,hb0,hb8⟩:=HFO;obtain ⟨na,rfl⟩:∃ n:Nat,fa=(n:Int):=⟨fa.toNat,by omega⟩;obtain ⟨nb,rfl⟩:∃ n:Nat,fb=(n:Int):=⟨fb.toNat,by omega⟩;have hna:na<9:=by omega
 have hnb:nb<9:=by omega
 have hnai:(na:Int)<9:=by omega
 have hnbi:(nb:Int)<9:=by omega
 have HT:=ax (termsL_ok HV.o);rw[show ((na:Int)).toNat=na from rfl,show ((nb:Int)).toNat=nb from rfl] at HE2;clear ha0 ha8 hb0 hb8;(go_wp2_with fail);refine (c_spec_l3Terms _ a _ (hV.o.bz hB.o) HT.o).mono ?_;rintro e w3 ⟨r3,rfl,o3,hB3⟩;obtain ⟨Tb,ct,rfl,-⟩:=o3.rj;rw[zjB] at o3 ⊢;obtain ⟨S0,hS0⟩:∃ S0,S0=tset (mz a):=⟨_,rfl⟩;rw[←hS0] at o3 HE2;replace k0:=k0.nz hB3;replace k1:=k1.nz hB3;replace hB:aJ (Below w.heap.size w w3):=ax (bgo hB.o hB3);have hz3:=hB3.size;clear hB3 hS0 qk0 qk1 HT;obtain ⟨g,cur,-,rfl,hg,kg,hc,hset⟩:=o3.openI (k:=na) (by rw[zjB];exact hna);have qg:=kg.cell na;rw[hc] at qg;have fg:=kg.frozen na;have lg:=kg.lt;have hg0:=k0.ne_ kg (by decide);have hg1:=k1.ne_ kg (by decide);have O4:=ax (hset true);have hlg:w2.heap.size≤g:=hg;clear hset hc;(replace qk0:=k0.z;replace qk1:=k1.z);(go_upto_region 5 with fail);rw[flagsOf_set] at O4;replace k0:=k0.far (p:=⟨g,na,none⟩) hg0 (.bool true);replace k1:=k1.far (p:=⟨g,na,none⟩) hg1 (.bool true);replace hB:aJ (Below w.heap.size w (w3.setCell ⟨g,na,none⟩ (.bool true))):=ax (hB.o.setCell (p:=⟨g,na,none⟩) (by simp only;omega) _);have hz4:(w3.setCell ⟨g,na,none⟩ (.bool true)).heap.size=w3.heap.size:=by simp
 clear qg fg kg qk0 qk1 o3;generalize (w3.setCell ⟨g,na,none⟩ (.bool true))=W4 at k0 k1 hB hz4 O4 ⊢;obtain ⟨g',cur',-,eg,-,kg,hc,hset⟩:=O4.o.openI (k:=nb) (by rw[zjB];exact hnb);injection eg with eg;injection eg with eg;subst eg;have qg:=kg.cell nb;rw[hc] at qg;have fg:=kg.frozen nb;have O5:=ax (hset true);clear hset hc;(replace qk0:=k0.z;replace qk1:=k1.z);(go_upto_region 6 with fail);rw[flagsOf_set] at O5;obtain ⟨S1,hS1⟩:∃ S1,S1=(S0|||1 <<< na)|||1 <<< nb:=⟨_,rfl⟩;rw[←hS1] at O5 HE2;replace k0:=k0.far (p:=⟨g,nb,none⟩) hg0 (.bool true);replace k1:=k1.far (p:=⟨g,nb,none⟩) hg1 (.bool true);replace hB:aJ (Below w.heap.size w (W4.setCell ⟨g,nb,none⟩ (.bool true))):=ax (hB.o.setCell (p:=⟨g,nb,none⟩) (by simp only;omega) _);have hz5:(W4.setCell ⟨g,nb,none⟩ (.bool true)).heap.size=W4.heap.size:=by simp
 clear qg fg kg qk0 qk1 O4 hS1;generalize (W4.setCell ⟨g,nb,none⟩ (.bool true))=W5 at k0 k1 hB hz5 O5 ⊢;have T5:=ax (O5.o.rj);clear O5;(replace qk0:=k0.z;replace qk1:=k1.z);(go_upto_region 7 with fail);have hbx:Below W5.heap.size W5 (W5.alloc (.cells #[.bool !fe,.int .i64 na,.int .i64 nb] tF)):=bbox (Below.refl _ _) _;have kn:Blk (W5.alloc (.cells #[.bool !fe,.int .i64 na,.int .i64 nb] tF)) W5.heap.size tF #[.bool !fe,.int .i64 na,.int .i64 nb]:=Blk.new _ _ _;replace k0:=k0.nz hbx;have HB6:=ax (bgo hB.o hbx);have hz6:(W5.alloc (.cells #[.bool !fe,.int .i64 na,.int .i64 nb] tF)).heap.size=W5.heap.size+1:=by simp
 have T6:aJ (BoolsV (W5.alloc (.cells #[.bool !fe,.int .i64 na,.int .i64 nb] tF)) w2.heap.size W5.heap.size (some ⟨g,0,none⟩) (zj S1)):=ax (by
  obtain ⟨A,c,e,h⟩:=T5.o;injection e with e;subst e
  exact h.bz hbx)
 clear T5 hB hbx k1 qk0 qk1;have h53:W5.heap.size=w3.heap.size:=by omega
 obtain ⟨xn,hxn⟩:∃ x,x=w3.heap.size:=⟨_,rfl⟩;rw[h53,←hxn] at kn hz6;rw[←hxn];generalize (W5.alloc (.cells #[.bool !fe,.int .i64 na,.int .i64 nb] tF))=W6 at k0 kn HB6 hz6 T6 ⊢;have hln:xn<W6.heap.size:=by omega
 have hz56:W5.heap.size≤W6.heap.size:=by omega
 clear hxn h53 hz6;have hl0:=k0.lt;have hwW:w.heap.size≤W6.heap.size:=HB6.o.size;have HATM:=ax (fun (W:World) (hb:Below w.heap.size w W)=>(show AtomsV W 0 (hi+W.heap.size) A2 a.atoms from (H2.o.bz hb).mono (Nat.zero_le _) (by omega)))
 go_cut [7,8] (fun s7 s8 wc=>s8=.bool (!(seek ⟨a.facts++[Fct.mk (!fe) na nb],a.atoms⟩ S1 8 opened).isEmpty)∧aJ (Below w.heap.size w wc))
 case first=>
  (go_wp2_with fail);refine wp_region_noPanic ?_;refine wp_region_held_drew (S:=(fun w'=>(∀ i,w'.cell? ⟨w.heap.size,i,none⟩=#[.slice A1 a.facts.length c1,.slice A2 a.atoms.length c2][i]?)∧(∀ i,w'.cell? ⟨xn,i,none⟩=#[.bool !fe,.int .i64 na,.int .i64 nb][i]?))) (by kernel_rfl) (⟨k0.cell,kn.cell⟩) (fun aH=>?_);refine tk2 1 rfl aH (h:=tk2 2 rfl aH (h:=tk2 4 rfl aH (h:=?_)));(try simp only[zz]);refine tk2 7 rfl aH (h:=tk2 8 rfl aH (h:=tk2 10 rfl aH (h:=?_)));(try simp only[zz]);refine rdd 0 5 rfl rfl (fun K hK=>?_) fun K hK=>?_
  ·skip;(try simp only[zz]);go_simp;refine hK.out _ _ ⟨(rowB_ (show Below W6.heap.size W6 _ from bel) (by omega) k0.cell),(rowB_ (show Below W6.heap.size W6 _ from bel) (by omega) kn.cell)⟩ ?_;clear aH hK K;intro aH;have hE:aJ (FactsO (W6.drew.alloc (.cells #[] tF)) W6.heap.size (.slice (some ⟨W6.heap.size,0,none⟩) 0 0) []):=ax (FactsO.empty W6.drew);have hbE:Below W6.heap.size W6 (W6.drew.alloc (.cells #[] tF)):=bel;have HBE:=ax (HB6.o.trans (hbE.mono hwW));have TE:=ax (T6.o.bz hbE);have kE0:=k0.nz hbE;have kEn:=kn.nz hbE;have zE:(W6.drew.alloc (.cells #[] tF)).heap.size=W6.heap.size+1:=by simp
   refine rdd 3 5 rfl rfl (fun K hK=>?_) fun K hK=>?_
   ·skip;refine stepFL (ys:=a.facts) (base:=W6.heap.size) rfl _ _ rfl rfl hE.o rfl (H1.o.bz (HBE.o)) (by simpa using Nat.le_of_succ_le hfl) (by first|omega|(simp;done)|(simp;omega)) ?_;intro A3 c3 w3x o3 hg3 hB3;have kc0:=kE0.bz hB3 (by omega);have kcn:=kEn.bz hB3 (by omega);have HBc0:=ax (HBE.o.trans (hB3.mono hwW));have Tc0:=ax (show BoolsV w3x w2.heap.size W5.heap.size (some ⟨g,0,none⟩) (zj S1) from Rd.keep TE.o fun b h1 h2=>hB3.block b (by omega));have z3x:=hg3.size;simp only[World.size_alloc,World.size_drew] at z3x;have O3:=ax o3;clear hg3 hB3 o3;refine hK.out _ _ ⟨kc0.cell,kcn.cell⟩ ?_;clear aH hK K;intro aH;refine rdc 5 rfl fun K hK=>?_;(try simp only[zz]);go_simp;refine hK.out _ _ (⟨(rowB_ (show Below w3x.heap.size w3x _ from bel) (by omega) kc0.cell),(rowB_ (show Below w3x.heap.size w3x _ from bel) (by omega) kcn.cell)⟩) ?_;clear aH hK K;intro aH;(try simp only[zz]);have hbL:Below w3x.heap.size w3x (w3x.alloc (.cells #[.bool !fe,.int .i64 na,.int .i64 nb] tF)):=bbox (Below.refl _ _) _;have k0c:=kc0.nz hbL;have knc:=kcn.nz hbL;have HBc:=ax (bgo HBc0.o hbL);have Tc:=ax (Tc0.o.bz hbL);have OF:=ax (O3.o.bz hbL);have KL:Blk (w3x.alloc (.cells #[.bool !fe,.int .i64 na,.int .i64 nb] tF)) w3x.heap.size tF #[.bool !fe,.int .i64 na,.int .i64 nb]:=Blk.new _ _ _;clear hbL;refine rdc 6 rfl fun K hK=>?_;skip;(refine stepFL (ys:=[Fct.mk (!fe) na nb]) (base:=W6.heap.size) rfl _ _ rfl rfl OF.o rfl (FactsV.one (f:=Fct.mk (!fe) na nb) KL) (by simpa using hfl) (by first|omega|(simp;done)|(simp;omega)) ?_;intro A6 c6 w6 o6 hg6 hB6;have ka:=k0c.bz hB6 hl0;have kb:=knc.bz hB6 hln;have HB7:=ax (HBc.o.trans (hB6.mono hwW));have T7:=ax (show BoolsV w6 w2.heap.size W5.heap.size (some ⟨g,0,none⟩) (zj S1) from Rd.keep Tc.o fun b h1 h2=>hB6.block b (by omega));have O6:=ax o6;have z6:=hg6.size;clear o6 hg6 hB6);refine hK.out _ _ (⟨ka.cell,kb.cell⟩) ?_;clear aH hK K;intro aH;(try simp only[zz]);refine tk2 9 rfl aH (h:=?_);refine rdc 11 rfl fun K hK=>?_;(try simp only[zz]);(go_simp;refine (c_spec_l5Open _).mono ?_;rintro e w7 ⟨r7,rfl,o7,hB7⟩;obtain ⟨C7,d7,rfl,f7⟩:=o7.rj;have kc:=ka.nz hB7;have kd:=kb.nz hB7;have HB8:=ax (bgo HB7.o hB7);have T8:=ax (T7.o.bz hB7);have O8:=ax (O6.o.bz hB7);have F8:=ax f7;have z7:=hB7.size;clear hB7 o7 f7);refine hK.out _ _ (⟨kc.cell,kd.cell⟩) ?_;clear aH hK K;intro aH;refine rdc 12 rfl fun K hK=>?_;(try simp only[zz]);(go_simp;have hA8:AsnV w7 0 (hi+w7.heap.size) (.agg #[.slice A6 (a.facts++[Fct.mk (!fe) na nb]).length c6,.slice A2 a.atoms.length c2]) ⟨a.facts++[Fct.mk (!fe) na nb],a.atoms⟩:=⟨_,_,_,_,rfl,O8.o.readsI.2.mono (Nat.zero_le _) (by omega),(HATM.o _ HB8.o)⟩;have hcall:=c_spec_l5FirstG (a:=⟨a.facts++[Fct.mk (!fe) na nb],a.atoms⟩) (S:=S1) (some ⟨g,0,none⟩) ct HOK HVL 8 opened C7 d7 _ _ w7 (by omega) rfl (openedB.2 _) openedB.1 hA8 T8.o F8.o;simp only[List.length_append,List.length_cons,List.length_nil,Nat.zero_add] at hcall;refine hcall.mono ?_;rintro e w8 ⟨r8,rfl,o8,hB8⟩;have ke:=kc.nz hB8;have kf:=kd.nz hB8;have HB9:=ax (bgo HB8.o hB8);clear hB8 o8 hcall hA8);refine hK.out _ _ (⟨ke.cell,kf.cell⟩) ?_;clear aH hK K;intro aH;(try simp only[zz]);refine tk2 13 rfl aH (h:=tk2 14 rfl aH (h:=tk2 15 rfl aH (h:=?_)));refine rdc 16 rfl fun K hK=>?_;(try simp only[zz]);go_simp;refine hK.out _ _ (⟨ke.cell,kf.cell⟩) ?_;clear aH hK K;intro aH;refine rdc 17 rfl fun K hK=>?_;(try simp only[zz]);go_simp;refine hK.out _ _ (⟨ke.cell,kf.cell⟩) ?_;clear aH hK K;intro aH;(try simp only[zz]);refine dn1 ?_;(go_wp2_with fail);go_meet
    case rel=>exact ⟨rfl,HB9⟩
   ·skip;(try simp only[zz]);go_simp;refine hK.out _ _ ⟨(rowB_ (show Below W6.heap.size W6 _ from bel) (by omega) k0.cell),(rowB_ (show Below W6.heap.size W6 _ from bel) (by omega) kn.cell)⟩ ?_;clear aH hK K;intro aH;have hbL:Below (W6.drew.alloc (.cells #[] tF)).heap.size (W6.drew.alloc (.cells #[] tF)) ((W6.drew.alloc (.cells #[] tF)).alloc (.cells #[.bool !fe,.int .i64 na,.int .i64 nb] tF)):=bbox (Below.refl _ _) _;have kL:=Blk.new (W6.drew.alloc (.cells #[] tF)) tF #[.bool !fe,.int .i64 na,.int .i64 nb];have kL0:=kE0.nz hbL;have kLn:=kEn.nz hbL;have HBL:=ax (bgo HBE.o hbL);have TL:=ax (TE.o.bz hbL);have hL:=ax (hE.o.bz hbL);refine rdc 3 rfl fun K hK=>?_;skip;(refine stepFL (ys:=a.facts) (base:=W6.heap.size) rfl _ _ rfl rfl hL.o rfl (H1.o.bz (HBL.o)) (by simpa using Nat.le_of_succ_le hfl) (by first|omega|(simp;done)|(simp;omega)) ?_;intro A3 c3 w3x o3 hg3 hB3;have k0c:=kL0.bz hB3 (by omega);have knc:=kLn.bz hB3 (by omega);have HBc:=ax (HBL.o.trans (hB3.mono hwW));have Tc:=ax (show BoolsV w3x w2.heap.size W5.heap.size (some ⟨g,0,none⟩) (zj S1) from Rd.keep TL.o fun b h1 h2=>hB3.block b (by omega));have KL:=kL.grown hg3 (fun e=>by have e2:(W6.drew.alloc (.cells #[] tF)).heap.size=W6.heap.size:=Option.some.inj e;simp only[World.size_alloc,World.size_drew] at e2;omega);have z3x:=hg3.size;have OF:=ax o3;clear hg3 hB3 o3);refine hK.out _ _ (⟨k0c.cell,knc.cell⟩) ?_;clear aH hK K;intro aH;(try simp only[zz]);simp only[World.size_alloc,World.size_drew] at KL z3x;refine rdc 6 rfl fun K hK=>?_;skip;(refine stepFL (ys:=[Fct.mk (!fe) na nb]) (base:=W6.heap.size) rfl _ _ rfl rfl OF.o rfl (FactsV.one (f:=Fct.mk (!fe) na nb) KL) (by simpa using hfl) (by first|omega|(simp;done)|(simp;omega)) ?_;intro A6 c6 w6 o6 hg6 hB6;have ka:=k0c.bz hB6 hl0;have kb:=knc.bz hB6 hln;have HB7:=ax (HBc.o.trans (hB6.mono hwW));have T7:=ax (show BoolsV w6 w2.heap.size W5.heap.size (some ⟨g,0,none⟩) (zj S1) from Rd.keep Tc.o fun b h1 h2=>hB6.block b (by omega));have O6:=ax o6;have z6:=hg6.size;clear o6 hg6 hB6);refine hK.out _ _ (⟨ka.cell,kb.cell⟩) ?_;clear aH hK K;intro aH;(try simp only[zz]);refine tk2 9 rfl aH (h:=?_);refine rdc 11 rfl fun K hK=>?_;(try simp only[zz]);(go_simp;refine (c_spec_l5Open _).mono ?_;rintro e w7 ⟨r7,rfl,o7,hB7⟩;obtain ⟨C7,d7,rfl,f7⟩:=o7.rj;have kc:=ka.nz hB7;have kd:=kb.nz hB7;have HB8:=ax (bgo HB7.o hB7);have T8:=ax (T7.o.bz hB7);have O8:=ax (O6.o.bz hB7);have F8:=ax f7;have z7:=hB7.size;clear hB7 o7 f7);refine hK.out _ _ (⟨kc.cell,kd.cell⟩) ?_;clear aH hK K;intro aH;refine rdc 12 rfl fun K hK=>?_;(try simp only[zz]);(go_simp;have hA8:AsnV w7 0 (hi+w7.heap.size) (.agg #[.slice A6 (a.facts++[Fct.mk (!fe) na nb]).length c6,.slice A2 a.atoms.length c2]) ⟨a.facts++[Fct.mk (!fe) na nb],a.atoms⟩:=⟨_,_,_,_,rfl,O8.o.readsI.2.mono (Nat.zero_le _) (by omega),(HATM.o _ HB8.o)⟩;have hcall:=c_spec_l5FirstG (a:=⟨a.facts++[Fct.mk (!fe) na nb],a.atoms⟩) (S:=S1) (some ⟨g,0,none⟩) ct HOK HVL 8 opened C7 d7 _ _ w7 (by omega) rfl (openedB.2 _) openedB.1 hA8 T8.o F8.o;simp only[List.length_append,List.length_cons,List.length_nil,Nat.zero_add] at hcall;refine hcall.mono ?_;rintro e w8 ⟨r8,rfl,o8,hB8⟩;have ke:=kc.nz hB8;have kf:=kd.nz hB8;have HB9:=ax (bgo HB8.o hB8);clear hB8 o8 hcall hA8);refine hK.out _ _ (⟨ke.cell,kf.cell⟩) ?_;clear aH hK K;intro aH;(try simp only[zz]);refine tk2 13 rfl aH (h:=tk2 14 rfl aH (h:=tk2 15 rfl aH (h:=?_)));refine rdc 16 rfl fun K hK=>?_;(try simp only[zz]);go_simp;refine hK.out _ _ (⟨ke.cell,kf.cell⟩) ?_;clear aH hK K;intro aH;refine rdc 17 rfl fun K hK=>?_;(try simp only[zz]);go_simp;refine hK.out _ _ (⟨ke.cell,kf.cell⟩) ?_;clear aH hK K;intro aH;(try simp only[zz]);refine dn1 ?_;(go_wp2_with fail);go_meet
    case rel=>exact ⟨rfl,HB9⟩
  ·skip;(try simp only[zz]);go_simp;refine hK.out _ _ ⟨(rowB_ (show Below W6.heap.size W6 _ from bel) (by omega) k0.cell),(rowB_ (show Below W6.heap.size W6 _ from bel) (by omega) kn.cell)⟩ ?_;clear aH hK K;intro aH;have kL:=Blk.new W6.drew tF #[.bool !fe,.int .i64 na,.int .i64 nb];refine rdc 0 rfl fun K hK=>?_;(try simp only[zz]);go_simp;refine hK.out _ _ (⟨(rowB_ (show Below W6.heap.size W6 _ from bel) (by omega) k0.cell),(rowB_ (show Below W6.heap.size W6 _ from bel) (by omega) kn.cell)⟩) ?_;clear aH hK K;intro aH;(try simp only[zz]);have hbE:Below W6.heap.size W6 ((W6.drew.alloc (.cells #[.bool !fe,.int .i64 na,.int .i64 nb] tF)).alloc (.cells #[] tF)):=bel;have kE0:=k0.nz hbE;have kEn:=kn.nz hbE;have kL2:=kL.alloc (.cells #[] tF);have HBE:=ax (HB6.o.trans (hbE.mono hwW));have TE:=ax (T6.o.bz hbE)
   have hE:aJ (FactsO ((W6.drew.alloc (.cells #[.bool !fe,.int .i64 na,.int .i64 nb] tF)).alloc (.cells #[] tF)) W6.heap.size (.slice (some ⟨W6.heap.size+1,0,none⟩) 0 0) []):=ax (by
    have:=(FactsO.empty (W6.drew.alloc (.cells #[.bool !fe,.int .i64 na,.int .i64 nb] tF))).bq (base':=W6.heap.size) (by simp)
    simpa using this)
   have zE:((W6.drew.alloc (.cells #[.bool !fe,.int .i64 na,.int .i64 nb] tF)).alloc (.cells #[] tF)).heap.size=W6.heap.size+2:=by simp
   refine rdc 3 rfl fun K hK=>?_;skip;(refine stepFL (ys:=a.facts) (base:=W6.heap.size) rfl _ _ rfl rfl hE.o rfl (H1.o.bz (HBE.o)) (by simpa using Nat.le_of_succ_le hfl) (by first|omega|(simp;done)|(simp;omega)) ?_;intro A3 c3 w3x o3 hg3 hB3;have k0c:=kE0.bz hB3 (by omega);have knc:=kEn.bz hB3 (by omega);have HBc:=ax (HBE.o.trans (hB3.mono hwW));have Tc:=ax (show BoolsV w3x w2.heap.size W5.heap.size (some ⟨g,0,none⟩) (zj S1) from Rd.keep TE.o fun b h1 h2=>hB3.block b (by omega));have KL:=kL2.grown hg3 (fun e=>by have e2:W6.heap.size=W6.heap.size+1:=Option.some.inj e;omega);have z3x:=hg3.size;have OF:=ax o3;clear hg3 hB3 o3);refine hK.out _ _ (⟨k0c.cell,knc.cell⟩) ?_;clear aH hK K;intro aH;(try simp only[zz]);simp only[World.size_alloc,World.size_drew] at z3x;simp only[World.size_drew] at KL;refine rdc 6 rfl fun K hK=>?_;skip;(refine stepFL (ys:=[Fct.mk (!fe) na nb]) (base:=W6.heap.size) rfl _ _ rfl rfl OF.o rfl (FactsV.one (f:=Fct.mk (!fe) na nb) KL) (by simpa using hfl) (by first|omega|(simp;done)|(simp;omega)) ?_;intro A6 c6 w6 o6 hg6 hB6;have ka:=k0c.bz hB6 hl0;have kb:=knc.bz hB6 hln;have HB7:=ax (HBc.o.trans (hB6.mono hwW));have T7:=ax (show BoolsV w6 w2.heap.size W5.heap.size (some ⟨g,0,none⟩) (zj S1) from Rd.keep Tc.o fun b h1 h2=>hB6.block b (by omega));have O6:=ax o6;have z6:=hg6.size;clear o6 hg6 hB6);refine hK.out _ _ (⟨ka.cell,kb.cell⟩) ?_;clear aH hK K;intro aH;(try simp only[zz]);refine tk2 9 rfl aH (h:=?_);refine rdc 11 rfl fun K hK=>?_;(try simp only[zz]);(go_simp;refine (c_spec_l5Open _).mono ?_;rintro e w7 ⟨r7,rfl,o7,hB7⟩;obtain ⟨C7,d7,rfl,f7⟩:=o7.rj;have kc:=ka.nz hB7;have kd:=kb.nz hB7;have HB8:=ax (bgo HB7.o hB7);have T8:=ax (T7.o.bz hB7);have O8:=ax (O6.o.bz hB7);have F8:=ax f7;have z7:=hB7.size;clear hB7 o7 f7);refine hK.out _ _ (⟨kc.cell,kd.cell⟩) ?_;clear aH hK K;intro aH;refine rdc 12 rfl fun K hK=>?_;(try simp only[zz]);(go_simp;have hA8:AsnV w7 0 (hi+w7.heap.size) (.agg #[.slice A6 (a.facts++[Fct.mk (!fe) na nb]).length c6,.slice A2 a.atoms.length c2]) ⟨a.facts++[Fct.mk (!fe) na nb],a.atoms⟩:=⟨_,_,_,_,rfl,O8.o.readsI.2.mono (Nat.zero_le _) (by omega),(HATM.o _ HB8.o)⟩;have hcall:=c_spec_l5FirstG (a:=⟨a.facts++[Fct.mk (!fe) na nb],a.atoms⟩) (S:=S1) (some ⟨g,0,none⟩) ct HOK HVL 8 opened C7 d7 _ _ w7 (by omega) rfl (openedB.2 _) openedB.1 hA8 T8.o F8.o;simp only[List.length_append,List.length_cons,List.length_nil,Nat.zero_add] at hcall;refine hcall.mono ?_;rintro e w8 ⟨r8,rfl,o8,hB8⟩;have ke:=kc.nz hB8;have kf:=kd.nz hB8;have HB9:=ax (bgo HB8.o hB8);clear hB8 o8 hcall hA8);refine hK.out _ _ (⟨ke.cell,kf.cell⟩) ?_;clear aH hK K;intro aH;(try simp only[zz]);refine tk2 13 rfl aH (h:=tk2 14 rfl aH (h:=tk2 15 rfl aH (h:=?_)));refine rdc 16 rfl fun K hK=>?_;(try simp only[zz]);go_simp;refine hK.out _ _ (⟨ke.cell,kf.cell⟩) ?_;clear aH hK K;intro aH;refine rdc 17 rfl fun K hK=>?_;(try simp only[zz]);go_simp;refine hK.out _ _ (⟨ke.cell,kf.cell⟩) ?_;clear aH hK K;intro aH;(try simp only[zz]);refine dn1 ?_;(go_wp2_with fail);go_meet
   case rel=>exact ⟨rfl,HB9⟩
 case rest=>
  obtain ⟨rfl,HB9⟩:=hcut;rw[←HE2.o];(go_wp2_with fail);go_ret;exact ⟨zjD (by simp),HB9.o⟩
theorem c_l10Equal {lo hi:Nat} (v:Value) (a:Asn) (x y:Int) (w:World) (h:AsnV w lo hi v a):Calls Tryz.prog 294 #[v,.int .i64 x,.int .i64 y] w fun e w'=>e=.returned (.bool (impB a ⟨true,x,y⟩))∧Below w.heap.size w w':=by
 have hV:=ax h;obtain ⟨A1,c1,A2,c2,rfl,-⟩:=h;(go_enter Tryz.func294,Tryz.ntmps294);(go_wp2_with fail);refine (c_spec_Implies _ a ⟨true,x,y⟩ _ (hV.o.bz bel)).mono ?_;rintro e w1 ⟨rfl,hB1⟩;have hB:=bgo (w:=w) bel hB1;(go_wp2_with fail);go_ret;exact ⟨rfl,hB⟩
theorem c_l10Front {lo hi:Nat} (v:Value) (a:Asn) (x:Atm) (i:Nat) (w:World) (h:AsnV w lo hi v a) (hv:a.valid=true) (hi':i<a.atoms.length) :
  Calls Tryz.prog 295 #[v,.agg #[.int .i64 x.kind,.int .i64 x.a,.int .i64 x.b],.int .i64 i] w fun e w'=>∃ F d G g,e=.returned (.agg #[.slice F a.facts.length d,.slice G a.atoms.length g])∧AsnO w' w.heap.size (.agg #[.slice F a.facts.length d,.slice G a.atoms.length g]) ⟨a.facts,[x]++zv a.atoms i⟩∧Below w.heap.size w w':=by
 have hV:=ax h;obtain ⟨A1,c1,A2,c2,rfl,-⟩:=h;have hvl:=zjC hv;have hwl:([x]++zv a.atoms i).length=a.atoms.length:=by have:=withoutL_len hi';simp;omega
 have HW:=ax hwl;have HE:=ax (wo_one hi');clear hv hwl;(go_enter Tryz.func295,Tryz.ntmps295);have kr:Blk (((w.alloc (.cells #[.slice A1 a.facts.length c1,.slice A2 a.atoms.length c2] tAs)).alloc (.cells #[.int .i64 x.kind,.int .i64 x.a,.int .i64 x.b] tA)).alloc (.cells #[.slice none 0 0,.slice none 0 0] tAs)) (w.heap.size+2) tAs #[.slice none 0 0,.slice none 0 0]:=blks;(go_wp2_with fail);refine (c_l6WithoutF _ a i i x _ (hV.o.bz bel) (by omega) (by omega)).mono ?_;rw[HE.o];rintro e w1 ⟨r,rfl,o,hB1⟩;have hB:=bgo (w:=w) bel hB1;replace kr:=kr.nz hB1;clear hB1;obtain ⟨fv,av,rfl,o1,o2⟩:=o;obtain ⟨F,d,rfl,-⟩:=o1.rj;obtain ⟨G,g,rfl,-⟩:=o2.rj;simp only[HW.o] at o2 ⊢;have O1:=ax (o1.bq (base':=w.heap.size) (by simp;omega));have O2:=ax (o2.bq (base':=w.heap.size) (by simp;omega));clear o1 o2;(replace qkr:=kr.cell;replace rkr:=kr.frozen;replace lkr:=kr.lt);(go_wp2_with fail);refine bodyPost_ret (v:=.agg #[.slice F a.facts.length d,.slice G a.atoms.length g]) (by simp[results,Tryz.results295,go_sem,qkr]) rfl ⟨F,d,G,g,rfl,⟨_,_,rfl,?_,?_⟩,bel⟩
 ·exact (O1.o.setT kr (by decide) 0 _).setT (kr.set_ 0 _) (by decide) 1 _
 ·exact (O2.o.setT kr (by decide) 0 _).setT (kr.set_ 0 _) (by decide) 1 _
theorem c_l10Know {lo hi:Nat} (v:Value) (a:Asn) (x t:Int) (w:World) (h:AsnV w lo hi v a) (hl:a.facts.length≤1000) :
  Calls Tryz.prog 292 #[v,.int .i64 x,.int .i64 t] w fun e w'=>∃ F d G g,e=.returned (.agg #[.slice F (a.facts.length+1) d,.slice G a.atoms.length g])∧AsnO w' w.heap.size (.agg #[.slice F (a.facts.length+1) d,.slice G a.atoms.length g]) ⟨a.facts++[⟨true,x,t⟩],a.atoms⟩∧Below w.heap.size w w':=by
 have hV:=ax h;obtain ⟨A1,c1,A2,c2,rfl,-⟩:=h;(go_enter Tryz.func292,Tryz.ntmps292);have kr:Blk ((w.alloc (.cells #[.slice A1 a.facts.length c1,.slice A2 a.atoms.length c2] tAs)).alloc (.cells #[.slice none 0 0,.slice none 0 0] tAs)) (w.heap.size+1) tAs #[.slice none 0 0,.slice none 0 0]:=blks;(go_wp2_with fail);refine (c_l3Copy _ a _ (hV.o.bz bel)).mono ?_;rintro e w1 ⟨r,rfl,o,hB1⟩;have hB:=bgo (w:=w) bel hB1;replace kr:=kr.nz hB1;have hs1:w.heap.size+2≤w1.heap.size:=by have:=hB1.size;simp at this;omega
 clear hB1;obtain ⟨fv,av,rfl,o1,o2⟩:=o;obtain ⟨F,d,rfl,-⟩:=o1.rj;obtain ⟨G,g,rfl,-⟩:=o2.rj;have O1:=ax (o1.bq (base':=w.heap.size) (by simp;omega));have O2:=ax (o2.bq (base':=w.heap.size) (by simp;omega));have HB:=ax hB;clear o1 o2 hB;(go_upto_region 2 with fail);have ko:Blk (w1.alloc (.cells #[.slice F a.facts.length d,.slice G a.atoms.length g] tAs)) w1.heap.size tAs #[.slice F a.facts.length d,.slice G a.atoms.length g]:=Blk.new _ _ _;replace kr:=kr.alloc (.cells #[.slice F a.facts.length d,.slice G a.atoms.length g] tAs);replace O1:=ax (O1.o.bz (bbox (Below.refl _ _) (.cells #[.slice F a.facts.length d,.slice G a.atoms.length g] tAs)));replace O2:=ax (O2.o.bz (bbox (Below.refl _ _) (.cells #[.slice F a.facts.length d,.slice G a.atoms.length g] tAs)));replace HB:=ax (bbox HB.o (.cells #[.slice F a.facts.length d,.slice G a.atoms.length g] tAs));have hsw:w1.heap.size<(w1.alloc (.cells #[.slice F a.facts.length d,.slice G a.atoms.length g] tAs)).heap.size:=by simp
 generalize (w1.alloc (.cells #[.slice F a.facts.length d,.slice G a.atoms.length g] tAs))=W at ko kr O1 O2 HB hsw ⊢;obtain ⟨y,hy⟩:∃ y,y=w1.heap.size:=⟨_,rfl⟩;rw[←hy] at ko hs1 hsw ⊢;clear hy;(replace qko:=ko.z;replace qkr:=kr.cell;replace rkr:=kr.frozen;replace lkr:=kr.lt);(go_wp2_with (at_builtin;refine appFL (ys:=[⟨true,x,t⟩]) (base:=w.heap.size) rfl _ _ rfl rfl (O1.o.bz bel) rfl (FactsV.one (f:=⟨true,x,t⟩) (Blk.new W tF _)) (by simp;omega) (by simp;omega) ?_;intro A6 c6 w6 o6 hg6 hB6;have kO:=O1.o.bz (w':=W.alloc (.cells #[.bool true,.int .i64 x,.int .i64 t] tF)) bel;have ko6:=Blk.zm (hg:=hg6) (ko.alloc _) kO.1 (by decide);have kr6:=Blk.zm (hg:=hg6) (kr.alloc _) kO.1 (by decide);have O26:aJ (AtomsO w6 w.heap.size (.slice G a.atoms.length g) a.atoms):=ax ⟨own_grownO (O2.o.bz (w':=W.alloc (.cells #[.bool true,.int .i64 x,.int .i64 t] tF)) bel).1 kO.1 hg6 (by decide),O2.o.2⟩;have HB6:aJ (Below w.heap.size w w6):=ax ((bbox HB.o _).trans hB6);have O16:=ax o6;clear hB6 hg6 o6 kO qko qkr rkr lkr;(replace qko6:=ko6.z;replace qkr6:=kr6.cell;replace rkr6:=kr6.frozen;replace lkr6:=kr6.lt)));simp only[List.length_append,List.length_cons,List.length_nil,Nat.zero_add] at O16 ⊢;refine bodyPost_ret (v:=.agg #[.slice A6 (a.facts.length+1) c6,.slice G a.atoms.length g]) (by simp[results,Tryz.results292,go_sem,qkr6]) rfl ⟨A6,c6,G,g,rfl,⟨_,_,rfl,?_,?_⟩,?_⟩
 ·have kr7:=kr6.far (p:=⟨y,0,none⟩) (by simp only;omega) (.slice A6 (a.facts.length+1) c6);exact ((O16.o.setT ko6 (by decide) 0 _).setT kr7 (by decide) 0 _).setT (kr7.set_ 0 _) (by decide) 1 _
 ·have kr7:=kr6.far (p:=⟨y,0,none⟩) (by simp only;omega) (.slice A6 (a.facts.length+1) c6);exact ((O26.o.setT ko6 (by decide) 0 _).setT kr7 (by decide) 0 _).setT (kr7.set_ 0 _) (by decide) 1 _
 ·exact ((HB6.o.setCell (p:=⟨y,0,none⟩) (by simp only;omega) _).setCell (p:=⟨w.heap.size+1,0,none⟩) (by simp only;omega) _).setCell (p:=⟨w.heap.size+1,1,none⟩) (by simp only;omega) _
theorem c_l10New {lo hi lo' hi':Nat} (v:Value) (a:Asn) (B:Option Addr) (c K:Nat) (w:World) (h:AsnV w lo hi v a) (h':BoolsV w lo' hi' B (zj K)) (hv:a.valid=true) :
  Calls Tryz.prog 303 #[v,.slice B 9 c] w fun e w'=>e=.returned (.tuple #[.int .i64 (unusedI (tset (mz a)|||K)),.bool (newT (tset (mz a)|||K)).isSome])∧Below w.heap.size w w':=by
 have hV:=ax h;have HT:=ax (termsL_ok hv);have h'':=ax h';obtain ⟨pb,ob,rfl,lpb⟩:=flags_addr h';obtain ⟨A1,c1,A2,c2,rfl,h1,h2⟩:=h;clear hv h1 h2;(go_enter Tryz.func303,Tryz.ntmps303);(go_wp2_with fail);refine (c_spec_l3Terms _ a _ (hV.o.bz bel) HT.o).mono ?_;rintro e w1 ⟨r,rfl,oT,hB1⟩;have hB:=bgo (w:=w) bel hB1;have fC:=h''.o.bz hB;generalize hTe:tset (mz a)=T at oT;have HTE:=ax hTe;clear hTe;obtain ⟨Tb,ct,rfl,fT⟩:=oT.rj;rw[zjB];obtain ⟨pt,ot,rfl,lpt⟩:=flags_addr fT;clear hB1 oT h' h'';(go_wp2_with fail)
 go_loop [7] (fun i=>∃ k:Nat,5≤k∧k≤9∧i=.int .i64 k∧aJ (∀ j,5≤j→j<k→(T|||K).testBit j=true)) (fun i=>10 - (intOf i).toNat)
 case atStart=>exact ⟨5,by omega,by omega,rfl,ax fun j h1 h2=>by omega⟩
 case round=>
  obtain ⟨k,h5,h9,rfl,HA⟩:=hrel;by_cases hlt:k<9
  ·have hki:(k:Int)≤8:=by omega
   have f1:=flags_at fT (m:=k) (by omega);have f2:=flags_at fC (m:=k) (by omega);have k9:(k:Int)<9:=by omega
   have HBit:aJ ((T|||K).testBit k=(T.testBit k || K.testBit k)):=ax (Nat.testBit_or ..)
   have HN:aJ ((T|||K).testBit k=true→∀ j,5≤j→j<k+1→(T|||K).testBit j=true):=ax fun hb j h1 h2=>by
    by_cases e:j=k
    ·rw[e];exact hb
    ·exact HA.o j h1 (by omega)
   cases ht:T.testBit k
   ·cases hc:K.testBit k
    ·have E:=ax (newT_yes h5 (by omega) HA.o (by rw[HBit.o,ht,hc];rfl));rw[ht] at f1;rw[hc] at f2;clear ht hc HA HN HBit;(go_wp2_with fail);go_ret2;exact ⟨by unfold unusedI;rw[HTE.o,E.o];rfl,hB⟩
    ·have HN2:=ax (HN.o (by rw[HBit.o,ht,hc];rfl));rw[ht] at f1;rw[hc] at f2;clear ht hc HA HN HBit;(go_wp2_with fail)
     go_round
     case rel=>exact ⟨k+1,by omega,by omega,by go_num,HN2⟩
     case measure=>simp[intOf];omega
   ·have HN2:=ax (HN.o (by rw[HBit.o,ht];rfl));rw[ht] at f1;clear ht HA HN HBit;(go_wp2_with fail)
    go_round
    case rel=>exact ⟨k+1,by omega,by omega,by go_num,HN2⟩
    case measure=>simp[intOf];omega
  ·obtain rfl:k=9:=by omega
   have E:=ax (newT_no (S:=T|||K) fun j h1 h2=>HA.o j h1 (by omega));(go_wp2_with fail);go_ret2;exact ⟨by unfold unusedI;rw[HTE.o,E.o];rfl,hB⟩
theorem AsnO.parts {w:World} {b:Nat} {f g:Value} {a:Asn} (h:AsnO w b (.agg #[f,g]) a):FactsO w b f a.facts∧AtomsO w b g a.atoms:=by
 obtain ⟨_,_,e,h1,h2⟩:=h;injection e with e;injection e with e;injection e with e1 e2;injection e2 with e2 e3;subst e1 e2;exact ⟨h1,h2⟩
section
variable {ops:Array Oper} {o:Oper} {a:Act} {K:Act→World→Prop} {Q:Exit→Act→World→Prop} {E:Prop} {w:World} {base lo hi c n m:Nat} {v:Value} {A:Option Addr}
theorem stepALm (hgd:o.guard=none) (s x:Operand) (ho:o.op=.call { callee:=.builtin .append,args:=#[s,x],argTypes:=#[35,35] })
  {xs ys zs:List Atm} (hs:a.eval s=v) (hown:AtomsO w base v xs) (hx:a.eval x=.slice A m c) (hm:m=ys.length) (hR:AtomsV w lo hi A ys) (hz:zs=xs++ys) (hn:n=zs.length) (hl:n≤1049600) (hb:base≤w.heap.size)
  (h:∀ A' c' w',AtomsO w' base (.slice A' n c') zs→w.grownBy w' v.ownBlock→Below base w w'→K (a.put o.dst (.slice A' n c')) w'):if Region.wanted o (yielded ops a.tmps)=true then Oper.wp Tryz.prog o a w K Q else E:=by
 subst hm hz hn;refine stepAL hgd s x ho hs hown hx hR (by rwa [List.length_append] at hl) hb h
end
def OpC (n:Nat) (a:Asn) (t:Int) (K:Nat):Prop:=∀ (lo hi lo' hi':Nat) (v:Value) (B:Option Addr) (c:Nat) (w:World),AsnC w lo hi v a→BoolsV w lo' hi' B (zj (tins K t))→a.facts.length≤1000→a.atoms.length≤1000→
 Calls Tryz.prog 271 #[v,.int .i64 t,.slice B 9 c,.int .i64 (n:Int)] w fun e w'=>∃ r vs l,e=.returned (.tuple #[r,.bool (exposeF n a t K).isSome])∧A2O w' w.heap.size r vs l∧l.length≤2 ^ n∧(exposeF n a t K=none∨exposeF n a t K=some l)∧Below w.heap.size w w'
def UnC (n:Nat) (a:Asn) (x:Atm) (i:Nat) (t:Int) (K:Nat):Prop:=∀ (lo hi lo' hi':Nat) (v:Value) (B:Option Addr) (c:Nat) (w:World),AsnC w lo hi v a→BoolsV w lo' hi' B (zj (tins K t))→
 Calls Tryz.prog 296 #[v,.int .i64 t,.slice B 9 c,.int .i64 ((n:Int)+1),.int .i64 i] w fun e w'=>∃ r vs l,e=.returned (.tuple #[r,.bool (listF n a x i t K).isSome])∧A2O w' w.heap.size r vs l∧l.length≤2 ^ (n+1)∧(listF n a x i t K=none∨listF n a x i t K=some l)∧Below w.heap.size w w'
theorem c_l10Unfold (n:Nat) (a:Asn) (x:Atm) (i:Nat) (t:Int) (Ks:Nat) (hv:a.valid=true) (hx:a.atoms[i]? = some x) (hn:n≤6)
  (HE:OpC n (emptyX a x i) t Ks) (HF:∀ m:Nat,OpC n (fullX a x i (m:Int)) t Ks):UnC n a x i t Ks:=by
 intro lo hi0 lo' hi' v B cB w h hB0;have hV:=ax h;have HFL:=ax hB0;obtain ⟨A1,c1,A2,c2,rfl,h1,h2,hcap⟩:=h;have hvl:=zjC hv;have HVa:=ax hv;obtain ⟨hi,hxe⟩:=List.getElem?_eq_some_iff.1 hx;have hwl:=withoutL_len hi;obtain ⟨b,o,rfl,-⟩:=h2.at hi;have HV2:=ax h2;have hii:(i:Int)<(a.atoms.length:Int):=by omega
 have hw:IntKind.i64.wrap ((i:Int)+1)=(i:Int)+1:=IntWalk.i64_in _ (by omega);have hs1:=sliceAh b o a.atoms.length c2 i (by omega);obtain ⟨A',hs2,hA'⟩:=sliceAl b o a.atoms.length c2 (i+1) (by omega) hcap
 push_cast at hs2
 have hT:=ax (h2.take_ (k:=i) (by omega))
 have hD:aJ (AtomsV w lo _ A' (a.atoms.drop (i+1))):=ax (by
  by_cases hlt:i+1<a.atoms.length
  ·rw[hA' (by omega)];exact h2.drop_ (by omega)
  ·rw[List.drop_eq_nil_of_le (by omega)]
   exact Rd.nil _ _ _ _ _)
 have HL1:aJ ((a.atoms.take i).length=i):=ax (by rw[List.length_take];omega);have HL2:aJ ((a.atoms.drop (i+1)).length=a.atoms.length - (i+1)):=ax List.length_drop;have HHi:=ax hi;have HEH:=ax HE;have HFH:=ax HF;have HN:=ax (Nat.pow_le_pow_right (show 0<2 from by decide) hn);have HX:=ax hxe;clear h1 h2 HE HF hx hv hB0 hA' hxe;(go_enter Tryz.func296,Tryz.ntmps296);have k0:Blk (w.alloc (.cells #[.slice A1 a.facts.length c1,.slice (some ⟨b,o,none⟩) a.atoms.length c2] tAs)) w.heap.size tAs #[.slice A1 a.facts.length c1,.slice (some ⟨b,o,none⟩) a.atoms.length c2]:=blks;have hs1':=ax hs1;have hs2':=ax hs2;have hw':=ax hw;clear hs1 hs2 hw;(go_wp2_with fail);refine (c_l10New _ a B cB (tins Ks t) _ (hV.o.V.bz bel) (HFL.o.bz bel) HVa.o).mono ?_;rintro e w1 ⟨rfl,hB1⟩;have HB:=ax (bgo (w:=w) bel hB1);replace k0:=k0.nz hB1;have hz1:w.heap.size+1≤w1.heap.size:=by have:=hB1.size;simp at this;omega
 clear hB1;cases hnt:newT (tset (mz a)|||tins Ks t)
 case none=>
  have E:=ax (list_none (n:=n) (x:=x) (i:=i) hnt);clear hnt;(go_wp2_with fail);go_ret2;exact ⟨_,[],[],by rw[E.o];rfl,(A2O.empty w1 rfl).bq (by omega),Nat.zero_le _,.inl E.o,bbox HB.o _⟩
 case some m=>
  have EI:unusedI (tset (mz a)|||tins Ks t)=(m:Int):=by unfold unusedI;rw[hnt]
  rw[EI];clear EI;have HNT:=ax hnt;clear hnt;(replace qk0:=k0.z);obtain ⟨b',o',hbo,g0,g1,g2⟩:=(HV2.o.bz HB.o).at HHi.o;injection hbo with hbo;injection hbo with hb1 hb2;subst hb1 hb2;rw[HX.o] at g0 g1 g2;(go_upto_region 5 with fail);clear qk0 g0 g1 g2;have hbq:=bbox (Below.refl w1.heap.size w1) (.cells #[.int .i64 x.kind,.int .i64 x.a,.int .i64 x.b] tA);have kx:Blk (w1.alloc (.cells #[.int .i64 x.kind,.int .i64 x.a,.int .i64 x.b] tA)) w1.heap.size tA #[.int .i64 x.kind,.int .i64 x.a,.int .i64 x.b]:=Blk.new _ _ _;replace k0:=k0.nz hbq;replace HB:=ax (bgo HB.o hbq);have hzw:(w1.alloc (.cells #[.int .i64 x.kind,.int .i64 x.a,.int .i64 x.b] tA)).heap.size=w1.heap.size+1:=by simp
  clear hbq;generalize w1.alloc (.cells #[.int .i64 x.kind,.int .i64 x.a,.int .i64 x.b] tA)=W1 at k0 kx HB hzw ⊢;obtain ⟨yx,hyx⟩:∃ y,y=w1.heap.size:=⟨_,rfl⟩;rw[←hyx] at kx hzw ⊢;have hyw:w.heap.size<yx:=by omega
  clear hyx hz1;(replace qk0:=k0.z);(go_wp2_with fail);refine (c_l3Copy _ a _ (hV.o.V.bz HB.o)).mono ?_;rintro e w2 ⟨r,rfl,oc,hB2⟩;obtain ⟨fv,av,rfl,o1,o2⟩:=oc;obtain ⟨F,d,rfl,-⟩:=o1.rj;obtain ⟨G,g,rfl,-⟩:=o2.rj;have O1:=ax (o1.bq (base':=w.heap.size) (by omega));clear o1 o2;replace k0:=k0.nz hB2;replace kx:=kx.nz hB2;replace HB:=ax (bgo HB.o hB2);have hz2:=hB2.size;clear hB2 qk0;(go_upto_region 6 with fail);have hbq:=bbox (Below.refl w2.heap.size w2) (.cells #[.slice F a.facts.length d,.slice G a.atoms.length g] tAs);have kE:Blk (w2.alloc (.cells #[.slice F a.facts.length d,.slice G a.atoms.length g] tAs)) w2.heap.size tAs #[.slice F a.facts.length d,.slice G a.atoms.length g]:=Blk.new _ _ _;replace k0:=k0.nz hbq;replace kx:=kx.nz hbq;replace O1:=ax (O1.o.bz hbq);replace HB:=ax (bgo HB.o hbq);have hz3:(w2.alloc (.cells #[.slice F a.facts.length d,.slice G a.atoms.length g] tAs)).heap.size=w2.heap.size+1:=by simp
  clear hbq;generalize (w2.alloc (.cells #[.slice F a.facts.length d,.slice G a.atoms.length g] tAs))=W2 at k0 kx kE O1 HB hz3 ⊢;obtain ⟨yE,hyE⟩:∃ y,y=w2.heap.size:=⟨_,rfl⟩;rw[←hyE] at kE hz3 ⊢;have hyE2:yx<yE:=by omega
  have hyE3:yE<W2.heap.size:=by omega
  clear hyE hz2 hzw hz3;(replace qkE:=kE.z;replace qkx:=kx.z);(go_upto_region 7 with (at_builtin;refine appFL (ys:=[⟨true,x.a,x.b⟩]) (base:=w.heap.size) rfl _ _ rfl rfl (O1.o.bz bel) rfl (FactsV.one (f:=⟨true,x.a,x.b⟩) (Blk.new W2 tF _)) (by simp<;>omega) (by simp<;>omega) ?_;intro A6 c6 w6 o6 hg6 hB6;have kO:=O1.o.bz (w':=W2.alloc (.cells #[.bool true,.int .i64 x.a,.int .i64 x.b] tF)) bel;have kE6:=Blk.zm (hg:=hg6) (kE.alloc _) kO.1 (by decide);have k06:=Blk.zm (hg:=hg6) (k0.alloc _) kO.1 (by decide);have kx6:=Blk.zm (hg:=hg6) (kx.alloc _) kO.1 (by decide);have HB6:aJ (Below w.heap.size w w6):=ax ((bbox HB.o _).trans hB6);have O16:=ax o6;have hz6:W2.heap.size+1≤w6.heap.size:=(by have:=hg6.size;simp at this;omega);clear hB6 hg6 o6 kO qkE qkx;(replace qkE6:=kE6.z)));simp only[List.length_append,List.length_cons,List.length_nil,Nat.zero_add] at O16 ⊢
  have kE7:Blk (w6.setCell ⟨yE,0,none⟩ (.slice A6 (a.facts.length+1) c6)) yE tAs #[.slice A6 (a.facts.length+1) c6,.slice G a.atoms.length g]:=by
   have:=kE6.set_ 0 (.slice A6 (a.facts.length+1) c6);simpa using this
  have k07:=k06.far (p:=⟨yE,0,none⟩) (by simp only;omega) (.slice A6 (a.facts.length+1) c6);have kx7:=kx6.far (p:=⟨yE,0,none⟩) (by simp only;omega) (.slice A6 (a.facts.length+1) c6);have O17:=ax (O16.o.setT kE6 (by decide) 0 (.slice A6 (a.facts.length+1) c6));have HB7:=ax (HB6.o.setCell (p:=⟨yE,0,none⟩) (by simp only;omega) (.slice A6 (a.facts.length+1) c6));have hz7:W2.heap.size+1≤(w6.setCell ⟨yE,0,none⟩ (.slice A6 (a.facts.length+1) c6)).heap.size:=by simpa using hz6
  clear k0 kx kE O1 HB kE6 k06 kx6 O16 HB6 hz6 qkE6;generalize (w6.setCell ⟨yE,0,none⟩ (.slice A6 (a.facts.length+1) c6))=W7 at kE7 k07 kx7 O17 HB7 hz7 ⊢;clear w6;have hs1:=hs1'.o;have hs2:=hs2'.o;have hw:=hw'.o;(replace qk07:=k07.z;replace qkE7:=kE7.z);(go_wp2_with fail);clear qk07;refine wp_region_noPanic ?_;refine wp_region_held_drew (S:=(fun w'=>∀ i,w'.cell? ⟨w.heap.size,i,none⟩=#[.slice A1 a.facts.length c1,.slice (some ⟨b,o,none⟩) a.atoms.length c2][i]?)) (by kernel_rfl) (k07.drew.cell) (fun aH=>?_);have HBQ:aJ (Below W7.heap.size W7 W7.drew):=ax (Below.refl _ _).drew;have hzq:W7.heap.size≤W7.drew.heap.size:=Nat.le_refl _;clear qkE7;generalize W7.drew=wq at HBQ hzq aH ⊢;refine tk2 1 rfl aH (h:=tk2 2 rfl aH (h:=tk2 3 rfl aH (h:=?_)));(try simp only[zz]);refine tk2 4 rfl aH (h:=tk2 6 rfl aH (h:=tk2 7 rfl aH (h:=?_)));(try simp only[zz]);refine tk2 8 rfl aH (h:=tk2 9 rfl aH (h:=tk2 10 rfl aH (h:=?_)));(try simp only[zz]);clear hs1 hs2 hw;refine rdc 0 rfl fun K hK=>?_;(try simp only[zz]);go_simp;refine hK.out _ _ (((k07.nz HBQ.o).alloc _).cell) ?_;clear aH hK K;intro aH;(try simp only[zz]);have OA0:aJ (AtomsO (wq.alloc (.cells #[] tA)) W7.heap.size (.slice (some ⟨wq.heap.size,0,none⟩) 0 0) []):=ax ((AtomsO.empty wq).bq hzq);replace HBQ:=ax (HBQ.o.alloc hzq (.cells #[] tA));have hzq2:W7.heap.size≤(wq.alloc (.cells #[] tA)).heap.size:=by simp;omega
  generalize wq.alloc (.cells #[] tA)=wz at HBQ OA0 hzq2 aH ⊢;refine rdc 5 rfl fun K hK=>?_;skip;(refine stepALm (base:=W7.heap.size) (n:=i) (zs:=a.atoms.take i) rfl _ _ rfl rfl OA0.o rfl HL1.o.symm (hT.o.bz (bgo HB7.o HBQ.o)) rfl HL1.o.symm (by omega) hzq2 ?_;intro A8 c8 w8 o8 hg8 hB8;replace HBQ:=ax (HBQ.o.trans hB8);have OA1:=ax o8;have hzq3:=Nat.le_trans hzq2 hB8.size;clear o8 hg8 hB8 OA0);refine hK.out _ _ ((k07.nz HBQ.o).cell) ?_;clear aH hK K;intro aH;(try simp only[zz]);refine rdc 11 rfl fun K hK=>?_;skip;(refine stepALm (base:=W7.heap.size) (n:=a.atoms.length - 1) (zs:=zv a.atoms i) rfl _ _ rfl rfl OA1.o rfl HL2.o.symm (hD.o.bz (bgo HB7.o HBQ.o)) rfl (by omega) (by omega) hzq3 ?_;intro A9 c9 w9 o9 hg9 hB9;replace HBQ:=ax (HBQ.o.trans hB9);have OA2:=ax o9;have hzq4:=Nat.le_trans hzq3 hB9.size;clear o9 hg9 hB9 OA1);refine hK.out _ _ ((k07.nz HBQ.o).cell) ?_;clear aH hK K;intro aH;(try simp only[zz]);refine tk2 12 rfl aH (h:=?_);(try simp only[zz]);have kE9:=kE7.nz HBQ.o;have qkE9:=kE9.cell;have rkE9:=kE9.frozen;have lkE9:=kE9.lt;refine rdc 13 rfl fun K hK=>?_;(try simp only[zz]);go_simp;refine hK.out _ _ (((k07.nz HBQ.o).far (p:=⟨yE,1,none⟩) (by simp only;omega) _).cell) ?_;clear aH hK K;intro aH;(try simp only[zz]);refine dn1 ?_;clear qkE9 rkE9 lkE9 aH
  have kE10:Blk (w9.setCell ⟨yE,1,none⟩ (.slice A9 (a.atoms.length - 1) c9)) yE tAs #[.slice A6 (a.facts.length+1) c6,.slice A9 (a.atoms.length - 1) c9]:=by
   have:=kE9.set_ 1 (.slice A9 (a.atoms.length - 1) c9);simpa using this
  have k010:=(k07.nz HBQ.o).far (p:=⟨yE,1,none⟩) (by simp only;omega) (.slice A9 (a.atoms.length - 1) c9);have kx10:=(kx7.nz HBQ.o).far (p:=⟨yE,1,none⟩) (by simp only;omega) (.slice A9 (a.atoms.length - 1) c9);have OE1:=ax ((O17.o.bz HBQ.o).setT kE9 (by decide) 1 (.slice A9 (a.atoms.length - 1) c9));have OE2:=ax ((OA2.o.bq (base':=w.heap.size) HB7.o.size).setT kE9 (by decide) 1 (.slice A9 (a.atoms.length - 1) c9));have HB10:=ax ((bgo HB7.o HBQ.o).setCell (p:=⟨yE,1,none⟩) (by simp only;omega) (.slice A9 (a.atoms.length - 1) c9));have hz10:yE<(w9.setCell ⟨yE,1,none⟩ (.slice A9 (a.atoms.length - 1) c9)).heap.size:=kE10.lt;clear k07 kx7 kE7 O17 HB7 hz7 HBQ OA2 kE9 hzq hzq2 hzq3 hzq4;generalize (w9.setCell ⟨yE,1,none⟩ (.slice A9 (a.atoms.length - 1) c9))=W8 at kE10 k010 kx10 OE1 OE2 HB10 hz10 ⊢;(replace qk010:=k010.z;replace qkx10:=kx10.z);(go_wp2_with fail);refine (c_l10Front _ a ⟨1,x.a,(m:Int)⟩ i _ (hV.o.V.bz HB10.o) HVa.o HHi.o).mono ?_;rintro e w11 ⟨F2,d2,G2,g2,rfl,oF,hB11⟩;have OFX:=ax oF;have HBX:=ax hB11;have hz11:=hB11.size;clear oF hB11 qk010 qkx10;(go_upto_region 9 with fail);replace OFX:=ax (OFX.o.bz (bbox (Below.refl _ _) (.cells #[.slice F2 a.facts.length d2,.slice G2 a.atoms.length g2] tAs)));replace HBX:=ax (bbox HBX.o (.cells #[.slice F2 a.facts.length d2,.slice G2 a.atoms.length g2] tAs));have kF:Blk (w11.alloc (.cells #[.slice F2 a.facts.length d2,.slice G2 a.atoms.length g2] tAs)) w11.heap.size tAs #[.slice F2 a.facts.length d2,.slice G2 a.atoms.length g2]:=Blk.new _ _ _;have hzF:w11.heap.size+1≤(w11.alloc (.cells #[.slice F2 a.facts.length d2,.slice G2 a.atoms.length g2] tAs)).heap.size:=by simp
  generalize (w11.alloc (.cells #[.slice F2 a.facts.length d2,.slice G2 a.atoms.length g2] tAs))=W9 at OFX HBX kF hzF ⊢;obtain ⟨yF,hyF⟩:∃ y,y=w11.heap.size:=⟨_,rfl⟩;rw[←hyF] at kF hzF hz11 ⊢;clear hyF;have OF1:=ax OFX.o.parts.1;have OF2:=ax OFX.o.parts.2;clear OFX;simp only at OF1 OF2;have kx11:=kx10.nz HBX.o;(replace qkF:=kF.z;replace qkx11:=kx11.z);(go_upto_region 10 with (at_builtin;refine appFL (ys:=[⟨false,x.a,x.b⟩]) (base:=W8.heap.size) rfl _ _ rfl rfl (OF1.o.bz bel) rfl (FactsV.one (f:=⟨false,x.a,x.b⟩) (Blk.new W9 tF _)) (by simp<;>omega) (by simp<;>omega) ?_;intro A12 c12 w12 o12 hg12 hB12;have kO:=OF1.o.bz (w':=W9.alloc (.cells #[.bool false,.int .i64 x.a,.int .i64 x.b] tF)) bel;have kF12:=Blk.zm (hg:=hg12) (kF.alloc _) kO.1 (by decide);have OF22:=ax (AtomsO.grownF (OF2.o.bz (w':=W9.alloc (.cells #[.bool false,.int .i64 x.a,.int .i64 x.b] tF)) bel) kO hg12);have HBX12:aJ (Below W8.heap.size W8 w12):=ax ((bbox HBX.o _).trans hB12);have OF12:=ax o12;clear hB12 hg12 o12 kO qkF qkx11;(replace qkF12:=kF12.z)));simp only[List.length_append,List.length_cons,List.length_nil,Nat.zero_add] at OF12 ⊢
  have kF13:Blk (w12.setCell ⟨yF,0,none⟩ (.slice A12 (a.facts.length+1) c12)) yF tAs #[.slice A12 (a.facts.length+1) c12,.slice G2 a.atoms.length g2]:=by
   have:=kF12.set_ 0 (.slice A12 (a.facts.length+1) c12);simpa using this
  have OF13:=ax (OF12.o.setT kF12 (by decide) 0 (.slice A12 (a.facts.length+1) c12));have OF23:=ax (OF22.o.setT kF12 (by decide) 0 (.slice A12 (a.facts.length+1) c12));have HBX13:=ax (HBX12.o.setCell (p:=⟨yF,0,none⟩) (by simp only;omega) (.slice A12 (a.facts.length+1) c12));clear kF kx11 OF1 OF2 HBX kF12 OF12 OF22 HBX12 qkF12;generalize (w12.setCell ⟨yF,0,none⟩ (.slice A12 (a.facts.length+1) c12))=W10 at kF13 OF13 OF23 HBX13 ⊢;have kx13:=kx10.nz HBX13.o;(replace qkF13:=kF13.z;replace qkx13:=kx13.z);(go_upto_region 11 with (at_builtin;refine appAL (ys:=[⟨2,(m:Int),x.b⟩]) (base:=W8.heap.size) rfl _ _ rfl rfl (OF23.o.bz bel) (by rfl) (AtomsV.one (f:=⟨2,(m:Int),x.b⟩) (Blk.new W10 tA _)) (by simp<;>omega) (by have:=HBX13.o.size;simp<;>omega) ?_;intro A14 c14 w14 o14 hg14 hB14;have kO:=OF23.o.bz (w':=W10.alloc (.cells #[.int .i64 2,.int .i64 m,.int .i64 x.b] tA)) bel;have kF14:=Blk.zm (hg:=hg14) (kF13.alloc _) kO.1 (by decide);have OF14:=ax (FactsO.grownA (OF13.o.bz (w':=W10.alloc (.cells #[.int .i64 2,.int .i64 m,.int .i64 x.b] tA)) bel) kO hg14);have HBX14:aJ (Below W8.heap.size W8 w14):=ax ((bbox HBX13.o _).trans hB14);have OF24:=ax o14;clear hB14 hg14 o14 kO qkF13 qkx13;(replace qkF14:=kF14.z)));simp only[List.length_append,List.length_cons,List.length_nil,Nat.zero_add] at OF24 ⊢;have hLL:1+(zv a.atoms i).length+1=a.atoms.length+1:=by omega
  try rw[hLL]
  replace OF24:aJ (AtomsO w14 W8.heap.size (.slice A14 (a.atoms.length+1) c14) (([⟨1,x.a,(m:Int)⟩]++zv a.atoms i)++[⟨2,(m:Int),x.b⟩])):=ax (by
   have h24:=OF24.o;(try rw[hLL] at h24)
   exact h24)
  have kF15:Blk (w14.setCell ⟨yF,1,none⟩ (.slice A14 (a.atoms.length+1) c14)) yF tAs #[.slice A12 (a.facts.length+1) c12,.slice A14 (a.atoms.length+1) c14]:=by
   have:=kF14.set_ 1 (.slice A14 (a.atoms.length+1) c14);simpa using this
  have OF15:=ax (OF14.o.setT kF14 (by decide) 1 (.slice A14 (a.atoms.length+1) c14));have OF25:=ax (OF24.o.setT kF14 (by decide) 1 (.slice A14 (a.atoms.length+1) c14));have HBX15:=ax (HBX14.o.setCell (p:=⟨yF,1,none⟩) (by simp only;omega) (.slice A14 (a.atoms.length+1) c14));clear kF13 kx13 OF13 OF23 HBX13 kF14 OF14 OF24 HBX14 qkF14 hLL;generalize (w14.setCell ⟨yF,1,none⟩ (.slice A14 (a.atoms.length+1) c14))=W12 at kF15 OF15 OF25 HBX15 ⊢;have hz15:=HBX15.o.size;have kE15:=kE10.nz HBX15.o;have OE:aJ (AsnO W12 w.heap.size (.agg #[.slice A6 (a.facts.length+1) c6,.slice A9 (a.atoms.length - 1) c9]) (emptyX a x i)):=ax ⟨_,_,rfl,OE1.o.bz HBX15.o,OE2.o.bz HBX15.o⟩;have OX:aJ (AsnO W12 W8.heap.size (.agg #[.slice A12 (a.facts.length+1) c12,.slice A14 (a.atoms.length+1) c14]) (fullX a x i (m:Int))):=ax ⟨_,_,rfl,OF15.o,OF25.o⟩;have HB15:=ax (bgo HB10.o HBX15.o);have hLE:aJ ((emptyX a x i).facts.length≤1000∧(emptyX a x i).atoms.length≤1000):=ax (by simp only[emptyX,List.length_append,List.length_cons,List.length_nil];omega);have hLF:aJ ((fullX a x i (m:Int)).facts.length≤1000∧(fullX a x i (m:Int)).atoms.length≤1000):=ax (by simp only[fullX,List.length_append,List.length_cons,List.length_nil];omega);clear OE1 OE2 HBX15 OF15 OF25 kE10 k010 kx10 HB10;have hni:(n:Int)≤6:=by omega
  (replace qkE15:=kE15.z);(go_wp2_with fail);refine (HEH.o w.heap.size _ _ _ _ B cB _ OE.o.C (HFL.o.bz HB15.o) hLE.o.1 hLE.o.2).mono ?_;rintro e w16 ⟨r1,vs1,l1,rfl,o1,hl1,HR1,hB16⟩;obtain ⟨R1,z1,rfl⟩:=o1.form;have O1:=ax o1;have HR1':=ax HR1;replace OX:=ax (OX.o.bz hB16);have kF16:=kF15.nz hB16;have HB16:=ax (bgo HB15.o hB16);have hz16:=hB16.size;clear o1 HR1 hB16 HB15 kF15 kE15 qkE15 OE;(replace qkF16:=kF16.z);(go_wp2_with fail);refine (HFH.o m W8.heap.size _ _ _ _ B cB _ OX.o.C (HFL.o.bz HB16.o) hLF.o.1 hLF.o.2).mono ?_;rintro e w17 ⟨r2,vs2,l2,rfl,o2,hl2,HR2,hB17⟩;obtain ⟨R2,z2,rfl⟩:=o2.form;have O2:=ax o2;have HR2':=ax HR2;have HB17':=ax hB17;have HB17:=ax (bgo HB16.o hB17);have hz17:=hB17.size;have hp:=HN.o;have hll:l1.length+l2.length≤1049600:=by omega
  have hll2:aJ (l1.length+l2.length≤2 ^ (n+1)):=ax (by rw[Nat.pow_succ];omega);clear o2 HR2 hB17 HB16 kF16 qkF16 OX hl1 hl2 hp;have HE1:aJ (∀ e1,exposeF n (emptyX a x i) t Ks=none→(listF n a x i t Ks).isSome=e1→e1=false):=ax fun e1 h h'=>by rw[←h',list_first HNT.o h];rfl
  have HBoth:aJ ((listF n a x i t Ks).isSome=((exposeF n (emptyX a x i) t Ks).isSome&&(exposeF n (fullX a x i (m:Int)) t Ks).isSome)∧(listF n a x i t Ks=none∨listF n a x i t Ks=some (l1++l2))):=ax (by
   rcases HR1'.o with e1|e1
   ·rw[list_first HNT.o e1,e1];exact ⟨rfl,.inl rfl⟩
   ·rcases HR2'.o with e2|e2
    ·rw[list_second HNT.o e2,e1,e2];exact ⟨rfl,.inl rfl⟩
    ·rw[list_both HNT.o e1 e2,e1,e2];exact ⟨rfl,.inr rfl⟩)
  clear HE1 HR1' HR2';generalize (exposeF n (emptyX a x i) t Ks).isSome=p1 at HBoth ⊢;generalize (exposeF n (fullX a x i (m:Int)) t Ks).isSome=p2 at HBoth ⊢;cases p1<;>cases p2
  all_goals
   (go_wp2_with (at_builtin;refine wpList_appL (base:=w.heap.size) rfl _ _ 83 rfl Tryz.underlying83 infoAs2 rfl (by decide) (by decide) rfl (own_lower (own_below O1.o.row HB17'.o) (by omega)) rfl O2.o.rd.raw O2.o.els.one_cell hll (by omega) ?_;intro v18 w18 hO18 hg18 hB18;have HR18:=ax hO18;have HG18:=ax hg18;have HB18:=ax (HB17.o.trans hB18);obtain ⟨A18,d18,rfl,-⟩:=own_reads hO18 hll;clear hO18 hg18 hB18));go_ret2;exact ⟨_,vs1++vs2,l1++l2,by rw[HBoth.o.1];rfl,(O1.o.bq (by omega)).cat HB17'.o O2.o (by omega) (Nat.le_refl _) hll HG18.o HR18.o,by rw[List.length_append];exact hll2.o,HBoth.o.2,HB18.o⟩
section
variable {ops:Array Oper} {rest:List Oper} {o:Oper} {a:Act} {Q:Exit→Act→World→Prop} {w w0:World} {base mid:Nat} {v v2:Value} {vs vs2:List Value} {ss ss2:List Asn}
theorem appA2 (hgd:o.guard=none) (s x:Operand) (ho:o.op=.call { callee:=.builtin .append,args:=#[s,x],argTypes:=#[83,83] })
  (hs:a.eval s=v) (h0:A2O w0 base v vs ss) (hb0:Below w0.heap.size w0 w) (hbase:base≤w0.heap.size) (h2:A2O w mid v2 vs2 ss2) (hm:w0.heap.size≤mid) (hx:a.eval x=v2) (hl:ss.length+ss2.length≤1049600)
  (h:∀ A' c' w',A2O w' base (.slice A' (ss.length+ss2.length) c') (vs++vs2) (ss++ss2)→w.grownBy w' v.ownBlock→Below base w w'→wpList Tryz.prog ops Q rest (a.put o.dst (.slice A' (ss.length+ss2.length) c')) w'):wpList Tryz.prog ops Q (o :: rest) a w:=by
 obtain ⟨A,c,rfl⟩:=h2.form;refine wpList_appL (base:=base) hgd s x 83 ho Tryz.underlying83 infoAs2 rfl (by decide) (by decide) hs (own_below h0.row hb0) hx h2.rd.raw h2.els.one_cell hl (Nat.le_trans hbase hb0.size) ?_;intro v' w' hO hg hB;have hC:=h0.cat hb0 h2 (Nat.le_trans hbase hm) hm hl hg hO;obtain ⟨A',d,rfl,-⟩:=own_reads hO hl;exact h A' d w' hC hg hB
end
end
section
open Go
def clsM (M:Int→Int) (x:Atm):Atm:=⟨x.kind,M x.a,M x.b⟩
def Clo (M:Int→Int) (F:List Atm) (q:Int):Prop:=q=M 0∨∃ y∈F,M y.a=q
def SegM (M:Int→Int) (F:List Atm) (q:Int):Int→List Atm→Prop
 | _,[]=>False
 | p,y :: ys=>M y.a=p∧((ys=[]∧M y.b=q)∨(ys≠[]∧M y.b≠q∧(y.kind=2→Clo M F q)∧SegM M F q (M y.b) ys))
def CovM (M:Int→Int) (F:List Atm) (x:Atm) (cs:List Atm):Prop:=if x.kind=1 then ∃ y,cs=[y]∧clsM M y=clsM M x else SegM M F (M x.b) (M x.a) cs
def Cover (M:Int→Int) (F G:List Atm):Prop:=∃ g:Atm→List Atm,(∀ x∈G,CovM M F x (g x))∧F.Perm (G.flatMap g)
section
variable {M:Int→Int} {F G H:List Atm}
def Covs (M:Int→Int) (F:List Atm):List Atm→List (List Atm)→Prop
 | [],[]=>True
 | x :: xs,cs :: css=>CovM M F x cs∧Covs M F xs css
 | _,_=>False
theorem cls_inj {y x:Atm} (h:clsM M y=clsM M x):y.kind=x.kind∧M y.a=M x.a∧M y.b=M x.b:=by
 simpa[clsM] using h
theorem seg_head {q p:Int} {cs:List Atm} (h:SegM M F q p cs):∃ y ys,cs=y :: ys∧M y.a=p:=by
 cases cs with
 | nil=>exact absurd h id
 | cons y ys=>exact ⟨y,ys,rfl,h.1⟩
theorem cov_head {x:Atm} {cs:List Atm} (h:CovM M F x cs):∃ y ys,cs=y :: ys∧M y.a=M x.a:=by
 unfold CovM at h
 split at h
 ·obtain ⟨y,rfl,e⟩:=h;exact ⟨y,[],rfl,(cls_inj e).2.1⟩
 ·exact seg_head h
theorem covs_starts:∀ (G:List Atm) (css:List (List Atm)),Covs M F G css→(G.map fun x=>M x.a).Sublist (css.flatten.map fun x=>M x.a)
 | [],[],_=>by simp
 | [],_ :: _,h=>absurd h id
 | _ :: _,[],h=>absurd h id
 | x :: G,cs :: css,h=>by
  have ih:=covs_starts G css h.2;obtain ⟨y,ys,rfl,e⟩:=cov_head h.1;simp only[List.map_cons,List.flatten_cons,List.cons_append,List.map_append];rw[e];exact List.Sublist.cons_cons _ (ih.trans (List.sublist_append_right _ _))
theorem covs_fun:∀ (G:List Atm) (css:List (List Atm)),Covs M F G css→(G.map fun x=>M x.a).Nodup→∃ g:Atm→List Atm,css.flatten=G.flatMap g∧∀ x∈G,CovM M F x (g x)
 | [],[],_,_=>⟨fun _=>[],by simp,by simp⟩
 | [],_ :: _,h,_=>absurd h id
 | _ :: _,[],h,_=>absurd h id
 | x :: G,cs :: css,h,hn=>by
  rw[List.map_cons,List.nodup_cons] at hn;obtain ⟨g,h1,h2⟩:=covs_fun G css h.2 hn.2;have hx:∀ y∈G,y≠x:=fun y hy e=>hn.1 (List.mem_map.2 ⟨y,hy,by rw[e]⟩);refine ⟨fun y=>if y=x then cs else g y,?_,fun y hy=>?_⟩
  ·rw[List.flatten_cons,List.flatMap_cons,if_pos rfl,h1]
   congr 1
   unfold List.flatMap
   congr 1
   exact List.map_congr_left fun y hy=>(if_neg (hx y hy)).symm
  ·show CovM M F y (if y=x then cs else g y);rcases List.mem_cons.1 hy with rfl|hy
   ·rw[if_pos rfl];exact h.1
   ·rw[if_neg (hx y hy)];exact h2 y hy
theorem covs_of_fun {g:Atm→List Atm}:∀ (G:List Atm),(∀ x∈G,CovM M F x (g x))→Covs M F G (G.map g)
 | [],_=>trivial
 | x :: G,h=>⟨h x List.mem_cons_self,covs_of_fun G fun y hy=>h y (List.mem_cons_of_mem _ hy)⟩
theorem Cover.starts (h:Cover M F G) (hn:(F.map fun y=>M y.a).Nodup):(G.map fun y=>M y.a).Nodup:=by
 obtain ⟨g,h1,h2⟩:=h;have:=covs_starts G _ (covs_of_fun G h1);rw[←List.flatMap_def] at this;exact ((h2.map fun y=>M y.a).nodup_iff.1 hn).sublist this
/-! coverings compose -/
theorem cov_seg {x:Atm} {cs:List Atm} (h:CovM M F x cs):SegM M F (M x.b) (M x.a) cs:=by
 unfold CovM at h
 split at h
 ·obtain ⟨y,rfl,e⟩:=h;exact ⟨(cls_inj e).2.1,.inl ⟨rfl,(cls_inj e).2.2⟩⟩
 ·exact h
theorem seg_append {q r:Int}:∀ (cs rest:List Atm) (p:Int),SegM M F r p cs→(∀ y∈cs,M y.b≠q)→(∀ y∈cs,y.kind=2→Clo M F q)→SegM M F q r rest→SegM M F q p (cs++rest)
 | [],_,_,h,_,_,_=>absurd h id
 | y :: cs,rest,p,h,h1,h2,h3=>by
  refine ⟨h.1,.inr ⟨?_,h1 y List.mem_cons_self,h2 y List.mem_cons_self,?_⟩⟩
  ·cases cs
   ·intro e;have e:rest=[]:=e;rw[e] at h3;exact h3
   ·simp
  ·rcases h.2 with ⟨rfl,e⟩|⟨-,-,-,hs⟩
   ·rw[e];exact h3
   ·exact seg_append cs rest _ hs (fun z hz=>h1 z (List.mem_cons_of_mem _ hz)) (fun z hz=>h2 z (List.mem_cons_of_mem _ hz)) h3
theorem seg_ends {r:Int}:∀ (cs:List Atm) (p:Int),SegM M F r p cs→∀ y∈cs,M y.b=r∨∃ z∈cs.tail,M z.a=M y.b
 | [],_,h,_,_=>absurd h id
 | y :: cs,p,h,z,hz=>by
  rcases List.mem_cons.1 hz with rfl|hz
  ·rcases h.2 with ⟨rfl,e⟩|⟨-,-,-,hs⟩
   ·exact .inl e
   ·obtain ⟨w,ws,rfl,e⟩:=seg_head hs;exact .inr ⟨w,by simp,e⟩
  ·rcases h.2 with ⟨rfl,e⟩|⟨-,-,-,hs⟩
   ·cases hz
   ·rcases seg_ends cs _ hs z hz with h1|⟨w,hw,e⟩
    ·exact .inl h1
    ·exact .inr ⟨w,List.mem_of_mem_tail hw,e⟩
theorem flat_sublist {α β:Type} (g:α→List β):∀ (L:List α) (z:α),z∈L→(g z).Sublist (L.flatMap g)
 | [],_,h=>by cases h
 | y :: L,z,h=>by
  rw[List.flatMap_cons];rcases List.mem_cons.1 h with rfl|h
  ·exact List.sublist_append_left _ _
  ·exact (flat_sublist g L z h).trans (List.sublist_append_right _ _)
theorem flat_apart {α β γ:Type} (g:α→List β) (f:β→γ):∀ (L:List α),((L.flatMap g).map f).Nodup→∀ z∈L,∀ w∈L,z≠w→∀ x∈g z,∀ y∈g w,f x≠f y
 | [],_,_,h,_,_,_,_,_,_,_=>by cases h
 | v :: L,hn,z,hz,w,hw,hne,x,hx,y,hy=>by
  rw[List.flatMap_cons,List.map_append,List.nodup_append] at hn;have hin:∀ (u:α) (t:β),u∈L→t∈g u→f t∈(L.flatMap g).map f:=fun u t hu ht=>List.mem_map.2 ⟨t,List.mem_flatMap.2 ⟨u,hu,ht⟩,rfl⟩;rcases List.mem_cons.1 hz with rfl|hz1
  ·rcases List.mem_cons.1 hw with rfl|hw1
   ·exact absurd rfl hne
   ·exact hn.2.2 _ (List.mem_map.2 ⟨x,hx,rfl⟩) _ (hin w y hw1 hy)
  ·rcases List.mem_cons.1 hw with rfl|hw1
   ·exact fun e=>hn.2.2 _ (List.mem_map.2 ⟨y,hy,rfl⟩) _ (hin z x hz1 hx) e.symm
   ·exact flat_apart g f L hn.2.1 z hz1 w hw1 hne x hx y hy
theorem Cover.trans (h1:Cover M F G) (h2:Cover M G H) (hn:(F.map fun y=>M y.a).Nodup) (h0:∀ y∈F,M y.a≠M 0) (hG:∀ z∈G,z.kind=1∨z.kind=2):Cover M F H:=by
 obtain ⟨g,g1,g2⟩:=h1;obtain ⟨d,d1,d2⟩:=h2;have hgn:((G.flatMap g).map fun y=>M y.a).Nodup:=(g2.map fun y=>M y.a).nodup_iff.1 hn;have hmem:∀ z∈G,∀ y∈g z,y∈F:=fun z hz y hy=>g2.mem_iff.2 (List.mem_flatMap.2 ⟨z,hz,hy⟩)
 have hclo:∀ q,Clo M G q→Clo M F q:=fun q h=>by
  rcases h with h|⟨w,hw,e⟩
  ·exact .inl h
  ·obtain ⟨y,ys,e1,e2⟩:=cov_head (g1 w hw);exact .inr ⟨y,hmem w hw y (by rw[e1];simp),e2.trans e⟩
 have hin:∀ x∈H,∀ z∈d x,z∈G:=fun x hx z hz=>d2.mem_iff.2 (List.mem_flatMap.2 ⟨x,hx,hz⟩)
 have hnot:∀ z∈G,∀ y∈(g z).tail,¬Clo M G (M y.a):=fun z hz y hy h=>by
  have hyz:=List.mem_of_mem_tail hy;rcases h with h|⟨w,hw,e⟩
  ·exact h0 y (hmem z hz y hyz) h
  ·obtain ⟨y',ys,e1,e2⟩:=cov_head (g1 w hw);by_cases hzw:z=w
   ·subst hzw;have:=hgn.sublist ((flat_sublist g G z hz).map fun y=>M y.a);rw[e1] at this hy;rw[List.map_cons,List.nodup_cons] at this;exact this.1 (List.mem_map.2 ⟨y,hy,by rw[e2,e]⟩)
   ·exact flat_apart g (fun y=>M y.a) G hgn z hz w hw hzw y hyz y' (by rw[e1];simp) (by rw[e2,e])
 have comp:∀ (q:Int) (ds:List Atm) (p:Int),SegM M G q p ds→(∀ z∈ds,z∈G)→SegM M F q p (ds.flatMap g):=by
  intro q ds
  induction ds with
  | nil=>intro p h;exact absurd h id
  | cons z ds ih=>
   intro p h hD;have hz:=hD z List.mem_cons_self;have hs:=cov_seg (g1 z hz);rw[List.flatMap_cons];obtain ⟨rfl,h⟩:=h;rcases h with ⟨rfl,e⟩|⟨-,hb,hc,hr⟩
   ·rw[List.flatMap_nil,List.append_nil,←e];exact hs
   ·have hkind:∀ y∈g z,(g z).tail≠[]∨y.kind=2→Clo M G q:=fun y hy hor=>by
     have hcov:=g1 z hz;unfold CovM at hcov;by_cases hk:z.kind=1
     ·rw[if_pos hk] at hcov;obtain ⟨y',e1,e2⟩:=hcov;rw[e1] at hor hy;rcases hor with h|h
      ·exact absurd rfl h
      ·rw[List.mem_singleton.1 hy] at h;rw[(cls_inj e2).1,hk] at h;exact absurd h (by decide)
     ·exact hc ((hG z hz).resolve_left hk)
    refine seg_append (g z) _ _ hs (fun y hy e=>?_) (fun y hy hk=>hclo _ (hkind y hy (.inr hk))) (ih _ hr fun w hw=>hD w (List.mem_cons_of_mem _ hw));rcases seg_ends _ _ hs y hy with e2|⟨y',hy',e2⟩
    ·exact hb (e2.symm.trans e)
    ·have:=hkind y hy (.inl fun h=>by rw[h] at hy';cases hy');rw[←e,←e2] at this;exact hnot z hz y' hy' this
 refine ⟨fun x=>(d x).flatMap g,fun x hx=>?_,?_⟩
 ·have hd:=d1 x hx;unfold CovM at hd ⊢;by_cases hk:x.kind=1
  ·rw[if_pos hk] at hd ⊢;obtain ⟨z,e1,e2⟩:=hd;have hz:=hin x hx z (by rw[e1];simp);have hg:=g1 z hz;unfold CovM at hg;rw[if_pos ((cls_inj e2).1.trans hk)] at hg;obtain ⟨y,e3,e4⟩:=hg;exact ⟨y,by show List.flatMap g (d x)=_;rw[e1];simp[e3],e4.trans e2⟩
  ·rw[if_neg hk] at hd ⊢;exact comp _ _ _ hd (hin x hx)
 ·refine g2.trans ?_;have:=d2.flatMap_right g;rw[List.flatMap_assoc] at this;exact this
end
end
section
open Go Go.RowKit Go.Proofs
section
variable {ops:Array Oper} {rest:List Oper} {o:Oper} {a:Act} {K:Act→World→Prop} {Q:Exit→Act→World→Prop} {E:Prop} {w:World} {base:Nat} {v:Value}
end
theorem wp_appLX {P:Program} {o:Oper} {a:Act} {K:Act→World→Prop} {Q:Exit→Act→World→Prop} {w:World} (s x:Operand) (t:TypeId)
  (ho:o.op=.call { callee:=.builtin .append,args:=#[s,x],argTypes:=#[t,t] })
  {base:Nat} {e:TypeId} {z:Value} {size bytes:Nat} (ht:P.underlying t=some (.slice e)) (hinfo:(P.info? e).map (fun i=>(i.zero,i.size,i.bytes))=some (some z,size,bytes)) (hzs:z.cells.size=size) (hsz:0<size) (hby:bytes≤200)
  {v:Value} {n:Nat} {xs:List Value} (hs:a.eval s=v) (hown:w.ownsRow base e size v n xs)
  {A:Option Addr} {m c lo hi:Nat} {news:List Value} (hx:a.eval x=.slice A m c) (hR:Rw w lo hi size A m news) (h1:∀ u∈news,u.oneCell'=true)
  (hn:n+m≤1049600) (hb:base≤w.heap.size)
  (h:∀ v' w',w'.ownsRow base e size v' (n+m) (xs++news)→w.grownBy w' v.ownBlock→Below base w w'→(v'.ownBlock=v.ownBlock∨v'.ownBlock=some w.heap.size)→K (a.put o.dst v') w'):Oper.wp P o a w K Q:=by
 obtain ⟨i,hi',hz,hsize,hbytes⟩:=info_parts hinfo
 have key:∀ (ad:Addr),A=some ad→(∀ j u,news[j]? = some u→w.cell? (ad.add j)=some u)→Oper.wp P o a w K Q:=by
  rintro ad rfl hnews;obtain ⟨v',w',hr,h2,h3,h4,h5⟩:=run_append_own_at (P:=P) w base t o.type e i z size bytes ht hi' hz hsize hbytes hzs hsz v n xs hown ad m c news hR.1 hnews h1 (by unfold maxLen;omega) (Nat.le_trans (Nat.mul_le_mul hn hby) (by omega)) hb;unfold Oper.wp execOp;simp only[ho,resolve,invoke,builtin,Sem.run_bind,Sem.run_pure,Result.andThen_ok,List.map_toArray,List.map_cons,List.map_nil,hs,hx,hr];exact h v' w' h2 h3 (own_row_below hown h3 hb) h5
 by_cases hm:m=0
 ·subst hm;have hnil:news=[]:=List.eq_nil_of_length_eq_zero (by simpa using hR.1);subst hnil
  cases A with
  | some ad=>exact key ad rfl (by simp)
  | none=>
   have hrun:=run_append_none (P:=P) t o.type i ht hi' v n c xs hown;unfold Oper.wp execOp;simp only[ho,resolve,invoke,builtin,Sem.run_bind,Sem.run_pure,Result.andThen_ok,List.map_toArray,List.map_cons,List.map_nil,hs,hx,hrun];exact h v w (by simpa using hown) (World.grownBy.refl _ _) (Below.refl _ _) (Or.inl rfl)
 ·have h0:0<m * size:=Nat.mul_pos (by omega) hsz;obtain ⟨b,off,rfl,_,_,hc⟩:=hR.2 h0;exact key _ rfl fun j u hu=>by rw[show (⟨b,off,none⟩:Addr).add j=⟨b,off+j,none⟩ from by unfold Addr.add;split<;>simp_all];exact hc j u hu
theorem IntsO.grown {w w':World} {b:Nat} {v v':Value} {xs:List Int} (h:IntsO w b v' xs) (hg:w.grownBy w' v.ownBlock) (hne:∀ g,v'.ownBlock=some g→v.ownBlock≠some g):IntsO w' b v' xs:=by
 obtain ⟨⟨h1,h2⟩,h3⟩:=h;refine ⟨⟨h1,?_⟩,h3⟩;rcases h2 with h2|⟨k,cap,cur,hv,hk,hh,r⟩
 ·exact Or.inl h2
 ·exact Or.inr ⟨k,cap,cur,hv,hk,Blk.grown hh hg (fun e=>hne k (by rw[hv];rfl) e.symm),r⟩
end
section
open Go Go.RowKit
/-! states -/
/-! the laws -/
end
end Go.Proofs.YtjaohekkmlkinaaGreat
