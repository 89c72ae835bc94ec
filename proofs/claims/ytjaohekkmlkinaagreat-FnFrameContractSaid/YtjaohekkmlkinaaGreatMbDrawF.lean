/- Contracts: drawing of entailments: l6Without. -/
import Derived.Test.YtjaohekkmlkinaaGreatMbOpenB
import Derived.Test.YtjaohekkmlkinaaGreatMbFailH
set_option linter.unusedSimpArgs false
set_option linter.unusedVariables false
set_option maxRecDepth 100000
set_option maxHeartbeats 25600000
namespace Go.Proofs.YtjaohekkmlkinaaGreat
section
open Go Go.RowKit Go.Proofs
attribute [local go_sem ↓] Go.wp_at_zero Go.wp_at_succ
theorem wp_appFL {o:Oper} {a:Act} {K:Act→World→Prop} {Q:Exit→Act→World→Prop} {w:World} {base lo hi c:Nat} {v:Value} {A:Option Addr} (s x:Operand) (ho:o.op=.call { callee:=.builtin .append,args:=#[s,x],argTypes:=#[34,34] })
  {xs ys:List Fct} (hs:a.eval s=v) (hown:FactsO w base v xs) (hx:a.eval x=.slice A ys.length c) (hR:FactsV w lo hi A ys) (hn:xs.length+ys.length≤1049600) (hb:base≤w.heap.size)
  (h:∀ A' c' w',FactsO w' base (.slice A' (xs++ys).length c') (xs++ys)→w.grownBy w' v.ownBlock→Below base w w'→K (a.put o.dst (.slice A' (xs++ys).length c')) w'):Oper.wp Tryz.prog o a w K Q:=by
 refine wp_appL s x 34 ho Tryz.underlying34 infoF rfl (by decide) (by decide) hs hown.1 hx hR.raw (encF_one _) hn hb ?_;intro v' w' h1 h2 h3;have hO:FactsO w' base v' (xs++ys):=⟨by rw[List.length_append,show encF (xs++ys)=encF xs++encF ys from List.flatMap_append];exact h1,by simp[Lim];omega⟩;obtain ⟨A',c',rfl,-⟩:=hO.rj;exact h A' c' w' hO h2 h3
theorem wp_appAL {o:Oper} {a:Act} {K:Act→World→Prop} {Q:Exit→Act→World→Prop} {w:World} {base lo hi c:Nat} {v:Value} {A:Option Addr} (s x:Operand) (ho:o.op=.call { callee:=.builtin .append,args:=#[s,x],argTypes:=#[35,35] })
  {xs ys:List Atm} (hs:a.eval s=v) (hown:AtomsO w base v xs) (hx:a.eval x=.slice A ys.length c) (hR:AtomsV w lo hi A ys) (hn:xs.length+ys.length≤1049600) (hb:base≤w.heap.size)
  (h:∀ A' c' w',AtomsO w' base (.slice A' (xs++ys).length c') (xs++ys)→w.grownBy w' v.ownBlock→Below base w w'→K (a.put o.dst (.slice A' (xs++ys).length c')) w'):Oper.wp Tryz.prog o a w K Q:=by
 refine wp_appL s x 35 ho Tryz.underlying35 infoA rfl (by decide) (by decide) hs hown.1 hx hR.raw (encA_one _) hn hb ?_;intro v' w' h1 h2 h3;have hO:AtomsO w' base v' (xs++ys):=⟨by rw[List.length_append,show encA (xs++ys)=encA xs++encA ys from List.flatMap_append];exact h1,by simp[Lim];omega⟩;obtain ⟨A',c',rfl,-⟩:=hO.rj;exact h A' c' w' hO h2 h3
theorem AtomsO.oneN (w:World) (x:Atm) {base:Nat} (hb:base≤w.heap.size):AtomsO (w.alloc (.cells #[.int .i64 x.kind,.int .i64 x.a,.int .i64 x.b] tA)) base (.slice (some ⟨w.heap.size,0,none⟩) 1 1) [x]:=
 ⟨own_of_blk (Blk.new w _ _) hb rfl (by intro j hj;match j,hj with|0,_=>rfl|1,_=>rfl|2,_=>rfl) (Nat.le_refl _) (by decide) rfl,by simp[Lim]⟩
theorem c_l6Without {lo hi:Nat} (v:Value) (a:Asn) (i k:Int) (x:Atm) (w:World) (h:AsnV w lo hi v a) (hl1:a.facts.length≤1000) (hl2:a.atoms.length≤1000) :
  Calls Tryz.prog 225 #[v,.int .i64 i,.int .i64 k,.agg #[.int .i64 x.kind,.int .i64 x.a,.int .i64 x.b]] w fun e w'=>∃ r b,e=.returned r∧AsnO w' w.heap.size r b∧b.facts.length≤a.facts.length∧b.atoms.length≤a.atoms.length+1∧Below w.heap.size w w':=by
 obtain ⟨A1,c1,A2,c2,rfl,h1,h2⟩:=h;have H1:=ax h1;have H2:=ax h2;clear h1 h2;(go_enter Tryz.func225,Tryz.ntmps225);have k0:Blk (((w.alloc (.cells #[.slice A1 a.facts.length c1,.slice A2 a.atoms.length c2] tAs)).alloc (.cells #[.int .i64 x.kind,.int .i64 x.a,.int .i64 x.b] tA)).alloc (.cells #[.slice none 0 0,.slice none 0 0] tAs)) w.heap.size tAs #[.slice A1 a.facts.length c1,.slice A2 a.atoms.length c2]:=blks;have k1:Blk (((w.alloc (.cells #[.slice A1 a.facts.length c1,.slice A2 a.atoms.length c2] tAs)).alloc (.cells #[.int .i64 x.kind,.int .i64 x.a,.int .i64 x.b] tA)).alloc (.cells #[.slice none 0 0,.slice none 0 0] tAs)) (w.heap.size+1) tA #[.int .i64 x.kind,.int .i64 x.a,.int .i64 x.b]:=blks;have kr:Blk (((w.alloc (.cells #[.slice A1 a.facts.length c1,.slice A2 a.atoms.length c2] tAs)).alloc (.cells #[.int .i64 x.kind,.int .i64 x.a,.int .i64 x.b] tA)).alloc (.cells #[.slice none 0 0,.slice none 0 0] tAs)) (w.heap.size+2) tAs #[.slice none 0 0,.slice none 0 0]:=blks;have hB:Below w.heap.size w (((w.alloc (.cells #[.slice A1 a.facts.length c1,.slice A2 a.atoms.length c2] tAs)).alloc (.cells #[.int .i64 x.kind,.int .i64 x.a,.int .i64 x.b] tA)).alloc (.cells #[.slice none 0 0,.slice none 0 0] tAs)):=bel;(go_wp2_with fail);generalize (((w.alloc (.cells #[.slice A1 a.facts.length c1,.slice A2 a.atoms.length c2] tAs)).alloc (.cells #[.int .i64 x.kind,.int .i64 x.a,.int .i64 x.b] tA)).alloc (.cells #[.slice none 0 0,.slice none 0 0] tAs))=W at k0 k1 kr hB ⊢;refine wp_region_noPanic ?_;refine wp_region_held_drew (S:=(fun w'=>(∀ i,w'.cell? ⟨w.heap.size,i,none⟩=#[.slice A1 a.facts.length c1,.slice A2 a.atoms.length c2][i]?)∧(∀ i,w'.cell? ⟨w.heap.size+1,i,none⟩=#[.int .i64 x.kind,.int .i64 x.a,.int .i64 x.b][i]?))) (by kernel_rfl) (⟨k0.drew.cell,k1.drew.cell⟩) (fun aH=>?_);refine tk2 1 rfl aH (h:=tk2 2 rfl aH (h:=tk2 4 rfl aH (h:=?_)));(try simp only[zz])
 refine wpAnyH_par [0,3,5,6,7] #[true,true,true,true,true,true,true,true,false] 5 (by kernel_rfl) aH
  (fun a0 D a1 w'=>aJ (Below w.heap.size w w'∧Blk w' w.heap.size tAs #[.slice A1 a.facts.length c1,.slice A2 a.atoms.length c2]∧Blk w' (w.heap.size+1) tA #[.int .i64 x.kind,.int .i64 x.a,.int .i64 x.b]∧Blk w' (w.heap.size+2) tAs #[.slice none 0 0,.slice none 0 0])∧
   aJ ((dn D 3=true→dn D 0=true)∧(dn D 6=true→dn D 3=true∧dn D 5=true))∧
   ∃ v11 v14 v16 v17 v9,a1=((((a0.put (some 11) v11).put (some 14) v14).put (some 16) v16).put (some 17) v17).put (some 9) v9∧
    aJ (dn D 0=true→dn D 3=false→(∃ g,v11=.slice (some ⟨g,0,none⟩) 0 0)∧FactsO w' w.heap.size v11 [])∧
    aJ (dn D 3=true→(∃ A c,v14=.slice A a.facts.length c)∧FactsO w' w.heap.size v14 a.facts)∧
    aJ (dn D 5=true→(∃ g,v16=.slice (some ⟨g,0,none⟩) 1 1)∧AtomsO w' w.heap.size v16 [x])∧
    aJ (dn D 6=true→v17=.agg #[v14,v16])∧
    aJ (dn D 7=true→∃ g,v9=.pointer (some ⟨g,0,none⟩)∧w.heap.size+2<g∧Blk w' g tAs #[.slice none 0 0,.slice none 0 0])) ?start ?steps ?fin
 case start=>
  refine ⟨⟨hB.drew,k0.drew,k1.drew,kr.drew⟩,⟨fun h=>absurd h (by decide),fun h=>absurd h (by decide)⟩,undef,undef,undef,undef,undef,rfl,fun h=>absurd h (by decide),fun h=>absurd h (by decide),fun h=>absurd h (by decide),fun h=>absurd h (by decide),fun h=>absurd h (by decide)⟩
 case steps=>
  refine ParSteps.cons rfl (fun D a1 w' hu hd hI hS K' hK G hG=>?_) (ParSteps.cons rfl (fun D a1 w' hu hd hI hS K' hK G hG=>?_) (ParSteps.cons rfl (fun D a1 w' hu hd hI hS K' hK G hG=>?_) (ParSteps.cons rfl (fun D a1 w' hu hd hI hS K' hK G hG=>?_) (ParSteps.cons rfl (fun D a1 w' hu hd hI hS K' hK G hG=>?_) ParSteps.nil))))
  ·
   obtain ⟨HW,HC,v11,v14,v16,v17,v9,ha,h0,h3,h5,h6,h7⟩:=hI;rw[ha] at hG;clear ha a1;have u0:=dn_un hu;have u3:dn D 3=false:=by cases e:dn D 3;rfl;have:=HC.o.1 e;rw[u0] at this;cases this
   have HU:=ax u3;have U6:aJ (dn D 6=false):=by show _=_;cases e:dn D 6;rfl;have:=(HC.o.2 e).1;rw[u3] at this;cases this
   clear u0 u3;refine hG ?_;clear hG hd;(try simp only[zz]);go_simp;have hB2:Below w.heap.size w (w'.alloc (.cells #[] tF)):=HW.o.1.alloc HW.o.1.size _;have hBw:Below w'.heap.size w' (w'.alloc (.cells #[] tF)):=bbox (Below.refl _ _) _;refine hK.out _ _ ⟨(HW.o.2.1.alloc _).cell,(HW.o.2.2.1.alloc _).cell⟩ ⟨⟨hB2,HW.o.2.1.alloc _,HW.o.2.2.1.alloc _,HW.o.2.2.2.alloc _⟩,⟨fun h=>?_,fun h=>?_⟩,.slice (some ⟨w'.heap.size,0,none⟩) 0 0,v14,v16,v17,v9,rfl,?_,?_,?_,?_,?_⟩
   ·exact dn_self hu
   ·rw[dn_ne (by decide)] at h;rw[U6.o] at h;cases h
   ·exact fun _ _=>⟨⟨_,rfl⟩,(FactsO.empty w').bq HW.o.1.size⟩
   ·intro h;rw[dn_ne (by decide)] at h;rw[HU.o] at h;cases h
   ·intro h;rw[dn_ne (by decide)] at h;exact ⟨(h5.o h).1,(h5.o h).2.bz hBw⟩
   ·intro h;rw[dn_ne (by decide)] at h;rw[U6.o] at h;cases h
   ·intro h;rw[dn_ne (by decide)] at h;obtain ⟨g,e,hg,hk⟩:=h7.o h;exact ⟨g,e,hg,hk.alloc _⟩
  ·
   obtain ⟨HW,HC,v11,v14,v16,v17,v9,ha,h0,h3,h5,h6,h7⟩:=hI;rw[ha] at hG;clear ha a1;have u3:=dn_un hu;have t0:dn D 0=true:=hd ⟨0,.data⟩ (by simp) (by decide);obtain ⟨⟨y,rfl⟩,o⟩:=h0.o t0 u3;have HO:=ax o;have HU:=ax (And.intro u3 t0);have U6:aJ (dn D 6=false):=by show _=_;cases e:dn D 6;rfl;have:=(HC.o.2 e).1;rw[u3] at this;cases this
   clear u3 t0 o h0 hd;refine hG ?_;clear hG;(try simp only[zz]);rw[if_pos (by simp[Region.wanted])];refine wp_appFL (base:=w.heap.size) (xs:=[]) (ys:=a.facts) _ _ rfl rfl HO.o rfl (H1.o.bz HW.o.1) (by simp;omega) HW.o.1.size ?_;intro A' c' w2 o2 hg2 hB2;simp only[List.nil_append] at o2 ⊢;refine hK.out _ _ ⟨(Blk.zm (hg:=hg2) HW.o.2.1 HO.o.1 (by decide)).cell,(Blk.zm (hg:=hg2) HW.o.2.2.1 HO.o.1 (by decide)).cell⟩ ⟨⟨HW.o.1.trans hB2,Blk.zm (hg:=hg2) HW.o.2.1 HO.o.1 (by decide),Blk.zm (hg:=hg2) HW.o.2.2.1 HO.o.1 (by decide),Blk.zm (hg:=hg2) HW.o.2.2.2 HO.o.1 (by decide)⟩,⟨fun h=>?_,fun h=>?_⟩,.slice (some ⟨y,0,none⟩) 0 0,.slice A' a.facts.length c',v16,v17,v9,rfl,?_,?_,?_,?_,?_⟩
   ·rw[dn_ne (by decide)];exact HU.o.2
   ·rw[dn_ne (by decide)] at h;rw[U6.o] at h;cases h
   ·intro _ h;rw[dn_self hu] at h;cases h
   ·exact fun _=>⟨⟨A',c',rfl⟩,o2⟩
   ·intro h;rw[dn_ne (by decide)] at h;exact ⟨(h5.o h).1,AtomsO.grownF (h5.o h).2 HO.o hg2⟩
   ·intro h;rw[dn_ne (by decide)] at h;rw[U6.o] at h;cases h
   ·intro h;rw[dn_ne (by decide)] at h;obtain ⟨g,e,hg,hk⟩:=h7.o h;exact ⟨g,e,hg,Blk.zm (hg:=hg2) hk HO.o.1 (by decide)⟩
  ·
   obtain ⟨HW,HC,v11,v14,v16,v17,v9,ha,h0,h3,h5,h6,h7⟩:=hI;rw[ha] at hG;clear ha a1;have u5:=dn_un hu;have U6:aJ (dn D 6=false):=by show _=_;cases e:dn D 6;rfl;have:=(HC.o.2 e).2;rw[u5] at this;cases this
   clear u5;refine hG ?_;clear hG hd;(try simp only[zz]);go_simp;have hB2:Below w.heap.size w (w'.alloc (.cells #[.int .i64 x.kind,.int .i64 x.a,.int .i64 x.b] tA)):=HW.o.1.alloc HW.o.1.size _;have hBw:Below w'.heap.size w' (w'.alloc (.cells #[.int .i64 x.kind,.int .i64 x.a,.int .i64 x.b] tA)):=bbox (Below.refl _ _) _;refine hK.out _ _ ⟨(HW.o.2.1.alloc _).cell,(HW.o.2.2.1.alloc _).cell⟩ ⟨⟨hB2,HW.o.2.1.alloc _,HW.o.2.2.1.alloc _,HW.o.2.2.2.alloc _⟩,⟨fun h=>?_,fun h=>?_⟩,v11,v14,.slice (some ⟨w'.heap.size,0,none⟩) 1 1,v17,v9,rfl,?_,?_,?_,?_,?_⟩
   ·rw[dn_ne (by decide)] at h ⊢;exact HC.o.1 h
   ·rw[dn_ne (by decide)] at h;rw[U6.o] at h;cases h
   ·intro h h';rw[dn_ne (by decide)] at h h';exact ⟨(h0.o h h').1,(h0.o h h').2.bz hBw⟩
   ·intro h;rw[dn_ne (by decide)] at h;exact ⟨(h3.o h).1,(h3.o h).2.bz hBw⟩
   ·exact fun _=>⟨⟨_,rfl⟩,AtomsO.oneN w' x HW.o.1.size⟩
   ·intro h;rw[dn_ne (by decide)] at h;rw[U6.o] at h;cases h
   ·intro h;rw[dn_ne (by decide)] at h;obtain ⟨g,e,hg,hk⟩:=h7.o h;exact ⟨g,e,hg,hk.alloc _⟩
  ·
   obtain ⟨HW,HC,v11,v14,v16,v17,v9,ha,h0,h3,h5,h6,h7⟩:=hI;rw[ha] at hG;clear ha a1;have t3:dn D 3=true:=hd ⟨3,.data⟩ (by simp) (by decide);have t5:dn D 5=true:=hd ⟨5,.data⟩ (by simp) (by decide);have HT2:=ax (And.intro t3 t5);obtain ⟨⟨A,c,rfl⟩,o3⟩:=h3.o t3;obtain ⟨⟨y,rfl⟩,o5⟩:=h5.o t5;have HO3:=ax o3;have HO5:=ax o5;clear t3 t5 hd o3 o5 h3 h5;refine hG ?_;clear hG;(try simp only[zz]);go_simp;refine hK.out _ _ hS ⟨HW.o,⟨fun h=>?_,fun h=>?_⟩,v11,.slice A a.facts.length c,.slice (some ⟨y,0,none⟩) 1 1,.agg #[.slice A a.facts.length c,.slice (some ⟨y,0,none⟩) 1 1],v9,rfl,?_,?_,?_,?_,?_⟩
   ·rw[dn_ne (by decide)] at h ⊢;exact HC.o.1 h
   ·rw[dn_ne (by decide),dn_ne (by decide)];exact HT2.o
   ·intro h h';rw[dn_ne (by decide)] at h h';exact h0.o h h'
   ·exact fun _=>⟨⟨_,_,rfl⟩,HO3.o⟩
   ·exact fun _=>⟨⟨_,rfl⟩,HO5.o⟩
   ·exact fun _=>rfl
   ·intro h;rw[dn_ne (by decide)] at h;exact h7.o h
  ·
   obtain ⟨HW,HC,v11,v14,v16,v17,v9,ha,h0,h3,h5,h6,h7⟩:=hI;rw[ha] at hG;clear ha a1;refine hG ?_;clear hG hd;(try simp only[zz]);go_simp;have hB2:Below w.heap.size w (w'.alloc (.cells #[.slice none 0 0,.slice none 0 0] tAs)):=HW.o.1.alloc HW.o.1.size _;have hBw:Below w'.heap.size w' (w'.alloc (.cells #[.slice none 0 0,.slice none 0 0] tAs)):=bbox (Below.refl _ _) _;have hlt:=HW.o.2.2.2.lt;refine hK.out _ _ ⟨(HW.o.2.1.alloc _).cell,(HW.o.2.2.1.alloc _).cell⟩ ⟨⟨hB2,HW.o.2.1.alloc _,HW.o.2.2.1.alloc _,HW.o.2.2.2.alloc _⟩,⟨fun h=>?_,fun h=>?_⟩,v11,v14,v16,v17,.pointer (some ⟨w'.heap.size,0,none⟩),rfl,?_,?_,?_,?_,?_⟩
   ·rw[dn_ne (by decide)] at h ⊢;exact HC.o.1 h
   ·rw[dn_ne (by decide)] at h;rw[dn_ne (by decide),dn_ne (by decide)];exact HC.o.2 h
   ·intro h h';rw[dn_ne (by decide)] at h h';exact ⟨(h0.o h h').1,(h0.o h h').2.bz hBw⟩
   ·intro h;rw[dn_ne (by decide)] at h;exact ⟨(h3.o h).1,(h3.o h).2.bz hBw⟩
   ·intro h;rw[dn_ne (by decide)] at h;exact ⟨(h5.o h).1,(h5.o h).2.bz hBw⟩
   ·intro h;rw[dn_ne (by decide)] at h;exact h6.o h
   ·exact fun _=>⟨_,rfl,hlt,Blk.new _ _ _⟩
 case fin=>
  rintro a1 w4 aH ⟨HW,-,v11,v14,v16,v17,v9,rfl,-,h3,h5,h6,h7⟩;obtain rfl:=h6.o (by decide);obtain ⟨⟨A,c,rfl⟩,o3⟩:=h3.o (by decide);obtain ⟨⟨B,rfl⟩,o5⟩:=h5.o (by decide);obtain ⟨g,rfl,hg,kg⟩:=h7.o (by decide);have HO3:=ax o3;have HO5:=ax o5;have hBf:=HW.o.1;have k4:=HW.o.2.1;have k14:=HW.o.2.2.1;have kr4:=HW.o.2.2.2;clear h3 h5 h6 h7 o3 o5 k0 k1 kr hB HW;(try simp only[zz]);(replace qk4:=k4.z;replace qkr4:=kr4.z;replace qkg:=kg.z);refine rdc 8 rfl fun K hK=>?_;(try simp only[zz]);go_simp;refine hK.out _ _ (⟨((k4.far (p:=⟨g,0,none⟩) (by simp only;omega) _).far (p:=⟨g,1,none⟩) (by simp only;omega) _).cell,((k14.far (p:=⟨g,0,none⟩) (by simp only;omega) _).far (p:=⟨g,1,none⟩) (by simp only;omega) _).cell⟩) ?_;clear aH hK K;intro aH;(try simp only[zz]);refine dn1 ?_;have kg2:Blk ((w4.setCell ⟨g,0,none⟩ (.slice A a.facts.length c)).setCell ⟨g,1,none⟩ (.slice (some ⟨B,0,none⟩) 1 1)) g tAs #[.slice A a.facts.length c,.slice (some ⟨B,0,none⟩) 1 1]:=by simpa using (kg.set_ 0 (.slice A a.facts.length c)).set_ 1 (.slice (some ⟨B,0,none⟩) 1 1)
  have hB5:Below w.heap.size w ((w4.setCell ⟨g,0,none⟩ (.slice A a.facts.length c)).setCell ⟨g,1,none⟩ (.slice (some ⟨B,0,none⟩) 1 1)):=(hBf.setCell (p:=⟨g,0,none⟩) (by simp only;omega) _).setCell (p:=⟨g,1,none⟩) (by simp only;omega) _;have k5:=(k4.far (p:=⟨g,0,none⟩) (by simp only;omega) (.slice A a.facts.length c)).far (p:=⟨g,1,none⟩) (by simp only;omega) (.slice (some ⟨B,0,none⟩) 1 1);have kr5:=(kr4.far (p:=⟨g,0,none⟩) (by simp only;omega) (.slice A a.facts.length c)).far (p:=⟨g,1,none⟩) (by simp only;omega) (.slice (some ⟨B,0,none⟩) 1 1);have HF5:=ax ((HO3.o.setT kg (by decide) 0 (.slice A a.facts.length c)).setT (kg.set_ 0 _) (by decide) 1 (.slice (some ⟨B,0,none⟩) 1 1));have HA5:=ax ((HO5.o.setT kg (by decide) 0 (.slice A a.facts.length c)).setT (kg.set_ 0 _) (by decide) 1 (.slice (some ⟨B,0,none⟩) 1 1));clear HO3 HO5 hBf k4 k14 kr4 kg qk4 qkr4 qkg;generalize ((w4.setCell ⟨g,0,none⟩ (.slice A a.facts.length c)).setCell ⟨g,1,none⟩ (.slice (some ⟨B,0,none⟩) 1 1))=w5 at kg2 hB5 k5 kr5 HF5 HA5 ⊢;have HB5:=ax hB5;clear hB5;(go_wp2_with fail)
  go_loopw [10] (fun n wr=>∃ (j:Nat) (xs:List Atm) (A3:Option Addr) (c3:Nat),j≤a.atoms.length∧n=.int .i64 j∧xs.length≤j+1∧aJ (FactsO wr w.heap.size (.slice A a.facts.length c) a.facts)∧aJ (AtomsO wr w.heap.size (.slice A3 xs.length c3) xs)∧
   Blk wr w.heap.size tAs #[.slice A1 a.facts.length c1,.slice A2 a.atoms.length c2]∧Blk wr (w.heap.size+2) tAs #[.slice none 0 0,.slice none 0 0]∧Blk wr g tAs #[.slice A a.facts.length c,.slice A3 xs.length c3]∧aJ (Below w.heap.size w wr)) (fun n _=>a.atoms.length - (intOf n).toNat)
  case atStart=>exact ⟨0,[x],some ⟨B,0,none⟩,1,Nat.zero_le _,rfl,Nat.le_refl _,HF5.o,HA5.o,k5,kr5,kg2,HB5.o⟩
  case round=>
   clear k5 kr5 kg2 HF5 HA5 HB5;obtain ⟨j,xs,A3,c3,hj,rfl,hxl,HF,HA,k0,kr,kg,HB⟩:=hrel;(replace qk0:=k0.z;replace qkr:=kr.cell;replace rkr:=kr.frozen;replace lkr:=kr.lt;replace qkg:=kg.z);have hsz:=HB.o.size;by_cases hlt:j<a.atoms.length
   ·have HX:=ax (H2.o.bz HB.o);obtain ⟨b,off,rfl,hbl⟩:=HX.o.blt hlt;have hji:(j:Int)<(a.atoms.length:Int):=by omega
    by_cases e1:(j:Int)=i
    ·have e1':((j:Int) != i)=false:=by simpa using e1
     clear e1;(go_wp2_with fail)
     go_round
     case rel=>exact ⟨j+1,xs,A3,c3,by omega,by go_num,by omega,HF,HA,k0,kr,kg,HB⟩
     case measure=>simp[intOf];omega
    ·have e1':((j:Int) != i)=true:=by simpa using e1
     clear e1;by_cases e2:(j:Int)=k
     ·have e2':((j:Int) != k)=false:=by simpa using e2
      clear e2;(go_wp2_with fail)
      go_round
      case rel=>exact ⟨j+1,xs,A3,c3,by omega,by go_num,by omega,HF,HA,k0,kr,kg,HB⟩
      case measure=>simp[intOf];omega
     ·have e2':((j:Int) != k)=true:=by simpa using e2
      clear e2;(go_wp2_with fail);refine wp_region_noPanic ?_;refine wp_region_last' (S:=(fun w'=>(∀ i,w'.cell? ⟨g,i,none⟩=#[.slice A a.facts.length c,.slice A3 xs.length c3][i]?)∧(∀ i,w'.cell? ⟨w.heap.size,i,none⟩=#[.slice A1 a.facts.length c1,.slice (some ⟨b,off,none⟩) a.atoms.length c2][i]?)∧w'.cell? ⟨b,off+j * 3,none⟩=some (.int .i64 a.atoms[j].kind)∧w'.cell? ⟨b,off+j * 3+1,none⟩=some (.int .i64 a.atoms[j].a)∧w'.cell? ⟨b,off+j * 3+2,none⟩=some (.int .i64 a.atoms[j].b))) (by simp) (by kernel_rfl) (by kernel_rfl) (⟨Blk.cell blks,Blk.cell blks,(AtomsV.bz HX.o bel).cl hlt⟩) (fun aH=>?_);simp only[List.dropLast,List.getLast,nopOf,List.cons_append,List.nil_append,List.length_cons,List.length_nil,Nat.zero_add,Nat.reduceAdd];refine tk2 0 rfl aH (h:=tk2 1 rfl aH (h:=tk2 2 rfl aH (h:=?_)));(try simp only[zz]);refine tk2 3 rfl aH (h:=tk2 4 rfl aH (h:=tk2 5 rfl aH (h:=?_)));(try simp only[zz]);refine tk2 6 rfl aH (h:=?_);refine rdc 7 rfl fun K hK=>?_;(try simp only[zz]);go_simp;refine hK.out _ _ (⟨Blk.cell blks,Blk.cell blks,(AtomsV.bz HX.o bel).cl hlt⟩) ?_;clear aH hK K;intro aH;(try simp only[zz]);have hBX:Below w.heap.size w (wr.alloc (.cells #[.int .i64 a.atoms[j].kind,.int .i64 a.atoms[j].a,.int .i64 a.atoms[j].b] tA)).drew:=(Below.alloc HB.o hsz _).drew;have HAX:=ax (HA.o.bz (((Below.refl wr.heap.size wr).alloc (Nat.le_refl _) (.cells #[.int .i64 a.atoms[j].kind,.int .i64 a.atoms[j].a,.int .i64 a.atoms[j].b] tA)).drew));have HFX:=ax (HF.o.bz (((Below.refl wr.heap.size wr).alloc (Nat.le_refl _) (.cells #[.int .i64 a.atoms[j].kind,.int .i64 a.atoms[j].a,.int .i64 a.atoms[j].b] tA)).drew));have kl:=(Blk.new wr tA #[.int .i64 a.atoms[j].kind,.int .i64 a.atoms[j].a,.int .i64 a.atoms[j].b]).drew;have kgX:=(kg.alloc (.cells #[.int .i64 a.atoms[j].kind,.int .i64 a.atoms[j].a,.int .i64 a.atoms[j].b] tA)).drew;have k0X:=(k0.alloc (.cells #[.int .i64 a.atoms[j].kind,.int .i64 a.atoms[j].a,.int .i64 a.atoms[j].b] tA)).drew;have krX:=(kr.alloc (.cells #[.int .i64 a.atoms[j].kind,.int .i64 a.atoms[j].a,.int .i64 a.atoms[j].b] tA)).drew;clear kg k0 kr HA HF HX qk0 qkg qkr rkr lkr;generalize (wr.alloc (.cells #[.int .i64 a.atoms[j].kind,.int .i64 a.atoms[j].a,.int .i64 a.atoms[j].b] tA)).drew=V at hBX HAX HFX kl kgX k0X krX aH ⊢;have hszV:=hBX.size;generalize wr.heap.size=L at kl ⊢;clear hsz hbl HB;refine rdc 8 rfl fun K hK=>?_;skip;(refine stepAL (base:=w.heap.size) (xs:=xs) (ys:=[a.atoms[j]]) rfl _ _ rfl rfl HAX.o rfl (AtomsV.one' kl) (by simp;omega) hszV ?_;intro A' d' w2 of2 hg2 hB3;have z2:=Blk.zm (hg:=hg2) kgX HAX.o.1 (by decide);have z0:=Blk.zm (hg:=hg2) k0X HAX.o.1 (by decide);have hBw2:Below w.heap.size w w2:=hBX.trans hB3);refine hK.out _ _ (⟨z2.cell,z0.cell,(H2.o.bz hBw2).cl hlt⟩) ?_;clear aH hK K;intro aH;(try simp only[zz]);have rz2:=z2.frozen;have lz2:=z2.lt;refine tk2 9 rfl aH (h:=?_);(try simp only[zz]);refine rdc 10 rfl fun K hK=>?_;go_simp;refine hK.out _ _ (⟨z2.cell,z0.cell,(H2.o.bz hBw2).cl hlt⟩) (fun aH=>?_);clear hK K;refine wpAnyH_done (by kernel_rfl) ?_ _;unfold lastQ;go_simp;refine NoPanic.normal ?_;have zr:=Blk.zm (hg:=hg2) krX HAX.o.1 (by decide);(go_wp2_with fail);have of3:=of2.setT z2 (by decide) 1 (.slice A' (xs.length+1) d')
      go_round
      case rel=>exact ⟨j+1,xs++[a.atoms[j]],A',d',by omega,by go_num,by simp;omega,(FactsO.grownA HFX.o HAX.o hg2).setT z2 (by decide) _ _,of3,z0.far (by simp only[];omega) _,zr.far (by simp only[];omega) _,(by have:=z2.set_ 1 (.slice A' (xs.length+1) d');simpa using this),hBw2.setCell (p:=⟨g,1,none⟩) (by simp only;omega) _⟩
      case measure=>simp[intOf];omega
   ·obtain rfl:j=a.atoms.length:=by omega
    have hne:g≠w.heap.size+2:=by omega
    (go_wp2_with fail);refine bodyPost_ret (v:=.agg #[.slice A a.facts.length c,.slice A3 xs.length c3]) (by simp[results,Tryz.results225,go_sem,qkr]) rfl ⟨_,⟨a.facts,xs⟩,rfl,⟨_,_,rfl,?_,?_⟩,Nat.le_refl _,hxl,?_⟩
    ·exact (HF.o.setT kr (by decide) 0 _).setT (kr.set_ 0 _) (by decide) 1 _
    ·exact (HA.o.setT kr (by decide) 0 _).setT (kr.set_ 0 _) (by decide) 1 _
    ·exact (HB.o.setCell (p:=⟨w.heap.size+2,0,none⟩) (by simp only;omega) _).setCell (p:=⟨w.heap.size+2,1,none⟩) (by simp only;omega) _
end
end Go.Proofs.YtjaohekkmlkinaaGreat
