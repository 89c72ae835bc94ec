/- Exposing cells: impl.exposeListAt. Printed by genExpD2.py. -/
import Derived.Test.YtjaohekkmlkinaaGreatMaPar
import Derived.Deep.DeepCutAuto
import Derived.Laws.BitsAllLaws
import Derived.BigQuiet
import Derived.Deep.RegionHeld3
import Derived.Deep.QuietTactic
import Derived.Test.YtjaohekkmlkinaaGreatMaCmdOne
set_option linter.unusedSimpArgs false
set_option linter.unusedVariables false
set_option maxRecDepth 100000
set_option maxHeartbeats 25600000
namespace Go.Proofs.YtjaohekkmlkinaaGreat
section
open Go Go.RowKit Go.Proofs
attribute [local go_sem ↓] Go.wp_at_zero Go.wp_at_succ
theorem list_none {n:Nat} {a:Asn} {x:Atm} {i:Nat} {t:Int} {K:Nat} (h:newT (tset (mz a)|||tins K t)=none):listF n a x i t K=none:=by unfold listF;rw[h]
theorem list_bad {n m:Nat} {a:Asn} {x:Atm} {i:Nat} {t:Int} {K:Nat} (h:newT (tset (mz a)|||tins K t)=some m) (hv:(emptyX a x i).valid=false∨(fullX a x i m).valid=false):listF n a x i t K=none:=by
 unfold listF;rw[h];rcases hv with hv|hv
 ·simp only[expose_bad hv]
 ·simp only[expose_bad hv];cases exposeF n (emptyX a x i) t K<;>rfl
theorem list_first {n m:Nat} {a:Asn} {x:Atm} {i:Nat} {t:Int} {K:Nat} (h:newT (tset (mz a)|||tins K t)=some m) (h1:exposeF n (emptyX a x i) t K=none):listF n a x i t K=none:=by
 unfold listF;rw[h];simp only[h1]
theorem list_second {n m:Nat} {a:Asn} {x:Atm} {i:Nat} {t:Int} {K:Nat} (h:newT (tset (mz a)|||tins K t)=some m) (h1:exposeF n (fullX a x i m) t K=none):listF n a x i t K=none:=by
 unfold listF;rw[h];simp only[h1];cases exposeF n (emptyX a x i) t K<;>rfl
theorem list_both {n m:Nat} {a:Asn} {x:Atm} {i:Nat} {t:Int} {K:Nat} {l1 l2:List Asn} (h:newT (tset (mz a)|||tins K t)=some m) (h1:exposeF n (emptyX a x i) t K=some l1) (h2:exposeF n (fullX a x i m) t K=some l2):listF n a x i t K=some (l1++l2):=by
 unfold listF;rw[h];simp only[h1,h2]
theorem c_joinFn {lo hi lo' hi':Nat} (A A':Option Addr) (c c' n:Nat) (fs gs:List Fct) (w:World) (h:FactsV w lo hi A fs) (h':FactsV w lo' hi' A' gs) (hn:n=fs.length+gs.length) (hl:n≤1049600) :
  Calls Tryz.prog 111 #[.slice A fs.length c,.slice A' gs.length c'] w fun e w'=>∃ F d,e=.returned (.slice F n d)∧FactsO w' w.heap.size (.slice F n d) (fs++gs)∧Below w.heap.size w w':=by
 refine (c_joinF A A' c c' fs gs w h h' (by omega)).mono ?_;rintro e w' ⟨r,rfl,o,hB⟩;obtain ⟨F,d,rfl,-⟩:=o.rj;rw[List.length_append,←hn] at o ⊢;exact ⟨F,d,rfl,o,hB⟩
theorem c_joinAn {lo hi lo' hi':Nat} (A A':Option Addr) (c c' n:Nat) (fs gs:List Atm) (w:World) (h:AtomsV w lo hi A fs) (h':AtomsV w lo' hi' A' gs) (hn:n=fs.length+gs.length) (hl:n≤1049600) :
  Calls Tryz.prog 112 #[.slice A fs.length c,.slice A' gs.length c'] w fun e w'=>∃ F d,e=.returned (.slice F n d)∧AtomsO w' w.heap.size (.slice F n d) (fs++gs)∧Below w.heap.size w w':=by
 refine (c_joinA A A' c c' fs gs w h h' (by omega)).mono ?_;rintro e w' ⟨r,rfl,o,hB⟩;obtain ⟨F,d,rfl,-⟩:=o.rj;rw[List.length_append,←hn] at o ⊢;exact ⟨F,d,rfl,o,hB⟩
section
variable {ops:Array Oper} {o:Oper} {a:Act} {K:Act→World→Prop} {Q:Exit→Act→World→Prop} {E:Prop} {w:World} {base lo hi c n:Nat} {v:Value} {A:Option Addr}
theorem stepALn {Y:Nat→Option Bool} (hgd:o.guard=none) (s x:Operand) (ho:o.op=.call { callee:=.builtin .append,args:=#[s,x],argTypes:=#[35,35] })
  {xs ys:List Atm} (hs:a.eval s=v) (hown:AtomsO w base v xs) (hx:a.eval x=.slice A ys.length c) (hR:AtomsV w lo hi A ys) (hn:n=xs.length+ys.length) (hl:n≤1049600) (hb:base≤w.heap.size)
  (h:∀ A' c' w',AtomsO w' base (.slice A' n c') (xs++ys)→w.grownBy w' v.ownBlock→Below base w w'→K (a.put o.dst (.slice A' n c')) w'):if Region.wanted o Y=true then Oper.wp Tryz.prog o a w K Q else E:=by
 have hw:Region.wanted o Y=true:=by simp[Region.wanted,hgd]
 have hw':Region.wanted o (yielded #[] a.tmps)=true:=by simp[Region.wanted,hgd]
 rw[if_pos hw]
 suffices H:if Region.wanted o (yielded #[] a.tmps)=true then Oper.wp Tryz.prog o a w K Q else E by rwa [if_pos hw'] at H
 refine stepAL hgd s x ho hs hown hx hR (by omega) hb ?_;intro A' c' w' h1 h2 h3;rw[List.length_append,←hn] at h1 ⊢;exact h A' c' w' h1 h2 h3
end
theorem A2O.rd {w:World} {base n c:Nat} {A:Option Addr} {vs:List Value} {ss:List Asn} (h:A2O w base (.slice A n c) vs ss):Rd w base w.heap.size 2 A ss.length vs:=by
 obtain ⟨A',c',e,h1⟩:=own_reads h.row h.lim;injection e with e1 e2 e3;subst e1;exact h1
theorem A2O.join {w1 w2 w3:World} {b1 b2 b3 base:Nat} {v1 v2 r:Value} {vs1 vs2:List Value} {l1 l2:List Asn} (h1:A2O w1 b1 v1 vs1 l1) (hB1:Below w1.heap.size w1 w2) (h2:A2O w2 b2 v2 vs2 l2) (hb2:w1.heap.size≤b2) (hB2:Below w2.heap.size w2 w3)
  (hb:base≤b1) (hbb:base≤b2) (hr:w3.ownsRow b3 tAs 2 r (l1.length+l2.length) (vs1++vs2)) (hb3:base≤b3) (hl:l1.length+l2.length≤1049600):A2O w3 base r (vs1++vs2) (l1++l2):=
 ⟨by rw[List.length_append];exact own_lower hr hb3,by rw[List.length_append];exact hl,(((h1.els.bz hB1).bq hb).cat h2.els hbb fun k hk=>(h1.els.und k hk).mono hb2).bz hB2⟩
theorem c_exposeListAt (n:Nat) (a:Asn) (x:Atm) (i:Nat) (t:Int) (Ks:Nat) (hv:a.valid=true) (hx:a.atoms[i]? = some x) (hKs:Ks<512) (hn:n≤6)
  (HE:ExpC n (emptyX a x i) t Ks) (HF:∀ m:Nat,ExpC n (fullX a x i (m:Int)) t Ks):ExpL n a x i t Ks:=by
 intro lo hi0 v w h hhi;have hV:=ax h;obtain ⟨A1,c1,A2,c2,rfl,h1,h2,-⟩:=h;have H1:=ax h1;have hvl:=zjC hv;obtain ⟨hi,hxe⟩:=List.getElem?_eq_some_iff.1 hx;have hwl:=withoutL_len hi;obtain ⟨b,o,rfl,g0,g1,g2⟩:=h2.at hi;rw[hxe] at g0 g1 g2;have hbl:=block_lt_of_cell g0;simp only at hbl;have hii:(i:Int)<(a.atoms.length:Int):=by omega
 have HEH:=ax HE;have HFH:=ax HF;have HK:=ax (tins_lt hKs t);have HN:=ax (Nat.pow_le_pow_right (show 0<2 from by decide) hn);clear h1 h2 HE HF hx hxe hv hhi;(go_enter Tryz.func289,Tryz.ntmps289);have k0:Blk (w.alloc (.cells #[.slice A1 a.facts.length c1,.slice (some ⟨b,o,none⟩) a.atoms.length c2] tAs)) w.heap.size tAs #[.slice A1 a.facts.length c1,.slice (some ⟨b,o,none⟩) a.atoms.length c2]:=blks;have hB:Below w.heap.size w (w.alloc (.cells #[.slice A1 a.facts.length c1,.slice (some ⟨b,o,none⟩) a.atoms.length c2] tAs)):=bel;(go_upto_region 2 with fail);have hB2:=bbox hB (.cells #[.int .i64 x.kind,.int .i64 x.a,.int .i64 x.b] tA);have kx:Blk ((w.alloc (.cells #[.slice A1 a.facts.length c1,.slice (some ⟨b,o,none⟩) a.atoms.length c2] tAs)).alloc (.cells #[.int .i64 x.kind,.int .i64 x.a,.int .i64 x.b] tA)) (w.heap.size+1) tA #[.int .i64 x.kind,.int .i64 x.a,.int .i64 x.b]:=blks;replace k0:=k0.alloc (.cells #[.int .i64 x.kind,.int .i64 x.a,.int .i64 x.b] tA);have hs2:((w.alloc (.cells #[.slice A1 a.facts.length c1,.slice (some ⟨b,o,none⟩) a.atoms.length c2] tAs)).alloc (.cells #[.int .i64 x.kind,.int .i64 x.a,.int .i64 x.b] tA)).heap.size=w.heap.size+2:=by simp
 generalize ((w.alloc (.cells #[.slice A1 a.facts.length c1,.slice (some ⟨b,o,none⟩) a.atoms.length c2] tAs)).alloc (.cells #[.int .i64 x.kind,.int .i64 x.a,.int .i64 x.b] tA))=W2 at k0 kx hB2 hs2 ⊢;clear hB g0 g1 g2;have HB2:=ax hB2;clear hB2;(replace qk0:=k0.z);(go_wp2_with fail);refine (c_impl_without _ a i _ (hV.o.bz HB2.o) hi).mono ?_;rintro e w3 ⟨r,rfl,oR,hB3⟩;obtain ⟨G1,d1,rfl,-⟩:=oR.rj;have OR:=ax oR;have HB3:=ax (bgo HB2.o hB3);replace k0:=k0.nz hB3;replace kx:=kx.nz hB3;have hs3:w.heap.size+2≤w3.heap.size:=by have:=hB3.size;omega
 have hs3':=hB3.size;clear hB3 oR HB2;(replace qk0:=k0.z);(go_wp2_with fail);clear qk0;refine wp_region_noPanic ?_;refine wp_region_held_drew (S:=(fun w'=>∀ i,w'.cell? ⟨w.heap.size,i,none⟩=#[.slice A1 a.facts.length c1,.slice (some ⟨b,o,none⟩) a.atoms.length c2][i]?)) (by kernel_rfl) (k0.drew.cell) (fun aH=>?_);refine tk2 0 rfl aH (h:=tk2 1 rfl aH (h:=tk2 2 rfl aH (h:=?_)));refine rdc 3 rfl fun K hK=>?_;(try simp only[zz]);(go_simp;refine (c_impl_with Ks t _ hKs).mono ?_;rintro e w4 ⟨rfl,rfl⟩);refine hK.out _ _ (k0.drew.cell) ?_;clear aH hK K;intro aH;refine rdc 4 rfl fun K hK=>?_;(try simp only[zz]);(go_simp;refine (c_impl_newVariable _ a (tins Ks t) _ (hV.o.V.bz (HB3.o.drew)) HK.o).mono ?_;rintro e w4 ⟨rfl,hB4⟩;replace hB4:Below w3.heap.size w3 w4:=(Below.refl _ _).drew.trans hB4;replace k0:=k0.nz hB4;replace kx:=kx.nz hB4;have HB4:=ax (bgo HB3.o hB4);have OR4:=ax (OR.o.bz hB4);have hs4:=hB4.size;clear hB4 OR HB3);refine hK.out _ _ (k0.cell) ?_;clear aH hK K;intro aH;(try simp only[zz]);refine tk2 5 rfl aH (h:=tk2 6 rfl aH (h:=tk2 7 rfl aH (h:=?_)));refine rdc 8 rfl fun K hK=>?_;(try simp only[zz]);go_simp;refine hK.out _ _ (k0.cell) ?_;clear aH hK K;intro aH;refine rdc 9 rfl fun K hK=>?_;(try simp only[zz]);go_simp;refine hK.out _ _ (k0.cell) ?_;clear aH hK K;intro aH;(try simp only[zz]);refine dn1 ?_;cases hnt:newT (tset (mz a)|||tins Ks t)
 case none=>
  have E:=ax (list_none (n:=n) (x:=x) (i:=i) hnt);clear hnt;(go_wp2_with fail);go_ret2;exact ⟨_,_,by rw[E.o];rfl,by rw[E.o];exact A2O.nil _ _,HB4.o⟩
 case some m=>
  have EI:unusedI (tset (mz a)|||tins Ks t)=(m:Int):=by unfold unusedI;rw[hnt]
  rw[EI];clear EI;have HNT:=ax hnt;clear hnt;(replace qk0:=k0.z;replace qkx:=kx.z);(go_upto_region 8 with (go_at_call 111;refine (c_joinFn A1 (some ⟨w4.heap.size,0,none⟩) c1 1 (a.facts.length+1) a.facts [⟨true,x.a,x.b⟩] _ (H1.o.bz (bbox HB4.o _)) (FactsV.one (f:=⟨true,x.a,x.b⟩) (Blk.new _ _ _)) rfl (by omega)).mono ?_;rintro e w5 ⟨F1,e1,rfl,oF,hB5⟩;replace hB5:Below w4.heap.size w4 w5:=(bbox (Below.refl _ _) _).trans (hB5.mono (by simp));have OF1:=ax (oF.bq (base':=w.heap.size) (by simp;omega));have HB5:=ax (bgo HB4.o hB5);have hs5:=hB5.size;replace k0:=k0.nz hB5;replace kx:=kx.nz hB5;have OR5:=ax (OR4.o.bz hB5);clear oF hB5 HB4 OR4 qk0 qkx;(replace qk0:=k0.z;replace qkx:=kx.z)));have kE:Blk ((w5.alloc (.cells #[.slice F1 (a.facts.length+1) e1,.slice G1 (zv a.atoms i).length d1] tAs)).alloc (.cells #[.int .i64 1,.int .i64 x.a,.int .i64 m] tA)) w5.heap.size tAs #[.slice F1 (a.facts.length+1) e1,.slice G1 (zv a.atoms i).length d1]:=(Blk.new _ _ _).alloc _;have kf:Blk ((w5.alloc (.cells #[.slice F1 (a.facts.length+1) e1,.slice G1 (zv a.atoms i).length d1] tAs)).alloc (.cells #[.int .i64 1,.int .i64 x.a,.int .i64 m] tA)) (w5.heap.size+1) tA #[.int .i64 1,.int .i64 x.a,.int .i64 m]:=Blk.newE (by simp);have hbW:Below w5.heap.size w5 ((w5.alloc (.cells #[.slice F1 (a.facts.length+1) e1,.slice G1 (zv a.atoms i).length d1] tAs)).alloc (.cells #[.int .i64 1,.int .i64 x.a,.int .i64 m] tA)):=bbox (bbox (Below.refl _ _) _) _;have hsW:((w5.alloc (.cells #[.slice F1 (a.facts.length+1) e1,.slice G1 (zv a.atoms i).length d1] tAs)).alloc (.cells #[.int .i64 1,.int .i64 x.a,.int .i64 m] tA)).heap.size=w5.heap.size+2:=by simp
  replace k0:=k0.nz hbW;replace kx:=kx.nz hbW;have HB:=ax (bgo HB5.o hbW);have OF:=ax (OF1.o.bz hbW);have OR:=ax ((OR5.o.bz hbW).bq (base':=w.heap.size) (by omega));clear hbW HB5 OF1 OR5 qk0 qkx;generalize ((w5.alloc (.cells #[.slice F1 (a.facts.length+1) e1,.slice G1 (zv a.atoms i).length d1] tAs)).alloc (.cells #[.int .i64 1,.int .i64 x.a,.int .i64 m] tA))=W at k0 kx kE kf hsW HB OF OR ⊢;obtain ⟨yE,hyE⟩:∃ y,y=w5.heap.size:=⟨_,rfl⟩;rw[←hyE] at kE kf hsW ⊢;have hyw:w.heap.size+2≤yE:=by omega
  clear hyE hs5 hs4 hs3 hs3' hs2
  go_cut [16] (fun s16 wc=>∃ (xb:Nat) (F2:Option Addr) (e2:Nat) (G2:Option Addr) (e3:Nat),s16=.pointer (some ⟨xb,0,none⟩)∧aJ (FactsO wc W.heap.size (.slice F2 (a.facts.length+1) e2) (a.facts++[⟨false,x.a,x.b⟩]))∧aJ (AtomsO wc W.heap.size (.slice G2 (a.atoms.length+1) e3) (([⟨1,x.a,(m:Int)⟩]++zv a.atoms i)++[⟨2,(m:Int),x.b⟩]))∧Blk wc xb tAs #[.slice F2 (a.facts.length+1) e2,.slice G2 (a.atoms.length+1) e3]∧W.heap.size≤xb∧aJ (Below W.heap.size W wc))
  case first=>
   (replace qk0:=k0.z;replace qkx:=kx.z);(go_wp2_with fail);refine wp_region_noPanic ?_;refine wp_region_held_drew (S:=(fun w'=>(∀ i,w'.cell? ⟨w.heap.size,i,none⟩=#[.slice A1 a.facts.length c1,.slice (some ⟨b,o,none⟩) a.atoms.length c2][i]?)∧(∀ i,w'.cell? ⟨w.heap.size+1,i,none⟩=#[.int .i64 x.kind,.int .i64 x.a,.int .i64 x.b][i]?))) (by kernel_rfl) (⟨k0.drew.cell,kx.drew.cell⟩) (fun aH=>?_);clear qk0 qkx;have HBQ:aJ (Below W.heap.size W W.drew):=ax (Below.refl _ _).drew;have hzq:W.heap.size≤W.drew.heap.size:=Nat.le_refl _;generalize W.drew=wq at HBQ hzq aH ⊢;refine tk2 0 rfl aH (h:=tk2 1 rfl aH (h:=tk2 2 rfl aH (h:=?_)));(try simp only[zz]);refine tk2 3 rfl aH (h:=tk2 4 rfl aH (h:=tk2 5 rfl aH (h:=?_)));(try simp only[zz]);refine tk2 6 rfl aH (h:=tk2 9 rfl aH (h:=tk2 10 rfl aH (h:=?_)));(try simp only[zz]);refine tk2 12 rfl aH (h:=tk2 13 rfl aH (h:=tk2 14 rfl aH (h:=?_)));(try simp only[zz]);refine tk2 15 rfl aH (h:=?_);(try simp only[zz])
   refine wpAnyH_par [7,8,11,16,17,18,19] #[true,true,true,true,true,true,true,true,true,true,true,true,true,true,true,true,true,true,true,true,false] 7 (by kernel_rfl) aH
    (fun a0 D a1 w'=>aJ (Below W.heap.size W w')∧∃ v61 v62 v65 v70 v71 v72 v16,a1=(((((((a0.put (some 61) v61).put (some 62) v62).put (some 65) v65).put (some 70) v70).put (some 71) v71).put (some 72) v72).put (some 16) v16)∧
     aJ (dn D 7=true→∃ y,v61=.slice (some ⟨y,0,none⟩) 1 1∧W.heap.size≤y∧Blk w' y tF #[.bool false,.int .i64 x.a,.int .i64 x.b])∧
     aJ (dn D 8=true→∃ F e,v62=.slice F (a.facts.length+1) e∧FactsO w' W.heap.size (.slice F (a.facts.length+1) e) (a.facts++[⟨false,x.a,x.b⟩]))∧
     aJ (dn D 11=true→dn D 17=false→∃ G e,v65=.slice G a.atoms.length e∧AtomsO w' W.heap.size (.slice G a.atoms.length e) ([⟨1,x.a,(m:Int)⟩]++zv a.atoms i))∧
     aJ (dn D 16=true→dn D 17=false→∃ y,v70=.slice (some ⟨y,0,none⟩) 1 1∧W.heap.size≤y∧Blk w' y tA #[.int .i64 2,.int .i64 m,.int .i64 x.b])∧
     aJ (dn D 17=true→∃ G e,v71=.slice G (a.atoms.length+1) e∧AtomsO w' W.heap.size (.slice G (a.atoms.length+1) e) (([⟨1,x.a,(m:Int)⟩]++zv a.atoms i)++[⟨2,(m:Int),x.b⟩]))∧
     aJ (dn D 18=true→(dn D 8=true∧dn D 17=true)∧v72=.agg #[v62,v71])∧
     aJ (dn D 19=true→∃ y,v16=.pointer (some ⟨y,0,none⟩)∧W.heap.size≤y∧Blk w' y tAs #[.slice none 0 0,.slice none 0 0])) ?start ?steps ?fin
   case start=>exact ⟨HBQ,undef,undef,undef,undef,undef,undef,undef,(by simp only[Act.put,List.setIfInBounds_toArray,List.set_cons_zero,List.set_cons_succ]),fun h=>absurd h (by decide),fun h=>absurd h (by decide),fun h=>absurd h (by decide),fun h=>absurd h (by decide),fun h=>absurd h (by decide),fun h=>absurd h (by decide),fun h=>absurd h (by decide)⟩
   case steps=>
    refine ParSteps.cons rfl (fun D a1 w' hu hd hI hS K' hK G hG=>?_) (ParSteps.cons rfl (fun D a1 w' hu hd hI hS K' hK G hG=>?_) (ParSteps.cons rfl (fun D a1 w' hu hd hI hS K' hK G hG=>?_) (ParSteps.cons rfl (fun D a1 w' hu hd hI hS K' hK G hG=>?_) (ParSteps.cons rfl (fun D a1 w' hu hd hI hS K' hK G hG=>?_) (ParSteps.cons rfl (fun D a1 w' hu hd hI hS K' hK G hG=>?_) (ParSteps.cons rfl (fun D a1 w' hu hd hI hS K' hK G hG=>?_) (ParSteps.nil)))))))
    ·obtain ⟨HW,v61,v62,v65,v70,v71,v72,v16,ha,h7,h8,h11,h16,h17,h18,h19⟩:=hI;rw[ha] at hG;clear ha a1;have hsz:=HW.o.size;refine hG ?_;clear hG hd;(try simp only[zz]);go_simp;have hBq:Below w'.heap.size w' (w'.alloc (.cells #[.bool false,.int .i64 x.a,.int .i64 x.b] tF)):=bbox (Below.refl _ _) _;exact hK.out _ _ ⟨((k0.nz HW.o).alloc _).cell,((kx.nz HW.o).alloc _).cell⟩ ⟨HW.o.trans (hBq.mono hsz),(.slice (some ⟨w'.heap.size,0,none⟩) 1 1),v62,v65,v70,v71,v72,v16,(by simp only[Act.put,List.setIfInBounds_toArray,List.set_cons_zero,List.set_cons_succ]),(fun _=>⟨_,rfl,hsz,Blk.new _ _ _⟩),(dn_keep (by decide) h8.o fun ⟨F,e,r,o⟩=>⟨F,e,r,o.bz hBq⟩),(fun p q=>by rw[dn_ne (by decide)] at p q;obtain ⟨G,e,r,o⟩:=h11.o p q;exact ⟨G,e,r,o.bz hBq⟩),(fun p q=>by rw[dn_ne (by decide)] at p q;obtain ⟨y,e,hy,k⟩:=h16.o p q;exact ⟨y,e,hy,k.nz hBq⟩),(dn_keep (by decide) h17.o fun ⟨F,e,r,o⟩=>⟨F,e,r,o.bz hBq⟩),(fun p=>by rw[dn_ne (by decide)] at p;rw[dn_ne (by decide),dn_ne (by decide)];exact h18.o p),(dn_keep (by decide) h19.o fun ⟨y,e,hy,k⟩=>⟨y,e,hy,k.nz hBq⟩)⟩
    ·obtain ⟨HW,v61,v62,v65,v70,v71,v72,v16,ha,h7,h8,h11,h16,h17,h18,h19⟩:=hI;rw[ha] at hG;clear ha a1;have hsz:=HW.o.size;obtain ⟨y,rfl,hy,k7⟩:=h7.o (hd ⟨7,.data⟩ (by simp) (by decide));have K7:=ax k7;clear k7;refine hG ?_;clear hG hd;(try simp only[zz]);go_simp;refine (c_joinFn A1 (some ⟨y,0,none⟩) c1 1 (a.facts.length+1) a.facts [⟨false,x.a,x.b⟩] _ (H1.o.bz (bgo HB.o HW.o)) (FactsV.one (f:=⟨false,x.a,x.b⟩) K7.o) rfl (by omega)).mono ?_;rintro e wq ⟨F2,e2,rfl,oF,hBq⟩;exact hK.out _ _ ⟨((k0.nz HW.o).nz hBq).cell,((kx.nz HW.o).nz hBq).cell⟩ ⟨HW.o.trans (hBq.mono hsz),(.slice (some ⟨y,0,none⟩) 1 1),(.slice F2 (a.facts.length+1) e2),v65,v70,v71,v72,v16,(by simp only[Act.put,List.setIfInBounds_toArray,List.set_cons_zero,List.set_cons_succ]),fun _=>⟨y,rfl,hy,K7.o.nz hBq⟩,fun _=>⟨F2,e2,rfl,oF.bq hsz⟩,(fun p q=>by rw[dn_ne (by decide)] at p q;obtain ⟨G,e,r,o⟩:=h11.o p q;exact ⟨G,e,r,o.bz hBq⟩),(fun p q=>by rw[dn_ne (by decide)] at p q;obtain ⟨y,e,hy,k⟩:=h16.o p q;exact ⟨y,e,hy,k.nz hBq⟩),(dn_keep (by decide) h17.o fun ⟨F,e,r,o⟩=>⟨F,e,r,o.bz hBq⟩),(fun p=>by rw[dn_ne (by decide)] at p;have:=(h18.o p).1.1;rw[dn_un hu] at this;cases this),(dn_keep (by decide) h19.o fun ⟨y,e,hy,k⟩=>⟨y,e,hy,k.nz hBq⟩)⟩
    ·obtain ⟨HW,v61,v62,v65,v70,v71,v72,v16,ha,h7,h8,h11,h16,h17,h18,h19⟩:=hI;rw[ha] at hG;clear ha a1;have hsz:=HW.o.size;refine hG ?_;clear hG hd;(try simp only[zz]);go_simp;refine (c_joinAn (some ⟨yE+1,0,none⟩) G1 1 d1 a.atoms.length [⟨1,x.a,(m:Int)⟩] (zv a.atoms i) _ (AtomsV.one (f:=⟨1,x.a,(m:Int)⟩) (kf.nz HW.o)) (OR.o.readsI.2.bz HW.o) (by simp<;>omega) (by omega)).mono ?_;rintro e wq ⟨G2,e3,rfl,oJ,hBq⟩;exact hK.out _ _ ⟨((k0.nz HW.o).nz hBq).cell,((kx.nz HW.o).nz hBq).cell⟩ ⟨HW.o.trans (hBq.mono hsz),v61,v62,(.slice G2 a.atoms.length e3),v70,v71,v72,v16,(by simp only[Act.put,List.setIfInBounds_toArray,List.set_cons_zero,List.set_cons_succ]),(dn_keep (by decide) h7.o fun ⟨y,e,hy,k⟩=>⟨y,e,hy,k.nz hBq⟩),(dn_keep (by decide) h8.o fun ⟨F,e,r,o⟩=>⟨F,e,r,o.bz hBq⟩),(fun _ _=>⟨G2,e3,rfl,oJ.bq hsz⟩),(fun p q=>by rw[dn_ne (by decide)] at p q;obtain ⟨y,e,hy,k⟩:=h16.o p q;exact ⟨y,e,hy,k.nz hBq⟩),(dn_keep (by decide) h17.o fun ⟨F,e,r,o⟩=>⟨F,e,r,o.bz hBq⟩),(fun p=>by rw[dn_ne (by decide)] at p;rw[dn_ne (by decide),dn_ne (by decide)];exact h18.o p),(dn_keep (by decide) h19.o fun ⟨y,e,hy,k⟩=>⟨y,e,hy,k.nz hBq⟩)⟩
    ·obtain ⟨HW,v61,v62,v65,v70,v71,v72,v16,ha,h7,h8,h11,h16,h17,h18,h19⟩:=hI;rw[ha] at hG;clear ha a1;have hsz:=HW.o.size;refine hG ?_;clear hG hd;(try simp only[zz]);go_simp;have hBq:Below w'.heap.size w' (w'.alloc (.cells #[.int .i64 2,.int .i64 m,.int .i64 x.b] tA)):=bbox (Below.refl _ _) _;exact hK.out _ _ ⟨((k0.nz HW.o).alloc _).cell,((kx.nz HW.o).alloc _).cell⟩ ⟨HW.o.trans (hBq.mono hsz),v61,v62,v65,(.slice (some ⟨w'.heap.size,0,none⟩) 1 1),v71,v72,v16,(by simp only[Act.put,List.setIfInBounds_toArray,List.set_cons_zero,List.set_cons_succ]),(dn_keep (by decide) h7.o fun ⟨y,e,hy,k⟩=>⟨y,e,hy,k.nz hBq⟩),(dn_keep (by decide) h8.o fun ⟨F,e,r,o⟩=>⟨F,e,r,o.bz hBq⟩),(fun p q=>by rw[dn_ne (by decide)] at p q;obtain ⟨G,e,r,o⟩:=h11.o p q;exact ⟨G,e,r,o.bz hBq⟩),(fun _ _=>⟨_,rfl,hsz,Blk.new _ _ _⟩),(dn_keep (by decide) h17.o fun ⟨F,e,r,o⟩=>⟨F,e,r,o.bz hBq⟩),(fun p=>by rw[dn_ne (by decide)] at p;rw[dn_ne (by decide),dn_ne (by decide)];exact h18.o p),(dn_keep (by decide) h19.o fun ⟨y,e,hy,k⟩=>⟨y,e,hy,k.nz hBq⟩)⟩
    ·obtain ⟨HW,v61,v62,v65,v70,v71,v72,v16,ha,h7,h8,h11,h16,h17,h18,h19⟩:=hI;rw[ha] at hG;clear ha a1;have hsz:=HW.o.size;obtain ⟨G2,e3,rfl,oj⟩:=h11.o (hd ⟨11,.data⟩ (by simp) (by decide)) (dn_un hu);obtain ⟨y,rfl,hy,k16⟩:=h16.o (hd ⟨16,.data⟩ (by simp) (by decide)) (dn_un hu);refine hG ?_;clear hG hd;(try simp only[zz]);refine stepALn (ys:=[⟨2,(m:Int),x.b⟩]) (n:=a.atoms.length+1) rfl _ _ rfl rfl oj rfl (AtomsV.one (f:=⟨2,(m:Int),x.b⟩) k16) (by simp<;>omega) (by omega) hsz ?_;intro G3 e4 wq oB hg hBq;(try simp only[zz]);refine hK.out _ _ ⟨(k0.nz (HW.o.trans hBq)).cell,(kx.nz (HW.o.trans hBq)).cell⟩ ?_;exact ⟨HW.o.trans hBq,v61,v62,(.slice G2 a.atoms.length e3),(.slice (some ⟨y,0,none⟩) 1 1),(.slice G3 (a.atoms.length+1) e4),v72,v16,(by simp only[Act.put,List.setIfInBounds_toArray,List.set_cons_zero,List.set_cons_succ]),(dn_keep (by decide) h7.o fun ⟨y,e,hy,k⟩=>⟨y,e,hy,Blk.zm k oj.1 hg (by decide)⟩),(dn_keep (by decide) h8.o fun ⟨F,e,r,o⟩=>⟨F,e,r,o.grownA oj hg⟩),(fun _ q=>by rw[dn_self hu] at q;cases q),(fun _ q=>by rw[dn_self hu] at q;cases q),fun _=>⟨G3,e4,rfl,oB⟩,(fun p=>by rw[dn_ne (by decide)] at p;have:=(h18.o p).1.2;rw[dn_un hu] at this;cases this),(dn_keep (by decide) h19.o fun ⟨y,e,hy,k⟩=>⟨y,e,hy,Blk.zm k oj.1 hg (by decide)⟩)⟩
    ·obtain ⟨HW,v61,v62,v65,v70,v71,v72,v16,ha,h7,h8,h11,h16,h17,h18,h19⟩:=hI;rw[ha] at hG;clear ha a1;have hsz:=HW.o.size;have d8:=hd ⟨8,.data⟩ (by simp) (by decide);have d17:=hd ⟨17,.data⟩ (by simp) (by decide);obtain ⟨F2,e2,rfl,oF⟩:=h8.o d8;obtain ⟨G3,e4,rfl,oB⟩:=h17.o d17;replace oF:=ax oF;replace oB:=ax oB;replace d8:=ax d8;replace d17:=ax d17;refine hG ?_;clear hG hd;(try simp only[zz]);go_simp;exact hK.out _ _ hS ⟨HW.o,v61,(.slice F2 (a.facts.length+1) e2),v65,v70,(.slice G3 (a.atoms.length+1) e4),(.agg #[(.slice F2 (a.facts.length+1) e2),(.slice G3 (a.atoms.length+1) e4)]),v16,(by simp only[Act.put,List.setIfInBounds_toArray,List.set_cons_zero,List.set_cons_succ]),(dn_keep (by decide) h7.o fun ⟨y,e,hy,k⟩=>⟨y,e,hy,k⟩),fun _=>⟨F2,e2,rfl,oF.o⟩,(fun p q=>by rw[dn_ne (by decide)] at p q;obtain ⟨G,e,r,o⟩:=h11.o p q;exact ⟨G,e,r,o⟩),(fun p q=>by rw[dn_ne (by decide)] at p q;obtain ⟨y,e,hy,k⟩:=h16.o p q;exact ⟨y,e,hy,k⟩),fun _=>⟨G3,e4,rfl,oB.o⟩,fun _=>⟨⟨by rw[dn_ne (by decide)];exact d8.o,by rw[dn_ne (by decide)];exact d17.o⟩,rfl⟩,(dn_keep (by decide) h19.o fun ⟨y,e,hy,k⟩=>⟨y,e,hy,k⟩)⟩
    ·obtain ⟨HW,v61,v62,v65,v70,v71,v72,v16,ha,h7,h8,h11,h16,h17,h18,h19⟩:=hI;rw[ha] at hG;clear ha a1;have hsz:=HW.o.size;refine hG ?_;clear hG hd;(try simp only[zz]);go_simp;have hBq:Below w'.heap.size w' (w'.alloc (.cells #[.slice none 0 0,.slice none 0 0] tAs)):=bbox (Below.refl _ _) _;exact hK.out _ _ ⟨((k0.nz HW.o).alloc _).cell,((kx.nz HW.o).alloc _).cell⟩ ⟨HW.o.trans (hBq.mono hsz),v61,v62,v65,v70,v71,v72,(.pointer (some ⟨w'.heap.size,0,none⟩)),(by simp only[Act.put,List.setIfInBounds_toArray,List.set_cons_zero,List.set_cons_succ]),(dn_keep (by decide) h7.o fun ⟨y,e,hy,k⟩=>⟨y,e,hy,k.nz hBq⟩),(dn_keep (by decide) h8.o fun ⟨F,e,r,o⟩=>⟨F,e,r,o.bz hBq⟩),(fun p q=>by rw[dn_ne (by decide)] at p q;obtain ⟨G,e,r,o⟩:=h11.o p q;exact ⟨G,e,r,o.bz hBq⟩),(fun p q=>by rw[dn_ne (by decide)] at p q;obtain ⟨y,e,hy,k⟩:=h16.o p q;exact ⟨y,e,hy,k.nz hBq⟩),(dn_keep (by decide) h17.o fun ⟨F,e,r,o⟩=>⟨F,e,r,o.bz hBq⟩),(fun p=>by rw[dn_ne (by decide)] at p;rw[dn_ne (by decide),dn_ne (by decide)];exact h18.o p),(fun _=>⟨_,rfl,hsz,Blk.new _ _ _⟩)⟩
   case fin=>
    rintro a1 wz aH ⟨HBQ,v61,v62,v65,v70,v71,v72,v16,rfl,h7,h8,h11,h16,h17,h18,h19⟩;obtain ⟨F2,e2,rfl,oF⟩:=h8.o (by decide);obtain ⟨G3,e4,rfl,oB⟩:=h17.o (by decide);obtain rfl:=(h18.o (by decide)).2;obtain ⟨xb,rfl,hxbb,kBox⟩:=h19.o (by decide);have OF2:=ax oF;have OB:=ax oB;have hzq:=HBQ.o.size;clear h7 h8 h11 h16 h17 h18 h19 oF oB;(try simp only[zz]);have hlB:=kBox.lt;have qb:=kBox.cell;have rb:=kBox.frozen;refine rdc 20 rfl fun K hK=>?_;(try simp only[zz]);go_simp;refine hK.out _ _ (⟨(((k0.nz HBQ.o).far (p:=⟨xb,0,none⟩) (by simp only;omega) _).far (p:=⟨xb,1,none⟩) (by simp only;omega) _).cell,(((kx.nz HBQ.o).far (p:=⟨xb,0,none⟩) (by simp only;omega) _).far (p:=⟨xb,1,none⟩) (by simp only;omega) _).cell⟩) ?_;clear aH hK K;intro aH;(try simp only[zz]);refine dn1 ?_;(go_wp2_with fail);go_meet
    case rel=>
     refine ⟨xb,_,_,_,_,rfl,ax ((OF2.o.setT kBox (by decide) 0 _).setT (kBox.set_ 0 _) (by decide) 1 _),ax ((OB.o.setT kBox (by decide) 0 _).setT (kBox.set_ 0 _) (by decide) 1 _),?_,hxbb,ax ((HBQ.o.setCell (p:=⟨xb,0,none⟩) (by simp only;omega) _).setCell (p:=⟨xb,1,none⟩) (by simp only;omega) _)⟩;have:=(kBox.set_ 0 (.slice F2 (a.facts.length+1) e2)).set_ 1 (.slice G3 (a.atoms.length+1) e4);simpa using this
  case rest=>
   obtain ⟨xb,F2,e2,G2,e3,rfl,OF2,OB2,kb,hxb,HBC⟩:=hcut;have kE1:=kE.nz HBC.o;have HBw:=ax (bgo HB.o HBC.o);have hsc:=HBC.o.size;have OE:aJ (AsnO wc w.heap.size (.agg #[.slice F1 (a.facts.length+1) e1,.slice G1 (zv a.atoms i).length d1]) (emptyX a x i)):=ax ⟨_,_,rfl,OF.o.bz HBC.o,OR.o.bz HBC.o⟩;have OX:aJ (AsnO wc W.heap.size (.agg #[.slice F2 (a.facts.length+1) e2,.slice G2 (a.atoms.length+1) e3]) (fullX a x i (m:Int))):=ax ⟨_,_,rfl,OF2.o,OB2.o⟩;clear HBC kE kf OF OR k0 kx OF2 OB2 HB;(replace qkE1:=kE1.z);have hlb0:=kb.lt;(go_wp2_with fail);refine (jz _ (emptyX a x i) _ (OE.o.rj.bz bel)).mono ?_;rintro e w6 ⟨rfl,hB6⟩;replace kE1:=kE1.nz hB6;replace kb:=kb.nz hB6;have HB6:=ax (bgo HBw.o hB6);have hs6:=hB6.size;replace OE:=ax (OE.o.bz hB6);replace OX:=ax (OX.o.bz hB6);clear hB6 HBw qkE1;cases hve:(emptyX a x i).valid
   ·have E:=ax (list_bad (n:=n) HNT.o (.inl hve));clear hve;(go_wp2_with fail);go_ret2;exact ⟨_,_,by rw[E.o];rfl,by rw[E.o];exact A2O.nil _ _,HB6.o⟩
   have HVE:=ax hve;clear hve;(replace qkb:=kb.z);(go_wp2_with fail);refine (jz _ (fullX a x i (m:Int)) _ (OX.o.rj.bz bel)).mono ?_;rintro e w7 ⟨rfl,hB7⟩;replace kE1:=kE1.nz hB7;replace kb:=kb.nz hB7;have HB7:=ax (bgo HB6.o hB7);have hs7:=hB7.size;replace OE:=ax (OE.o.bz hB7);replace OX:=ax (OX.o.bz hB7);clear hB7 HB6 qkb;cases hvf:(fullX a x i (m:Int)).valid
   ·have E:=ax (list_bad (n:=n) HNT.o (.inr hvf));clear hvf;(go_wp2_with fail);go_ret2;exact ⟨_,_,by rw[E.o];rfl,by rw[E.o];exact A2O.nil _ _,HB7.o⟩
   have HVF:=ax hvf;clear hvf;(replace qkE1:=kE1.z);(go_wp2_with fail);refine (HEH.o w.heap.size _ _ _ OE.o.C (Nat.le_refl _) HVE.o).mono ?_;rintro e w8 ⟨r1,vs1,rfl,o1,hB8⟩;obtain ⟨R1,z1,rfl⟩:=o1.form;replace kb:=kb.nz hB8;have HB8:=ax (bgo HB7.o hB8);have hs8:=hB8.size;have O1:=ax o1;replace OX:=ax (OX.o.bz hB8);clear hB8 HB7 qkE1 kE1 o1 OE;cases he1:exposeF n (emptyX a x i) t Ks
   case none=>
    have E:=ax (list_first (n:=n) HNT.o he1);clear he1;(go_wp2_with fail);go_ret2;exact ⟨_,_,by rw[E.o];rfl,by rw[E.o];exact A2O.nil _ _,HB8.o⟩
   case some l1=>
   have HE1:=ax he1;rw[he1] at O1;clear he1;(replace qkb:=kb.z);(go_wp2_with fail);refine (HFH.o m w.heap.size _ _ _ (AsnO.C (OX.o.bq (by omega))) (Nat.le_refl _) HVF.o).mono ?_;rintro e w9 ⟨r2,vs2,rfl,o2,hB9⟩;obtain ⟨R2,z2,rfl⟩:=o2.form;have HB9:=ax (bgo HB8.o hB9);have hs9:=hB9.size;have HB9':=ax hB9;have O2:=ax o2;clear hB9 HB8 qkb kb o2 OX;cases he2:exposeF n (fullX a x i (m:Int)) t Ks
   case none=>
    have E:=ax (list_second (n:=n) HNT.o he2);clear he2;(go_wp2_with fail);go_ret2;exact ⟨_,_,by rw[E.o];rfl,by rw[E.o];exact A2O.nil _ _,HB9.o⟩
   case some l2=>
   have HE2:=ax he2;rw[he2] at O2;clear he2;simp only[Option.getD_some] at O1 O2 ⊢;have E:=ax (list_both (n:=n) HNT.o HE1.o HE2.o);have hl1:=(expose_ok HE1.o).1;have hl2:=(expose_ok HE2.o).1;have hll:l1.length+l2.length≤1049600:=by have:=HN.o;omega
   clear hl1 hl2;(go_wp2_with fail);refine (c_joinAs R1 R2 l1.length l2.length z1 z2 vs1 vs2 _ (O1.o.rd.bz HB9'.o) O2.o.rd O1.o.els.one_cell O2.o.els.one_cell hll).mono ?_;rintro e w10 ⟨r3,rfl,o3,hB10⟩;have O3:=ax o3;have HB10:=ax hB10;have HB11:=ax (bgo HB9.o hB10);obtain ⟨R3,z3,rfl,-⟩:=own_reads o3 hll;clear o3 hB10;(go_wp2_with fail);go_ret2;refine ⟨_,vs1++vs2,by rw[E.o];rfl,?_,HB11.o⟩;rw[E.o];exact A2O.join O1.o HB9'.o O2.o (Nat.le_refl _) HB10.o (by omega) (by omega) O3.o (by omega) hll
theorem c_impl_expose:∀ (n:Nat),n≤7→∀ (a:Asn) (t:Int) (K:Nat),K<512→a.atoms.length<n→ExpC n a t K
 | 0,_,a,_,_,_,h=>absurd h (Nat.not_lt_zero _)
 | n+1,hn,a,t,K,hK,h=>fun lo hi v w h1 h2 hv=>
  c_expose_step n a t K (fun i x _ _ hx hk himp=>by
   have hi:=(List.getElem?_eq_some_iff.1 hx).1;have hwl:=withoutL_len hi;refine c_exposeListAt n a x i t K hv hx hK (by omega) (c_impl_expose n (by omega) _ t K hK (by simp only[emptyX];omega)) fun m=>?_;obtain ⟨n',rfl⟩:∃ n',n=n'+1:=⟨n - 1,by omega⟩;intro lo hi v w g1 g2 gv
   exact c_expose_step n' _ t K (fun i' x' hf _ _ _ _=>by rw[full_find hx hk gv himp] at hf;cases hf) lo hi v w g1 g2 gv) lo hi v w h1 h2 hv
end
section
open Go Go.RowKit Go.Proofs
def forgetF (a:Asn) (x:Int) (K:Nat):Option (Asn×Int):=if (tset (mz a)).testBit x.toNat then (newT (tset (mz a)|||K)).map fun n=>(substA x (n:Int) a,(n:Int)) else some (a,x)
def setX (a:Asn) (x p t:Int):Asn:=⟨a.facts++[⟨true,x,swp x p t⟩],a.atoms⟩
def newX (a:Asn) (x:Int):Asn:=⟨a.facts,⟨1,x,0⟩ :: a.atoms⟩
def okX (a:Asn):Option Asn:=if a.valid then some a else none
def assignF (a:Asn) (x t:Int) (K:Nat):Option Asn:=(forgetF a x K).bind fun p=>okX (setX p.1 x p.2 t)
def cellNF (a:Asn) (x:Int) (K:Nat):Option Asn:=(forgetF a x K).bind fun p=>okX (newX p.1 x)
def head0 (a:Asn):Atm:=(a.atoms[0]?).getD default
def storeX (a:Asn) (B:Int):Asn:=⟨a.facts,a.atoms.set 0 ⟨(head0 a).kind,(head0 a).a,B⟩⟩
def freeX (a:Asn):Asn:=⟨a.facts,zv a.atoms 0⟩
def accF (k A B:Int) (a:Asn) (K:Nat):Option Asn:=if k=2 then assignF a A (head0 a).b K else if k=3 then some (storeX a B) else some (freeX a)
def mapF (f:Asn→Option Asn):List Asn→Option (List Asn)
 | []=>some []
 | x :: xs=>(f x).bind fun y=>(mapF f xs).map (y :: ·)
theorem mapF_none {f:Asn→Option Asn}:∀ {xs:List Asn} {k:Nat} (hk:k<xs.length),f xs[k]=none→mapF f xs=none
 | x :: xs,0,_,h=>by unfold mapF;rw[show f x=none from h];rfl
 | x :: xs,k+1,hk,h=>by
  unfold mapF;rw[mapF_none (xs:=xs) (k:=k) (by simpa using hk) h];cases f x<;>rfl
theorem mapF_some {f:Asn→Option Asn}:∀ {xs ys:List Asn},ys.length=xs.length→(∀ (k:Nat) (h:k<xs.length) (h':k<ys.length),f xs[k]=some ys[k])→mapF f xs=some ys
 | [],[],_,_=>rfl
 | [],_ :: _,h,_=>by simp at h
 | _ :: _,[],h,_=>by simp at h
 | x :: xs,y :: ys,hl,h=>by
  unfold mapF;rw[show f x=some y from h 0 (by simp) (by simp),mapF_some (xs:=xs) (ys:=ys) (by simpa using hl) fun k h1 h2=>h (k+1) (by simpa using h1) (by simpa using h2)];rfl
theorem mapF_spec {f:Asn→Option Asn}:∀ {xs ys:List Asn},mapF f xs=some ys→ys.length=xs.length∧∀ (k:Nat) (h:k<xs.length) (h':k<ys.length),f xs[k]=some ys[k]
 | [],ys,h=>by obtain rfl:=Option.some.inj h;exact ⟨rfl,fun k h=>absurd h (by simp)⟩
 | x :: xs,ys,h=>by
  unfold mapF at h;rw[Option.bind_eq_some_iff] at h;obtain ⟨y,h1,h2⟩:=h;rw[Option.map_eq_some_iff] at h2;obtain ⟨zs,h3,rfl⟩:=h2;obtain ⟨g1,g2⟩:=mapF_spec h3;refine ⟨by simp[g1],fun k k1 k2=>?_⟩
  cases k with
  | zero=>exact h1
  | succ k=>exact g2 k (by simpa using k1) (by simpa using k2)
def symT (k A B:Int):Int:=if k=2 then B else A
def symB (a:Asn) (k A B:Int) (K:Nat):Option (List Asn):=
 if k=1 then (if A=B then some [a] else (assignF a A B K).map fun x=>[x])
 else if k=4 then (cellNF a A K).map fun x=>[x]
 else (exposeF 7 a (symT k A B) K).bind fun l=>mapF (fun x=>accF k A B x K) l
def keepK (K:Nat) (A B:Int):Nat:=tins (tins K A) B
def symR (a:Asn) (ok:Bool) (k A B:Int) (ks:List Int):Option (List Asn):=if a.valid&&ok then symB a k A B (keepK (tset ks) A B) else none
theorem okX_ok {a b:Asn} (h:okX a=some b):b.valid=true∧b=a:=by
 unfold okX at h
 split at h
 ·rename_i hv;obtain rfl:=Option.some.inj h;exact ⟨hv,rfl⟩
 ·cases h
theorem assignF_ok {a b:Asn} {x t:Int} {K:Nat} (h:assignF a x t K=some b):b.valid=true:=by
 unfold assignF at h;obtain ⟨p,-,h⟩:=Option.bind_eq_some_iff.1 h;exact (okX_ok h).1
theorem cellF_ok {a b:Asn} {x:Int} {K:Nat} (h:cellNF a x K=some b):b.valid=true:=by
 unfold cellNF at h;obtain ⟨p,-,h⟩:=Option.bind_eq_some_iff.1 h;exact (okX_ok h).1
theorem storeX_ok {a:Asn} (hv:a.valid=true) {B:Int} (hB:jq B=true):(storeX a B).valid=true:=by
 unfold storeX;simp only[Asn.valid,Bool.and_eq_true,List.length_set] at hv ⊢;refine ⟨hv.1,hv.2.1,List.all_eq_true.2 fun y hy=>?_⟩
 cases e:a.atoms with
 | nil=>rw[e] at hy;simp at hy
 | cons z zs=>
  have hz:=List.all_eq_true.1 hv.2.2 z (by rw[e];simp);have e0:head0 a=z:=by unfold head0;rw[e];rfl
  rcases List.mem_or_eq_of_mem_set hy with hy|rfl
  ·exact List.all_eq_true.1 hv.2.2 y hy
  ·simp only[Atm.valid,e0,hB] at hz ⊢;simp at hz ⊢;exact hz.1
theorem freeX_ok {a:Asn} (hv:a.valid=true):(freeX a).valid=true:=by
 unfold freeX zv;simp only[Asn.valid,Bool.and_eq_true,decide_eq_true_eq,List.take_zero,List.nil_append,List.length_drop] at hv ⊢;exact ⟨hv.1,by omega,List.all_eq_true.2 fun y hy=>List.all_eq_true.1 hv.2.2 y (List.mem_of_mem_drop hy)⟩
theorem accF_ok {k A B:Int} {a b:Asn} {K:Nat} (hv:a.valid=true) (hB:k=3→jq B=true) (h:accF k A B a K=some b):b.valid=true:=by
 unfold accF at h
 split at h
 ·exact assignF_ok h
 ·split at h
  ·rename_i h3;obtain rfl:=Option.some.inj h;exact storeX_ok hv (hB h3)
  ·obtain rfl:=Option.some.inj h;exact freeX_ok hv
theorem symB_ok {a:Asn} {k A B:Int} {K:Nat} {l:List Asn} (hv:a.valid=true) (hB:k=3→jq B=true) (h:symB a k A B K=some l):l.length≤128∧∀ b∈l,b.valid=true:=by
 unfold symB at h
 split at h
 ·split at h
  ·obtain rfl:=Option.some.inj h;exact ⟨by simp,fun b hb=>by rw[List.mem_singleton.1 hb];exact hv⟩
  ·obtain ⟨x,hx,rfl⟩:=Option.map_eq_some_iff.1 h;exact ⟨by simp,fun b hb=>by rw[List.mem_singleton.1 hb];exact assignF_ok hx⟩
 ·split at h
  ·obtain ⟨x,hx,rfl⟩:=Option.map_eq_some_iff.1 h;exact ⟨by simp,fun b hb=>by rw[List.mem_singleton.1 hb];exact cellF_ok hx⟩
  ·obtain ⟨l0,h0,h⟩:=Option.bind_eq_some_iff.1 h;obtain ⟨g1,g2⟩:=mapF_spec h;have h1:=expose_ok h0;refine ⟨by rw[g1];exact h1.1,fun b hb=>?_⟩;obtain ⟨j,hj,rfl⟩:=List.mem_iff_getElem.1 hb;exact accF_ok (h1.2 _ (List.getElem_mem (by omega))) hB (g2 j (by omega) hj)
theorem symR_ok {a:Asn} {ok:Bool} {k A B:Int} {ks:List Int} (hB:ok=true→k=3→jq B=true):((symR a ok k A B ks).getD []).length≤128∧totA ((symR a ok k A B ks).getD [])≤16777216:=by
 cases h:symR a ok k A B ks with
 | none=>simp[totA,totR,rowsA]
 | some l=>
  have h':(a.valid&&ok)=true∧symB a k A B (keepK (tset ks) A B)=some l:=by
   unfold symR at h
   split at h
   ·rename_i hc;exact ⟨hc,h⟩
   ·cases h
  rw[Bool.and_eq_true] at h';have h1:=symB_ok h'.1.1 (hB h'.1.2) h'.2;have h2:l.length≤128:=h1.1;refine ⟨h2,?_⟩;have h3:=totA_le (n:=12) (m:=6) fun s hs=>zjC (h1.2 s hs);simp only[Option.getD_some];omega
end
section
open Go Go.RowKit Go.Proofs
attribute [local go_sem ↓] Go.wp_at_zero Go.wp_at_succ
--@ impl.replaceTerm
theorem c_replaceTerm (t x y : Int) (w : World) : Calls Tryz.prog 284 #[.int .i64 t, .int .i64 x, .int .i64 y] w fun e w' => e = .returned (.int .i64 (swp x y t)) ∧ w = w' := by
  by_cases h : t = x
  · have hb : (t == x) = true := by simpa using h
    have HS : aJ (swp x y t = y) := by simp [aJ, swp, h]
    clear h;(go_enter Tryz.func284, Tryz.ntmps284);go_wp2;go_ret;exact ⟨ret_int HS.o.symm, rfl⟩
  · have hb : (t == x) = false := by simpa using h
    have HS : aJ (swp x y t = t) := by simp [aJ, swp, h]
    clear h;(go_enter Tryz.func284, Tryz.ntmps284);go_wp2;go_ret;exact ⟨ret_int HS.o.symm, rfl⟩

--@ impl.isLogicalVar
theorem c_isLogicalVar (n : Int) (w : World) : Calls Tryz.prog 283 #[.int .i64 n] w fun e w' => e = .returned (.bool (logB n)) ∧ w = w' := by
  by_cases h : 4 < n
  · by_cases h2 : n ≤ 8
    all_goals
      (go_enter Tryz.func283, Tryz.ntmps283);go_wp2;go_ret;exact ⟨by simp [logB, h, h2], rfl⟩
  · go_enter Tryz.func283, Tryz.ntmps283
    go_wp2;go_ret;exact ⟨by simp [logB]; omega, rfl⟩

--@ (impl.termSet).logical
theorem logS_lt {S : Nat} (h : S < 512) : logS S < 512 := by
  apply Nat.lt_pow_two_of_testBit (n := 9);intro i hi;rw [logS_bit];have : S.testBit i = false := Nat.testBit_lt_two_pow (Nat.lt_of_lt_of_le h (Nat.pow_le_pow_right (n := 2) (by omega) hi));simp [this]
theorem c_impl_logical (S : Nat) (w : World) (hS : S < 512) : Calls Tryz.prog 65 #[.int .u16 S] w fun e w' => e = .returned (.int .u16 (logS S)) ∧ w = w' := by
  (go_enter Tryz.func65, Tryz.ntmps65);go_wp2;go_ret;refine ⟨?_, rfl⟩
  have e : ((logS S : Nat) : Int) = (S : Int) / 32 * 32 := by
    unfold logS;rw [Nat.shiftRight_eq_div_pow, Nat.shiftLeft_eq]
    push_cast
    rfl
  show Ending.returned (.int .u16 ((S : Int) / 32 * 32)) = _;rw [e]

--@ impl.firstSubstitution
theorem c_impl_tHasL (S : Nat) (t : Int) (w : World) (hS : S < 512) (ht : logB t = true) : Calls Tryz.prog 140 #[.int .u16 S, .int .i64 t] w fun e w' => e = .returned (.bool (S.testBit t.toNat)) ∧ w = w' := by
  have h : jq t = true := by simp [logB] at ht; simp [jq]; omega
  refine (c_impl_tHas S t w hS).mono ?_;rintro e w' ⟨rfl, rfl⟩;rw [h]; exact ⟨rfl, rfl⟩
theorem c_impl_firstSub {lo hi : Nat} (A : Option Addr) (c K : Nat) (fs : List Fct) (w : World) (h : FactsV w lo hi A fs) (hK : K < 512) :
    Calls Tryz.prog 263 #[.slice A fs.length c, .int .u16 K] w fun e w' => e = .returned (.tuple #[.agg #[.int .i64 ((subStep K fs).getD (0, 0)).1, .int .i64 ((subStep K fs).getD (0, 0)).2], .bool (subStep K fs).isSome]) ∧ Below w.heap.size w w' := by
  have hl := h.le;have HK := ax hK;clear hK;(go_enter Tryz.func263, Tryz.ntmps263);go_wp2
  go_loopw [10] (fun i wr => ∃ k : Nat, k ≤ fs.length ∧ i = .int .i64 k ∧ aJ (subStep K fs = subStep K (fs.drop k)) ∧ Blk wr w.heap.size 279 #[.int .i64 0, .int .i64 0] ∧ Below w.heap.size w wr) (fun i _ => fs.length - (intOf i).toNat)
  case atStart => exact ⟨0, Nat.zero_le _, rfl, by simp [aJ], blks, bel⟩
  case round =>
    obtain ⟨k, hk, rfl, HA, k0, hB⟩ := hrel;have qk0 := k0.cell;have rk0 := k0.frozen;have hk0 := k0.lt;by_cases hlt : k < fs.length
    · obtain ⟨b, off, rfl, c0, c1, c2⟩ := (h.bz hB).at hlt
      have HD := ax (subStep_cons K fs k hlt);cases he : fs[k].eq
      · rw [he] at c0
        have HS : aJ (subOf K fs[k] = none) := by simp [aJ, subOf, he]
        clear he;(go_wp2_with fail)
        go_round
        case rel => exact ⟨k + 1, by omega, by go_num, by show _ = _; rw [HA.o, HD.o, HS.o]; rfl, k0.alloc _, bel⟩
        case measure => simp [intOf]; omega
      rw [he] at c0;by_cases hab : fs[k].a = fs[k].b
      · have t0 : (fs[k].a == fs[k].b) = true := by simpa using hab
        have HS : aJ (subOf K fs[k] = none) := by simp [aJ, subOf, hab]
        clear he hab;(go_wp2_with fail)
        go_round
        case rel => exact ⟨k + 1, by omega, by go_num, by show _ = _; rw [HA.o, HD.o, HS.o]; rfl, k0.alloc _, bel⟩
        case measure => simp [intOf]; omega
      have t0 : (fs[k].a == fs[k].b) = false := by simpa using hab
      cases hfa : free K fs[k].a
      case' true =>
        have HS : aJ (subOf K fs[k] = some (fs[k].a, fs[k].b)) := by simp [aJ, subOf, he, hab, hfa]
        have la : logB fs[k].a = true := by simp only [free, Bool.and_eq_true] at hfa; exact hfa.1
        have ka : K.testBit fs[k].a.toNat = false := by simp only [free, Bool.and_eq_true, Bool.not_eq_true'] at hfa; exact hfa.2
        clear he hab hfa;(go_wp2_with (first | (go_at_call 283; refine (c_isLogicalVar _ _).mono ?_; rintro e w' ⟨rfl, rfl⟩) | (go_at_call 140; refine (c_impl_tHasL _ _ _ HK.o (by assumption)).mono ?_; rintro e w' ⟨rfl, rfl⟩)));refine bodyPost_ret (v := .tuple #[.agg #[.int .i64 fs[k].a, .int .i64 fs[k].b], .bool true]) (by simp [results, Tryz.results263, go_sem, qk0, hk0]) rfl ⟨?_, bel⟩;rw [HA.o, HD.o, HS.o]; rfl
      case' false =>
        cases hfb : free K fs[k].b
        case' true =>
          have HS : aJ (subOf K fs[k] = some (fs[k].b, fs[k].a)) := by simp [aJ, subOf, he, hab, hfa, hfb]
          have lb : logB fs[k].b = true := by simp only [free, Bool.and_eq_true] at hfb; exact hfb.1
          have kb : K.testBit fs[k].b.toNat = false := by simp only [free, Bool.and_eq_true, Bool.not_eq_true'] at hfb; exact hfb.2
        case' false =>
          have HS : aJ (subOf K fs[k] = none) := by simp [aJ, subOf, hfa, hfb]
        all_goals
          cases la : logB fs[k].a
          all_goals
            (try have ka : K.testBit fs[k].a.toNat = true := by simp [free, la] at hfa; exact hfa);(try cases lb : logB fs[k].b)
            all_goals try have kb : K.testBit fs[k].b.toNat = true := by simp [free, lb] at hfb; exact hfb
        all_goals
          clear he hab hfa hfb;(go_wp2_with (first | (go_at_call 283; refine (c_isLogicalVar _ _).mono ?_; rintro e w' ⟨rfl, rfl⟩) | (go_at_call 140; refine (c_impl_tHasL _ _ _ HK.o (by assumption)).mono ?_; rintro e w' ⟨rfl, rfl⟩)))
          first
            | (refine bodyPost_ret (v := .tuple #[.agg #[.int .i64 fs[k].b, .int .i64 fs[k].a], .bool true]) (by simp [results, Tryz.results263, go_sem, qk0, hk0]) rfl ⟨?_, bel⟩
               rw [HA.o, HD.o, HS.o]; rfl)
            | (go_round
               case rel => exact ⟨k + 1, by omega, by go_num, by show _ = _; rw [HA.o, HD.o, HS.o]; rfl, k0.alloc _, bel⟩
               case measure => simp [intOf]; omega)
    · obtain rfl : k = fs.length := by omega
      (go_wp2_with fail);have e : subStep K fs = none := by rw [HA.o, List.drop_length]; rfl
      refine bodyPost_ret (v := .tuple #[.agg #[.int .i64 0, .int .i64 0], .bool false]) (by simp [results, Tryz.results263, go_sem, qk0]) rfl ⟨?_, bel⟩;rw [e]; rfl

end
section
open Go Go.RowKit Go.Proofs
def tlistL (S k:Nat):List Int:=((List.range k).filter fun n=>S.testBit n).map fun n:Nat=>(n:Int)
theorem tlistL_length (S k:Nat):(tlistL S k).length≤k:=by
 unfold tlistL;rw[List.length_map];exact Nat.le_trans (List.length_filter_le _ _) (by simp)
def Cms.fold (F:Nat→Int→Int→Int→Fct→Asn→Nat):Cms→Nat→Nat
 | .nil,S=>S
 | .cons k a b t i body els r,S=>r.fold F (els.fold F (body.fold F (F S k a b t i)))
def chF (S:Nat) (k a _b:Int) (_t:Fct) (_i:Asn):Nat:=if k=1∨k=2∨k=4 then tins S a else S
def loF (S:Nat) (_k a b:Int) (t:Fct) (i:Asn):Nat:=tins (tins (tins (tins S a) b) t.a) t.b|||tset (mz i)
def tsup (S:Nat) (x:Int):Nat:=if 4<x then tins S x else S
def lsL (a b:Int) (t:Fct) (i:Asn):List Int:=[a,b,t.a,t.b]++tlistL (tset (mz i)) 9
def lsF (S:Nat) (_k a b:Int) (t:Fct) (i:Asn):Nat:=(lsL a b t i).foldl tsup S
theorem chF_lt {S:Nat} (h:S<512) (k a b:Int) (t:Fct) (i:Asn):chF S k a b t i<512:=by
 unfold chF;split
 ·exact tins_lt h a
 ·exact h
theorem loF_lt {S:Nat} (h:S<512) (k a b:Int) (t:Fct) (i:Asn):loF S k a b t i<512:=
 Nat.or_lt_two_pow (n:=9) (tins_lt (tins_lt (tins_lt (tins_lt h a) b) t.a) t.b) (tset_lt _)
theorem Cms.fold_lt {F:Nat→Int→Int→Int→Fct→Asn→Nat} (hF:∀ S k a b t i,S<512→F S k a b t i<512):∀ (L:Cms) {S:Nat},S<512→L.fold F S<512
 | .nil,_,h=>h
 | .cons k a b t i body els r,S,h=>Cms.fold_lt hF r (Cms.fold_lt hF els (Cms.fold_lt hF body (hF S k a b t i h)))
theorem tsup_lt {S:Nat} (h:S<512) (x:Int):tsup S x<512:=by
 unfold tsup;split
 ·exact tins_lt h x
 ·exact h
theorem foldl_tsup_lt (l:List Int):∀ {S:Nat},S<512→l.foldl tsup S<512:=by
 induction l with
 | nil=>intro S h;exact h
 | cons x l ih=>intro S h;exact ih (tsup_lt h x)
theorem lsF_lt {S:Nat} (h:S<512) (k a b:Int) (t:Fct) (i:Asn):lsF S k a b t i<512:=foldl_tsup_lt _ h
theorem tsup_bit (S:Nat) (x:Int) (n:Nat):(tsup S x).testBit n=(S.testBit n || decide (4<n∧jq x=true∧x=(n:Int))):=by
 unfold tsup
 split
 ·rename_i h;rw[tins_bit]
  congr 1
  rw[decide_eq_decide];constructor
  ·rintro ⟨h1,h2⟩;exact ⟨by omega,h1,h2⟩
  ·rintro ⟨_,h1,h2⟩;exact ⟨h1,h2⟩
 ·rename_i h;have:decide (4<n∧jq x=true∧x=(n:Int))=false:=by rw[decide_eq_false_iff_not];rintro ⟨h1,_,h2⟩;omega
  rw[this,Bool.or_false]
theorem foldl_tsup_bit (l:List Int):∀ (S n:Nat),(l.foldl tsup S).testBit n=(S.testBit n || decide (4<n∧jq (n:Int)=true∧(n:Int)∈l)):=by
 induction l with
 | nil=>intro S n;simp
 | cons x l ih=>
  intro S n;rw[List.foldl_cons,ih,tsup_bit,Bool.or_assoc]
  congr 1
  rw[←Bool.decide_or,decide_eq_decide];constructor
  ·rintro (⟨h,h1,rfl⟩|⟨h,h1,hm⟩)
   ·exact ⟨h,h1,List.mem_cons_self⟩
   ·exact ⟨h,h1,List.mem_cons_of_mem _ hm⟩
  ·rintro ⟨h,h1,hm⟩;rcases List.mem_cons.1 hm with e|hm
   ·exact Or.inl ⟨h,e▸h1,e.symm⟩
   ·exact Or.inr ⟨h,h1,hm⟩
theorem tlistL_mem (S k n:Nat):(n:Int)∈tlistL S k↔n<k∧S.testBit n=true:=by
 unfold tlistL;rw[List.mem_map];constructor
 ·rintro ⟨m,hm,e⟩;obtain rfl:m=n:=by omega
  simpa using hm
 ·intro h;exact ⟨n,by simpa using h,rfl⟩
theorem tlistL_idx (S:Nat):idxL (zj S) (zj S).length=tlistL S 9:=by
 rw[zjB];unfold idxL tlistL
 congr 1
theorem lsF_logS (S:Nat) (k a b:Int) (t:Fct) (i:Asn):lsF (logS S) k a b t i=logS (loF S k a b t i):=by
 apply Nat.eq_of_testBit_eq;intro n;unfold lsF lsL loF;rw[foldl_tsup_bit,logS_bit,logS_bit,Nat.testBit_or,tins_bit,tins_bit,tins_bit,tins_bit,tset_bit]
 have hm:((n:Int)∈[a,b,t.a,t.b]++tlistL (tset (mz i)) 9)↔((a=(n:Int)∨b=(n:Int)∨t.a=(n:Int)∨t.b=(n:Int))∨(n<9∧(jq (n:Int)=true∧(n:Int)∈mz i))):=by
  rw[List.mem_append,tlistL_mem,tset_bit,decide_eq_true_iff];simp only[List.mem_cons,List.not_mem_nil,or_false,eq_comm]
 rw[Bool.eq_iff_iff];simp only[Bool.or_eq_true,Bool.and_eq_true,decide_eq_true_eq,hm];constructor
 ·rintro (⟨h1,h2⟩|⟨h1,h2,(h3|h3|h3|h3)|⟨_,h3⟩⟩)
  ·simp[h1,h2]
  ·subst h3;simp[h2];omega
  ·subst h3;simp[h2];omega
  ·rw[h3];simp[h2];omega
  ·rw[h3];simp[h2];omega
  ·simp[h2,h3.2];omega
 ·rintro ⟨h1,h2⟩;rcases h2 with ((((h2|⟨h2,h3⟩)|⟨h2,h3⟩)|⟨h2,h3⟩)|⟨h2,h3⟩)|⟨h2,h3⟩
  ·exact Or.inl ⟨h1,h2⟩
  ·right;rw[←h3];exact ⟨by omega,h2,by simp⟩
  ·right;rw[←h3];exact ⟨by omega,h2,by simp⟩
  ·right;rw[←h3];exact ⟨by omega,h2,by simp⟩
  ·right;rw[←h3];exact ⟨by omega,h2,by simp⟩
  ·right;have:=zjA.1 h2;exact ⟨by omega,h2,Or.inr ⟨by omega,h2,h3⟩⟩
theorem fold_logS:∀ (L:Cms) (S:Nat),L.fold lsF (logS S)=logS (L.fold loF S)
 | .nil,_=>rfl
 | .cons k a b t i body els r,S=>by
  simp only[Cms.fold];rw[lsF_logS,fold_logS body,fold_logS els,fold_logS r]
theorem fval_terms {k a b:Int} {t:Fct} {i:Asn} {body els:Cms} (h:fvalB k a b t i body els=true):jq a=true∧jq b=true∧jq t.a=true∧jq t.b=true∧∀ x∈mz i,jq x=true:=by
 unfold fvalB at h
 split at h
 ·simp only[Bool.and_eq_true,decide_eq_true_eq,noAsn,Fct.valid] at h;obtain ⟨rfl,rfl,⟨h1,h2⟩,h3,h4⟩:=h;refine ⟨by decide,by decide,h1,h2,?_⟩;have e:i=⟨[],[]⟩:=by cases i;simp_all
  subst e;simp[mz]
 split at h
 ·simp only[Bool.and_eq_true,decide_eq_true_eq,Fct.valid] at h;obtain ⟨rfl,rfl,⟨h1,h2⟩,h3,h4⟩:=h;exact ⟨by decide,by decide,h1,h2,termsL_ok h3⟩
 ·simp only[Bool.and_eq_true,plainB,noFct,noAsn,decide_eq_true_eq] at h;obtain ⟨⟨rfl,⟨h1,h2⟩,h3,h4⟩,h5⟩:=h;have e:i=⟨[],[]⟩:=by cases i;simp_all
  subst e
  have hab:jq a=true∧jq b=true:=by
   have hp:∀ {x:Int},isProgB x=true→jq x=true:=fun h=>by simp[isProgB] at h;rw[zjA];omega
   unfold fieldsB at h5
   split at h5
   ·simp only[Bool.and_eq_true] at h5;exact ⟨hp h5.1,h5.2⟩
   split at h5
   ·simpa using h5
   split at h5
   ·simp only[Bool.and_eq_true,decide_eq_true_eq] at h5;exact ⟨hp h5.1,by rw[h5.2];decide⟩
   split at h5
   ·simp only[Bool.and_eq_true,decide_eq_true_eq] at h5;exact ⟨h5.1,by rw[h5.2];decide⟩
   ·cases h5
  exact ⟨hab.1,hab.2,by decide,by decide,by simp[mz]⟩
section
variable {w w':World} {lo hi:Nat}
theorem CmsAt.keep (hk:∀ b,lo≤b→b<hi→w'.heap[b]? = w.heap[b]?):∀ {L:Cms} {bl o:Nat},lo≤bl→bl<hi→CmsAt w lo hi L bl o→CmsAt w' lo hi L bl o
 | .nil,_,_,_,_,_=>trivial
 | .cons k a b t i body els r,bl,o,e1,e2,h=>by
  obtain ⟨⟨h0,h1,h2,h3,h4,h5⟩,⟨A6,c6,h6,g6⟩,⟨A7,c7,h7,g7⟩,⟨A8,c8,h8,g8⟩,⟨A9,c9,h9,g9⟩,hr⟩:=h;have hc:∀ j,w'.cell? ⟨bl,j,none⟩=w.cell? ⟨bl,j,none⟩:=fun j=>World.cell?_of_block (a:=⟨bl,j,none⟩) (hk bl e1 e2);refine ⟨⟨(hc _).trans h0,(hc _).trans h1,(hc _).trans h2,(hc _).trans h3,(hc _).trans h4,(hc _).trans h5⟩,⟨A6,c6,(hc _).trans h6,g6.keep hk⟩,⟨A7,c7,(hc _).trans h7,g7.keep hk⟩,⟨A8,c8,(hc _).trans h8,fun hl=>?_⟩,⟨A9,c9,(hc _).trans h9,fun hl=>?_⟩,CmsAt.keep hk e1 e2 hr⟩
  ·obtain ⟨b',o',e,p1,p2,p3⟩:=g8 hl;exact ⟨b',o',e,p1,p2,CmsAt.keep hk p1 p2 p3⟩
  ·obtain ⟨b',o',e,p1,p2,p3⟩:=g9 hl;exact ⟨b',o',e,p1,p2,CmsAt.keep hk p1 p2 p3⟩
theorem CmsV.keep {A:Option Addr} {L:Cms} (h:CmsV w lo hi A L) (hk:∀ b,lo≤b→b<hi→w'.heap[b]? = w.heap[b]?):CmsV w' lo hi A L:=fun hl=>by
 obtain ⟨b,o,e,p1,p2,p3⟩:=h hl;exact ⟨b,o,e,p1,p2,p3.keep hk p1 p2⟩
theorem CmsV.mk1 {A:Option Addr} {L:Cms} {g:Nat} (h:CmsV w lo hi A L) (hm:Mk (fun x=>x=g) w w') (hg:hi≤g) (hl:g<w.heap.size):CmsV w' lo hi A L:=
 h.keep fun b _ h2=>hm.block b (by omega) (by omega)
end
end
section
open Go Go.RowKit Go.Proofs
attribute [local go_sem ↓] Go.wp_at_zero Go.wp_at_succ
theorem c_impl_replaceIn {lo hi:Nat} (v:Value) (a:Asn) (x y:Int) (w:World) (h:AsnV w lo hi v a) :
  Calls Tryz.prog 264 #[v,.int .i64 x,.int .i64 y] w fun e w'=>∃ r,e=.returned r∧AsnO w' w.heap.size r (substA x y a)∧Below w.heap.size w w':=by
 have hV:=ax h;obtain ⟨A1,c1,A2,c2,rfl,h1,h2⟩:=h;have l1:=h1.le;have l2:=h2.le;(go_enter Tryz.func264,Tryz.ntmps264);have k1:=(blk2 w 37 37 #[.slice A1 a.facts.length c1,.slice A2 a.atoms.length c2] #[.slice none 0 0,.slice none 0 0]).2;(go_wp2_with fail);refine (c_impl_copyAssertion _ a _ (hV.o.bz bel)).mono ?_;rintro e w1 ⟨r,rfl,hO,hB1⟩;have hB:=bgo (w:=w) bel hB1;(replace k1:=k1.nz hB1);obtain ⟨fv,av,rfl,of,oa⟩:=hO;obtain ⟨F,d1,rfl,-⟩:=of.rj;obtain ⟨G,d2,rfl,-⟩:=oa.rj;have k2:=Blk.new w1 37 #[.slice F a.facts.length d1,.slice G a.atoms.length d2];have hz:=hB1.size;simp only[World.size_alloc] at hz;have of':=of.bz (w':=w1.alloc (.cells #[.slice F a.facts.length d1,.slice G a.atoms.length d2] 37)) bel;have oa':=oa.bz (w':=w1.alloc (.cells #[.slice F a.facts.length d1,.slice G a.atoms.length d2] 37)) bel;have hU1:=of.und;have hU2:=oa.und;clear of oa hV h1 h2 hB1;(go_wp2_with fail)
 go_loopw [17] (fun i wr=>∃ k:Nat,k≤a.facts.length∧i=.int .i64 k∧FactsO wr (w.heap.size+1+1) (.slice F a.facts.length d1) (upto (Fct.sub x y) k a.facts)∧AtomsO wr (w.heap.size+1+1) (.slice G a.atoms.length d2) a.atoms∧
   Blk wr (w.heap.size+1) 37 #[.slice none 0 0,.slice none 0 0]∧Blk wr w1.heap.size 37 #[.slice F a.facts.length d1,.slice G a.atoms.length d2]∧Below w.heap.size w wr) (fun i _=>a.facts.length - (intOf i).toNat)
 case atStart=>exact ⟨0,Nat.zero_le _,rfl,by rw[upto_zero];simpa using of',by simpa using oa',k1.alloc _,k2,bel⟩
 case round=>
  clear k1 k2 of' oa' hB;obtain ⟨k,hk,rfl,of,oa,k1,k2,hB⟩:=hrel;(replace qk1:=k1.cell;replace rk1:=k1.frozen;replace lk1:=k1.lt;replace qk2:=k2.z);by_cases hlt:k<a.facts.length
  ·obtain ⟨g,cur,-,rfl,hg,hK,hsz,c0,c1,c2,-⟩:=of.open_ (k:=k) (by rw[upto_length];exact hlt);rw[upto_get _ _ _ hlt] at c0 c1 c2;have q0:wr.cell? ⟨g,k * 3,none⟩=some (.bool a.facts[k].eq):=(hK.cell _).trans c0;have q1:wr.cell? ⟨g,k * 3+1,none⟩=some (.int .i64 a.facts[k].a):=(hK.cell _).trans c1;have q2:wr.cell? ⟨g,k * 3+2,none⟩=some (.int .i64 a.facts[k].b):=(hK.cell _).trans c2;have hgl:=hK.lt;have hk2l:=k2.lt;have hne:=Blk.ne_ hK k2 (by decide);have hne1:=Blk.ne_ hK k1 (by decide);have hz1:=hz;have hbw:=hB.size;(go_wp2_with fail);have kf:=Blk.new wr tF #[.bool a.facts[k].eq,.int .i64 a.facts[k].a,.int .i64 a.facts[k].b];replace of:=of.bz (w':=wr.alloc (.cells #[.bool a.facts[k].eq,.int .i64 a.facts[k].a,.int .i64 a.facts[k].b] tF)) bel;replace oa:=oa.bz (w':=wr.alloc (.cells #[.bool a.facts[k].eq,.int .i64 a.facts[k].a,.int .i64 a.facts[k].b] tF)) bel;replace k1:=k1.alloc (.cells #[.bool a.facts[k].eq,.int .i64 a.facts[k].a,.int .i64 a.facts[k].b] tF);replace k2:=k2.alloc (.cells #[.bool a.facts[k].eq,.int .i64 a.facts[k].a,.int .i64 a.facts[k].b] tF);replace hK:=hK.alloc (.cells #[.bool a.facts[k].eq,.int .i64 a.facts[k].a,.int .i64 a.facts[k].b] tF);replace hB:=bbox hB (.cells #[.bool a.facts[k].eq,.int .i64 a.facts[k].a,.int .i64 a.facts[k].b] tF);clear qk1 qk2 rk1 lk1 q0 q1 q2;generalize (wr.alloc (.cells #[.bool a.facts[k].eq,.int .i64 a.facts[k].a,.int .i64 a.facts[k].b] tF))=V at kf of oa k1 k2 hK hB ⊢;have q1:=(hK.cell _).trans c1;have r:=hK.frozen;have HLEN:=ax (upto_length (Fct.sub x y) k a.facts);have HGET:=ax (upto_get (Fct.sub x y) k a.facts hlt)
   go_region_held3 (fun w'=>(∀ i,w'.cell? ⟨w1.heap.size,i,none⟩=#[.slice (some ⟨g,0,none⟩) a.facts.length d1,.slice G a.atoms.length d2][i]?)∧(∀ i,w'.cell? ⟨wr.heap.size,i,none⟩=#[.bool a.facts[k].eq,.int .i64 a.facts[k].a,.int .i64 a.facts[k].b][i]?))
    (exact ⟨Blk.cell blks,Blk.cell blks⟩)
    (first|(go_at_call 284;refine (c_replaceTerm _ _ _ _).mono ?_;rintro e w' ⟨rfl,rfl⟩))
   have of2:=FactsO.setA of (k:=k) (by rw[HLEN.o];exact hlt) (swp x y a.facts[k].a) (gs:=(upto (Fct.sub x y) k a.facts).set k ⟨a.facts[k].eq,swp x y a.facts[k].a,a.facts[k].b⟩) (by rw[HGET.o]);replace of:=of2.bz (w':=(V.setCell ⟨g,k * 3+1,none⟩ (.int .i64 (swp x y a.facts[k].a))).drew) bel;replace oa:=(AtomsO.setT oa hK (by decide) (k * 3+1) (.int .i64 (swp x y a.facts[k].a))).bz (w':=(V.setCell ⟨g,k * 3+1,none⟩ (.int .i64 (swp x y a.facts[k].a))).drew) bel;replace k1:=(k1.far (p:=⟨g,k * 3+1,none⟩) (Ne.symm hne1) (.int .i64 (swp x y a.facts[k].a))).drew;replace k2:=(k2.far (p:=⟨g,k * 3+1,none⟩) (Ne.symm hne) (.int .i64 (swp x y a.facts[k].a))).drew;replace kf:=(kf.far (p:=⟨g,k * 3+1,none⟩) (by simp only[];omega) (.int .i64 (swp x y a.facts[k].a))).drew;replace hK:=(hK.set_ (k * 3+1) (.int .i64 (swp x y a.facts[k].a))).drew;replace hB:=(hB.setCell (p:=⟨g,k * 3+1,none⟩) (by simp only[];omega) (.int .i64 (swp x y a.facts[k].a))).drew;clear of2 q1 r;(go_wp2_with fail);generalize (V.setCell ⟨g,k * 3+1,none⟩ (.int .i64 (swp x y a.facts[k].a))).drew=V2 at kf of oa k1 k2 hK hB ⊢;have q2:V2.cell? ⟨g,k * 3+2,none⟩=some (.int .i64 a.facts[k].b):=(hK.cell (k * 3+2)).trans (by rw[Array.getElem?_setIfInBounds_ne (by omega)];exact c2);have r:=hK.frozen
   go_region_held3 (fun w'=>(∀ i,w'.cell? ⟨w1.heap.size,i,none⟩=#[.slice (some ⟨g,0,none⟩) a.facts.length d1,.slice G a.atoms.length d2][i]?)∧(∀ i,w'.cell? ⟨wr.heap.size,i,none⟩=#[.bool a.facts[k].eq,.int .i64 a.facts[k].a,.int .i64 a.facts[k].b][i]?))
    (exact ⟨Blk.cell blks,Blk.cell blks⟩)
    (first|(go_at_call 284;refine (c_replaceTerm _ _ _ _).mono ?_;rintro e w' ⟨rfl,rfl⟩))
   have of2:=FactsO.setB of (k:=k) (by rw[List.length_set,HLEN.o];exact hlt) (swp x y a.facts[k].b) (gs:=(upto (Fct.sub x y) k a.facts).set k (Fct.sub x y a.facts[k])) (by simp[Fct.sub]);replace of:=of2.bz (w':=(V2.setCell ⟨g,k * 3+2,none⟩ (.int .i64 (swp x y a.facts[k].b))).drew) bel;replace oa:=(AtomsO.setT oa hK (by decide) (k * 3+2) (.int .i64 (swp x y a.facts[k].b))).bz (w':=(V2.setCell ⟨g,k * 3+2,none⟩ (.int .i64 (swp x y a.facts[k].b))).drew) bel;replace k1:=(k1.far (p:=⟨g,k * 3+2,none⟩) (Ne.symm hne1) (.int .i64 (swp x y a.facts[k].b))).drew;replace k2:=(k2.far (p:=⟨g,k * 3+2,none⟩) (Ne.symm hne) (.int .i64 (swp x y a.facts[k].b))).drew;replace hB:=(hB.setCell (p:=⟨g,k * 3+2,none⟩) (by simp only[];omega) (.int .i64 (swp x y a.facts[k].b))).drew;clear of2 q2 r hK kf;(go_wp2_with fail)
   go_round
   case rel=>exact ⟨k+1,by omega,by go_num,by rw[←upto_set _ _ _ hlt];exact of,oa,k1,k2,hB⟩
   case measure=>simp[intOf];omega
  ·obtain rfl:k=a.facts.length:=by omega
   rw[upto_full] at of;(go_wp2_with fail)
   go_loopw [46] (fun i wr=>∃ k:Nat,k≤a.atoms.length∧i=.int .i64 k∧FactsO wr (w.heap.size+1+1) (.slice F a.facts.length d1) (a.facts.map (Fct.sub x y))∧AtomsO wr (w.heap.size+1+1) (.slice G a.atoms.length d2) (upto (Atm.sub x y) k a.atoms)∧
     Blk wr (w.heap.size+1) 37 #[.slice none 0 0,.slice none 0 0]∧Blk wr w1.heap.size 37 #[.slice F a.facts.length d1,.slice G a.atoms.length d2]∧Below w.heap.size w wr) (fun i _=>a.atoms.length - (intOf i).toNat)
   case atStart=>exact ⟨0,Nat.zero_le _,rfl,of,by rw[upto_zero];exact oa,k1,k2,bel⟩
   case round=>
    clear k1 k2 of oa hB qk1 qk2 rk1 lk1;obtain ⟨k,hk,rfl,of,oa,k1,k2,hB⟩:=hrel;(replace qk1:=k1.cell;replace rk1:=k1.frozen;replace lk1:=k1.lt;replace qk2:=k2.z);by_cases hlt:k<a.atoms.length
    ·obtain ⟨g,cur,-,rfl,hg,hK,hsz,c0,c1,c2,-⟩:=oa.open_ (k:=k) (by rw[upto_length];exact hlt);rw[upto_get _ _ _ hlt] at c0 c1 c2;have q0:wr.cell? ⟨g,k * 3,none⟩=some (.int .i64 a.atoms[k].kind):=(hK.cell _).trans c0;have q1:wr.cell? ⟨g,k * 3+1,none⟩=some (.int .i64 a.atoms[k].a):=(hK.cell _).trans c1;have q2:wr.cell? ⟨g,k * 3+2,none⟩=some (.int .i64 a.atoms[k].b):=(hK.cell _).trans c2;have hgl:=hK.lt;have hk2l:=k2.lt;have hne:=Blk.ne_ hK k2 (by decide);have hne1:=Blk.ne_ hK k1 (by decide);have hz1:=hz;have hbw:=hB.size;(go_wp2_with fail);have kf:=Blk.new wr tA #[.int .i64 a.atoms[k].kind,.int .i64 a.atoms[k].a,.int .i64 a.atoms[k].b];replace oa:=oa.bz (w':=wr.alloc (.cells #[.int .i64 a.atoms[k].kind,.int .i64 a.atoms[k].a,.int .i64 a.atoms[k].b] tA)) bel;replace of:=of.bz (w':=wr.alloc (.cells #[.int .i64 a.atoms[k].kind,.int .i64 a.atoms[k].a,.int .i64 a.atoms[k].b] tA)) bel;replace k1:=k1.alloc (.cells #[.int .i64 a.atoms[k].kind,.int .i64 a.atoms[k].a,.int .i64 a.atoms[k].b] tA);replace k2:=k2.alloc (.cells #[.int .i64 a.atoms[k].kind,.int .i64 a.atoms[k].a,.int .i64 a.atoms[k].b] tA);replace hK:=hK.alloc (.cells #[.int .i64 a.atoms[k].kind,.int .i64 a.atoms[k].a,.int .i64 a.atoms[k].b] tA);replace hB:=bbox hB (.cells #[.int .i64 a.atoms[k].kind,.int .i64 a.atoms[k].a,.int .i64 a.atoms[k].b] tA);clear qk1 qk2 rk1 lk1 q0 q1 q2;generalize (wr.alloc (.cells #[.int .i64 a.atoms[k].kind,.int .i64 a.atoms[k].a,.int .i64 a.atoms[k].b] tA))=V at kf oa of k1 k2 hK hB ⊢;have q1:=(hK.cell _).trans c1;have r:=hK.frozen;have HLEN:=ax (upto_length (Atm.sub x y) k a.atoms);have HGET:=ax (upto_get (Atm.sub x y) k a.atoms hlt)
     go_region_held3 (fun w'=>(∀ i,w'.cell? ⟨w1.heap.size,i,none⟩=#[.slice F a.facts.length d1,.slice (some ⟨g,0,none⟩) a.atoms.length d2][i]?)∧(∀ i,w'.cell? ⟨wr.heap.size,i,none⟩=#[.int .i64 a.atoms[k].kind,.int .i64 a.atoms[k].a,.int .i64 a.atoms[k].b][i]?))
      (exact ⟨Blk.cell blks,Blk.cell blks⟩)
      (first|(go_at_call 284;refine (c_replaceTerm _ _ _ _).mono ?_;rintro e w' ⟨rfl,rfl⟩))
     have oa2:=AtomsO.setA oa (k:=k) (by rw[HLEN.o];exact hlt) (swp x y a.atoms[k].a) (gs:=(upto (Atm.sub x y) k a.atoms).set k ⟨a.atoms[k].kind,swp x y a.atoms[k].a,a.atoms[k].b⟩) (by rw[HGET.o]);replace oa:=oa2.bz (w':=(V.setCell ⟨g,k * 3+1,none⟩ (.int .i64 (swp x y a.atoms[k].a))).drew) bel;replace of:=(FactsO.setT of hK (by decide) (k * 3+1) (.int .i64 (swp x y a.atoms[k].a))).bz (w':=(V.setCell ⟨g,k * 3+1,none⟩ (.int .i64 (swp x y a.atoms[k].a))).drew) bel;replace k1:=(k1.far (p:=⟨g,k * 3+1,none⟩) (Ne.symm hne1) (.int .i64 (swp x y a.atoms[k].a))).drew;replace k2:=(k2.far (p:=⟨g,k * 3+1,none⟩) (Ne.symm hne) (.int .i64 (swp x y a.atoms[k].a))).drew;replace kf:=(kf.far (p:=⟨g,k * 3+1,none⟩) (by simp only[];omega) (.int .i64 (swp x y a.atoms[k].a))).drew;replace hK:=(hK.set_ (k * 3+1) (.int .i64 (swp x y a.atoms[k].a))).drew;replace hB:=(hB.setCell (p:=⟨g,k * 3+1,none⟩) (by simp only[];omega) (.int .i64 (swp x y a.atoms[k].a))).drew;clear oa2 q1 r;(go_wp2_with fail);generalize (V.setCell ⟨g,k * 3+1,none⟩ (.int .i64 (swp x y a.atoms[k].a))).drew=V2 at kf oa of k1 k2 hK hB ⊢;have q2:V2.cell? ⟨g,k * 3+2,none⟩=some (.int .i64 a.atoms[k].b):=(hK.cell (k * 3+2)).trans (by rw[Array.getElem?_setIfInBounds_ne (by omega)];exact c2);have r:=hK.frozen
     go_region_held3 (fun w'=>(∀ i,w'.cell? ⟨w1.heap.size,i,none⟩=#[.slice F a.facts.length d1,.slice (some ⟨g,0,none⟩) a.atoms.length d2][i]?)∧(∀ i,w'.cell? ⟨wr.heap.size,i,none⟩=#[.int .i64 a.atoms[k].kind,.int .i64 a.atoms[k].a,.int .i64 a.atoms[k].b][i]?))
      (exact ⟨Blk.cell blks,Blk.cell blks⟩)
      (first|(go_at_call 284;refine (c_replaceTerm _ _ _ _).mono ?_;rintro e w' ⟨rfl,rfl⟩))
     have oa2:=AtomsO.setB oa (k:=k) (by rw[List.length_set,HLEN.o];exact hlt) (swp x y a.atoms[k].b) (gs:=(upto (Atm.sub x y) k a.atoms).set k (Atm.sub x y a.atoms[k])) (by simp[Atm.sub]);replace oa:=oa2.bz (w':=(V2.setCell ⟨g,k * 3+2,none⟩ (.int .i64 (swp x y a.atoms[k].b))).drew) bel;replace of:=(FactsO.setT of hK (by decide) (k * 3+2) (.int .i64 (swp x y a.atoms[k].b))).bz (w':=(V2.setCell ⟨g,k * 3+2,none⟩ (.int .i64 (swp x y a.atoms[k].b))).drew) bel;replace k1:=(k1.far (p:=⟨g,k * 3+2,none⟩) (Ne.symm hne1) (.int .i64 (swp x y a.atoms[k].b))).drew;replace k2:=(k2.far (p:=⟨g,k * 3+2,none⟩) (Ne.symm hne) (.int .i64 (swp x y a.atoms[k].b))).drew;replace hB:=(hB.setCell (p:=⟨g,k * 3+2,none⟩) (by simp only[];omega) (.int .i64 (swp x y a.atoms[k].b))).drew;clear oa2 q2 r hK kf;(go_wp2_with fail)
     go_round
     case rel=>exact ⟨k+1,by omega,by go_num,of,by rw[←upto_set _ _ _ hlt];exact oa,k1,k2,hB⟩
     case measure=>simp[intOf];omega
    ·obtain rfl:k=a.atoms.length:=by omega
     rw[upto_full] at oa;(go_wp2_with fail);refine bodyPost_ret (v:=.agg #[.slice F a.facts.length d1,.slice G a.atoms.length d2]) (by simp[results,Tryz.results264,go_sem,qk1]) rfl ⟨_,rfl,⟨_,_,rfl,?_,?_⟩,bel⟩
     ·exact ((of.setT k1 (by decide) _ _).setT (k1.set_ _ _) (by decide) _ _).bq (by omega)
     ·exact ((oa.setT k1 (by decide) _ _).setT (k1.set_ _ _) (by decide) _ _).bq (by omega)
abbrev tFg:Nat:=299
theorem forget_has {a:Asn} {x:Int} {K:Nat} (h:(tset (mz a)).testBit x.toNat=false):forgetF a x K=some (a,x):=by unfold forgetF;rw[h];rfl
theorem forget_none {a:Asn} {x:Int} {K:Nat} (h:(tset (mz a)).testBit x.toNat=true) (hn:newT (tset (mz a)|||K)=none):forgetF a x K=none:=by unfold forgetF;rw[h,hn];rfl
theorem forget_some {a:Asn} {x:Int} {K n:Nat} (h:(tset (mz a)).testBit x.toNat=true) (hn:newT (tset (mz a)|||K)=some n):forgetF a x K=some (substA x (n:Int) a,(n:Int)):=by unfold forgetF;rw[h,hn];rfl
theorem AsnO.setT4 {w:World} {base:Nat} {v:Value} {a:Asn} (h:AsnO w base v a) {g:Nat} {cs:Array Value} (hk:Blk w g tFg cs) (u0 u1 u2 u3:Value):AsnO ((((w.setCell ⟨g,0,none⟩ u0).setCell ⟨g,1,none⟩ u1).setCell ⟨g,2,none⟩ u2).setCell ⟨g,3,none⟩ u3) base v a:=by
 obtain ⟨fv,av,e,p1,p2⟩:=h;have k1:=hk.set_ 0 u0;have k2:=k1.set_ 1 u1;have k3:=k2.set_ 2 u2;exact ⟨fv,av,e,(((p1.setT hk (by decide) _ _).setT k1 (by decide) _ _).setT k2 (by decide) _ _).setT k3 (by decide) _ _,(((p2.setT hk (by decide) _ _).setT k1 (by decide) _ _).setT k2 (by decide) _ _).setT k3 (by decide) _ _⟩
def FgR (w:World) (base:Nat) (x:Int) (o:Option (Asn×Int)) (e:Ending):Prop:=match o with
 | none=>e=.returned (.tuple #[.agg #[.slice none 0 0,.slice none 0 0,.int .i64 0,.int .i64 0],.bool false])
 | some (b,p)=>∃ F f G g,e=.returned (.tuple #[.agg #[.slice F b.facts.length f,.slice G b.atoms.length g,.int .i64 x,.int .i64 p],.bool true])∧AsnO w base (.agg #[.slice F b.facts.length f,.slice G b.atoms.length g]) b
theorem c_impl_forget {lo hi:Nat} (v:Value) (a:Asn) (x:Int) (K:Nat) (w:World) (h:AsnV w lo hi v a) (hK:K<512) (hx:jq x=true) :
  Calls Tryz.prog 285 #[v,.int .i64 x,.int .u16 K] w fun e w'=>FgR w' w.heap.size x (forgetF a x K) e∧Below w.heap.size w w':=by
 have hV:=ax h;obtain ⟨A1,c1,A2,c2,rfl,-,-⟩:=h;have HT:=ax (tset_lt (mz a));(go_enter Tryz.func285,Tryz.ntmps285);have k0:Blk ((w.alloc (.cells #[.slice A1 a.facts.length c1,.slice A2 a.atoms.length c2] tAs)).alloc (.cells #[.slice none 0 0,.slice none 0 0,.int .i64 0,.int .i64 0] tFg)) w.heap.size tAs #[.slice A1 a.facts.length c1,.slice A2 a.atoms.length c2]:=blks;have k6:Blk ((w.alloc (.cells #[.slice A1 a.facts.length c1,.slice A2 a.atoms.length c2] tAs)).alloc (.cells #[.slice none 0 0,.slice none 0 0,.int .i64 0,.int .i64 0] tFg)) (w.heap.size+1) tFg #[.slice none 0 0,.slice none 0 0,.int .i64 0,.int .i64 0]:=blks;(go_wp2_with fail);refine (c_impl_termsIn _ a _ (hV.o.bz bel)).mono ?_;rintro e w1 ⟨rfl,hB1⟩;have hB:=bgo (w:=w) bel hB1;replace k0:=k0.nz hB1;replace k6:=k6.nz hB1;clear hB1;(go_wp2_with fail);refine (c_impl_tHas _ x _ HT.o).mono ?_;rintro e w2 ⟨rfl,rfl⟩;rw[hx,Bool.true_and];have hz:=hB.size;cases hb:(tset (mz a)).testBit x.toNat
 ·have E:=ax (forget_has (K:=K) hb);clear hb;(replace qk0:=k0.z);(go_wp2_with fail);refine (c_impl_copyAssertion _ a _ (hV.o.bz bel)).mono ?_;rintro e w3 ⟨r,rfl,oC,hB3⟩;obtain ⟨F,f,G,g,rfl⟩:=oC.I.form;have OC:=ax oC;(replace hB:=bgo hB hB3;replace k6:=k6.nz hB3);clear oC hB3 k0 qk0;(replace qk6:=k6.cell;replace rk6:=k6.frozen;replace lk6:=k6.lt);(go_wp2_with fail);have z6:=k6.cell;refine bodyPost_ret (v:=.tuple #[.agg #[.slice F a.facts.length f,.slice G a.atoms.length g,.int .i64 x,.int .i64 x],.bool true]) (by simp[results,Tryz.results285,go_sem,z6]) rfl ⟨?_,?_⟩
  ·rw[E.o];refine ⟨F,f,G,g,rfl,?_⟩;exact (AsnO.setT4 OC.o k6 _ _ _ _).bq (by omega)
  ·exact bel
 ·have HBT:=ax hb;clear hb;(replace qk0:=k0.z);(go_wp2_with fail);refine (c_impl_newVariable _ a K _ (hV.o.bz bel) hK).mono ?_;rintro e w3 ⟨rfl,hB3⟩;(replace hB:=bgo hB hB3;replace k0:=k0.nz hB3;replace qk0:=k0.z;replace k6:=k6.nz hB3);clear hB3;have hz3:=hB.size
  cases hn:newT (tset (mz a)|||K) with
  | none=>
   have E:=ax (forget_none HBT.o hn);clear hn;(replace qk6:=k6.cell;replace rk6:=k6.frozen;replace lk6:=k6.lt);(go_wp2_with fail);refine bodyPost_ret (v:=.tuple #[.agg #[.slice none 0 0,.slice none 0 0,.int .i64 0,.int .i64 0],.bool false]) (by simp[results,Tryz.results285,go_sem,qk6]) rfl ⟨?_,?_⟩
   ·rw[E.o];rfl
   ·exact bel
  | some n=>
   have E:=ax (forget_some HBT.o hn);have EN:unusedI (tset (mz a)|||K)=(n:Int):=by unfold unusedI;rw[hn]
   rw[EN];clear hn EN;(go_wp2_with fail);refine (c_impl_replaceIn _ a x (n:Int) _ (hV.o.bz bel)).mono ?_;rintro e w4 ⟨r,rfl,oC,hB4⟩;obtain ⟨F,f,G,g,rfl⟩:=oC.I.form;have OC:=ax oC;(replace hB:=bgo hB hB4;replace k6:=k6.nz hB4);clear oC hB4 k0 qk0;(replace qk6:=k6.cell;replace rk6:=k6.frozen;replace lk6:=k6.lt);(go_wp2_with fail);refine bodyPost_ret (v:=.tuple #[.agg #[.slice F (substA x (n:Int) a).facts.length f,.slice G (substA x (n:Int) a).atoms.length g,.int .i64 x,.int .i64 n],.bool true]) (by simp[results,Tryz.results285,go_sem,qk6]) rfl ⟨?_,?_⟩
   ·rw[E.o];refine ⟨F,f,G,g,rfl,?_⟩;exact (AsnO.setT4 OC.o k6 _ _ _ _).bq (by omega)
   ·exact bel
theorem contains_take (f:Fct) (acc:List Fct) (j:Nat) (h:j<acc.length):(acc.take (j+1)).contains f=((acc.take j).contains f || decide (f=acc[j])):=by
 rw[List.take_succ_eq_append_getElem h,List.contains_append];simp
theorem c_impl_normalForm {lo hi:Nat} (v:Value) (a:Asn) (w:World) (h:AsnV w lo hi v a) :
  Calls Tryz.prog 265 #[v] w fun e w'=>∃ r,e=.returned r∧AsnO w' w.heap.size r (normalF a)∧Below w.heap.size w w':=by
 obtain ⟨A1,c1,A2,c2,rfl,h1,h2⟩:=h;have l1:=h1.le;have l2:=h2.le;(go_enter Tryz.func265,Tryz.ntmps265);obtain ⟨k0,k1,k2⟩:=blk3 w 37 37 37 #[.slice A1 a.facts.length c1,.slice A2 a.atoms.length c2] #[.slice none 0 0,.slice none 0 0] #[.slice none 0 0,.slice none 0 0];(go_wp2_with fail)
 go_loopw [14] (fun i wr=>∃ (k:Nat) (acc:List Fct) (A:Option Addr) (c:Nat),k≤a.facts.length∧i=.int .i64 k∧acc.length≤k∧aJ (a.facts.foldl nfStep []=(a.facts.drop k).foldl nfStep acc)∧FactsO wr (w.heap.size+1) (.slice A acc.length c) acc∧
   Blk wr w.heap.size 37 #[.slice A1 a.facts.length c1,.slice A2 a.atoms.length c2]∧Blk wr (w.heap.size+1) 37 #[.slice none 0 0,.slice none 0 0]∧Blk wr (w.heap.size+1+1) 37 #[.slice A acc.length c,.slice none 0 0]∧Below w.heap.size w wr) (fun i _=>a.facts.length - (intOf i).toNat)
 case atStart=>exact ⟨0,[],none,0,Nat.zero_le _,rfl,Nat.le_refl _,rfl,FactsO.nil _ _,k0,k1,k2,bel⟩
 case round=>
  clear k0 k1 k2;obtain ⟨k,acc,A,c,hk,rfl,hal,HA,of,k0,k1,k2,hB⟩:=hrel;(replace qk0:=k0.z;replace qk1:=k1.cell;replace rk1:=k1.frozen;replace lk1:=k1.lt;replace qk2:=k2.cell;replace rk2:=k2.frozen;replace lk2:=k2.lt);have hk2l:=k2.lt;by_cases hlt:k<a.facts.length
  ·obtain ⟨b,off,rfl,hbl⟩:=h1.blt hlt;obtain ⟨g0,g1,g2⟩:=(h1.bz hB).cl hlt;have HD:=ax (foldl_drop_step nfStep a.facts k hlt acc);cases hsk:(a.facts[k].eq&&(a.facts[k].a == a.facts[k].b))
   ·have HS:aJ (nfStep acc a.facts[k]=if acc.contains (nfF a.facts[k]) then acc else acc++[nfF a.facts[k]]):=by show _=_;rw[nfStep,hsk];rfl
    obtain ⟨f',hf'⟩:∃ f',f'=nfF a.facts[k]:=⟨_,rfl⟩;obtain ⟨cs,hcs⟩:∃ cs:Array Value,cs=#[.bool f'.eq,.int .i64 f'.a,.int .i64 f'.b]:=⟨_,rfl⟩;rw[←hf'] at HS;have HCS:=ax hcs;by_cases hba:a.facts[k].b<a.facts[k].a
    case' pos=>rw[nfF,if_pos hba] at hf'
    case' neg=>rw[nfF,if_neg hba] at hf'
    all_goals
     cases he:a.facts[k].eq
     all_goals
      rw[he] at g0;(try have hne:(a.facts[k].a == a.facts[k].b)=false:=by simpa[he] using hsk)
    case' pos.false=>have E:=ax (show #[Value.bool false,.int .i64 a.facts[k].b,.int .i64 a.facts[k].a]=cs by rw[hcs,hf',←he])
    case' pos.true=>have E:=ax (show #[Value.bool true,.int .i64 a.facts[k].b,.int .i64 a.facts[k].a]=cs by rw[hcs,hf',←he])
    case' neg.false=>have E:=ax (show #[Value.bool false,.int .i64 a.facts[k].a,.int .i64 a.facts[k].b]=cs by rw[hcs,hf',←he])
    case' neg.true=>have E:=ax (show #[Value.bool true,.int .i64 a.facts[k].a,.int .i64 a.facts[k].b]=cs by rw[hcs,hf',←he])
    all_goals
     clear hsk he hf' hcs;(go_wp2_with fail);rw[E.o];have kf:=Blk.new wr tF cs;replace of:=of.bz (w':=wr.alloc (.cells cs tF)) bel;replace k0:=k0.alloc (.cells cs tF);replace k1:=k1.alloc (.cells cs tF);replace k2:=k2.alloc (.cells cs tF);replace hB:=bbox hB (.cells cs tF);generalize (wr.alloc (.cells cs tF))=V at kf of k0 k1 k2 hB ⊢;clear qk0 qk1 rk1 qk2 rk2 lk1 lk2 g0 g1 g2 E;obtain ⟨pf,hpf⟩:∃ p,p=wr.heap.size:=⟨_,rfl⟩;rw[←hpf] at kf hk2l ⊢;clear hpf;rw[HCS.o] at kf
     go_loopw [6,41] (fun kn j wr=>∃ jj:Nat,jj≤acc.length∧j=.int .i64 jj∧kn=.bool ((acc.take jj).contains f')∧FactsO wr (w.heap.size+1) (.slice A acc.length c) acc∧
      Blk wr w.heap.size 37 #[.slice (some ⟨b,off,none⟩) a.facts.length c1,.slice A2 a.atoms.length c2]∧Blk wr (w.heap.size+1) 37 #[.slice none 0 0,.slice none 0 0]∧Blk wr (w.heap.size+1+1) 37 #[.slice A acc.length c,.slice none 0 0]∧
      Blk wr pf tF #[.bool f'.eq,.int .i64 f'.a,.int .i64 f'.b]∧Below w.heap.size w wr) (fun _ j _=>acc.length - (intOf j).toNat)
     case atStart=>exact ⟨0,Nat.zero_le _,rfl,by simp,of,k0,k1,k2,kf,hB⟩
     case round=>
      clear of k0 k1 k2 kf hB;obtain ⟨jj,hjj,rfl,rfl,of,k0,k1,k2,kf,hB⟩:=hrel;have qk2:=k2.cell;have rk2:=k2.frozen;have qkf:=kf.cell;have lk2:=k2.lt;have lkf:=kf.lt;have hlacc:acc.length≤1049600:=of.2;by_cases hjl:jj<acc.length
      ·obtain ⟨b2,o2,rfl,hb2⟩:=of.readsI.2.blt hjl;obtain ⟨e0,e1,e2⟩:=of.readsI.2.cl hjl;have HC:=ax (contains_take f' acc jj hjl);cases hkn:(acc.take jj).contains f'
       all_goals
        have HKN:=ax hkn;clear hkn;(go_wp2_with fail)
        all_goals
         go_round
         case rel=>
          refine ⟨jj+1,by omega,by go_num,?_,of.bz bel,k0.alloc _,k1.alloc _,k2.alloc _,kf.alloc _,bel⟩
          first
           | (rw[HC.o,HKN.o,Bool.true_or];done)
           | rw[HC.o,HKN.o,Bool.false_or,decide_eq_true ((Fct.eq_iff _ _).2 ⟨Eq.symm ‹acc[jj].eq=f'.eq›,Eq.symm ‹acc[jj].a=f'.a›,Eq.symm ‹acc[jj].b=f'.b›⟩)]
           | rw[HC.o,HKN.o,Bool.false_or,decide_eq_false (fun h=>‹¬acc[jj].eq=f'.eq› (by rw[h]))]
           | rw[HC.o,HKN.o,Bool.false_or,decide_eq_false (fun h=>‹¬acc[jj].a=f'.a› (by rw[h]))]
           | rw[HC.o,HKN.o,Bool.false_or,decide_eq_false (fun h=>‹¬acc[jj].b=f'.b› (by rw[h]))]
         case measure=>simp[intOf];omega
      ·obtain rfl:jj=acc.length:=by omega
       rw[List.take_length];cases hkn:acc.contains f'
       ·have HN:=ax (show nfStep acc a.facts[k]=acc++[f'] by rw[HS.o,hkn];rfl);clear hkn;have of1:=of.bz (w':=wr.alloc (.cells #[.bool f'.eq,.int .i64 f'.a,.int .i64 f'.b] tF)) bel;(go_wp2_with (at_builtin;refine appFL rfl _ _ rfl (v:=.slice A acc.length c) rfl of1 rfl (FactsV.one (Blk.new wr _ _)) (by simp;omega) (by simp;omega) ?_;intro A' c' w2 of2 hg2 hB3;have z2:=Blk.zm (g:=w.heap.size+1+1) (k2.alloc _) of1.1 hg2 (by decide);have z2c:=z2.cell;have z2f:=z2.frozen));have z0:=Blk.zm (g:=w.heap.size) (k0.alloc _) of1.1 hg2 (by decide);have z1:=Blk.zm (g:=w.heap.size+1) (k1.alloc _) of1.1 hg2 (by decide);have hBw2:=Below.trans (bbox hB _) (hB3.mono (Nat.le_succ _))
        go_round
        case rel=>
         refine ⟨k+1,acc++[f'],A',c',by omega,by go_num,by simp;omega,by show _=_;rw[HA.o,HD.o,HN.o],?_,z0.far (by simp only[];omega) _,z1.far (by simp only[];omega) _,?_,bel⟩
         ·simpa using of2.setT z2 (by decide) _ _
         ·simpa using z2.set_ 0 (.slice A' (acc.length+1) c')
        case measure=>simp[intOf];omega
       ·have HN:=ax (show nfStep acc a.facts[k]=acc by rw[HS.o,hkn];rfl);clear hkn;(go_wp2_with fail)
        go_round
        case rel=>exact ⟨k+1,acc,A,c,by omega,by go_num,by omega,by show _=_;rw[HA.o,HD.o,HN.o],of,k0,k1,k2,hB⟩
        case measure=>simp[intOf];omega
   ·have HN:=ax (show nfStep acc a.facts[k]=acc by rw[nfStep,hsk];rfl);have he:a.facts[k].eq=true:=by simp at hsk;exact hsk.1
    have hab:(a.facts[k].a == a.facts[k].b)=true:=by simp at hsk;simpa using hsk.2
    rw[he] at g0;clear hsk he;(go_wp2_with fail)
    go_round
    case rel=>exact ⟨k+1,acc,A,c,by omega,by go_num,by omega,by show _=_;rw[HA.o,HD.o,HN.o],of.bz bel,k0.alloc _,k1.alloc _,k2.alloc _,bel⟩
    case measure=>simp[intOf];omega
  ·obtain rfl:k=a.facts.length:=by omega
   have HN:=ax (show a.facts.foldl nfStep []=acc by rw[HA.o,List.drop_length];rfl);have HL:aJ (normalF a=⟨acc,a.atoms.filter nfA⟩):=by show _=_;rw[normalF,HN.o]
   clear HA HN;(go_wp2_with fail)
   go_loopw [64] (fun i wr=>∃ (k:Nat) (B:Option Addr) (d:Nat),k≤a.atoms.length∧i=.int .i64 k∧FactsO wr (w.heap.size+1) (.slice A acc.length c) acc∧AtomsO wr (w.heap.size+1) (.slice B ((a.atoms.take k).filter nfA).length d) ((a.atoms.take k).filter nfA)∧
    Blk wr w.heap.size 37 #[.slice A1 a.facts.length c1,.slice A2 a.atoms.length c2]∧Blk wr (w.heap.size+1) 37 #[.slice none 0 0,.slice none 0 0]∧Blk wr (w.heap.size+1+1) 37 #[.slice A acc.length c,.slice B ((a.atoms.take k).filter nfA).length d]∧Below w.heap.size w wr) (fun i _=>a.atoms.length - (intOf i).toNat)
   case atStart=>exact ⟨0,none,0,Nat.zero_le _,rfl,of,AtomsO.nil _ _,k0,k1,k2,bel⟩
   case round=>
    clear k0 k1 k2 of hB qk0 qk1 rk1 qk2 rk2 lk1 lk2;obtain ⟨k,B,d,hk,rfl,of,oa,k0,k1,k2,hB⟩:=hrel;(replace qk0:=k0.z;replace qk1:=k1.cell;replace rk1:=k1.frozen;replace lk1:=k1.lt;replace qk2:=k2.cell;replace rk2:=k2.frozen;replace lk2:=k2.lt);have hk2l:=k2.lt;by_cases hlt:k<a.atoms.length
    ·obtain ⟨b,off,rfl,hbl⟩:=h2.blt hlt;obtain ⟨g0,g1,g2⟩:=(h2.bz hB).cl hlt;have HT:=ax (filter_take nfA a.atoms k hlt);have hflen:((a.atoms.take k).filter nfA).length≤k:=Nat.le_trans (List.length_filter_le _ _) (by simp;omega);obtain ⟨xs,hxs⟩:∃ xs,xs=(a.atoms.take k).filter nfA:=⟨_,rfl⟩;rw[←hxs] at HT hflen oa k2 qk2;have HX:=ax hxs;clear hxs;cases hk2:(a.atoms[k].kind != 2)
     ·cases hab:(a.atoms[k].a != a.atoms[k].b)
      ·have HN:aJ ((a.atoms.take (k+1)).filter nfA=xs):=by show _=_;rw[HT.o,nfA,hk2,hab];simp
       have hab2:(a.atoms[k].a == a.atoms[k].b)=true:=by simpa using hab
       go_wp2_with fail
       go_round
       case rel=>exact ⟨k+1,B,d,by omega,by go_num,of.bz bel,by rw[HN.o];exact oa.bz bel,k0.alloc _,k1.alloc _,by rw[HN.o];exact k2.alloc _,bel⟩
       case measure=>simp[intOf];omega
      ·have HN:aJ ((a.atoms.take (k+1)).filter nfA=xs++[a.atoms[k]]):=by show _=_;rw[HT.o,nfA,hk2,hab];simp
       have hab2:(a.atoms[k].a == a.atoms[k].b)=false:=by simpa using hab
       have oa1:=(oa.bz (w':=wr.alloc (.cells #[.int .i64 a.atoms[k].kind,.int .i64 a.atoms[k].a,.int .i64 a.atoms[k].b] tA)) bel).bz (w':=(wr.alloc (.cells #[.int .i64 a.atoms[k].kind,.int .i64 a.atoms[k].a,.int .i64 a.atoms[k].b] tA)).alloc (.cells #[.int .i64 a.atoms[k].kind,.int .i64 a.atoms[k].a,.int .i64 a.atoms[k].b] tA)) bel;(go_wp2_with (at_builtin;refine appAL rfl _ _ rfl (v:=.slice B xs.length d) rfl oa1 rfl (AtomsV.one (f:=a.atoms[k]) (Blk.newE (by simp))) (by simp;omega) (by simp;omega) ?_;intro B' d' w2 oa2 hg2 hB3;have z2:=Blk.zm (g:=w.heap.size+1+1) ((k2.alloc _).alloc _) oa1.1 hg2 (by decide);have z2c:=z2.cell;have z2f:=z2.frozen));have z0:=Blk.zm (g:=w.heap.size) ((k0.alloc _).alloc _) oa1.1 hg2 (by decide);have z1:=Blk.zm (g:=w.heap.size+1) ((k1.alloc _).alloc _) oa1.1 hg2 (by decide);have hBw2:=Below.trans (bbox (bbox hB _) _) (hB3.mono (Nat.le_succ _));have of2:=FactsO.grownA ((of.bz (w':=wr.alloc (.cells #[.int .i64 a.atoms[k].kind,.int .i64 a.atoms[k].a,.int .i64 a.atoms[k].b] tA)) bel).bz (w':=(wr.alloc (.cells #[.int .i64 a.atoms[k].kind,.int .i64 a.atoms[k].a,.int .i64 a.atoms[k].b] tA)).alloc (.cells #[.int .i64 a.atoms[k].kind,.int .i64 a.atoms[k].a,.int .i64 a.atoms[k].b] tA)) bel) oa1 hg2
       go_round
       case rel=>
        refine ⟨k+1,B',d',by omega,by go_num,of2.setT z2 (by decide) _ _,?_,z0.far (by simp only[];omega) _,z1.far (by simp only[];omega) _,?_,bel⟩
        ·rw[HN.o];simpa using oa2.setT z2 (by decide) _ _
        ·rw[HN.o];simpa using z2.set_ 1 (.slice B' (xs.length+1) d')
       case measure=>simp[intOf];omega
     ·have HN:aJ ((a.atoms.take (k+1)).filter nfA=xs++[a.atoms[k]]):=by show _=_;rw[HT.o,nfA,hk2];simp
      have oa1:=(oa.bz (w':=wr.alloc (.cells #[.int .i64 a.atoms[k].kind,.int .i64 a.atoms[k].a,.int .i64 a.atoms[k].b] tA)) bel).bz (w':=(wr.alloc (.cells #[.int .i64 a.atoms[k].kind,.int .i64 a.atoms[k].a,.int .i64 a.atoms[k].b] tA)).alloc (.cells #[.int .i64 a.atoms[k].kind,.int .i64 a.atoms[k].a,.int .i64 a.atoms[k].b] tA)) bel;(go_wp2_with (at_builtin;refine appAL rfl _ _ rfl (v:=.slice B xs.length d) rfl oa1 rfl (AtomsV.one (f:=a.atoms[k]) (Blk.newE (by simp))) (by simp;omega) (by simp;omega) ?_;intro B' d' w2 oa2 hg2 hB3;have z2:=Blk.zm (g:=w.heap.size+1+1) ((k2.alloc _).alloc _) oa1.1 hg2 (by decide);have z2c:=z2.cell;have z2f:=z2.frozen));have z0:=Blk.zm (g:=w.heap.size) ((k0.alloc _).alloc _) oa1.1 hg2 (by decide);have z1:=Blk.zm (g:=w.heap.size+1) ((k1.alloc _).alloc _) oa1.1 hg2 (by decide);have hBw2:=Below.trans (bbox (bbox hB _) _) (hB3.mono (Nat.le_succ _));have of2:=FactsO.grownA ((of.bz (w':=wr.alloc (.cells #[.int .i64 a.atoms[k].kind,.int .i64 a.atoms[k].a,.int .i64 a.atoms[k].b] tA)) bel).bz (w':=(wr.alloc (.cells #[.int .i64 a.atoms[k].kind,.int .i64 a.atoms[k].a,.int .i64 a.atoms[k].b] tA)).alloc (.cells #[.int .i64 a.atoms[k].kind,.int .i64 a.atoms[k].a,.int .i64 a.atoms[k].b] tA)) bel) oa1 hg2
      go_round
      case rel=>
       refine ⟨k+1,B',d',by omega,by go_num,of2.setT z2 (by decide) _ _,?_,z0.far (by simp only[];omega) _,z1.far (by simp only[];omega) _,?_,bel⟩
       ·rw[HN.o];simpa using oa2.setT z2 (by decide) _ _
       ·rw[HN.o];simpa using z2.set_ 1 (.slice B' (xs.length+1) d')
      case measure=>simp[intOf];omega
    ·obtain rfl:k=a.atoms.length:=by omega
     rw[List.take_length] at oa k2 qk2;(go_wp2_with fail);refine bodyPost_ret (v:=.agg #[.slice A acc.length c,.slice B (a.atoms.filter nfA).length d]) (by simp[results,Tryz.results265,go_sem,qk1]) rfl ⟨_,rfl,?_,bel⟩;rw[HL.o];exact ⟨_,_,rfl,((of.setT k1 (by decide) _ _).setT (k1.set_ _ _) (by decide) _ _).bq (by omega),((oa.setT k1 (by decide) _ _).setT (k1.set_ _ _) (by decide) _ _).bq (by omega)⟩
end
end Go.Proofs.YtjaohekkmlkinaaGreat
