/- Programs: what is gathered over all commands. Plain. -/
import Derived.Test.YtgdfdmjnadnlnaaGreatMRunB
import Derived.Test.YtgdfdmjnadnlnaaGreatTidyI
set_option linter.unusedSimpArgs false
set_option linter.unusedVariables false
set_option maxRecDepth 100000
set_option maxHeartbeats 25600000
namespace Go.Proofs.YtgdfdmjnadnlnaaGreat
section
open Go Go.RowKit Go.Proofs
section
variable {w w':World} {lo hi:Nat}
theorem CmsAt.keep (hk:∀ b,lo≤b→b<hi→w'.heap[b]? = w.heap[b]?):∀ {L:Cms} {bl o:Nat},lo≤bl→bl<hi→CmsAt w lo hi L bl o→CmsAt w' lo hi L bl o
 | .nil,_,_,_,_,_=>trivial
 | .cons k a b t i body els r,bl,o,e1,e2,h=>by
  obtain ⟨⟨h0,h1,h2,h3,h4,h5⟩,⟨A6,c6,h6,g6⟩,⟨A7,c7,h7,g7⟩,⟨A8,c8,h8,g8⟩,⟨A9,c9,h9,g9⟩,hr⟩:=h;have hc:∀ j,w'.cell? ⟨bl,j,none⟩=w.cell? ⟨bl,j,none⟩:=fun j=>World.cell?_of_block (a:=⟨bl,j,none⟩) (hk bl e1 e2);refine ⟨⟨(hc _).trans h0,(hc _).trans h1,(hc _).trans h2,(hc _).trans h3,(hc _).trans h4,(hc _).trans h5⟩,⟨A6,c6,(hc _).trans h6,g6.keep hk⟩,⟨A7,c7,(hc _).trans h7,g7.keep hk⟩,⟨A8,c8,(hc _).trans h8,fun hl=>?_⟩,⟨A9,c9,(hc _).trans h9,fun hl=>?_⟩,CmsAt.keep hk e1 e2 hr⟩
  ·obtain ⟨b',o',e,p1,p2,p3⟩:=g8 hl;exact ⟨b',o',e,p1,p2,CmsAt.keep hk p1 p2 p3⟩
  ·obtain ⟨b',o',e,p1,p2,p3⟩:=g9 hl;exact ⟨b',o',e,p1,p2,CmsAt.keep hk p1 p2 p3⟩
theorem CmsV.keep {A:Option Addr} {L:Cms} (h:CmsV w lo hi A L) (hk:∀ b,lo≤b→b<hi→w'.heap[b]? = w.heap[b]?):CmsV w' lo hi A L:=fun hl=>by
 obtain ⟨b,o,e,p1,p2,p3⟩:=h hl;exact ⟨b,o,e,p1,p2,p3.keep hk p1 p2⟩
end
end
section
open Go Go.RowKit Go.Proofs
attribute [local go_sem ↓] Go.wp_at_zero Go.wp_at_succ
theorem c_impl_replaceIn {lo hi:Nat} (v:Value) (a:Asn) (x y:Int) (w:World) (h:AsnV w lo hi v a) :
  Calls Tryz.prog 239 #[v,.int .i64 x,.int .i64 y] w fun e w'=>∃ r,e=.returned r∧AsnO w' w.heap.size r (substA x y a)∧Below w.heap.size w w':=by
 have hV:=ax h;obtain ⟨A1,c1,A2,c2,rfl,h1,h2⟩:=h;have l1:=h1.le;have l2:=h2.le;(go_enter Tryz.func239,Tryz.ntmps239);have k1:=(blk2 w 36 36 #[.slice A1 a.facts.length c1,.slice A2 a.atoms.length c2] #[.slice none 0 0,.slice none 0 0]).2;(go_wp2_with fail);refine (c_impl_copyAssertion _ a _ (hV.o.bz bel)).mono ?_;rintro e w1 ⟨r,rfl,hO,hB1⟩;have hB:=bgo (w:=w) bel hB1;(replace k1:=k1.nz hB1);obtain ⟨fv,av,rfl,of,oa⟩:=hO;obtain ⟨F,d1,rfl,-⟩:=of.reads;obtain ⟨G,d2,rfl,-⟩:=oa.reads;have k2:=Blk.new w1 36 #[.slice F a.facts.length d1,.slice G a.atoms.length d2];have hz:=hB1.size;simp only[World.size_alloc] at hz;have of':=of.bz (w':=w1.alloc (.cells #[.slice F a.facts.length d1,.slice G a.atoms.length d2] 36)) bel;have oa':=oa.bz (w':=w1.alloc (.cells #[.slice F a.facts.length d1,.slice G a.atoms.length d2] 36)) bel;have hU1:=of.und;have hU2:=oa.und;clear of oa hV h1 h2 hB1;(go_wp2_with fail)
 go_loopw [17] (fun i wr=>∃ k:Nat,k≤a.facts.length∧i=.int .i64 k∧FactsO wr (w.heap.size+1+1) (.slice F a.facts.length d1) (upto (Fct.sub x y) k a.facts)∧AtomsO wr (w.heap.size+1+1) (.slice G a.atoms.length d2) a.atoms∧
   Blk wr (w.heap.size+1) 36 #[.slice none 0 0,.slice none 0 0]∧Blk wr w1.heap.size 36 #[.slice F a.facts.length d1,.slice G a.atoms.length d2]∧Below w.heap.size w wr) (fun i _=>a.facts.length - (intOf i).toNat)
 case atStart=>exact ⟨0,Nat.zero_le _,rfl,by rw[upto_zero];simpa using of',by simpa using oa',k1.alloc _,k2,bel⟩
 case round=>
  clear k1 k2 of' oa' hB;obtain ⟨k,hk,rfl,of,oa,k1,k2,hB⟩:=hrel;(replace qk1:=k1.cell;replace rk1:=k1.frozen;replace lk1:=k1.lt;replace qk2:=k2.z);by_cases hlt:k<a.facts.length
  ·obtain ⟨g,cur,-,rfl,hg,hK,hsz,c0,c1,c2,-⟩:=of.open_ (k:=k) (by rw[upto_length];exact hlt);rw[upto_get _ _ _ hlt] at c0 c1 c2;have q0:wr.cell? ⟨g,k * 3,none⟩=some (.bool a.facts[k].eq):=(hK.cell _).trans c0;have q1:wr.cell? ⟨g,k * 3+1,none⟩=some (.int .i64 a.facts[k].a):=(hK.cell _).trans c1;have q2:wr.cell? ⟨g,k * 3+2,none⟩=some (.int .i64 a.facts[k].b):=(hK.cell _).trans c2;have hgl:=hK.lt;have hk2l:=k2.lt;have hne:=Blk.ne_ hK k2 (by decide);have hne1:=Blk.ne_ hK k1 (by decide);have hz1:=hz;have hbw:=hB.size;(go_wp2_with fail);have kf:=Blk.new wr tF #[.bool a.facts[k].eq,.int .i64 a.facts[k].a,.int .i64 a.facts[k].b];replace of:=of.bz (w':=wr.alloc (.cells #[.bool a.facts[k].eq,.int .i64 a.facts[k].a,.int .i64 a.facts[k].b] tF)) bel;replace oa:=oa.bz (w':=wr.alloc (.cells #[.bool a.facts[k].eq,.int .i64 a.facts[k].a,.int .i64 a.facts[k].b] tF)) bel;replace k1:=k1.alloc (.cells #[.bool a.facts[k].eq,.int .i64 a.facts[k].a,.int .i64 a.facts[k].b] tF);replace k2:=k2.alloc (.cells #[.bool a.facts[k].eq,.int .i64 a.facts[k].a,.int .i64 a.facts[k].b] tF);replace hK:=hK.alloc (.cells #[.bool a.facts[k].eq,.int .i64 a.facts[k].a,.int .i64 a.facts[k].b] tF);replace hB:=bbox hB (.cells #[.bool a.facts[k].eq,.int .i64 a.facts[k].a,.int .i64 a.facts[k].b] tF);clear qk1 qk2 rk1 lk1 q0 q1 q2;generalize (wr.alloc (.cells #[.bool a.facts[k].eq,.int .i64 a.facts[k].a,.int .i64 a.facts[k].b] tF))=V at kf of oa k1 k2 hK hB ⊢;have q1:=(hK.cell _).trans c1;have r:=hK.frozen;have HLEN:=ax (upto_length (Fct.sub x y) k a.facts);have HGET:=ax (upto_get (Fct.sub x y) k a.facts hlt)
   go_region_held3 (fun w'=>(∀ i,w'.cell? ⟨w1.heap.size,i,none⟩=#[.slice (some ⟨g,0,none⟩) a.facts.length d1,.slice G a.atoms.length d2][i]?)∧(∀ i,w'.cell? ⟨wr.heap.size,i,none⟩=#[.bool a.facts[k].eq,.int .i64 a.facts[k].a,.int .i64 a.facts[k].b][i]?))
    (exact ⟨Blk.cell blks,Blk.cell blks⟩)
    (first|(go_at_call 249;refine (c_replaceTerm _ _ _ _).mono ?_;rintro e w' ⟨rfl,rfl⟩))
   have of2:=FactsO.setA of (k:=k) (by rw[HLEN.o];exact hlt) (swp x y a.facts[k].a) (gs:=(upto (Fct.sub x y) k a.facts).set k ⟨a.facts[k].eq,swp x y a.facts[k].a,a.facts[k].b⟩) (by rw[HGET.o]);replace of:=of2.bz (w':=(V.setCell ⟨g,k * 3+1,none⟩ (.int .i64 (swp x y a.facts[k].a))).drew) bel;replace oa:=(AtomsO.setT oa hK (by decide) (k * 3+1) (.int .i64 (swp x y a.facts[k].a))).bz (w':=(V.setCell ⟨g,k * 3+1,none⟩ (.int .i64 (swp x y a.facts[k].a))).drew) bel;replace k1:=(k1.far (p:=⟨g,k * 3+1,none⟩) (Ne.symm hne1) (.int .i64 (swp x y a.facts[k].a))).drew;replace k2:=(k2.far (p:=⟨g,k * 3+1,none⟩) (Ne.symm hne) (.int .i64 (swp x y a.facts[k].a))).drew;replace kf:=(kf.far (p:=⟨g,k * 3+1,none⟩) (by simp only[];omega) (.int .i64 (swp x y a.facts[k].a))).drew;replace hK:=(hK.set_ (k * 3+1) (.int .i64 (swp x y a.facts[k].a))).drew;replace hB:=(hB.setCell (p:=⟨g,k * 3+1,none⟩) (by simp only[];omega) (.int .i64 (swp x y a.facts[k].a))).drew;clear of2 q1 r;(go_wp2_with fail);generalize (V.setCell ⟨g,k * 3+1,none⟩ (.int .i64 (swp x y a.facts[k].a))).drew=V2 at kf of oa k1 k2 hK hB ⊢;have q2:V2.cell? ⟨g,k * 3+2,none⟩=some (.int .i64 a.facts[k].b):=(hK.cell (k * 3+2)).trans (by rw[Array.getElem?_setIfInBounds_ne (by omega)];exact c2);have r:=hK.frozen
   go_region_held3 (fun w'=>(∀ i,w'.cell? ⟨w1.heap.size,i,none⟩=#[.slice (some ⟨g,0,none⟩) a.facts.length d1,.slice G a.atoms.length d2][i]?)∧(∀ i,w'.cell? ⟨wr.heap.size,i,none⟩=#[.bool a.facts[k].eq,.int .i64 a.facts[k].a,.int .i64 a.facts[k].b][i]?))
    (exact ⟨Blk.cell blks,Blk.cell blks⟩)
    (first|(go_at_call 249;refine (c_replaceTerm _ _ _ _).mono ?_;rintro e w' ⟨rfl,rfl⟩))
   have of2:=FactsO.setB of (k:=k) (by rw[List.length_set,HLEN.o];exact hlt) (swp x y a.facts[k].b) (gs:=(upto (Fct.sub x y) k a.facts).set k (Fct.sub x y a.facts[k])) (by simp[Fct.sub]);replace of:=of2.bz (w':=(V2.setCell ⟨g,k * 3+2,none⟩ (.int .i64 (swp x y a.facts[k].b))).drew) bel;replace oa:=(AtomsO.setT oa hK (by decide) (k * 3+2) (.int .i64 (swp x y a.facts[k].b))).bz (w':=(V2.setCell ⟨g,k * 3+2,none⟩ (.int .i64 (swp x y a.facts[k].b))).drew) bel;replace k1:=(k1.far (p:=⟨g,k * 3+2,none⟩) (Ne.symm hne1) (.int .i64 (swp x y a.facts[k].b))).drew;replace k2:=(k2.far (p:=⟨g,k * 3+2,none⟩) (Ne.symm hne) (.int .i64 (swp x y a.facts[k].b))).drew;replace hB:=(hB.setCell (p:=⟨g,k * 3+2,none⟩) (by simp only[];omega) (.int .i64 (swp x y a.facts[k].b))).drew;clear of2 q2 r hK kf;(go_wp2_with fail)
   go_round
   case rel=>exact ⟨k+1,by omega,by go_num,by rw[←upto_set _ _ _ hlt];exact of,oa,k1,k2,hB⟩
   case measure=>simp[intOf];omega
  ·obtain rfl:k=a.facts.length:=by omega
   rw[upto_full] at of;(go_wp2_with fail)
   go_loopw [46] (fun i wr=>∃ k:Nat,k≤a.atoms.length∧i=.int .i64 k∧FactsO wr (w.heap.size+1+1) (.slice F a.facts.length d1) (a.facts.map (Fct.sub x y))∧AtomsO wr (w.heap.size+1+1) (.slice G a.atoms.length d2) (upto (Atm.sub x y) k a.atoms)∧
     Blk wr (w.heap.size+1) 36 #[.slice none 0 0,.slice none 0 0]∧Blk wr w1.heap.size 36 #[.slice F a.facts.length d1,.slice G a.atoms.length d2]∧Below w.heap.size w wr) (fun i _=>a.atoms.length - (intOf i).toNat)
   case atStart=>exact ⟨0,Nat.zero_le _,rfl,of,by rw[upto_zero];exact oa,k1,k2,bel⟩
   case round=>
    clear k1 k2 of oa hB qk1 qk2 rk1 lk1;obtain ⟨k,hk,rfl,of,oa,k1,k2,hB⟩:=hrel;(replace qk1:=k1.cell;replace rk1:=k1.frozen;replace lk1:=k1.lt;replace qk2:=k2.z);by_cases hlt:k<a.atoms.length
    ·obtain ⟨g,cur,-,rfl,hg,hK,hsz,c0,c1,c2,-⟩:=oa.open_ (k:=k) (by rw[upto_length];exact hlt);rw[upto_get _ _ _ hlt] at c0 c1 c2;have q0:wr.cell? ⟨g,k * 3,none⟩=some (.int .i64 a.atoms[k].kind):=(hK.cell _).trans c0;have q1:wr.cell? ⟨g,k * 3+1,none⟩=some (.int .i64 a.atoms[k].a):=(hK.cell _).trans c1;have q2:wr.cell? ⟨g,k * 3+2,none⟩=some (.int .i64 a.atoms[k].b):=(hK.cell _).trans c2;have hgl:=hK.lt;have hk2l:=k2.lt;have hne:=Blk.ne_ hK k2 (by decide);have hne1:=Blk.ne_ hK k1 (by decide);have hz1:=hz;have hbw:=hB.size;(go_wp2_with fail);have kf:=Blk.new wr tA #[.int .i64 a.atoms[k].kind,.int .i64 a.atoms[k].a,.int .i64 a.atoms[k].b];replace oa:=oa.bz (w':=wr.alloc (.cells #[.int .i64 a.atoms[k].kind,.int .i64 a.atoms[k].a,.int .i64 a.atoms[k].b] tA)) bel;replace of:=of.bz (w':=wr.alloc (.cells #[.int .i64 a.atoms[k].kind,.int .i64 a.atoms[k].a,.int .i64 a.atoms[k].b] tA)) bel;replace k1:=k1.alloc (.cells #[.int .i64 a.atoms[k].kind,.int .i64 a.atoms[k].a,.int .i64 a.atoms[k].b] tA);replace k2:=k2.alloc (.cells #[.int .i64 a.atoms[k].kind,.int .i64 a.atoms[k].a,.int .i64 a.atoms[k].b] tA);replace hK:=hK.alloc (.cells #[.int .i64 a.atoms[k].kind,.int .i64 a.atoms[k].a,.int .i64 a.atoms[k].b] tA);replace hB:=bbox hB (.cells #[.int .i64 a.atoms[k].kind,.int .i64 a.atoms[k].a,.int .i64 a.atoms[k].b] tA);clear qk1 qk2 rk1 lk1 q0 q1 q2;generalize (wr.alloc (.cells #[.int .i64 a.atoms[k].kind,.int .i64 a.atoms[k].a,.int .i64 a.atoms[k].b] tA))=V at kf oa of k1 k2 hK hB ⊢;have q1:=(hK.cell _).trans c1;have r:=hK.frozen;have HLEN:=ax (upto_length (Atm.sub x y) k a.atoms);have HGET:=ax (upto_get (Atm.sub x y) k a.atoms hlt)
     go_region_held3 (fun w'=>(∀ i,w'.cell? ⟨w1.heap.size,i,none⟩=#[.slice F a.facts.length d1,.slice (some ⟨g,0,none⟩) a.atoms.length d2][i]?)∧(∀ i,w'.cell? ⟨wr.heap.size,i,none⟩=#[.int .i64 a.atoms[k].kind,.int .i64 a.atoms[k].a,.int .i64 a.atoms[k].b][i]?))
      (exact ⟨Blk.cell blks,Blk.cell blks⟩)
      (first|(go_at_call 249;refine (c_replaceTerm _ _ _ _).mono ?_;rintro e w' ⟨rfl,rfl⟩))
     have oa2:=AtomsO.setA oa (k:=k) (by rw[HLEN.o];exact hlt) (swp x y a.atoms[k].a) (gs:=(upto (Atm.sub x y) k a.atoms).set k ⟨a.atoms[k].kind,swp x y a.atoms[k].a,a.atoms[k].b⟩) (by rw[HGET.o]);replace oa:=oa2.bz (w':=(V.setCell ⟨g,k * 3+1,none⟩ (.int .i64 (swp x y a.atoms[k].a))).drew) bel;replace of:=(FactsO.setT of hK (by decide) (k * 3+1) (.int .i64 (swp x y a.atoms[k].a))).bz (w':=(V.setCell ⟨g,k * 3+1,none⟩ (.int .i64 (swp x y a.atoms[k].a))).drew) bel;replace k1:=(k1.far (p:=⟨g,k * 3+1,none⟩) (Ne.symm hne1) (.int .i64 (swp x y a.atoms[k].a))).drew;replace k2:=(k2.far (p:=⟨g,k * 3+1,none⟩) (Ne.symm hne) (.int .i64 (swp x y a.atoms[k].a))).drew;replace kf:=(kf.far (p:=⟨g,k * 3+1,none⟩) (by simp only[];omega) (.int .i64 (swp x y a.atoms[k].a))).drew;replace hK:=(hK.set_ (k * 3+1) (.int .i64 (swp x y a.atoms[k].a))).drew;replace hB:=(hB.setCell (p:=⟨g,k * 3+1,none⟩) (by simp only[];omega) (.int .i64 (swp x y a.atoms[k].a))).drew;clear oa2 q1 r;(go_wp2_with fail);generalize (V.setCell ⟨g,k * 3+1,none⟩ (.int .i64 (swp x y a.atoms[k].a))).drew=V2 at kf oa of k1 k2 hK hB ⊢;have q2:V2.cell? ⟨g,k * 3+2,none⟩=some (.int .i64 a.atoms[k].b):=(hK.cell (k * 3+2)).trans (by rw[Array.getElem?_setIfInBounds_ne (by omega)];exact c2);have r:=hK.frozen
     go_region_held3 (fun w'=>(∀ i,w'.cell? ⟨w1.heap.size,i,none⟩=#[.slice F a.facts.length d1,.slice (some ⟨g,0,none⟩) a.atoms.length d2][i]?)∧(∀ i,w'.cell? ⟨wr.heap.size,i,none⟩=#[.int .i64 a.atoms[k].kind,.int .i64 a.atoms[k].a,.int .i64 a.atoms[k].b][i]?))
      (exact ⟨Blk.cell blks,Blk.cell blks⟩)
      (first|(go_at_call 249;refine (c_replaceTerm _ _ _ _).mono ?_;rintro e w' ⟨rfl,rfl⟩))
     have oa2:=AtomsO.setB oa (k:=k) (by rw[List.length_set,HLEN.o];exact hlt) (swp x y a.atoms[k].b) (gs:=(upto (Atm.sub x y) k a.atoms).set k (Atm.sub x y a.atoms[k])) (by simp[Atm.sub]);replace oa:=oa2.bz (w':=(V2.setCell ⟨g,k * 3+2,none⟩ (.int .i64 (swp x y a.atoms[k].b))).drew) bel;replace of:=(FactsO.setT of hK (by decide) (k * 3+2) (.int .i64 (swp x y a.atoms[k].b))).bz (w':=(V2.setCell ⟨g,k * 3+2,none⟩ (.int .i64 (swp x y a.atoms[k].b))).drew) bel;replace k1:=(k1.far (p:=⟨g,k * 3+2,none⟩) (Ne.symm hne1) (.int .i64 (swp x y a.atoms[k].b))).drew;replace k2:=(k2.far (p:=⟨g,k * 3+2,none⟩) (Ne.symm hne) (.int .i64 (swp x y a.atoms[k].b))).drew;replace hB:=(hB.setCell (p:=⟨g,k * 3+2,none⟩) (by simp only[];omega) (.int .i64 (swp x y a.atoms[k].b))).drew;clear oa2 q2 r hK kf;(go_wp2_with fail)
     go_round
     case rel=>exact ⟨k+1,by omega,by go_num,of,by rw[←upto_set _ _ _ hlt];exact oa,k1,k2,hB⟩
     case measure=>simp[intOf];omega
    ·obtain rfl:k=a.atoms.length:=by omega
     rw[upto_full] at oa;(go_wp2_with fail);refine bodyPost_ret (v:=.agg #[.slice F a.facts.length d1,.slice G a.atoms.length d2]) (by simp[results,Tryz.results239,go_sem,qk1]) rfl ⟨_,rfl,⟨_,_,rfl,?_,?_⟩,bel⟩
     ·exact ((of.setT k1 (by decide) _ _).setT (k1.set_ _ _) (by decide) _ _).lower (by omega)
     ·exact ((oa.setT k1 (by decide) _ _).setT (k1.set_ _ _) (by decide) _ _).lower (by omega)
end
section
open Go Go.RowKit Go.Proofs
theorem fieldsB_a {k a b:Int} (h:fieldsB k a b=true):1≤a∧a≤4∨¬(k=1∨k=2∨k=4):=by
 unfold fieldsB at h
 split at h
 ·rw[Bool.and_eq_true] at h;exact Or.inl (by simpa [isProgB] using h.1)
 split at h
 ·rename_i h1 h2;exact Or.inr (by rintro (e|e|e)<;>omega)
 split at h
 ·rw[Bool.and_eq_true] at h;exact Or.inl (by simpa [isProgB] using h.1)
 ·rename_i h1 h2 h3;exact Or.inr (by rintro (e|e|e)<;>omega)
end
end Go.Proofs.YtgdfdmjnadnlnaaGreat
