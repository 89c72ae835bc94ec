/- Tidying: impl's replacement in place. -/
import Derived.Test.YtjjokmlmknllhaaGreatTidyI
import Derived.Test.YtjjokmlmknllhaaGreatMImpS
import Derived.Test.YtjjokmlmknllhaaGreatMFrmI
import Derived.Test.YtjjokmlmknllhaaGreatMCmdA
import Derived.Deep.DeepCutAuto
set_option linter.unusedSimpArgs false
set_option linter.unusedVariables false
namespace Go.Proofs.YtjjokmlmknllhaaGreat
open Go Go.RowKit Go.Proofs
attribute [local go_sem ↓] Go.wp_at_zero Go.wp_at_succ
set_option maxHeartbeats 3200000 in
theorem c_impl_replaceIn {lo hi:Nat} (v:Value) (a:Asn) (x y:Int) (w:World) (h:AsnV w lo hi v a) :
  Calls Tryz.prog 131 #[v,.int .i64 x,.int .i64 y] w fun e w'=>∃ r,e=.returned r∧AsnO w' w.heap.size r (substA x y a)∧Below w.heap.size w w':=by
 have hV:=Lib.hid h
 obtain ⟨A1,c1,A2,c2,rfl,h1,h2⟩:=h
 have l1:=h1.le
 have l2:=h2.le
 go_enter Tryz.func131,Tryz.ntmps131
 have k1:=(blk2 w 34 34 #[.slice A1 a.facts.length c1,.slice A2 a.atoms.length c2] #[.slice none 0 0,.slice none 0 0]).2
 go_wp2_with fail
 refine (c_impl_copyAssertion _ a _ (hV.out.below bel)).mono ?_
 rintro e w1 ⟨r,rfl,hO,hB1⟩
 have hB:=bgo (w:=w) bel hB1
 (replace k1:=k1.next hB1)
 obtain ⟨fv,av,rfl,of,oa⟩:=hO
 obtain ⟨F,d1,rfl,-⟩:=of.reads
 obtain ⟨G,d2,rfl,-⟩:=oa.reads
 have k2:=Blk.new w1 34 #[.slice F a.facts.length d1,.slice G a.atoms.length d2]
 have hz:=hB1.size
 simp only[World.size_alloc] at hz
 have of':=of.below (w':=w1.alloc (.cells #[.slice F a.facts.length d1,.slice G a.atoms.length d2] 34)) bel
 have oa':=oa.below (w':=w1.alloc (.cells #[.slice F a.facts.length d1,.slice G a.atoms.length d2] 34)) bel
 have hU1:=of.und
 have hU2:=oa.und
 clear of oa hV h1 h2 hB1
 go_wp2_with fail
 go_loopw [17] (fun i wr=>∃ k:Nat,k≤a.facts.length∧i=.int .i64 k∧FactsO wr (w.heap.size+1+1) (.slice F a.facts.length d1) (upto (Fct.sub x y) k a.facts)∧AtomsO wr (w.heap.size+1+1) (.slice G a.atoms.length d2) a.atoms∧
   Blk wr (w.heap.size+1) 34 #[.slice none 0 0,.slice none 0 0]∧Blk wr w1.heap.size 34 #[.slice F a.facts.length d1,.slice G a.atoms.length d2]∧Below w.heap.size w wr) (fun i _=>a.facts.length - (intOf i).toNat)
 case atStart=>exact ⟨0,Nat.zero_le _,rfl,by rw[upto_zero];simpa using of',by simpa using oa',k1.alloc _,k2,bel⟩
 case round=>
  clear k1 k2 of' oa' hB
  obtain ⟨k,hk,rfl,of,oa,k1,k2,hB⟩:=hrel
  (replace qk1:=k1.cell;replace rk1:=k1.frozen;replace lk1:=k1.lt;replace qk2:=k2.cell;replace rk2:=k2.frozen;replace lk2:=k2.lt)
  by_cases hlt:k<a.facts.length
  ·obtain ⟨g,cur,-,rfl,hg,hK,hsz,c0,c1,c2,-⟩:=of.open_ (k:=k) (by rw[upto_length];exact hlt)
   rw[upto_get _ _ _ hlt] at c0 c1 c2
   have q0:wr.cell? ⟨g,k * 3,none⟩=some (.bool a.facts[k].eq):=(hK.cell _).trans c0
   have q1:wr.cell? ⟨g,k * 3+1,none⟩=some (.int .i64 a.facts[k].a):=(hK.cell _).trans c1
   have q2:wr.cell? ⟨g,k * 3+2,none⟩=some (.int .i64 a.facts[k].b):=(hK.cell _).trans c2
   have hgl:=hK.lt
   have hk2l:=k2.lt
   have hne:=Blk.ne_ hK k2 (by decide)
   have hne1:=Blk.ne_ hK k1 (by decide)
   have hz1:=hz
   have hbw:=hB.size
   go_wp2_with fail
   have kf:=Blk.new wr tF #[.bool a.facts[k].eq,.int .i64 a.facts[k].a,.int .i64 a.facts[k].b]
   replace of:=of.below (w':=wr.alloc (.cells #[.bool a.facts[k].eq,.int .i64 a.facts[k].a,.int .i64 a.facts[k].b] tF)) bel
   replace oa:=oa.below (w':=wr.alloc (.cells #[.bool a.facts[k].eq,.int .i64 a.facts[k].a,.int .i64 a.facts[k].b] tF)) bel
   replace k1:=k1.alloc (.cells #[.bool a.facts[k].eq,.int .i64 a.facts[k].a,.int .i64 a.facts[k].b] tF)
   replace k2:=k2.alloc (.cells #[.bool a.facts[k].eq,.int .i64 a.facts[k].a,.int .i64 a.facts[k].b] tF)
   replace hK:=hK.alloc (.cells #[.bool a.facts[k].eq,.int .i64 a.facts[k].a,.int .i64 a.facts[k].b] tF)
   replace hB:=bbox hB (.cells #[.bool a.facts[k].eq,.int .i64 a.facts[k].a,.int .i64 a.facts[k].b] tF)
   clear qk1 qk2 rk1 rk2 lk1 lk2 q0 q1 q2
   generalize (wr.alloc (.cells #[.bool a.facts[k].eq,.int .i64 a.facts[k].a,.int .i64 a.facts[k].b] tF))=V at kf of oa k1 k2 hK hB ⊢
   have q1:=(hK.cell _).trans c1
   have r:=hK.frozen
   have HLEN:=Lib.hid (upto_length (Fct.sub x y) k a.facts)
   have HGET:=Lib.hid (upto_get (Fct.sub x y) k a.facts hlt)
   go_region_held3 (fun w'=>(∀ i,w'.cell? ⟨w1.heap.size,i,none⟩=#[.slice (some ⟨g,0,none⟩) a.facts.length d1,.slice G a.atoms.length d2][i]?)∧(∀ i,w'.cell? ⟨wr.heap.size,i,none⟩=#[.bool a.facts[k].eq,.int .i64 a.facts[k].a,.int .i64 a.facts[k].b][i]?))
    (exact ⟨Blk.cell blks,Blk.cell blks⟩)
    (first|(go_at_call 173;refine (c_replaceTerm _ _ _ _).mono ?_;rintro e w' ⟨rfl,rfl⟩))
   have of2:=FactsO.setA of (k:=k) (by rw[HLEN.out];exact hlt) (swp x y a.facts[k].a) (gs:=(upto (Fct.sub x y) k a.facts).set k ⟨a.facts[k].eq,swp x y a.facts[k].a,a.facts[k].b⟩) (by rw[HGET.out])
   replace of:=of2.below (w':=(V.setCell ⟨g,k * 3+1,none⟩ (.int .i64 (swp x y a.facts[k].a))).drew) bel
   replace oa:=(AtomsO.setT oa hK (by decide) (k * 3+1) (.int .i64 (swp x y a.facts[k].a))).below (w':=(V.setCell ⟨g,k * 3+1,none⟩ (.int .i64 (swp x y a.facts[k].a))).drew) bel
   replace k1:=(k1.far (p:=⟨g,k * 3+1,none⟩) (Ne.symm hne1) (.int .i64 (swp x y a.facts[k].a))).drew
   replace k2:=(k2.far (p:=⟨g,k * 3+1,none⟩) (Ne.symm hne) (.int .i64 (swp x y a.facts[k].a))).drew
   replace kf:=(kf.far (p:=⟨g,k * 3+1,none⟩) (by simp only[];omega) (.int .i64 (swp x y a.facts[k].a))).drew
   replace hK:=(hK.set_ (k * 3+1) (.int .i64 (swp x y a.facts[k].a))).drew
   replace hB:=(hB.setCell (p:=⟨g,k * 3+1,none⟩) (by simp only[];omega) (.int .i64 (swp x y a.facts[k].a))).drew
   clear of2 q1 r
   go_wp2_with fail
   generalize (V.setCell ⟨g,k * 3+1,none⟩ (.int .i64 (swp x y a.facts[k].a))).drew=V2 at kf of oa k1 k2 hK hB ⊢
   have q2:V2.cell? ⟨g,k * 3+2,none⟩=some (.int .i64 a.facts[k].b):=(hK.cell (k * 3+2)).trans (by rw[Array.getElem?_setIfInBounds_ne (by omega)];exact c2)
   have r:=hK.frozen
   go_region_held3 (fun w'=>(∀ i,w'.cell? ⟨w1.heap.size,i,none⟩=#[.slice (some ⟨g,0,none⟩) a.facts.length d1,.slice G a.atoms.length d2][i]?)∧(∀ i,w'.cell? ⟨wr.heap.size,i,none⟩=#[.bool a.facts[k].eq,.int .i64 a.facts[k].a,.int .i64 a.facts[k].b][i]?))
    (exact ⟨Blk.cell blks,Blk.cell blks⟩)
    (first|(go_at_call 173;refine (c_replaceTerm _ _ _ _).mono ?_;rintro e w' ⟨rfl,rfl⟩))
   have of2:=FactsO.setB of (k:=k) (by rw[List.length_set,HLEN.out];exact hlt) (swp x y a.facts[k].b) (gs:=(upto (Fct.sub x y) k a.facts).set k (Fct.sub x y a.facts[k])) (by simp[Fct.sub])
   replace of:=of2.below (w':=(V2.setCell ⟨g,k * 3+2,none⟩ (.int .i64 (swp x y a.facts[k].b))).drew) bel
   replace oa:=(AtomsO.setT oa hK (by decide) (k * 3+2) (.int .i64 (swp x y a.facts[k].b))).below (w':=(V2.setCell ⟨g,k * 3+2,none⟩ (.int .i64 (swp x y a.facts[k].b))).drew) bel
   replace k1:=(k1.far (p:=⟨g,k * 3+2,none⟩) (Ne.symm hne1) (.int .i64 (swp x y a.facts[k].b))).drew
   replace k2:=(k2.far (p:=⟨g,k * 3+2,none⟩) (Ne.symm hne) (.int .i64 (swp x y a.facts[k].b))).drew
   replace hB:=(hB.setCell (p:=⟨g,k * 3+2,none⟩) (by simp only[];omega) (.int .i64 (swp x y a.facts[k].b))).drew
   clear of2 q2 r hK kf
   go_wp2_with fail
   go_round
   case rel=>exact ⟨k+1,by omega,by go_num,by rw[←upto_set _ _ _ hlt];exact of,oa,k1,k2,hB⟩
   case measure=>simp[intOf];omega
  ·obtain rfl:k=a.facts.length:=by omega
   rw[upto_full] at of
   go_wp2_with fail
   go_loopw [46] (fun i wr=>∃ k:Nat,k≤a.atoms.length∧i=.int .i64 k∧FactsO wr (w.heap.size+1+1) (.slice F a.facts.length d1) (a.facts.map (Fct.sub x y))∧AtomsO wr (w.heap.size+1+1) (.slice G a.atoms.length d2) (upto (Atm.sub x y) k a.atoms)∧
     Blk wr (w.heap.size+1) 34 #[.slice none 0 0,.slice none 0 0]∧Blk wr w1.heap.size 34 #[.slice F a.facts.length d1,.slice G a.atoms.length d2]∧Below w.heap.size w wr) (fun i _=>a.atoms.length - (intOf i).toNat)
   case atStart=>exact ⟨0,Nat.zero_le _,rfl,of,by rw[upto_zero];exact oa,k1,k2,bel⟩
   case round=>
    clear k1 k2 of oa hB qk1 qk2 rk1 rk2 lk1 lk2
    obtain ⟨k,hk,rfl,of,oa,k1,k2,hB⟩:=hrel
    (replace qk1:=k1.cell;replace rk1:=k1.frozen;replace lk1:=k1.lt;replace qk2:=k2.cell;replace rk2:=k2.frozen;replace lk2:=k2.lt)
    by_cases hlt:k<a.atoms.length
    ·obtain ⟨g,cur,-,rfl,hg,hK,hsz,c0,c1,c2,-⟩:=oa.open_ (k:=k) (by rw[upto_length];exact hlt)
     rw[upto_get _ _ _ hlt] at c0 c1 c2
     have q0:wr.cell? ⟨g,k * 3,none⟩=some (.int .i64 a.atoms[k].kind):=(hK.cell _).trans c0
     have q1:wr.cell? ⟨g,k * 3+1,none⟩=some (.int .i64 a.atoms[k].a):=(hK.cell _).trans c1
     have q2:wr.cell? ⟨g,k * 3+2,none⟩=some (.int .i64 a.atoms[k].b):=(hK.cell _).trans c2
     have hgl:=hK.lt
     have hk2l:=k2.lt
     have hne:=Blk.ne_ hK k2 (by decide)
     have hne1:=Blk.ne_ hK k1 (by decide)
     have hz1:=hz
     have hbw:=hB.size
     go_wp2_with fail
     have kf:=Blk.new wr tA #[.int .i64 a.atoms[k].kind,.int .i64 a.atoms[k].a,.int .i64 a.atoms[k].b]
     replace oa:=oa.below (w':=wr.alloc (.cells #[.int .i64 a.atoms[k].kind,.int .i64 a.atoms[k].a,.int .i64 a.atoms[k].b] tA)) bel
     replace of:=of.below (w':=wr.alloc (.cells #[.int .i64 a.atoms[k].kind,.int .i64 a.atoms[k].a,.int .i64 a.atoms[k].b] tA)) bel
     replace k1:=k1.alloc (.cells #[.int .i64 a.atoms[k].kind,.int .i64 a.atoms[k].a,.int .i64 a.atoms[k].b] tA)
     replace k2:=k2.alloc (.cells #[.int .i64 a.atoms[k].kind,.int .i64 a.atoms[k].a,.int .i64 a.atoms[k].b] tA)
     replace hK:=hK.alloc (.cells #[.int .i64 a.atoms[k].kind,.int .i64 a.atoms[k].a,.int .i64 a.atoms[k].b] tA)
     replace hB:=bbox hB (.cells #[.int .i64 a.atoms[k].kind,.int .i64 a.atoms[k].a,.int .i64 a.atoms[k].b] tA)
     clear qk1 qk2 rk1 rk2 lk1 lk2 q0 q1 q2
     generalize (wr.alloc (.cells #[.int .i64 a.atoms[k].kind,.int .i64 a.atoms[k].a,.int .i64 a.atoms[k].b] tA))=V at kf oa of k1 k2 hK hB ⊢
     have q1:=(hK.cell _).trans c1
     have r:=hK.frozen
     have HLEN:=Lib.hid (upto_length (Atm.sub x y) k a.atoms)
     have HGET:=Lib.hid (upto_get (Atm.sub x y) k a.atoms hlt)
     go_region_held3 (fun w'=>(∀ i,w'.cell? ⟨w1.heap.size,i,none⟩=#[.slice F a.facts.length d1,.slice (some ⟨g,0,none⟩) a.atoms.length d2][i]?)∧(∀ i,w'.cell? ⟨wr.heap.size,i,none⟩=#[.int .i64 a.atoms[k].kind,.int .i64 a.atoms[k].a,.int .i64 a.atoms[k].b][i]?))
      (exact ⟨Blk.cell blks,Blk.cell blks⟩)
      (first|(go_at_call 173;refine (c_replaceTerm _ _ _ _).mono ?_;rintro e w' ⟨rfl,rfl⟩))
     have oa2:=AtomsO.setA oa (k:=k) (by rw[HLEN.out];exact hlt) (swp x y a.atoms[k].a) (gs:=(upto (Atm.sub x y) k a.atoms).set k ⟨a.atoms[k].kind,swp x y a.atoms[k].a,a.atoms[k].b⟩) (by rw[HGET.out])
     replace oa:=oa2.below (w':=(V.setCell ⟨g,k * 3+1,none⟩ (.int .i64 (swp x y a.atoms[k].a))).drew) bel
     replace of:=(FactsO.setT of hK (by decide) (k * 3+1) (.int .i64 (swp x y a.atoms[k].a))).below (w':=(V.setCell ⟨g,k * 3+1,none⟩ (.int .i64 (swp x y a.atoms[k].a))).drew) bel
     replace k1:=(k1.far (p:=⟨g,k * 3+1,none⟩) (Ne.symm hne1) (.int .i64 (swp x y a.atoms[k].a))).drew
     replace k2:=(k2.far (p:=⟨g,k * 3+1,none⟩) (Ne.symm hne) (.int .i64 (swp x y a.atoms[k].a))).drew
     replace kf:=(kf.far (p:=⟨g,k * 3+1,none⟩) (by simp only[];omega) (.int .i64 (swp x y a.atoms[k].a))).drew
     replace hK:=(hK.set_ (k * 3+1) (.int .i64 (swp x y a.atoms[k].a))).drew
     replace hB:=(hB.setCell (p:=⟨g,k * 3+1,none⟩) (by simp only[];omega) (.int .i64 (swp x y a.atoms[k].a))).drew
     clear oa2 q1 r
     go_wp2_with fail
     generalize (V.setCell ⟨g,k * 3+1,none⟩ (.int .i64 (swp x y a.atoms[k].a))).drew=V2 at kf oa of k1 k2 hK hB ⊢
     have q2:V2.cell? ⟨g,k * 3+2,none⟩=some (.int .i64 a.atoms[k].b):=(hK.cell (k * 3+2)).trans (by rw[Array.getElem?_setIfInBounds_ne (by omega)];exact c2)
     have r:=hK.frozen
     go_region_held3 (fun w'=>(∀ i,w'.cell? ⟨w1.heap.size,i,none⟩=#[.slice F a.facts.length d1,.slice (some ⟨g,0,none⟩) a.atoms.length d2][i]?)∧(∀ i,w'.cell? ⟨wr.heap.size,i,none⟩=#[.int .i64 a.atoms[k].kind,.int .i64 a.atoms[k].a,.int .i64 a.atoms[k].b][i]?))
      (exact ⟨Blk.cell blks,Blk.cell blks⟩)
      (first|(go_at_call 173;refine (c_replaceTerm _ _ _ _).mono ?_;rintro e w' ⟨rfl,rfl⟩))
     have oa2:=AtomsO.setB oa (k:=k) (by rw[List.length_set,HLEN.out];exact hlt) (swp x y a.atoms[k].b) (gs:=(upto (Atm.sub x y) k a.atoms).set k (Atm.sub x y a.atoms[k])) (by simp[Atm.sub])
     replace oa:=oa2.below (w':=(V2.setCell ⟨g,k * 3+2,none⟩ (.int .i64 (swp x y a.atoms[k].b))).drew) bel
     replace of:=(FactsO.setT of hK (by decide) (k * 3+2) (.int .i64 (swp x y a.atoms[k].b))).below (w':=(V2.setCell ⟨g,k * 3+2,none⟩ (.int .i64 (swp x y a.atoms[k].b))).drew) bel
     replace k1:=(k1.far (p:=⟨g,k * 3+2,none⟩) (Ne.symm hne1) (.int .i64 (swp x y a.atoms[k].b))).drew
     replace k2:=(k2.far (p:=⟨g,k * 3+2,none⟩) (Ne.symm hne) (.int .i64 (swp x y a.atoms[k].b))).drew
     replace hB:=(hB.setCell (p:=⟨g,k * 3+2,none⟩) (by simp only[];omega) (.int .i64 (swp x y a.atoms[k].b))).drew
     clear oa2 q2 r hK kf
     go_wp2_with fail
     go_round
     case rel=>exact ⟨k+1,by omega,by go_num,of,by rw[←upto_set _ _ _ hlt];exact oa,k1,k2,hB⟩
     case measure=>simp[intOf];omega
    ·obtain rfl:k=a.atoms.length:=by omega
     rw[upto_full] at oa
     go_wp2_with fail
     refine bodyPost_ret (v:=.agg #[.slice F a.facts.length d1,.slice G a.atoms.length d2]) (by simp[results,Tryz.results131,go_sem,qk1]) rfl ⟨_,rfl,⟨_,_,rfl,?_,?_⟩,bel⟩
     ·exact ((of.setT k1 (by decide) _ _).setT (k1.set_ _ _) (by decide) _ _).lower (by omega)
     ·exact ((oa.setT k1 (by decide) _ _).setT (k1.set_ _ _) (by decide) _ _).lower (by omega)
end Go.Proofs.YtjjokmlmknllhaaGreat

/- Symbolic execution: impl.forget. -/
namespace Go.Proofs.YtjjokmlmknllhaaGreat
open Go Go.RowKit Go.Proofs
attribute [local go_sem ↓] Go.wp_at_zero Go.wp_at_succ
abbrev tFg:Nat:=103
theorem forget_has {a:Asn} {x:Int} {K:Nat} (h:(tset (termsL a)).testBit x.toNat=false):forgetF a x K=some (a,x):=by unfold forgetF;rw[h];rfl
theorem forget_none {a:Asn} {x:Int} {K:Nat} (h:(tset (termsL a)).testBit x.toNat=true) (hn:newT (tset (termsL a)|||K)=none):forgetF a x K=none:=by unfold forgetF;rw[h,hn];rfl
theorem forget_some {a:Asn} {x:Int} {K n:Nat} (h:(tset (termsL a)).testBit x.toNat=true) (hn:newT (tset (termsL a)|||K)=some n):forgetF a x K=some (substA x (n:Int) a,(n:Int)):=by unfold forgetF;rw[h,hn];rfl
theorem AsnO.setT4 {w:World} {base:Nat} {v:Value} {a:Asn} (h:AsnO w base v a) {g:Nat} {cs:Array Value} (hk:Blk w g tFg cs) (u0 u1 u2 u3:Value):AsnO ((((w.setCell ⟨g,0,none⟩ u0).setCell ⟨g,1,none⟩ u1).setCell ⟨g,2,none⟩ u2).setCell ⟨g,3,none⟩ u3) base v a:=by
 obtain ⟨fv,av,e,p1,p2⟩:=h
 have k1:=hk.set_ 0 u0
 have k2:=k1.set_ 1 u1
 have k3:=k2.set_ 2 u2
 exact ⟨fv,av,e,(((p1.setT hk (by decide) _ _).setT k1 (by decide) _ _).setT k2 (by decide) _ _).setT k3 (by decide) _ _,(((p2.setT hk (by decide) _ _).setT k1 (by decide) _ _).setT k2 (by decide) _ _).setT k3 (by decide) _ _⟩
def FgR (w:World) (base:Nat) (x:Int) (o:Option (Asn×Int)) (e:Ending):Prop:=match o with
 | none=>e=.returned (.tuple #[.agg #[.slice none 0 0,.slice none 0 0,.int .i64 0,.int .i64 0],.bool false])
 | some (b,p)=>∃ F f G g,e=.returned (.tuple #[.agg #[.slice F b.facts.length f,.slice G b.atoms.length g,.int .i64 x,.int .i64 p],.bool true])∧AsnO w base (.agg #[.slice F b.facts.length f,.slice G b.atoms.length g]) b
set_option maxRecDepth 100000 in
set_option maxHeartbeats 1600000 in
theorem c_impl_forget {lo hi:Nat} (v:Value) (a:Asn) (x:Int) (K:Nat) (w:World) (h:AsnV w lo hi v a) (hK:K<512) (hx:isTermB x=true) :
  Calls Tryz.prog 65 #[v,.int .i64 x,.int .u16 K] w fun e w'=>FgR w' w.heap.size x (forgetF a x K) e∧Below w.heap.size w w':=by
 have hV:=Lib.hid h
 obtain ⟨A1,c1,A2,c2,rfl,-,-⟩:=h
 have HT:=Lib.hid (tset_lt (termsL a))
 go_enter Tryz.func65,Tryz.ntmps65
 have k0:Blk ((w.alloc (.cells #[.slice A1 a.facts.length c1,.slice A2 a.atoms.length c2] tAs)).alloc (.cells #[.slice none 0 0,.slice none 0 0,.int .i64 0,.int .i64 0] tFg)) w.heap.size tAs #[.slice A1 a.facts.length c1,.slice A2 a.atoms.length c2]:=blks
 have k6:Blk ((w.alloc (.cells #[.slice A1 a.facts.length c1,.slice A2 a.atoms.length c2] tAs)).alloc (.cells #[.slice none 0 0,.slice none 0 0,.int .i64 0,.int .i64 0] tFg)) (w.heap.size+1) tFg #[.slice none 0 0,.slice none 0 0,.int .i64 0,.int .i64 0]:=blks
 go_wp2_with fail
 refine (c_impl_termsIn _ a _ (hV.out.below bel)).mono ?_
 rintro e w1 ⟨rfl,hB1⟩
 have hB:=bgo (w:=w) bel hB1
 replace k0:=k0.next hB1
 replace k6:=k6.next hB1
 clear hB1
 go_wp2_with fail
 refine (c_impl_tHas _ x _ HT.out).mono ?_
 rintro e w2 ⟨rfl,rfl⟩
 rw[hx,Bool.true_and]
 have hz:=hB.size
 cases hb:(tset (termsL a)).testBit x.toNat
 ·have E:=Lib.hid (forget_has (K:=K) hb)
  clear hb
  (replace qk0:=k0.cell;replace rk0:=k0.frozen;replace lk0:=k0.lt)
  go_wp2_with fail
  refine (c_impl_copyAssertion _ a _ (hV.out.below bel)).mono ?_
  rintro e w3 ⟨r,rfl,oC,hB3⟩
  obtain ⟨F,f,G,g,rfl⟩:=oC.I.form
  have OC:=Lib.hid oC
  (replace hB:=bgo hB hB3;replace k6:=k6.next hB3)
  clear oC hB3 k0 qk0 rk0 lk0
  (replace qk6:=k6.cell;replace rk6:=k6.frozen;replace lk6:=k6.lt)
  go_wp2_with fail
  have z6:=k6.cell
  refine bodyPost_ret (v:=.tuple #[.agg #[.slice F a.facts.length f,.slice G a.atoms.length g,.int .i64 x,.int .i64 x],.bool true]) (by simp[results,Tryz.results65,go_sem,z6]) rfl ⟨?_,?_⟩
  ·rw[E.out]
   refine ⟨F,f,G,g,rfl,?_⟩
   exact (AsnO.setT4 OC.out k6 _ _ _ _).lower (by omega)
  ·exact bel
 ·have HBT:=Lib.hid hb
  clear hb
  (replace qk0:=k0.cell;replace rk0:=k0.frozen;replace lk0:=k0.lt)
  go_wp2_with fail
  refine (c_impl_newVariable _ a K _ (hV.out.below bel) hK).mono ?_
  rintro e w3 ⟨rfl,hB3⟩
  (replace hB:=bgo hB hB3;replace k0:=k0.next hB3;replace qk0:=k0.cell;replace rk0:=k0.frozen;replace lk0:=k0.lt;replace k6:=k6.next hB3)
  clear hB3
  have hz3:=hB.size
  cases hn:newT (tset (termsL a)|||K) with
  | none=>
   have E:=Lib.hid (forget_none HBT.out hn)
   clear hn
   (replace qk6:=k6.cell;replace rk6:=k6.frozen;replace lk6:=k6.lt)
   go_wp2_with fail
   refine bodyPost_ret (v:=.tuple #[.agg #[.slice none 0 0,.slice none 0 0,.int .i64 0,.int .i64 0],.bool false]) (by simp[results,Tryz.results65,go_sem,qk6]) rfl ⟨?_,?_⟩
   ·rw[E.out];rfl
   ·exact bel
  | some n=>
   have E:=Lib.hid (forget_some HBT.out hn)
   have EN:unusedI (tset (termsL a)|||K)=(n:Int):=by unfold unusedI;rw[hn]
   rw[EN]
   clear hn EN
   go_wp2_with fail
   refine (c_impl_replaceIn _ a x (n:Int) _ (hV.out.below bel)).mono ?_
   rintro e w4 ⟨r,rfl,oC,hB4⟩
   obtain ⟨F,f,G,g,rfl⟩:=oC.I.form
   have OC:=Lib.hid oC
   (replace hB:=bgo hB hB4;replace k6:=k6.next hB4)
   clear oC hB4 k0 qk0 rk0 lk0
   (replace qk6:=k6.cell;replace rk6:=k6.frozen;replace lk6:=k6.lt)
   go_wp2_with fail
   refine bodyPost_ret (v:=.tuple #[.agg #[.slice F (substA x (n:Int) a).facts.length f,.slice G (substA x (n:Int) a).atoms.length g,.int .i64 x,.int .i64 n],.bool true]) (by simp[results,Tryz.results65,go_sem,qk6]) rfl ⟨?_,?_⟩
   ·rw[E.out]
    refine ⟨F,f,G,g,rfl,?_⟩
    exact (AsnO.setT4 OC.out k6 _ _ _ _).lower (by omega)
   ·exact bel
end Go.Proofs.YtjjokmlmknllhaaGreat

/- What a call makes of an assertion: impl.CallPost. Printed by genCallI.py. -/
namespace Go.Proofs.YtjjokmlmknllhaaGreat
open Go Go.RowKit Go.Proofs
attribute [local go_sem ↓] Go.wp_at_zero Go.wp_at_succ
abbrev tCt:Nat:=39
theorem call_none1 {a:Asn} {k:Ctr} {ks:List Int} (h:a.valid=false):callF a k ks=none:=by unfold callF;rw[h];rfl
theorem call_none2 {a:Asn} {k:Ctr} {ks:List Int} (h:k.valid=false):callF a k ks=none:=by unfold callF;rw[h,Bool.and_false];rfl
theorem call_none3 {a:Asn} {k:Ctr} {ks:List Int} (h:frM a k.pre=none):callF a k ks=none:=by unfold callF;rw[h];split<;>rfl
theorem call_some {a:Asn} {k:Ctr} {ks:List Int} {m:Nat} (h:a.valid=true) (h':k.valid=true) (hm:frM a k.pre=some m):callF a k ks=(forgetL (callK a k ks) k.changes ⟨a.facts,maskA m 0 a.atoms⟩).bind fun r=>okX (postX k r):=by unfold callF;rw[h,h',hm];rfl
theorem Ctr.vp {k:Ctr} (h:k.valid=true):k.pre.valid=true∧k.post.valid=true∧changesFrom 0 k.changes=true:=by
 unfold Ctr.valid at h
 rw[Bool.and_eq_true,Bool.and_eq_true] at h
 exact ⟨h.1.1,h.1.2,h.2⟩
theorem changes_prog {xs:List Int}:∀ {l:Int},changesFrom l xs=true→∀ x∈xs,isTermB x=true:=by
 induction xs with
 | nil=>intro l _ x hx;cases hx
 | cons y ys ih=>
  intro l h x hx
  simp only[changesFrom,Bool.and_eq_true] at h
  rcases List.mem_cons.1 hx with rfl|hx
  ·have:=h.1.1
   simp[isProgB] at this
   exact isTermB_iff.2 (by omega)
  ·exact ih h.2 x hx
theorem forgetL_step {K:Nat} {xs:List Int} {j:Nat} (hj:j<xs.length) (a:Asn):forgetL K (xs.drop j) a=(forgetF a xs[j] K).bind fun p=>forgetL K (xs.drop (j+1)) p.1:=by
 rw[List.drop_eq_getElem_cons hj,forgetL]
theorem AsnO.pr {w:World} {b n m c d:Nat} {F G:Option Addr} {r:Asn} (h:AsnO w b (.agg #[.slice F n c,.slice G m d]) r):FactsO w b (.slice F n c) r.facts∧AtomsO w b (.slice G m d) r.atoms:=by
 obtain ⟨fv,av,e,h1,h2⟩:=h
 injection e with e
 injection e with e
 injection e with e1 e2
 injection e2 with e2
 subst e1 e2
 exact ⟨h1,h2⟩
set_option maxRecDepth 100000 in
set_option maxHeartbeats 6400000 in
theorem c_impl_CallPost {lo hi lo1 hi1 lo2 hi2:Nat} (v v1:Value) (a:Asn) (k:Ctr) (A:Option Addr) (c:Nat) (ks:List Int) (w:World) (h:AsnV w lo hi v a) (hhi:hi≤w.heap.size) (h1:CtrV w lo1 hi1 v1 k) (h2:IntsV w lo2 hi2 A ks) :
  Calls Tryz.prog 16 #[v,v1,.slice A ks.length c] w fun e w'=>∃ r,e=.returned (.tuple #[r,.bool (callF a k ks).isSome])∧AsnO w' w.heap.size r ((callF a k ks).getD ⟨[],[]⟩)∧Below w.heap.size w w':=by
 have HA:=Lib.hid h
 have HK:=Lib.hid h1
 have HI:=Lib.hid h2
 obtain ⟨A1,c1,A2,c2,rfl,ha1,-⟩:=h
 have HA1:=Lib.hid ha1
 clear ha1
 obtain ⟨a1,a2,a3,a4,B5,d5,rfl,p1,p2,p5⟩:=h1
 obtain ⟨B1,d1,B2,d2,e1,q1,q2⟩:=p1
 obtain ⟨B3,d3,B4,d4,e2,q3,q4⟩:=p2
 injection e1 with e1;injection e1 with e1;injection e1 with e1 e1';injection e1' with e1' _
 injection e2 with e2;injection e2 with e2;injection e2 with e2 e2';injection e2' with e2' _
 subst e1 e1' e2 e2'
 have HP1:Hid (AsnV w lo1 hi1 (.agg #[.slice B1 k.pre.facts.length d1,.slice B2 k.pre.atoms.length d2]) k.pre):=Lib.hid ⟨_,_,_,_,rfl,q1,q2⟩
 have HP2:Hid (AsnV w lo1 hi1 (.agg #[.slice B3 k.post.facts.length d3,.slice B4 k.post.atoms.length d4]) k.post):=Lib.hid ⟨_,_,_,_,rfl,q3,q4⟩
 have Q3:=Lib.hid q3
 have Q4:=Lib.hid q4
 have P5:=Lib.hid p5
 have hcl:k.changes.length≤1049600:=p5.le
 have h1:=Lib.hid (@call_none1 a k ks)
 have h2:=Lib.hid (@call_none2 a k ks)
 have h3:=Lib.hid (@call_none3 a k ks)
 have h4:=Lib.hid (fun m=>@call_some a k ks m)
 clear q1 q2 q3 q4 p5
 have k3:Blk (((w.alloc (.cells #[.slice A1 a.facts.length c1,.slice A2 a.atoms.length c2] tAs)).alloc (.cells #[.slice B1 k.pre.facts.length d1,.slice B2 k.pre.atoms.length d2,.slice B3 k.post.facts.length d3,.slice B4 k.post.atoms.length d4,.slice B5 k.changes.length d5] tCt)).alloc (.cells #[.slice none 0 0,.slice none 0 0] tAs)) w.heap.size tAs #[.slice A1 a.facts.length c1,.slice A2 a.atoms.length c2]:=blks
 have k4:Blk (((w.alloc (.cells #[.slice A1 a.facts.length c1,.slice A2 a.atoms.length c2] tAs)).alloc (.cells #[.slice B1 k.pre.facts.length d1,.slice B2 k.pre.atoms.length d2,.slice B3 k.post.facts.length d3,.slice B4 k.post.atoms.length d4,.slice B5 k.changes.length d5] tCt)).alloc (.cells #[.slice none 0 0,.slice none 0 0] tAs)) (w.heap.size+1) tCt #[.slice B1 k.pre.facts.length d1,.slice B2 k.pre.atoms.length d2,.slice B3 k.post.facts.length d3,.slice B4 k.post.atoms.length d4,.slice B5 k.changes.length d5]:=blks
 have k6:Blk (((w.alloc (.cells #[.slice A1 a.facts.length c1,.slice A2 a.atoms.length c2] tAs)).alloc (.cells #[.slice B1 k.pre.facts.length d1,.slice B2 k.pre.atoms.length d2,.slice B3 k.post.facts.length d3,.slice B4 k.post.atoms.length d4,.slice B5 k.changes.length d5] tCt)).alloc (.cells #[.slice none 0 0,.slice none 0 0] tAs)) (w.heap.size+1+1) tAs #[.slice none 0 0,.slice none 0 0]:=blks
 have hB:Below w.heap.size w (((w.alloc (.cells #[.slice A1 a.facts.length c1,.slice A2 a.atoms.length c2] tAs)).alloc (.cells #[.slice B1 k.pre.facts.length d1,.slice B2 k.pre.atoms.length d2,.slice B3 k.post.facts.length d3,.slice B4 k.post.atoms.length d4,.slice B5 k.changes.length d5] tCt)).alloc (.cells #[.slice none 0 0,.slice none 0 0] tAs)):=bel
 go_enter Tryz.func16,Tryz.ntmps16
 go_upto_region 1 with fail
 generalize (((w.alloc (.cells #[.slice A1 a.facts.length c1,.slice A2 a.atoms.length c2] tAs)).alloc (.cells #[.slice B1 k.pre.facts.length d1,.slice B2 k.pre.atoms.length d2,.slice B3 k.post.facts.length d3,.slice B4 k.post.atoms.length d4,.slice B5 k.changes.length d5] tCt)).alloc (.cells #[.slice none 0 0,.slice none 0 0] tAs))=W at k3 k4 k6 hB ⊢
 (replace qk3:=k3.cell;replace rk3:=k3.frozen;replace lk3:=k3.lt;replace qk4:=k4.cell;replace rk4:=k4.frozen;replace lk4:=k4.lt;replace qk6:=k6.cell;replace rk6:=k6.frozen;replace lk6:=k6.lt)
 go_wp2_with fail
 refine (c_impl_AssertionValid _ a _ (HA.out.below hB)).mono ?_
 rintro e w1 ⟨rfl,hB1⟩
 (replace hB:=bgo hB hB1;replace k3:=k3.next hB1;replace qk3:=k3.cell;replace rk3:=k3.frozen;replace lk3:=k3.lt;replace k4:=k4.next hB1;replace qk4:=k4.cell;replace rk4:=k4.frozen;replace lk4:=k4.lt;replace k6:=k6.next hB1;replace qk6:=k6.cell;replace rk6:=k6.frozen;replace lk6:=k6.lt)
 clear hB1
 cases ha:a.valid
 ·have E:=Lib.hid (h1.out ha)
  clear ha h1 h2 h3 h4
  go_wp2_with fail
  refine bodyPost_ret (v:=.tuple #[.agg #[.slice none 0 0,.slice none 0 0],.bool false]) (by simp[results,Tryz.results16,go_sem,qk6,lk6]) rfl ⟨_,by rw[E.out];rfl,by rw[E.out];exact AsnO.zero _ _,bel⟩
 have HV:=Lib.hid ha
 clear ha
 go_wp2_with fail
 refine (c_impl_ContractValid _ k _ (HK.out.below hB)).mono ?_
 rintro e w2 ⟨rfl,hB2⟩
 (replace hB:=bgo hB hB2;replace k3:=k3.next hB2;replace qk3:=k3.cell;replace rk3:=k3.frozen;replace lk3:=k3.lt;replace k4:=k4.next hB2;replace qk4:=k4.cell;replace rk4:=k4.frozen;replace lk4:=k4.lt;replace k6:=k6.next hB2;replace qk6:=k6.cell;replace rk6:=k6.frozen;replace lk6:=k6.lt)
 clear hB2
 cases hb:k.valid
 ·have E:=Lib.hid (h2.out hb)
  clear hb h1 h2 h3 h4
  go_wp2_with fail
  refine bodyPost_ret (v:=.tuple #[.agg #[.slice none 0 0,.slice none 0 0],.bool false]) (by simp[results,Tryz.results16,go_sem,qk6,lk6]) rfl ⟨_,by rw[E.out];rfl,by rw[E.out];exact AsnO.zero _ _,bel⟩
 have hvp:=Ctr.vp hb
 have HV':=Lib.hid hvp
 have HX:=Lib.hid (changes_prog hvp.2.2)
 have h5:=Lib.hid (fun m=>h4.out m HV.out hb)
 have hlp:=valid_len hvp.2.1
 have hla:=valid_len HV.out
 have CF:=Lib.hid (c_impl_FrameOf (.agg #[.slice A1 a.facts.length c1,.slice A2 a.atoms.length c2]) (.agg #[.slice B1 k.pre.facts.length d1,.slice B2 k.pre.atoms.length d2]) a k.pre w2 (HA.out.below hB) (HP1.out.below hB) (by have:=hB.size;omega))
 have CFE:=Lib.hid (frame_map HV.out hvp.1)
 clear hb h1 h2 h4 hvp
 go_wp2_with fail
 refine CF.out.mono ?_
 rintro e w3 ⟨r,rfl,o,hB3⟩
 have hz:=hB.size
 (replace hB:=bgo hB hB3;replace k3:=k3.next hB3;replace qk3:=k3.cell;replace rk3:=k3.frozen;replace lk3:=k3.lt;replace k4:=k4.next hB3;replace qk4:=k4.cell;replace rk4:=k4.frozen;replace lk4:=k4.lt;replace k6:=k6.next hB3;replace qk6:=k6.cell;replace rk6:=k6.frozen;replace lk6:=k6.lt)
 clear hB3 CF
 cases hm:frM a k.pre with
 | none=>
  have E:=Lib.hid (h3.out hm)
  have E2:frameF a k.pre=none:=by rw[CFE.out,hm];rfl
  rw[E2] at o ⊢
  obtain ⟨F,f,G,g,rfl⟩:=o.I.form
  clear hm h3 h5 CFE E2 o
  go_wp2_with fail
  refine bodyPost_ret (v:=.tuple #[.agg #[.slice none 0 0,.slice none 0 0],.bool false]) (by simp[results,Tryz.results16,go_sem,qk6,lk6]) rfl ⟨_,by rw[E.out];rfl,by rw[E.out];exact AsnO.zero _ _,bel⟩
 | some m=>
 have E:=Lib.hid (h5.out m hm)
 have hm64:m≤1000000:=by
  have h1:=(seekM_lt hm).2.1
  have h2:2 ^ a.atoms.length≤2 ^ 6:=Nat.pow_le_pow_right (by decide) hla.2
  omega
 have E2:frameF a k.pre=some (pickA a m):=by rw[CFE.out,hm];rfl
 rw[E2] at o ⊢
 clear hm h3 h5 CFE E2
 have eP:pickA a m=⟨[],maskA m 0 a.atoms⟩:=rfl
 have hml:=maskA_len m a.atoms 0
 have HR0:=Lib.hid (rest_valid HV.out m)
 rw[Option.getD_some,eP] at o
 rw[Option.isSome_some]
 clear eP
 obtain ⟨M,hM⟩:∃ M,M=maskA m 0 a.atoms:=⟨_,rfl⟩
 rw[←hM] at o E hml HR0
 clear hM
 obtain ⟨fv,av,rfl,o1,o2⟩:=o
 obtain ⟨F,f,rfl,-⟩:=o1.reads
 obtain ⟨G,g,rfl,-⟩:=o2.reads
 have k8:=Blk.new w3 tAs #[.slice F ([]:List Fct).length f,.slice G M.length g]
 have hq:=bbox (Below.refl _ w3) (.cells #[.slice F ([]:List Fct).length f,.slice G M.length g] tAs)
 have HM:=Lib.hid ((o2.below hq).lower (base':=w.heap.size) hz)
 have hy8:w.heap.size+1+1+1≤w3.heap.size:=k6.lt
 (replace hB:=bgo hB hq;replace k3:=k3.next hq;replace k4:=k4.next hq;replace k6:=k6.next hq)
 clear o1 o2 hq qk3 rk3 lk3 qk4 rk4 lk4 qk6 rk6 lk6
 (replace qk3:=k3.cell;replace rk3:=k3.frozen;replace lk3:=k3.lt;replace qk4:=k4.cell;replace rk4:=k4.frozen;replace lk4:=k4.lt;replace qk6:=k6.cell;replace rk6:=k6.frozen;replace lk6:=k6.lt)
 go_upto_region 6 with fail
 obtain ⟨y,hy⟩:∃ y,y=w3.heap.size:=⟨_,rfl⟩
 rw[←hy] at hy8 k8 ⊢
 generalize (w3.alloc (.cells #[.slice F ([]:List Fct).length f,.slice G M.length g] tAs))=V at k3 k4 k6 k8 HM hB qk3 rk3 lk3 qk4 rk4 lk4 qk6 rk6 lk6 ⊢
 clear hy
 obtain ⟨S1,hS1⟩:∃ S,S=tset (termsL a):=⟨_,rfl⟩
 obtain ⟨S2,hS2⟩:∃ S,S=tset (termsL k.pre):=⟨_,rfl⟩
 obtain ⟨S3,hS3⟩:∃ S,S=tset (termsL k.post):=⟨_,rfl⟩
 obtain ⟨S4,hS4⟩:∃ S,S=tset ks:=⟨_,rfl⟩
 obtain ⟨K,hK0⟩:∃ K,K=callK a k ks:=⟨_,rfl⟩
 have HKE:Hid (((S1|||S2)|||S3)|||S4=K):=Lib.hid (by rw[hS1,hS2,hS3,hS4,hK0];rfl)
 have b1:S1<512:=by rw[hS1];exact tset_lt _
 have b2:S2<512:=by rw[hS2];exact tset_lt _
 have b3:S3<512:=by rw[hS3];exact tset_lt _
 have b4:S4<512:=by rw[hS4];exact tset_lt _
 have b5:S1|||S2<512:=Nat.or_lt_two_pow (n:=9) b1 b2
 have b6:(S1|||S2)|||S3<512:=Nat.or_lt_two_pow (n:=9) b5 b3
 have b7:K<512:=by rw[hK0];exact callK_lt a k ks
 have U1:=u16_or_nat S1 S2 (by omega) (by omega)
 have U2:=u16_or_nat (S1|||S2) S3 (by omega) (by omega)
 have U3:=u16_or_nat ((S1|||S2)|||S3) S4 (by omega) (by omega)
 rw[HKE.out] at U3
 rw[←hK0] at E
 replace hS1:=Lib.hid hS1
 replace hS2:=Lib.hid hS2
 replace hS3:=Lib.hid hS3
 replace hS4:=Lib.hid hS4
 replace hK0:=Lib.hid hK0
 clear HKE b1 b2 b3 b4 b5 b6
 go_wp2_with fail
 refine wp_region_noPanic ?_
 refine wp_region_held_drew (S:=(fun w'=>(∀ i,w'.cell? ⟨w.heap.size,i,none⟩=#[.slice A1 a.facts.length c1,.slice A2 a.atoms.length c2][i]?)∧(∀ i,w'.cell? ⟨w.heap.size+1,i,none⟩=#[.slice B1 k.pre.facts.length d1,.slice B2 k.pre.atoms.length d2,.slice B3 k.post.facts.length d3,.slice B4 k.post.atoms.length d4,.slice B5 k.changes.length d5][i]?))) (by kernel_rfl) (⟨k3.drew.cell,k4.drew.cell⟩) (fun hHeld=>?_)
 clear qk3 rk3 lk3 qk4 rk4 lk4 qk6 rk6 lk6
 have hdr:Below V.heap.size V V.drew:=(Below.refl _ _).drew
 (replace k3:=k3.next hdr;replace k4:=k4.next hdr;replace k6:=k6.next hdr;replace k8:=k8.next hdr)
 replace HM:=Lib.hid (HM.out.below hdr)
 replace hB:=bgo hB hdr
 clear hdr
 refine tk 0 ?_ rfl (fun w hSw=>?_) hHeld ?_
 rotate_left
 ·((try dsimp only at hSw);go_split_ands;go_simp;(try with_reducible rfl))
 try simp only[Act.put,zA,zB,zC,zD,zE,zF]
 refine tk 2 ?_ rfl (fun w hSw=>?_) hHeld ?_
 rotate_left
 ·((try dsimp only at hSw);go_split_ands;go_simp;(try with_reducible rfl))
 try simp only[Act.put,zA,zB,zC,zD,zE,zF]
 refine tk 3 ?_ rfl (fun w hSw=>?_) hHeld ?_
 rotate_left
 ·((try dsimp only at hSw);go_split_ands;go_simp;(try with_reducible rfl))
 try simp only[Act.put,zA,zB,zC,zD,zE,zF]
 refine tk 6 ?_ rfl (fun w hSw=>?_) hHeld ?_
 rotate_left
 ·((try dsimp only at hSw);go_split_ands;go_simp;(try with_reducible rfl))
 try simp only[Act.put,zA,zB,zC,zD,zE,zF]
 refine tk 7 ?_ rfl (fun w hSw=>?_) hHeld ?_
 rotate_left
 ·((try dsimp only at hSw);go_split_ands;go_simp;(try with_reducible rfl))
 try simp only[Act.put,zA,zB,zC,zD,zE,zF]
 refine tk 10 ?_ rfl (fun w hSw=>?_) hHeld ?_
 rotate_left
 ·((try dsimp only at hSw);go_split_ands;go_simp;(try with_reducible rfl))
 try simp only[Act.put,zA,zB,zC,zD,zE,zF]
 refine rdc 1 rfl fun K hK=>?_
 try simp only[zA,zB,zC]
 (go_simp;refine (c_impl_termsIn _ a _ (HA.out.below hB)).mono ?_;rintro e w4 ⟨rfl,hq⟩;(replace k3:=k3.next hq;replace k4:=k4.next hq;replace k6:=k6.next hq;replace k8:=k8.next hq);replace HM:=Lib.hid (HM.out.below hq);replace hB:=bgo hB hq;clear hq;rw[←hS1.out])
 refine hK.out _ _ (⟨k3.cell,k4.cell⟩) ?_
 clear hHeld hK K
 intro hHeld
 try simp only[Act.put,zA,zB,zC,zD,zE,zF]
 refine rdc 4 rfl fun K hK=>?_
 try simp only[zA,zB,zC]
 (go_simp;refine (c_impl_termsIn _ k.pre _ (HP1.out.below hB)).mono ?_;rintro e w5 ⟨rfl,hq⟩;(replace k3:=k3.next hq;replace k4:=k4.next hq;replace k6:=k6.next hq;replace k8:=k8.next hq);replace HM:=Lib.hid (HM.out.below hq);replace hB:=bgo hB hq;clear hq;rw[←hS2.out])
 refine hK.out _ _ (⟨k3.cell,k4.cell⟩) ?_
 clear hHeld hK K
 intro hHeld
 try simp only[Act.put,zA,zB,zC,zD,zE,zF]
 refine tk 5 ?_ rfl (fun w hSw=>?_) hHeld ?_
 rotate_left
 ·((try dsimp only at hSw);go_split_ands;go_simp;(try with_reducible rfl))
 try simp only[Act.put,zA,zB,zC,zD,zE,zF]
 refine rdc 8 rfl fun K hK=>?_
 try simp only[zA,zB,zC]
 (go_simp;refine (c_impl_termsIn _ k.post _ (HP2.out.below hB)).mono ?_;rintro e w6 ⟨rfl,hq⟩;(replace k3:=k3.next hq;replace k4:=k4.next hq;replace k6:=k6.next hq;replace k8:=k8.next hq);replace HM:=Lib.hid (HM.out.below hq);replace hB:=bgo hB hq;clear hq;rw[←hS3.out])
 refine hK.out _ _ (⟨k3.cell,k4.cell⟩) ?_
 clear hHeld hK K
 intro hHeld
 try simp only[Act.put,zA,zB,zC,zD,zE,zF]
 refine tk 9 ?_ rfl (fun w hSw=>?_) hHeld ?_
 rotate_left
 ·((try dsimp only at hSw);go_split_ands;go_simp;(try with_reducible rfl))
 try simp only[Act.put,zA,zB,zC,zD,zE,zF]
 refine rdc 11 rfl fun K hK=>?_
 try simp only[zA,zB,zC]
 (go_simp;refine (c_impl_setOfTerms A c ks _ (HI.out.below hB)).mono ?_;rintro e w7 ⟨rfl,hq⟩;(replace k3:=k3.next hq;replace k4:=k4.next hq;replace k6:=k6.next hq;replace k8:=k8.next hq);replace HM:=Lib.hid (HM.out.below hq);replace hB:=bgo hB hq;clear hq;rw[←hS4.out])
 refine hK.out _ _ (⟨k3.cell,k4.cell⟩) ?_
 clear hHeld hK K
 intro hHeld
 try simp only[Act.put,zA,zB,zC,zD,zE,zF]
 refine tk 12 ?_ rfl (fun w hSw=>?_) hHeld ?_
 rotate_left
 ·((try dsimp only at hSw);go_split_ands;go_simp;(try with_reducible rfl))
 try simp only[Act.put,zA,zB,zC,zD,zE,zF]
 refine tk 13 ?_ rfl (fun w hSw=>?_) hHeld ?_
 rotate_left
 ·((try dsimp only at hSw);go_split_ands;go_simp;(try with_reducible rfl))
 try simp only[Act.put,zA,zB,zC,zD,zE,zF]
 refine wpAnyH_done (by kernel_rfl) ?_ _
 refine NoPanic.normal ?_
 clear U1 U2 U3 hS1 hS2 hS3 hS4
 go_upto_region 7 with fail
 generalize w7=V7 at *
 go_cut [11] (fun s11 wc=>∃ (z:Nat) (F1:Option Addr) (f1:Nat) (G1:Option Addr) (g1:Nat),s11=.pointer (some ⟨z,0,none⟩)∧w.heap.size+1+1<z∧Blk wc z tAs #[.slice F1 a.facts.length f1,.slice G1 M.length g1]∧Hid (AsnO wc w.heap.size (.agg #[.slice F1 a.facts.length f1,.slice G1 M.length g1]) ⟨a.facts,M⟩)∧Blk wc w.heap.size tAs #[.slice A1 a.facts.length c1,.slice A2 a.atoms.length c2]∧Blk wc (w.heap.size+1) tCt #[.slice B1 k.pre.facts.length d1,.slice B2 k.pre.atoms.length d2,.slice B3 k.post.facts.length d3,.slice B4 k.post.atoms.length d4,.slice B5 k.changes.length d5]∧Blk wc (w.heap.size+1+1) tAs #[.slice none 0 0,.slice none 0 0]∧Hid (Below w.heap.size w wc))
 case first=>
  go_wp2_with fail
  refine wp_region_noPanic ?_
  refine wp_region_held_drew (S:=(fun w'=>(∀ i,w'.cell? ⟨w.heap.size,i,none⟩=#[.slice A1 a.facts.length c1,.slice A2 a.atoms.length c2][i]?)∧(∀ i,w'.cell? ⟨w.heap.size+1,i,none⟩=#[.slice B1 k.pre.facts.length d1,.slice B2 k.pre.atoms.length d2,.slice B3 k.post.facts.length d3,.slice B4 k.post.atoms.length d4,.slice B5 k.changes.length d5][i]?)∧(∀ i,w'.cell? ⟨w.heap.size+1+1,i,none⟩=#[.slice none 0 0,.slice none 0 0][i]?)∧(∀ i,w'.cell? ⟨y,i,none⟩=#[.slice F ([]:List Fct).length f,.slice G M.length g][i]?))) (by kernel_rfl) (⟨k3.drew.cell,k4.drew.cell,k6.drew.cell,k8.drew.cell⟩) (fun hHeld=>?_)
  have hdr:Below V7.heap.size V7 V7.drew:=(Below.refl _ _).drew
  (replace k3:=k3.next hdr;replace k4:=k4.next hdr;replace k6:=k6.next hdr;replace k8:=k8.next hdr)
  replace HM:=Lib.hid (HM.out.below hdr)
  replace hB:=bgo hB hdr
  clear hdr
  generalize V7.drew=V8 at *
  have hy2:=k6.lt
  have hy3:=k8.lt
  refine tk 0 ?_ rfl (fun w hSw=>?_) hHeld ?_
  rotate_left
  ·((try dsimp only at hSw);go_split_ands;go_simp;(try with_reducible rfl))
  try simp only[Act.put,zA,zB,zC,zD,zE,zF]
  refine tk 1 ?_ rfl (fun w hSw=>?_) hHeld ?_
  rotate_left
  ·((try dsimp only at hSw);go_split_ands;go_simp;(try with_reducible rfl))
  try simp only[Act.put,zA,zB,zC,zD,zE,zF]
  refine tk 3 ?_ rfl (fun w hSw=>?_) hHeld ?_
  rotate_left
  ·((try dsimp only at hSw);go_split_ands;go_simp;(try with_reducible rfl))
  try simp only[Act.put,zA,zB,zC,zD,zE,zF]
  refine tk 4 ?_ rfl (fun w hSw=>?_) hHeld ?_
  rotate_left
  ·((try dsimp only at hSw);go_split_ands;go_simp;(try with_reducible rfl))
  try simp only[Act.put,zA,zB,zC,zD,zE,zF]
  refine wpAnyH_ready (rs:=[2,6]) (by kernel_rfl) (by simp) (AllReadyH.cons rfl (fun K hK=>?_) (AllReadyH.cons rfl (fun K hK=>?_) AllReadyH.nil))
  ·try simp only[zA,zB,zC]
   (go_simp;refine (c_joinF A1 none c1 0 a.facts [] _ (FactsV.below HA1.out hB) (Rd.nil _ 0 0 _ _) (by simp;omega)).mono ?_;rintro e w9 ⟨r9,rfl,o9,hq⟩;rw[List.append_nil] at o9;obtain ⟨F9,f9,rfl,-⟩:=o9.reads;have HJ:=Lib.hid (o9.lower (base':=w.heap.size) hB.size);clear o9;have hs9:=hq.size;(try simp only[World.size_alloc] at hs9);replace k3:=k3.next hq;replace k4:=k4.next hq;replace k6:=k6.next hq;replace k8:=k8.next hq;replace HM:=Lib.hid (HM.out.below hq);replace hB:=bgo hB hq;clear hq)
   refine hK.out _ _ (⟨k3.cell,k4.cell,k6.cell,k8.cell⟩) ?_
   clear hHeld hK K
   intro hHeld
   try simp only[Act.put,zA,zB,zC,zD,zE,zF]
   refine tk 5 ?_ rfl (fun w hSw=>?_) hHeld ?_
   rotate_left
   ·((try dsimp only at hSw);go_split_ands;go_simp;(try with_reducible rfl))
   try simp only[Act.put,zA,zB,zC,zD,zE,zF]
   refine rdc 6 rfl fun K hK=>?_
   try simp only[zA,zB,zC]
   go_simp
   refine hK.out _ _ (⟨(k3.alloc (.cells #[.slice none 0 0,.slice none 0 0] tAs)).cell,(k4.alloc (.cells #[.slice none 0 0,.slice none 0 0] tAs)).cell,(k6.alloc (.cells #[.slice none 0 0,.slice none 0 0] tAs)).cell,(k8.alloc (.cells #[.slice none 0 0,.slice none 0 0] tAs)).cell⟩) ?_
   clear hHeld hK K
   intro hHeld
   try simp only[Act.put,zA,zB,zC,zD,zE,zF]
   refine rdc 7 rfl fun K hK=>?_
   try simp only[zA,zB,zC]
   (go_simp;have hq:=bbox (Below.refl _ w9) (.cells #[.slice F9 a.facts.length f9,.slice G M.length g] tAs);have kb:=Blk.new w9 tAs #[.slice F9 a.facts.length f9,.slice G M.length g];replace k3:=k3.next hq;replace k4:=k4.next hq;replace k6:=k6.next hq;replace k8:=k8.next hq;replace HM:=Lib.hid (HM.out.below hq);replace HJ:=Lib.hid (HJ.out.below hq);replace hB:=bgo hB hq;clear hq)
   refine hK.out _ _ (⟨k3.cell,k4.cell,k6.cell,k8.cell⟩) ?_
   clear hHeld hK K
   intro hHeld
   try simp only[Act.put,zA,zB,zC,zD,zE,zF]
   refine wpAnyH_done (by kernel_rfl) ?_ _
   refine NoPanic.normal ?_
   go_wp2_with fail
   go_meet
   case rel=>exact ⟨w9.heap.size,F9,f9,G,g,rfl,by omega,kb,Lib.hid ⟨_,_,rfl,HJ.out,HM.out⟩,k3,k4,k6,Lib.hid hB⟩
  ·try simp only[zA,zB,zC]
   (go_simp;have hq:=bbox (Below.refl _ V8) (.cells #[.slice none 0 0,.slice none 0 0] tAs);replace k3:=k3.next hq;replace k4:=k4.next hq;replace k6:=k6.next hq;replace k8:=k8.next hq;replace HM:=Lib.hid (HM.out.below hq);replace hB:=bgo hB hq;clear hq)
   refine hK.out _ _ (⟨k3.cell,k4.cell,k6.cell,k8.cell⟩) ?_
   clear hHeld hK K
   intro hHeld
   try simp only[Act.put,zA,zB,zC,zD,zE,zF]
   have kb:=Blk.new V8 tAs #[.slice none 0 0,.slice none 0 0]
   have hlz:w.heap.size≤V8.heap.size:=by first|exact Nat.le_refl _|exact hB.size|(have:=hB.size;simp at this;omega)
   refine rdc 2 rfl fun K hK=>?_
   try simp only[zA,zB,zC]
   (go_simp;refine (c_joinF A1 none c1 0 a.facts [] _ (FactsV.below HA1.out hB) (Rd.nil _ 0 0 _ _) (by simp;omega)).mono ?_;rintro e w9 ⟨r9,rfl,o9,hq⟩;rw[List.append_nil] at o9;obtain ⟨F9,f9,rfl,-⟩:=o9.reads;have HJ:=Lib.hid (o9.lower (base':=w.heap.size) hB.size);clear o9;have hs9:=hq.size;(try simp only[World.size_alloc] at hs9);replace k3:=k3.next hq;replace k4:=k4.next hq;replace k6:=k6.next hq;replace k8:=k8.next hq;replace kb:=kb.next hq;replace HM:=Lib.hid (HM.out.below hq);replace hB:=bgo hB hq;clear hq)
   refine hK.out _ _ (⟨k3.cell,k4.cell,k6.cell,k8.cell⟩) ?_
   clear hHeld hK K
   intro hHeld
   try simp only[Act.put,zA,zB,zC,zD,zE,zF]
   refine tk 5 ?_ rfl (fun w hSw=>?_) hHeld ?_
   rotate_left
   ·((try dsimp only at hSw);go_split_ands;go_simp;(try with_reducible rfl))
   try simp only[Act.put,zA,zB,zC,zD,zE,zF]
   have hlb:=kb.lt
   have ql:=kb.cell
   have rl:=kb.frozen
   have hn0:w.heap.size≠V8.heap.size:=by omega
   have hn1:w.heap.size+1≠V8.heap.size:=by omega
   have hn2:w.heap.size+1+1≠V8.heap.size:=by omega
   have hn3:y≠V8.heap.size:=by omega
   refine rdc 7 rfl fun K hK=>?_
   try simp only[zA,zB,zC]
   (go_simp;replace k3:=(k3.far (p:=⟨V8.heap.size,0,none⟩) (fun e=>hn0 e) (.slice F9 a.facts.length f9)).far (p:=⟨V8.heap.size,1,none⟩) (fun e=>hn0 e) (.slice G M.length g);replace k4:=(k4.far (p:=⟨V8.heap.size,0,none⟩) (fun e=>hn1 e) (.slice F9 a.facts.length f9)).far (p:=⟨V8.heap.size,1,none⟩) (fun e=>hn1 e) (.slice G M.length g);replace k6:=(k6.far (p:=⟨V8.heap.size,0,none⟩) (fun e=>hn2 e) (.slice F9 a.facts.length f9)).far (p:=⟨V8.heap.size,1,none⟩) (fun e=>hn2 e) (.slice G M.length g);replace k8:=(k8.far (p:=⟨V8.heap.size,0,none⟩) (fun e=>hn3 e) (.slice F9 a.facts.length f9)).far (p:=⟨V8.heap.size,1,none⟩) (fun e=>hn3 e) (.slice G M.length g);replace hB:=(hB.setCell (p:=⟨V8.heap.size,0,none⟩) (by simp only;omega) (.slice F9 a.facts.length f9)).setCell (p:=⟨V8.heap.size,1,none⟩) (by simp only;omega) (.slice G M.length g);replace HM:=Lib.hid ((HM.out.setT kb (by decide) 0 (.slice F9 a.facts.length f9)).setT (kb.set_ 0 (.slice F9 a.facts.length f9)) (by decide) 1 (.slice G M.length g));replace HJ:=Lib.hid ((HJ.out.setT kb (by decide) 0 (.slice F9 a.facts.length f9)).setT (kb.set_ 0 (.slice F9 a.facts.length f9)) (by decide) 1 (.slice G M.length g));replace kb:=(kb.set_ 0 (.slice F9 a.facts.length f9)).set_ 1 (.slice G M.length g))
   refine hK.out _ _ (⟨k3.cell,k4.cell,k6.cell,k8.cell⟩) ?_
   clear hHeld hK K
   intro hHeld
   try simp only[Act.put,zA,zB,zC,zD,zE,zF]
   refine wpAnyH_done (by kernel_rfl) ?_ _
   refine NoPanic.normal ?_
   go_wp2_with fail
   go_meet
   case rel=>exact ⟨V8.heap.size,F9,f9,G,g,rfl,by omega,kb,Lib.hid ⟨_,_,rfl,HJ.out,HM.out⟩,k3,k4,k6,Lib.hid hB⟩
 case rest=>
  obtain ⟨z,F1,f1,G1,g1,rfl,hz2,kz,HO,k3,k4,k6,HBc⟩:=hcut
  clear hB HM k8
  have HFE:=Lib.hid (show forgetL K k.changes ⟨a.facts,M⟩=forgetL K (k.changes.drop 0) ⟨a.facts,M⟩ from rfl)
  (replace qk3:=k3.cell;replace rk3:=k3.frozen;replace lk3:=k3.lt;replace qk4:=k4.cell;replace rk4:=k4.frozen;replace lk4:=k4.lt;replace qk6:=k6.cell;replace rk6:=k6.frozen;replace lk6:=k6.lt;replace qkz:=kz.cell;replace rkz:=kz.frozen;replace lkz:=kz.lt)
  go_wp2_with fail
  go_loopw [58] (fun i wr=>∃ (j:Nat) (r:Asn) (F2:Option Addr) (f2:Nat) (G2:Option Addr) (g2:Nat),j≤k.changes.length∧i=.int .i64 j∧Hid (forgetL K k.changes ⟨a.facts,M⟩=forgetL K (k.changes.drop j) r)∧Hid (r.valid=true)∧Blk wr z tAs #[.slice F2 r.facts.length f2,.slice G2 r.atoms.length g2]∧Hid (AsnO wr w.heap.size (.agg #[.slice F2 r.facts.length f2,.slice G2 r.atoms.length g2]) r)∧Blk wr (w.heap.size+1) tCt #[.slice B1 k.pre.facts.length d1,.slice B2 k.pre.atoms.length d2,.slice B3 k.post.facts.length d3,.slice B4 k.post.atoms.length d4,.slice B5 k.changes.length d5]∧Blk wr (w.heap.size+1+1) tAs #[.slice none 0 0,.slice none 0 0]∧Hid (Below w.heap.size w wr)) (fun i _=>k.changes.length - (intOf i).toNat)
  case atStart=>exact ⟨0,⟨a.facts,M⟩,F1,f1,G1,g1,Nat.zero_le _,rfl,HFE,HR0,kz,HO,k4,k6,HBc⟩
  case round=>
   clear HFE HR0 kz HO k3 k4 k6 HBc qk3 rk3 lk3 qk4 rk4 lk4 qk6 rk6 lk6 qkz rkz lkz
   obtain ⟨j,r,F2,f2,G2,g2,hj,rfl,HFE,HRV,kz,HO,k4,k6,hB⟩:=hrel
   (replace qkz:=kz.cell;replace rkz:=kz.frozen;replace lkz:=kz.lt;replace qk4:=k4.cell;replace rk4:=k4.frozen;replace lk4:=k4.lt;replace qk6:=k6.cell;replace rk6:=k6.frozen;replace lk6:=k6.lt)
   by_cases hlt:j<k.changes.length
   ·obtain ⟨b,off,rfl,c0⟩:=(P5.out.below hB.out).at hlt
    have hbl:=block_lt_of_cell c0
    have hji:(j:Int)<(k.changes.length:Int):=by omega
    have HXT:=Lib.hid (HX.out _ (List.getElem_mem hlt))
    have HST:=Lib.hid (forgetL_step (K:=K) hlt r)
    obtain ⟨x,hx⟩:∃ x,x=k.changes[j]:=⟨_,rfl⟩
    rw[←hx] at c0 HXT HST
    clear hx
    have hzr:=hB.out.size
    go_wp2_with fail
    refine (c_impl_forget _ r x K _ HO.out.reads b7 HXT.out).mono ?_
    rintro e w1 ⟨hR,hB1⟩
    replace kz:=kz.next hB1
    (replace k4:=k4.next hB1;replace qk4:=k4.cell;replace rk4:=k4.frozen;replace lk4:=k4.lt;replace k6:=k6.next hB1;replace qk6:=k6.cell;replace rk6:=k6.frozen;replace lk6:=k6.lt)
    (replace qkz:=kz.cell;replace rkz:=kz.frozen;replace lkz:=kz.lt)
    have HB1:=Lib.hid (bgo hB.out hB1)
    clear hB1 c0
    cases hf:forgetF r x K with
    | none=>
     rw[hf] at hR
     obtain rfl:=hR
     have E2:Hid (callF a k ks=none):=Lib.hid (by rw[E.out,HFE.out,HST.out,hf];rfl)
     clear hf HST HFE HO
     have hBx:=HB1.out
     go_wp2_with fail
     refine bodyPost_ret (v:=.tuple #[.agg #[.slice none 0 0,.slice none 0 0],.bool false]) (by simp[results,Tryz.results16,go_sem,qk6,lk6]) rfl ⟨_,by rw[E2.out];rfl,by rw[E2.out];exact AsnO.zero _ _,bel⟩
    | some q=>
     obtain ⟨r2,p⟩:=q
     rw[hf] at hR
     obtain ⟨F3,f3,G3,g3,rfl,o3⟩:=hR
     have HF2:Hid (forgetL K k.changes ⟨a.facts,M⟩=forgetL K (k.changes.drop (j+1)) r2):=Lib.hid (by rw[HFE.out,HST.out,hf];rfl)
     have HRV2:=Lib.hid (forgetF_valid HRV.out hf)
     have hzw:w.heap.size≤w1.heap.size:=HB1.out.size
     have hbx:=bbox (Below.refl _ w1) (.cells #[.slice F3 r2.facts.length f3,.slice G3 r2.atoms.length g3,.int .i64 x,.int .i64 p] tFg)
     have O3:=Lib.hid ((o3.below hbx).lower (base':=w.heap.size) (by omega))
     have kfg:=Blk.new w1 tFg #[.slice F3 r2.facts.length f3,.slice G3 r2.atoms.length g3,.int .i64 x,.int .i64 p]
     have hB2:=bgo HB1.out hbx
     replace kz:=kz.next hbx
     (replace k4:=k4.next hbx;replace qk4:=k4.cell;replace rk4:=k4.frozen;replace lk4:=k4.lt;replace k6:=k6.next hbx;replace qk6:=k6.cell;replace rk6:=k6.frozen;replace lk6:=k6.lt)
     (replace qkz:=kz.cell;replace rkz:=kz.frozen;replace lkz:=kz.lt)
     clear hf HST HFE HO o3 hbx
     go_wp2_with fail
     go_round
     case rel=>
      refine ⟨j+1,r2,F3,f3,G3,g3,by omega,by go_num,HF2,HRV2,by simpa using (kz.set_ 0 (.slice F3 r2.facts.length f3)).set_ 1 (.slice G3 r2.atoms.length g3),Lib.hid (AsnO.setW O3.out kz _ _),(k4.far (by simp only;omega) _).far (by simp only;omega) _,(k6.far (by simp only;omega) _).far (by simp only;omega) _,Lib.hid ((hB2.setCell (p:=⟨z,0,none⟩) (by simp only;omega) _).setCell (p:=⟨z,1,none⟩) (by simp only;omega) _)⟩
     case measure=>simp[intOf];omega
   ·obtain rfl:j=k.changes.length:=by omega
    have E2:Hid (callF a k ks=okX (postX k r)):=Lib.hid (by rw[E.out,HFE.out,List.drop_length];rfl)
    have hrl:=valid_len HRV.out
    clear HFE
    obtain ⟨of2,oa2⟩:=AsnO.pr HO.out
    have HFV:=Lib.hid (FactsO.readsI of2).2
    have HAV:=Lib.hid (AtomsO.readsI oa2).2
    replace hB:=hB.out
    have hz6:=k6.lt
    clear of2 oa2 HO qkz rkz lkz qk4 rk4 lk4 qk6 rk6 lk6
    go_upto_region 16 with fail
    generalize wr=VR at *
    go_cut [16] (fun s16 wc=>∃ (x:Nat) (F9:Option Addr) (f9:Nat) (G9:Option Addr) (g9:Nat),s16=.pointer (some ⟨x,0,none⟩)∧Blk wc x tAs #[.slice F9 (r.facts.length+k.post.facts.length) f9,.slice G9 (k.post.atoms.length+r.atoms.length) g9]∧Hid (AsnO wc w.heap.size (.agg #[.slice F9 (r.facts.length+k.post.facts.length) f9,.slice G9 (k.post.atoms.length+r.atoms.length) g9]) (postX k r))∧Blk wc (w.heap.size+1+1) tAs #[.slice none 0 0,.slice none 0 0]∧Hid (Below w.heap.size w wc))
    case first=>
     go_wp2_with fail
     refine wp_region_noPanic ?_
     refine wp_region_held_drew (S:=(fun w'=>(∀ i,w'.cell? ⟨z,i,none⟩=#[.slice F2 r.facts.length f2,.slice G2 r.atoms.length g2][i]?)∧(∀ i,w'.cell? ⟨w.heap.size+1,i,none⟩=#[.slice B1 k.pre.facts.length d1,.slice B2 k.pre.atoms.length d2,.slice B3 k.post.facts.length d3,.slice B4 k.post.atoms.length d4,.slice B5 k.changes.length d5][i]?)∧(∀ i,w'.cell? ⟨w.heap.size+1+1,i,none⟩=#[.slice none 0 0,.slice none 0 0][i]?))) (by kernel_rfl) (⟨kz.drew.cell,k4.drew.cell,k6.drew.cell⟩) (fun hHeld=>?_)
     have hdr:Below VR.heap.size VR VR.drew:=(Below.refl _ _).drew
     replace kz:=kz.next hdr
     replace k4:=k4.next hdr
     replace k6:=k6.next hdr
     replace HFV:=Lib.hid (HFV.out.below hdr)
     replace HAV:=Lib.hid (HAV.out.below hdr)
     replace hB:=bgo hB hdr
     clear hdr
     generalize VR.drew=V8 at *
     have hz6:=k6.lt
     have hz7:=kz.lt
     refine tk 0 ?_ rfl (fun w hSw=>?_) hHeld ?_
     rotate_left
     ·((try dsimp only at hSw);go_split_ands;go_simp;(try with_reducible rfl))
     try simp only[Act.put,zA,zB,zC,zD,zE,zF]
     refine tk 1 ?_ rfl (fun w hSw=>?_) hHeld ?_
     rotate_left
     ·((try dsimp only at hSw);go_split_ands;go_simp;(try with_reducible rfl))
     try simp only[Act.put,zA,zB,zC,zD,zE,zF]
     refine tk 2 ?_ rfl (fun w hSw=>?_) hHeld ?_
     rotate_left
     ·((try dsimp only at hSw);go_split_ands;go_simp;(try with_reducible rfl))
     try simp only[Act.put,zA,zB,zC,zD,zE,zF]
     refine tk 3 ?_ rfl (fun w hSw=>?_) hHeld ?_
     rotate_left
     ·((try dsimp only at hSw);go_split_ands;go_simp;(try with_reducible rfl))
     try simp only[Act.put,zA,zB,zC,zD,zE,zF]
     refine tk 4 ?_ rfl (fun w hSw=>?_) hHeld ?_
     rotate_left
     ·((try dsimp only at hSw);go_split_ands;go_simp;(try with_reducible rfl))
     try simp only[Act.put,zA,zB,zC,zD,zE,zF]
     refine tk 6 ?_ rfl (fun w hSw=>?_) hHeld ?_
     rotate_left
     ·((try dsimp only at hSw);go_split_ands;go_simp;(try with_reducible rfl))
     try simp only[Act.put,zA,zB,zC,zD,zE,zF]
     refine tk 7 ?_ rfl (fun w hSw=>?_) hHeld ?_
     rotate_left
     ·((try dsimp only at hSw);go_split_ands;go_simp;(try with_reducible rfl))
     try simp only[Act.put,zA,zB,zC,zD,zE,zF]
     refine tk 8 ?_ rfl (fun w hSw=>?_) hHeld ?_
     rotate_left
     ·((try dsimp only at hSw);go_split_ands;go_simp;(try with_reducible rfl))
     try simp only[Act.put,zA,zB,zC,zD,zE,zF]
     refine tk 9 ?_ rfl (fun w hSw=>?_) hHeld ?_
     rotate_left
     ·((try dsimp only at hSw);go_split_ands;go_simp;(try with_reducible rfl))
     try simp only[Act.put,zA,zB,zC,zD,zE,zF]
     refine tk 10 ?_ rfl (fun w hSw=>?_) hHeld ?_
     rotate_left
     ·((try dsimp only at hSw);go_split_ands;go_simp;(try with_reducible rfl))
     try simp only[Act.put,zA,zB,zC,zD,zE,zF]
     refine wpAnyH_ready (rs:=[5,13]) (by kernel_rfl) (by simp) (AllReadyH.cons rfl (fun K hK=>?_) (AllReadyH.cons rfl (fun K hK=>?_) AllReadyH.nil))
     ·try simp only[zA,zB,zC]
      (go_simp;refine (c_joinF F2 B3 f2 d3 r.facts k.post.facts _ HFV.out (Q3.out.below hB) (by omega)).mono ?_;rintro e w8 ⟨r8,rfl,o8,hq⟩;obtain ⟨F9,f9,rfl,-⟩:=o8.reads;rw[List.length_append] at o8;have HJ:=Lib.hid (o8.lower (base':=w.heap.size) hB.size);clear o8;have hs8:=hq.size;(try simp only[World.size_alloc] at hs8);replace kz:=kz.next hq;replace k4:=k4.next hq;replace k6:=k6.next hq;replace HAV:=Lib.hid (HAV.out.below hq);replace HFV:=Lib.hid (HFV.out.below hq);replace hB:=bgo hB hq;clear hq)
      refine hK.out _ _ (⟨kz.cell,k4.cell,k6.cell⟩) ?_
      clear hHeld hK K
      intro hHeld
      try simp only[Act.put,zA,zB,zC,zD,zE,zF]
      refine wpAnyH_ready (rs:=[11,13]) (by kernel_rfl) (by simp) (AllReadyH.cons rfl (fun K hK=>?_) (AllReadyH.cons rfl (fun K hK=>?_) AllReadyH.nil))
      ·try simp only[zA,zB,zC]
       (go_simp;refine (c_joinA B4 G2 d4 g2 k.post.atoms r.atoms _ (Q4.out.below hB) HAV.out (by omega)).mono ?_;rintro e w9 ⟨r9,rfl,o9,hq⟩;obtain ⟨G9,g9,rfl,-⟩:=o9.reads;rw[List.length_append] at o9;have HJA:=Lib.hid (o9.lower (base':=w.heap.size) hB.size);clear o9;have hs9:=hq.size;(try simp only[World.size_alloc] at hs9);replace kz:=kz.next hq;replace k4:=k4.next hq;replace k6:=k6.next hq;replace HAV:=Lib.hid (HAV.out.below hq);replace HFV:=Lib.hid (HFV.out.below hq);replace HJ:=Lib.hid (HJ.out.below hq);replace hB:=bgo hB hq;clear hq)
       refine hK.out _ _ (⟨kz.cell,k4.cell,k6.cell⟩) ?_
       clear hHeld hK K
       intro hHeld
       try simp only[Act.put,zA,zB,zC,zD,zE,zF]
       refine tk 12 ?_ rfl (fun w hSw=>?_) hHeld ?_
       rotate_left
       ·((try dsimp only at hSw);go_split_ands;go_simp;(try with_reducible rfl))
       try simp only[Act.put,zA,zB,zC,zD,zE,zF]
       refine rdc 13 rfl fun K hK=>?_
       try simp only[zA,zB,zC]
       go_simp
       refine hK.out _ _ (⟨(kz.alloc (.cells #[.slice none 0 0,.slice none 0 0] tAs)).cell,(k4.alloc (.cells #[.slice none 0 0,.slice none 0 0] tAs)).cell,(k6.alloc (.cells #[.slice none 0 0,.slice none 0 0] tAs)).cell⟩) ?_
       clear hHeld hK K
       intro hHeld
       try simp only[Act.put,zA,zB,zC,zD,zE,zF]
       refine rdc 14 rfl fun K hK=>?_
       try simp only[zA,zB,zC]
       (go_simp;have hq:=bbox (Below.refl _ w9) (.cells #[.slice F9 (r.facts.length+k.post.facts.length) f9,.slice G9 (k.post.atoms.length+r.atoms.length) g9] tAs);have kb:=Blk.new w9 tAs #[.slice F9 (r.facts.length+k.post.facts.length) f9,.slice G9 (k.post.atoms.length+r.atoms.length) g9];replace kz:=kz.next hq;replace k4:=k4.next hq;replace k6:=k6.next hq;replace HAV:=Lib.hid (HAV.out.below hq);replace HFV:=Lib.hid (HFV.out.below hq);replace HJ:=Lib.hid (HJ.out.below hq);replace HJA:=Lib.hid (HJA.out.below hq);replace hB:=bgo hB hq;clear hq)
       refine hK.out _ _ (⟨kz.cell,k4.cell,k6.cell⟩) ?_
       clear hHeld hK K
       intro hHeld
       try simp only[Act.put,zA,zB,zC,zD,zE,zF]
       refine wpAnyH_done (by kernel_rfl) ?_ _
       refine NoPanic.normal ?_
       go_wp2_with fail
       go_meet
       case rel=>exact ⟨w9.heap.size,F9,f9,G9,g9,rfl,kb,Lib.hid ⟨_,_,rfl,HJ.out,HJA.out⟩,k6,Lib.hid hB⟩
      ·try simp only[zA,zB,zC]
       (go_simp;have hq:=bbox (Below.refl _ w8) (.cells #[.slice none 0 0,.slice none 0 0] tAs);replace kz:=kz.next hq;replace k4:=k4.next hq;replace k6:=k6.next hq;replace HAV:=Lib.hid (HAV.out.below hq);replace HFV:=Lib.hid (HFV.out.below hq);replace HJ:=Lib.hid (HJ.out.below hq);replace hB:=bgo hB hq;clear hq)
       refine hK.out _ _ (⟨kz.cell,k4.cell,k6.cell⟩) ?_
       clear hHeld hK K
       intro hHeld
       try simp only[Act.put,zA,zB,zC,zD,zE,zF]
       have kb:=Blk.new w8 tAs #[.slice none 0 0,.slice none 0 0]
       have hlz:w.heap.size≤w8.heap.size:=by first|exact Nat.le_refl _|exact hB.size|(have:=hB.size;simp at this;omega)
       refine rdc 11 rfl fun K hK=>?_
       try simp only[zA,zB,zC]
       (go_simp;refine (c_joinA B4 G2 d4 g2 k.post.atoms r.atoms _ (Q4.out.below hB) HAV.out (by omega)).mono ?_;rintro e w9 ⟨r9,rfl,o9,hq⟩;obtain ⟨G9,g9,rfl,-⟩:=o9.reads;rw[List.length_append] at o9;have HJA:=Lib.hid (o9.lower (base':=w.heap.size) hB.size);clear o9;have hs9:=hq.size;(try simp only[World.size_alloc] at hs9);replace kz:=kz.next hq;replace k4:=k4.next hq;replace k6:=k6.next hq;replace kb:=kb.next hq;replace HAV:=Lib.hid (HAV.out.below hq);replace HFV:=Lib.hid (HFV.out.below hq);replace HJ:=Lib.hid (HJ.out.below hq);replace hB:=bgo hB hq;clear hq)
       refine hK.out _ _ (⟨kz.cell,k4.cell,k6.cell⟩) ?_
       clear hHeld hK K
       intro hHeld
       try simp only[Act.put,zA,zB,zC,zD,zE,zF]
       refine tk 12 ?_ rfl (fun w hSw=>?_) hHeld ?_
       rotate_left
       ·((try dsimp only at hSw);go_split_ands;go_simp;(try with_reducible rfl))
       try simp only[Act.put,zA,zB,zC,zD,zE,zF]
       have hlb:=kb.lt
       have ql:=kb.cell
       have rl:=kb.frozen
       have hn0:z≠w8.heap.size:=by omega
       have hn1:w.heap.size+1≠w8.heap.size:=by omega
       have hn2:w.heap.size+1+1≠w8.heap.size:=by omega
       refine rdc 14 rfl fun K hK=>?_
       try simp only[zA,zB,zC]
       (go_simp;replace kz:=(kz.far (p:=⟨w8.heap.size,0,none⟩) (fun e=>hn0 e) (.slice F9 (r.facts.length+k.post.facts.length) f9)).far (p:=⟨w8.heap.size,1,none⟩) (fun e=>hn0 e) (.slice G9 (k.post.atoms.length+r.atoms.length) g9);replace k4:=(k4.far (p:=⟨w8.heap.size,0,none⟩) (fun e=>hn1 e) (.slice F9 (r.facts.length+k.post.facts.length) f9)).far (p:=⟨w8.heap.size,1,none⟩) (fun e=>hn1 e) (.slice G9 (k.post.atoms.length+r.atoms.length) g9);replace k6:=(k6.far (p:=⟨w8.heap.size,0,none⟩) (fun e=>hn2 e) (.slice F9 (r.facts.length+k.post.facts.length) f9)).far (p:=⟨w8.heap.size,1,none⟩) (fun e=>hn2 e) (.slice G9 (k.post.atoms.length+r.atoms.length) g9);replace hB:=(hB.setCell (p:=⟨w8.heap.size,0,none⟩) (by simp only;omega) (.slice F9 (r.facts.length+k.post.facts.length) f9)).setCell (p:=⟨w8.heap.size,1,none⟩) (by simp only;omega) (.slice G9 (k.post.atoms.length+r.atoms.length) g9);replace HJA:=Lib.hid ((HJA.out.setT kb (by decide) 0 (.slice F9 (r.facts.length+k.post.facts.length) f9)).setT (kb.set_ 0 (.slice F9 (r.facts.length+k.post.facts.length) f9)) (by decide) 1 (.slice G9 (k.post.atoms.length+r.atoms.length) g9));replace HJ:=Lib.hid ((HJ.out.setT kb (by decide) 0 (.slice F9 (r.facts.length+k.post.facts.length) f9)).setT (kb.set_ 0 (.slice F9 (r.facts.length+k.post.facts.length) f9)) (by decide) 1 (.slice G9 (k.post.atoms.length+r.atoms.length) g9));replace kb:=(kb.set_ 0 (.slice F9 (r.facts.length+k.post.facts.length) f9)).set_ 1 (.slice G9 (k.post.atoms.length+r.atoms.length) g9))
       refine hK.out _ _ (⟨kz.cell,k4.cell,k6.cell⟩) ?_
       clear hHeld hK K
       intro hHeld
       try simp only[Act.put,zA,zB,zC,zD,zE,zF]
       refine wpAnyH_done (by kernel_rfl) ?_ _
       refine NoPanic.normal ?_
       go_wp2_with fail
       go_meet
       case rel=>exact ⟨w8.heap.size,F9,f9,G9,g9,rfl,kb,Lib.hid ⟨_,_,rfl,HJ.out,HJA.out⟩,k6,Lib.hid hB⟩
     ·try simp only[zA,zB,zC]
      (go_simp;have hq:=bbox (Below.refl _ V8) (.cells #[.slice none 0 0,.slice none 0 0] tAs);replace kz:=kz.next hq;replace k4:=k4.next hq;replace k6:=k6.next hq;replace HAV:=Lib.hid (HAV.out.below hq);replace HFV:=Lib.hid (HFV.out.below hq);replace hB:=bgo hB hq;clear hq)
      refine hK.out _ _ (⟨kz.cell,k4.cell,k6.cell⟩) ?_
      clear hHeld hK K
      intro hHeld
      try simp only[Act.put,zA,zB,zC,zD,zE,zF]
      have kb:=Blk.new V8 tAs #[.slice none 0 0,.slice none 0 0]
      have hlz:w.heap.size≤V8.heap.size:=by first|exact Nat.le_refl _|exact hB.size|(have:=hB.size;simp at this;omega)
      refine rdc 5 rfl fun K hK=>?_
      try simp only[zA,zB,zC]
      (go_simp;refine (c_joinF F2 B3 f2 d3 r.facts k.post.facts _ HFV.out (Q3.out.below hB) (by omega)).mono ?_;rintro e w8 ⟨r8,rfl,o8,hq⟩;obtain ⟨F9,f9,rfl,-⟩:=o8.reads;rw[List.length_append] at o8;have HJ:=Lib.hid (o8.lower (base':=w.heap.size) hB.size);clear o8;have hs8:=hq.size;(try simp only[World.size_alloc] at hs8);replace kz:=kz.next hq;replace k4:=k4.next hq;replace k6:=k6.next hq;replace kb:=kb.next hq;replace HAV:=Lib.hid (HAV.out.below hq);replace HFV:=Lib.hid (HFV.out.below hq);replace hB:=bgo hB hq;clear hq)
      refine hK.out _ _ (⟨kz.cell,k4.cell,k6.cell⟩) ?_
      clear hHeld hK K
      intro hHeld
      try simp only[Act.put,zA,zB,zC,zD,zE,zF]
      refine rdc 11 rfl fun K hK=>?_
      try simp only[zA,zB,zC]
      (go_simp;refine (c_joinA B4 G2 d4 g2 k.post.atoms r.atoms _ (Q4.out.below hB) HAV.out (by omega)).mono ?_;rintro e w9 ⟨r9,rfl,o9,hq⟩;obtain ⟨G9,g9,rfl,-⟩:=o9.reads;rw[List.length_append] at o9;have HJA:=Lib.hid (o9.lower (base':=w.heap.size) hB.size);clear o9;have hs9:=hq.size;(try simp only[World.size_alloc] at hs9);replace kz:=kz.next hq;replace k4:=k4.next hq;replace k6:=k6.next hq;replace kb:=kb.next hq;replace HAV:=Lib.hid (HAV.out.below hq);replace HFV:=Lib.hid (HFV.out.below hq);replace HJ:=Lib.hid (HJ.out.below hq);replace hB:=bgo hB hq;clear hq)
      refine hK.out _ _ (⟨kz.cell,k4.cell,k6.cell⟩) ?_
      clear hHeld hK K
      intro hHeld
      try simp only[Act.put,zA,zB,zC,zD,zE,zF]
      refine tk 12 ?_ rfl (fun w hSw=>?_) hHeld ?_
      rotate_left
      ·((try dsimp only at hSw);go_split_ands;go_simp;(try with_reducible rfl))
      try simp only[Act.put,zA,zB,zC,zD,zE,zF]
      have hlb:=kb.lt
      have ql:=kb.cell
      have rl:=kb.frozen
      have hn0:z≠V8.heap.size:=by omega
      have hn1:w.heap.size+1≠V8.heap.size:=by omega
      have hn2:w.heap.size+1+1≠V8.heap.size:=by omega
      refine rdc 14 rfl fun K hK=>?_
      try simp only[zA,zB,zC]
      (go_simp;replace kz:=(kz.far (p:=⟨V8.heap.size,0,none⟩) (fun e=>hn0 e) (.slice F9 (r.facts.length+k.post.facts.length) f9)).far (p:=⟨V8.heap.size,1,none⟩) (fun e=>hn0 e) (.slice G9 (k.post.atoms.length+r.atoms.length) g9);replace k4:=(k4.far (p:=⟨V8.heap.size,0,none⟩) (fun e=>hn1 e) (.slice F9 (r.facts.length+k.post.facts.length) f9)).far (p:=⟨V8.heap.size,1,none⟩) (fun e=>hn1 e) (.slice G9 (k.post.atoms.length+r.atoms.length) g9);replace k6:=(k6.far (p:=⟨V8.heap.size,0,none⟩) (fun e=>hn2 e) (.slice F9 (r.facts.length+k.post.facts.length) f9)).far (p:=⟨V8.heap.size,1,none⟩) (fun e=>hn2 e) (.slice G9 (k.post.atoms.length+r.atoms.length) g9);replace hB:=(hB.setCell (p:=⟨V8.heap.size,0,none⟩) (by simp only;omega) (.slice F9 (r.facts.length+k.post.facts.length) f9)).setCell (p:=⟨V8.heap.size,1,none⟩) (by simp only;omega) (.slice G9 (k.post.atoms.length+r.atoms.length) g9);replace HJA:=Lib.hid ((HJA.out.setT kb (by decide) 0 (.slice F9 (r.facts.length+k.post.facts.length) f9)).setT (kb.set_ 0 (.slice F9 (r.facts.length+k.post.facts.length) f9)) (by decide) 1 (.slice G9 (k.post.atoms.length+r.atoms.length) g9));replace HJ:=Lib.hid ((HJ.out.setT kb (by decide) 0 (.slice F9 (r.facts.length+k.post.facts.length) f9)).setT (kb.set_ 0 (.slice F9 (r.facts.length+k.post.facts.length) f9)) (by decide) 1 (.slice G9 (k.post.atoms.length+r.atoms.length) g9));replace kb:=(kb.set_ 0 (.slice F9 (r.facts.length+k.post.facts.length) f9)).set_ 1 (.slice G9 (k.post.atoms.length+r.atoms.length) g9))
      refine hK.out _ _ (⟨kz.cell,k4.cell,k6.cell⟩) ?_
      clear hHeld hK K
      intro hHeld
      try simp only[Act.put,zA,zB,zC,zD,zE,zF]
      refine wpAnyH_done (by kernel_rfl) ?_ _
      refine NoPanic.normal ?_
      go_wp2_with fail
      go_meet
      case rel=>exact ⟨V8.heap.size,F9,f9,G9,g9,rfl,kb,Lib.hid ⟨_,_,rfl,HJ.out,HJA.out⟩,k6,Lib.hid hB⟩
    case rest=>
     obtain ⟨x,F9,f9,G9,g9,rfl,kx,HX9,k6,HBc⟩:=hcut
     have e1:r.facts.length+k.post.facts.length=(postX k r).facts.length:=by simp[postX]
     have e2:k.post.atoms.length+r.atoms.length=(postX k r).atoms.length:=by simp[postX]
     rw[e1,e2] at kx HX9
     clear e1 e2
     generalize postX k r=R at *
     clear hB kz k4 HFV HAV
     (replace qkx:=kx.cell;replace rkx:=kx.frozen;replace lkx:=kx.lt;replace qk6:=k6.cell;replace rk6:=k6.frozen;replace lk6:=k6.lt)
     go_wp2_with fail
     refine (c_impl_AssertionValid _ R _ HX9.out.reads).mono ?_
     rintro e w10 ⟨rfl,hB10⟩
     have hBw:=bgo HBc.out hB10
     have HX10:=Lib.hid (HX9.out.below hB10)
     have kx10:=kx.next hB10
     have k610:=k6.next hB10
     clear hB10 kx k6 qkx rkx lkx qk6 rk6 lk6
     (replace qkx10:=kx10.cell;replace rkx10:=kx10.frozen;replace lkx10:=kx10.lt;replace qk610:=k610.cell;replace rk610:=k610.frozen;replace lk610:=k610.lt)
     cases hrv:R.valid
     ·have E3:Hid (callF a k ks=none):=Lib.hid (by rw[E2.out];unfold okX;rw[hrv];rfl)
      clear hrv
      go_wp2_with fail
      refine bodyPost_ret (v:=.tuple #[.agg #[.slice none 0 0,.slice none 0 0],.bool false]) (by simp[results,Tryz.results16,go_sem,qk610,lk610]) rfl ⟨_,by rw[E3.out];rfl,by rw[E3.out];exact AsnO.zero _ _,bel⟩
     ·have E3:Hid (callF a k ks=some R):=Lib.hid (by rw[E2.out];unfold okX;rw[hrv];rfl)
      clear hrv
      go_wp2_with fail
      refine bodyPost_ret (v:=.tuple #[.agg #[.slice F9 R.facts.length f9,.slice G9 R.atoms.length g9],.bool true]) (by simp[results,Tryz.results16,go_sem,qk610,lk610]) rfl ⟨_,by rw[E3.out];rfl,?_,bel⟩
      rw[E3.out]
      exact AsnO.setW HX10.out k610 _ _
end Go.Proofs.YtjjokmlmknllhaaGreat
