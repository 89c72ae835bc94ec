/- Programs: what is gathered over all commands. Plain. -/
import Derived.Test.YtgdfdmjnadnlnaaGreatMRunP
import Derived.Test.YtgdfdmjnadnlnaaGreatTidyI
import Derived.Test.YtgdfdmjnadnlnaaGreatMFirstG
set_option linter.unusedSimpArgs false
set_option linter.unusedVariables false
set_option maxRecDepth 100000
set_option maxHeartbeats 25600000
namespace Go.Proofs.YtgdfdmjnadnlnaaGreat
section
open Go Go.RowKit Go.Proofs
def Cms.fold (F:Nat→Int→Int→Int→Fct→Asn→Nat):Cms→Nat→Nat
 | .nil,S=>S
 | .cons k a b t i body els r,S=>r.fold F (els.fold F (body.fold F (F S k a b t i)))
def chF (S:Nat) (k a _b:Int) (_t:Fct) (_i:Asn):Nat:=if k=1∨k=2∨k=4 then tins S a else S
def loF (S:Nat) (_k a b:Int) (t:Fct) (i:Asn):Nat:=tins (tins (tins (tins S a) b) t.a) t.b|||tset (termsL i)
def tsup (S:Nat) (x:Int):Nat:=if 4<x then tins S x else S
def lsL (a b:Int) (t:Fct) (i:Asn):List Int:=[a,b,t.a,t.b]++tlistL (tset (termsL i)) 9
def lsF (S:Nat) (_k a b:Int) (t:Fct) (i:Asn):Nat:=(lsL a b t i).foldl tsup S
theorem chF_lt {S:Nat} (h:S<512) (k a b:Int) (t:Fct) (i:Asn):chF S k a b t i<512:=by
 unfold chF;split
 ·exact tins_lt h a
 ·exact h
theorem loF_lt {S:Nat} (h:S<512) (k a b:Int) (t:Fct) (i:Asn):loF S k a b t i<512:=
 Nat.or_lt_two_pow (n:=9) (tins_lt (tins_lt (tins_lt (tins_lt h a) b) t.a) t.b) (tset_lt _)
theorem Cms.fold_lt {F:Nat→Int→Int→Int→Fct→Asn→Nat} (hF:∀ S k a b t i,S<512→F S k a b t i<512):∀ (L:Cms) {S:Nat},S<512→L.fold F S<512
 | .nil,_,h=>h
 | .cons k a b t i body els r,S,h=>Cms.fold_lt hF r (Cms.fold_lt hF els (Cms.fold_lt hF body (hF S k a b t i h)))
theorem tsup_lt {S:Nat} (h:S<512) (x:Int):tsup S x<512:=by
 unfold tsup;split
 ·exact tins_lt h x
 ·exact h
theorem foldl_tsup_lt (l:List Int):∀ {S:Nat},S<512→l.foldl tsup S<512:=by
 induction l with
 | nil=>intro S h;exact h
 | cons x l ih=>intro S h;exact ih (tsup_lt h x)
theorem lsF_lt {S:Nat} (h:S<512) (k a b:Int) (t:Fct) (i:Asn):lsF S k a b t i<512:=foldl_tsup_lt _ h
theorem tsup_bit (S:Nat) (x:Int) (n:Nat):(tsup S x).testBit n=(S.testBit n || decide (4<n∧isTermB x=true∧x=(n:Int))):=by
 unfold tsup
 split
 ·rename_i h;rw[tins_bit]
  congr 1
  rw[decide_eq_decide];constructor
  ·rintro ⟨h1,h2⟩;exact ⟨by omega,h1,h2⟩
  ·rintro ⟨_,h1,h2⟩;exact ⟨h1,h2⟩
 ·rename_i h;have:decide (4<n∧isTermB x=true∧x=(n:Int))=false:=by rw[decide_eq_false_iff_not];rintro ⟨h1,_,h2⟩;omega
  rw[this,Bool.or_false]
theorem foldl_tsup_bit (l:List Int):∀ (S n:Nat),(l.foldl tsup S).testBit n=(S.testBit n || decide (4<n∧isTermB (n:Int)=true∧(n:Int)∈l)):=by
 induction l with
 | nil=>intro S n;simp
 | cons x l ih=>
  intro S n;rw[List.foldl_cons,ih,tsup_bit,Bool.or_assoc]
  congr 1
  rw[←Bool.decide_or,decide_eq_decide];constructor
  ·rintro (⟨h,h1,rfl⟩|⟨h,h1,hm⟩)
   ·exact ⟨h,h1,List.mem_cons_self⟩
   ·exact ⟨h,h1,List.mem_cons_of_mem _ hm⟩
  ·rintro ⟨h,h1,hm⟩;rcases List.mem_cons.1 hm with e|hm
   ·exact Or.inl ⟨h,e▸h1,e.symm⟩
   ·exact Or.inr ⟨h,h1,hm⟩
theorem tlistL_mem (S k n:Nat):(n:Int)∈tlistL S k↔n<k∧S.testBit n=true:=by
 unfold tlistL;rw[List.mem_map];constructor
 ·rintro ⟨m,hm,e⟩;obtain rfl:m=n:=by omega
  simpa using hm
 ·intro h;exact ⟨n,by simpa using h,rfl⟩
theorem tlistL_idx (S:Nat):idxL (flagsOf S) (flagsOf S).length=tlistL S 9:=by
 rw[flagsOf_length];unfold idxL tlistL
 congr 1
theorem lsF_logS (S:Nat) (k a b:Int) (t:Fct) (i:Asn):lsF (logS S) k a b t i=logS (loF S k a b t i):=by
 apply Nat.eq_of_testBit_eq;intro n;unfold lsF lsL loF;rw[foldl_tsup_bit,logS_bit,logS_bit,Nat.testBit_or,tins_bit,tins_bit,tins_bit,tins_bit,tset_bit]
 have hm:((n:Int)∈[a,b,t.a,t.b]++tlistL (tset (termsL i)) 9)↔((a=(n:Int)∨b=(n:Int)∨t.a=(n:Int)∨t.b=(n:Int))∨(n<9∧(isTermB (n:Int)=true∧(n:Int)∈termsL i))):=by
  rw[List.mem_append,tlistL_mem,tset_bit,decide_eq_true_iff];simp only[List.mem_cons,List.not_mem_nil,or_false,eq_comm]
 rw[Bool.eq_iff_iff];simp only[Bool.or_eq_true,Bool.and_eq_true,decide_eq_true_eq,hm];constructor
 ·rintro (⟨h1,h2⟩|⟨h1,h2,(h3|h3|h3|h3)|⟨_,h3⟩⟩)
  ·simp[h1,h2]
  ·subst h3;simp[h2];omega
  ·subst h3;simp[h2];omega
  ·rw[h3];simp[h2];omega
  ·rw[h3];simp[h2];omega
  ·simp[h2,h3.2];omega
 ·rintro ⟨h1,h2⟩;rcases h2 with ((((h2|⟨h2,h3⟩)|⟨h2,h3⟩)|⟨h2,h3⟩)|⟨h2,h3⟩)|⟨h2,h3⟩
  ·exact Or.inl ⟨h1,h2⟩
  ·right;rw[←h3];exact ⟨by omega,h2,by simp⟩
  ·right;rw[←h3];exact ⟨by omega,h2,by simp⟩
  ·right;rw[←h3];exact ⟨by omega,h2,by simp⟩
  ·right;rw[←h3];exact ⟨by omega,h2,by simp⟩
  ·right;have:=isTermB_iff.1 h2;exact ⟨by omega,h2,Or.inr ⟨by omega,h2,h3⟩⟩
theorem fold_logS:∀ (L:Cms) (S:Nat),L.fold lsF (logS S)=logS (L.fold loF S)
 | .nil,_=>rfl
 | .cons k a b t i body els r,S=>by
  simp only[Cms.fold];rw[lsF_logS,fold_logS body,fold_logS els,fold_logS r]
theorem fval_terms {k a b:Int} {t:Fct} {i:Asn} {body els:Cms} (h:fvalB k a b t i body els=true):isTermB a=true∧isTermB b=true∧isTermB t.a=true∧isTermB t.b=true∧∀ x∈termsL i,isTermB x=true:=by
 unfold fvalB at h
 split at h
 ·simp only[Bool.and_eq_true,decide_eq_true_eq,noAsn,Fct.valid] at h;obtain ⟨rfl,rfl,⟨h1,h2⟩,h3,h4⟩:=h;refine ⟨by decide,by decide,h1,h2,?_⟩;have e:i=⟨[],[]⟩:=by cases i;simp_all
  subst e;simp[termsL]
 split at h
 ·simp only[Bool.and_eq_true,decide_eq_true_eq,Fct.valid] at h;obtain ⟨rfl,rfl,⟨h1,h2⟩,h3,h4⟩:=h;exact ⟨by decide,by decide,h1,h2,termsL_ok h3⟩
 ·simp only[Bool.and_eq_true,plainB,noFct,noAsn,decide_eq_true_eq] at h;obtain ⟨⟨rfl,⟨h1,h2⟩,h3,h4⟩,h5⟩:=h;have e:i=⟨[],[]⟩:=by cases i;simp_all
  subst e
  have hab:isTermB a=true∧isTermB b=true:=by
   have hp:∀ {x:Int},isProgB x=true→isTermB x=true:=fun h=>by simp[isProgB] at h;rw[isTermB_iff];omega
   unfold fieldsB at h5
   split at h5
   ·simp only[Bool.and_eq_true] at h5;exact ⟨hp h5.1,h5.2⟩
   split at h5
   ·simpa using h5
   split at h5
   ·simp only[Bool.and_eq_true,decide_eq_true_eq] at h5;exact ⟨hp h5.1,by rw[h5.2];decide⟩
   split at h5
   ·simp only[Bool.and_eq_true,decide_eq_true_eq] at h5;exact ⟨h5.1,by rw[h5.2];decide⟩
   ·cases h5
  exact ⟨hab.1,hab.2,by decide,by decide,by simp[termsL]⟩
section
variable {w w':World} {lo hi:Nat}
theorem CmsAt.keep (hk:∀ b,lo≤b→b<hi→w'.heap[b]? = w.heap[b]?):∀ {L:Cms} {bl o:Nat},lo≤bl→bl<hi→CmsAt w lo hi L bl o→CmsAt w' lo hi L bl o
 | .nil,_,_,_,_,_=>trivial
 | .cons k a b t i body els r,bl,o,e1,e2,h=>by
  obtain ⟨⟨h0,h1,h2,h3,h4,h5⟩,⟨A6,c6,h6,g6⟩,⟨A7,c7,h7,g7⟩,⟨A8,c8,h8,g8⟩,⟨A9,c9,h9,g9⟩,hr⟩:=h;have hc:∀ j,w'.cell? ⟨bl,j,none⟩=w.cell? ⟨bl,j,none⟩:=fun j=>World.cell?_of_block (a:=⟨bl,j,none⟩) (hk bl e1 e2);refine ⟨⟨(hc _).trans h0,(hc _).trans h1,(hc _).trans h2,(hc _).trans h3,(hc _).trans h4,(hc _).trans h5⟩,⟨A6,c6,(hc _).trans h6,g6.keep hk⟩,⟨A7,c7,(hc _).trans h7,g7.keep hk⟩,⟨A8,c8,(hc _).trans h8,fun hl=>?_⟩,⟨A9,c9,(hc _).trans h9,fun hl=>?_⟩,CmsAt.keep hk e1 e2 hr⟩
  ·obtain ⟨b',o',e,p1,p2,p3⟩:=g8 hl;exact ⟨b',o',e,p1,p2,CmsAt.keep hk p1 p2 p3⟩
  ·obtain ⟨b',o',e,p1,p2,p3⟩:=g9 hl;exact ⟨b',o',e,p1,p2,CmsAt.keep hk p1 p2 p3⟩
theorem CmsV.keep {A:Option Addr} {L:Cms} (h:CmsV w lo hi A L) (hk:∀ b,lo≤b→b<hi→w'.heap[b]? = w.heap[b]?):CmsV w' lo hi A L:=fun hl=>by
 obtain ⟨b,o,e,p1,p2,p3⟩:=h hl;exact ⟨b,o,e,p1,p2,p3.keep hk p1 p2⟩
theorem CmsV.mk1 {A:Option Addr} {L:Cms} {g:Nat} (h:CmsV w lo hi A L) (hm:Mk (fun x=>x=g) w w') (hg:hi≤g) (hl:g<w.heap.size):CmsV w' lo hi A L:=
 h.keep fun b _ h2=>hm.block b (by omega) (by omega)
end
end
section
open Go Go.RowKit Go.Proofs
attribute [local go_sem ↓] Go.wp_at_zero Go.wp_at_succ
theorem c_impl_replaceIn {lo hi:Nat} (v:Value) (a:Asn) (x y:Int) (w:World) (h:AsnV w lo hi v a) :
  Calls Tryz.prog 239 #[v,.int .i64 x,.int .i64 y] w fun e w'=>∃ r,e=.returned r∧AsnO w' w.heap.size r (substA x y a)∧Below w.heap.size w w':=by
 have hV:=ax h;obtain ⟨A1,c1,A2,c2,rfl,h1,h2⟩:=h;have l1:=h1.le;have l2:=h2.le;(go_enter Tryz.func239,Tryz.ntmps239);have k1:=(blk2 w 36 36 #[.slice A1 a.facts.length c1,.slice A2 a.atoms.length c2] #[.slice none 0 0,.slice none 0 0]).2;(go_wp2_with fail);refine (c_impl_copyAssertion _ a _ (hV.o.bz bel)).mono ?_;rintro e w1 ⟨r,rfl,hO,hB1⟩;have hB:=bgo (w:=w) bel hB1;(replace k1:=k1.nz hB1);obtain ⟨fv,av,rfl,of,oa⟩:=hO;obtain ⟨F,d1,rfl,-⟩:=of.reads;obtain ⟨G,d2,rfl,-⟩:=oa.reads;have k2:=Blk.new w1 36 #[.slice F a.facts.length d1,.slice G a.atoms.length d2];have hz:=hB1.size;simp only[World.size_alloc] at hz;have of':=of.bz (w':=w1.alloc (.cells #[.slice F a.facts.length d1,.slice G a.atoms.length d2] 36)) bel;have oa':=oa.bz (w':=w1.alloc (.cells #[.slice F a.facts.length d1,.slice G a.atoms.length d2] 36)) bel;have hU1:=of.und;have hU2:=oa.und;clear of oa hV h1 h2 hB1;(go_wp2_with fail)
 go_loopw [17] (fun i wr=>∃ k:Nat,k≤a.facts.length∧i=.int .i64 k∧FactsO wr (w.heap.size+1+1) (.slice F a.facts.length d1) (upto (Fct.sub x y) k a.facts)∧AtomsO wr (w.heap.size+1+1) (.slice G a.atoms.length d2) a.atoms∧
   Blk wr (w.heap.size+1) 36 #[.slice none 0 0,.slice none 0 0]∧Blk wr w1.heap.size 36 #[.slice F a.facts.length d1,.slice G a.atoms.length d2]∧Below w.heap.size w wr) (fun i _=>a.facts.length - (intOf i).toNat)
 case atStart=>exact ⟨0,Nat.zero_le _,rfl,by rw[upto_zero];simpa using of',by simpa using oa',k1.alloc _,k2,bel⟩
 case round=>
  clear k1 k2 of' oa' hB;obtain ⟨k,hk,rfl,of,oa,k1,k2,hB⟩:=hrel;(replace qk1:=k1.cell;replace rk1:=k1.frozen;replace lk1:=k1.lt;replace qk2:=k2.z);by_cases hlt:k<a.facts.length
  ·obtain ⟨g,cur,-,rfl,hg,hK,hsz,c0,c1,c2,-⟩:=of.open_ (k:=k) (by rw[upto_length];exact hlt);rw[upto_get _ _ _ hlt] at c0 c1 c2;have q0:wr.cell? ⟨g,k * 3,none⟩=some (.bool a.facts[k].eq):=(hK.cell _).trans c0;have q1:wr.cell? ⟨g,k * 3+1,none⟩=some (.int .i64 a.facts[k].a):=(hK.cell _).trans c1;have q2:wr.cell? ⟨g,k * 3+2,none⟩=some (.int .i64 a.facts[k].b):=(hK.cell _).trans c2;have hgl:=hK.lt;have hk2l:=k2.lt;have hne:=Blk.ne_ hK k2 (by decide);have hne1:=Blk.ne_ hK k1 (by decide);have hz1:=hz;have hbw:=hB.size;(go_wp2_with fail);have kf:=Blk.new wr tF #[.bool a.facts[k].eq,.int .i64 a.facts[k].a,.int .i64 a.facts[k].b];replace of:=of.bz (w':=wr.alloc (.cells #[.bool a.facts[k].eq,.int .i64 a.facts[k].a,.int .i64 a.facts[k].b] tF)) bel;replace oa:=oa.bz (w':=wr.alloc (.cells #[.bool a.facts[k].eq,.int .i64 a.facts[k].a,.int .i64 a.facts[k].b] tF)) bel;replace k1:=k1.alloc (.cells #[.bool a.facts[k].eq,.int .i64 a.facts[k].a,.int .i64 a.facts[k].b] tF);replace k2:=k2.alloc (.cells #[.bool a.facts[k].eq,.int .i64 a.facts[k].a,.int .i64 a.facts[k].b] tF);replace hK:=hK.alloc (.cells #[.bool a.facts[k].eq,.int .i64 a.facts[k].a,.int .i64 a.facts[k].b] tF);replace hB:=bbox hB (.cells #[.bool a.facts[k].eq,.int .i64 a.facts[k].a,.int .i64 a.facts[k].b] tF);clear qk1 qk2 rk1 lk1 q0 q1 q2;generalize (wr.alloc (.cells #[.bool a.facts[k].eq,.int .i64 a.facts[k].a,.int .i64 a.facts[k].b] tF))=V at kf of oa k1 k2 hK hB ⊢;have q1:=(hK.cell _).trans c1;have r:=hK.frozen;have HLEN:=ax (upto_length (Fct.sub x y) k a.facts);have HGET:=ax (upto_get (Fct.sub x y) k a.facts hlt)
   go_region_held3 (fun w'=>(∀ i,w'.cell? ⟨w1.heap.size,i,none⟩=#[.slice (some ⟨g,0,none⟩) a.facts.length d1,.slice G a.atoms.length d2][i]?)∧(∀ i,w'.cell? ⟨wr.heap.size,i,none⟩=#[.bool a.facts[k].eq,.int .i64 a.facts[k].a,.int .i64 a.facts[k].b][i]?))
    (exact ⟨Blk.cell blks,Blk.cell blks⟩)
    (first|(go_at_call 249;refine (c_replaceTerm _ _ _ _).mono ?_;rintro e w' ⟨rfl,rfl⟩))
   have of2:=FactsO.setA of (k:=k) (by rw[HLEN.o];exact hlt) (swp x y a.facts[k].a) (gs:=(upto (Fct.sub x y) k a.facts).set k ⟨a.facts[k].eq,swp x y a.facts[k].a,a.facts[k].b⟩) (by rw[HGET.o]);replace of:=of2.bz (w':=(V.setCell ⟨g,k * 3+1,none⟩ (.int .i64 (swp x y a.facts[k].a))).drew) bel;replace oa:=(AtomsO.setT oa hK (by decide) (k * 3+1) (.int .i64 (swp x y a.facts[k].a))).bz (w':=(V.setCell ⟨g,k * 3+1,none⟩ (.int .i64 (swp x y a.facts[k].a))).drew) bel;replace k1:=(k1.far (p:=⟨g,k * 3+1,none⟩) (Ne.symm hne1) (.int .i64 (swp x y a.facts[k].a))).drew;replace k2:=(k2.far (p:=⟨g,k * 3+1,none⟩) (Ne.symm hne) (.int .i64 (swp x y a.facts[k].a))).drew;replace kf:=(kf.far (p:=⟨g,k * 3+1,none⟩) (by simp only[];omega) (.int .i64 (swp x y a.facts[k].a))).drew;replace hK:=(hK.set_ (k * 3+1) (.int .i64 (swp x y a.facts[k].a))).drew;replace hB:=(hB.setCell (p:=⟨g,k * 3+1,none⟩) (by simp only[];omega) (.int .i64 (swp x y a.facts[k].a))).drew;clear of2 q1 r;(go_wp2_with fail);generalize (V.setCell ⟨g,k * 3+1,none⟩ (.int .i64 (swp x y a.facts[k].a))).drew=V2 at kf of oa k1 k2 hK hB ⊢;have q2:V2.cell? ⟨g,k * 3+2,none⟩=some (.int .i64 a.facts[k].b):=(hK.cell (k * 3+2)).trans (by rw[Array.getElem?_setIfInBounds_ne (by omega)];exact c2);have r:=hK.frozen
   go_region_held3 (fun w'=>(∀ i,w'.cell? ⟨w1.heap.size,i,none⟩=#[.slice (some ⟨g,0,none⟩) a.facts.length d1,.slice G a.atoms.length d2][i]?)∧(∀ i,w'.cell? ⟨wr.heap.size,i,none⟩=#[.bool a.facts[k].eq,.int .i64 a.facts[k].a,.int .i64 a.facts[k].b][i]?))
    (exact ⟨Blk.cell blks,Blk.cell blks⟩)
    (first|(go_at_call 249;refine (c_replaceTerm _ _ _ _).mono ?_;rintro e w' ⟨rfl,rfl⟩))
   have of2:=FactsO.setB of (k:=k) (by rw[List.length_set,HLEN.o];exact hlt) (swp x y a.facts[k].b) (gs:=(upto (Fct.sub x y) k a.facts).set k (Fct.sub x y a.facts[k])) (by simp[Fct.sub]);replace of:=of2.bz (w':=(V2.setCell ⟨g,k * 3+2,none⟩ (.int .i64 (swp x y a.facts[k].b))).drew) bel;replace oa:=(AtomsO.setT oa hK (by decide) (k * 3+2) (.int .i64 (swp x y a.facts[k].b))).bz (w':=(V2.setCell ⟨g,k * 3+2,none⟩ (.int .i64 (swp x y a.facts[k].b))).drew) bel;replace k1:=(k1.far (p:=⟨g,k * 3+2,none⟩) (Ne.symm hne1) (.int .i64 (swp x y a.facts[k].b))).drew;replace k2:=(k2.far (p:=⟨g,k * 3+2,none⟩) (Ne.symm hne) (.int .i64 (swp x y a.facts[k].b))).drew;replace hB:=(hB.setCell (p:=⟨g,k * 3+2,none⟩) (by simp only[];omega) (.int .i64 (swp x y a.facts[k].b))).drew;clear of2 q2 r hK kf;(go_wp2_with fail)
   go_round
   case rel=>exact ⟨k+1,by omega,by go_num,by rw[←upto_set _ _ _ hlt];exact of,oa,k1,k2,hB⟩
   case measure=>simp[intOf];omega
  ·obtain rfl:k=a.facts.length:=by omega
   rw[upto_full] at of;(go_wp2_with fail)
   go_loopw [46] (fun i wr=>∃ k:Nat,k≤a.atoms.length∧i=.int .i64 k∧FactsO wr (w.heap.size+1+1) (.slice F a.facts.length d1) (a.facts.map (Fct.sub x y))∧AtomsO wr (w.heap.size+1+1) (.slice G a.atoms.length d2) (upto (Atm.sub x y) k a.atoms)∧
     Blk wr (w.heap.size+1) 36 #[.slice none 0 0,.slice none 0 0]∧Blk wr w1.heap.size 36 #[.slice F a.facts.length d1,.slice G a.atoms.length d2]∧Below w.heap.size w wr) (fun i _=>a.atoms.length - (intOf i).toNat)
   case atStart=>exact ⟨0,Nat.zero_le _,rfl,of,by rw[upto_zero];exact oa,k1,k2,bel⟩
   case round=>
    clear k1 k2 of oa hB qk1 qk2 rk1 lk1;obtain ⟨k,hk,rfl,of,oa,k1,k2,hB⟩:=hrel;(replace qk1:=k1.cell;replace rk1:=k1.frozen;replace lk1:=k1.lt;replace qk2:=k2.z);by_cases hlt:k<a.atoms.length
    ·obtain ⟨g,cur,-,rfl,hg,hK,hsz,c0,c1,c2,-⟩:=oa.open_ (k:=k) (by rw[upto_length];exact hlt);rw[upto_get _ _ _ hlt] at c0 c1 c2;have q0:wr.cell? ⟨g,k * 3,none⟩=some (.int .i64 a.atoms[k].kind):=(hK.cell _).trans c0;have q1:wr.cell? ⟨g,k * 3+1,none⟩=some (.int .i64 a.atoms[k].a):=(hK.cell _).trans c1;have q2:wr.cell? ⟨g,k * 3+2,none⟩=some (.int .i64 a.atoms[k].b):=(hK.cell _).trans c2;have hgl:=hK.lt;have hk2l:=k2.lt;have hne:=Blk.ne_ hK k2 (by decide);have hne1:=Blk.ne_ hK k1 (by decide);have hz1:=hz;have hbw:=hB.size;(go_wp2_with fail);have kf:=Blk.new wr tA #[.int .i64 a.atoms[k].kind,.int .i64 a.atoms[k].a,.int .i64 a.atoms[k].b];replace oa:=oa.bz (w':=wr.alloc (.cells #[.int .i64 a.atoms[k].kind,.int .i64 a.atoms[k].a,.int .i64 a.atoms[k].b] tA)) bel;replace of:=of.bz (w':=wr.alloc (.cells #[.int .i64 a.atoms[k].kind,.int .i64 a.atoms[k].a,.int .i64 a.atoms[k].b] tA)) bel;replace k1:=k1.alloc (.cells #[.int .i64 a.atoms[k].kind,.int .i64 a.atoms[k].a,.int .i64 a.atoms[k].b] tA);replace k2:=k2.alloc (.cells #[.int .i64 a.atoms[k].kind,.int .i64 a.atoms[k].a,.int .i64 a.atoms[k].b] tA);replace hK:=hK.alloc (.cells #[.int .i64 a.atoms[k].kind,.int .i64 a.atoms[k].a,.int .i64 a.atoms[k].b] tA);replace hB:=bbox hB (.cells #[.int .i64 a.atoms[k].kind,.int .i64 a.atoms[k].a,.int .i64 a.atoms[k].b] tA);clear qk1 qk2 rk1 lk1 q0 q1 q2;generalize (wr.alloc (.cells #[.int .i64 a.atoms[k].kind,.int .i64 a.atoms[k].a,.int .i64 a.atoms[k].b] tA))=V at kf oa of k1 k2 hK hB ⊢;have q1:=(hK.cell _).trans c1;have r:=hK.frozen;have HLEN:=ax (upto_length (Atm.sub x y) k a.atoms);have HGET:=ax (upto_get (Atm.sub x y) k a.atoms hlt)
     go_region_held3 (fun w'=>(∀ i,w'.cell? ⟨w1.heap.size,i,none⟩=#[.slice F a.facts.length d1,.slice (some ⟨g,0,none⟩) a.atoms.length d2][i]?)∧(∀ i,w'.cell? ⟨wr.heap.size,i,none⟩=#[.int .i64 a.atoms[k].kind,.int .i64 a.atoms[k].a,.int .i64 a.atoms[k].b][i]?))
      (exact ⟨Blk.cell blks,Blk.cell blks⟩)
      (first|(go_at_call 249;refine (c_replaceTerm _ _ _ _).mono ?_;rintro e w' ⟨rfl,rfl⟩))
     have oa2:=AtomsO.setA oa (k:=k) (by rw[HLEN.o];exact hlt) (swp x y a.atoms[k].a) (gs:=(upto (Atm.sub x y) k a.atoms).set k ⟨a.atoms[k].kind,swp x y a.atoms[k].a,a.atoms[k].b⟩) (by rw[HGET.o]);replace oa:=oa2.bz (w':=(V.setCell ⟨g,k * 3+1,none⟩ (.int .i64 (swp x y a.atoms[k].a))).drew) bel;replace of:=(FactsO.setT of hK (by decide) (k * 3+1) (.int .i64 (swp x y a.atoms[k].a))).bz (w':=(V.setCell ⟨g,k * 3+1,none⟩ (.int .i64 (swp x y a.atoms[k].a))).drew) bel;replace k1:=(k1.far (p:=⟨g,k * 3+1,none⟩) (Ne.symm hne1) (.int .i64 (swp x y a.atoms[k].a))).drew;replace k2:=(k2.far (p:=⟨g,k * 3+1,none⟩) (Ne.symm hne) (.int .i64 (swp x y a.atoms[k].a))).drew;replace kf:=(kf.far (p:=⟨g,k * 3+1,none⟩) (by simp only[];omega) (.int .i64 (swp x y a.atoms[k].a))).drew;replace hK:=(hK.set_ (k * 3+1) (.int .i64 (swp x y a.atoms[k].a))).drew;replace hB:=(hB.setCell (p:=⟨g,k * 3+1,none⟩) (by simp only[];omega) (.int .i64 (swp x y a.atoms[k].a))).drew;clear oa2 q1 r;(go_wp2_with fail);generalize (V.setCell ⟨g,k * 3+1,none⟩ (.int .i64 (swp x y a.atoms[k].a))).drew=V2 at kf oa of k1 k2 hK hB ⊢;have q2:V2.cell? ⟨g,k * 3+2,none⟩=some (.int .i64 a.atoms[k].b):=(hK.cell (k * 3+2)).trans (by rw[Array.getElem?_setIfInBounds_ne (by omega)];exact c2);have r:=hK.frozen
     go_region_held3 (fun w'=>(∀ i,w'.cell? ⟨w1.heap.size,i,none⟩=#[.slice F a.facts.length d1,.slice (some ⟨g,0,none⟩) a.atoms.length d2][i]?)∧(∀ i,w'.cell? ⟨wr.heap.size,i,none⟩=#[.int .i64 a.atoms[k].kind,.int .i64 a.atoms[k].a,.int .i64 a.atoms[k].b][i]?))
      (exact ⟨Blk.cell blks,Blk.cell blks⟩)
      (first|(go_at_call 249;refine (c_replaceTerm _ _ _ _).mono ?_;rintro e w' ⟨rfl,rfl⟩))
     have oa2:=AtomsO.setB oa (k:=k) (by rw[List.length_set,HLEN.o];exact hlt) (swp x y a.atoms[k].b) (gs:=(upto (Atm.sub x y) k a.atoms).set k (Atm.sub x y a.atoms[k])) (by simp[Atm.sub]);replace oa:=oa2.bz (w':=(V2.setCell ⟨g,k * 3+2,none⟩ (.int .i64 (swp x y a.atoms[k].b))).drew) bel;replace of:=(FactsO.setT of hK (by decide) (k * 3+2) (.int .i64 (swp x y a.atoms[k].b))).bz (w':=(V2.setCell ⟨g,k * 3+2,none⟩ (.int .i64 (swp x y a.atoms[k].b))).drew) bel;replace k1:=(k1.far (p:=⟨g,k * 3+2,none⟩) (Ne.symm hne1) (.int .i64 (swp x y a.atoms[k].b))).drew;replace k2:=(k2.far (p:=⟨g,k * 3+2,none⟩) (Ne.symm hne) (.int .i64 (swp x y a.atoms[k].b))).drew;replace hB:=(hB.setCell (p:=⟨g,k * 3+2,none⟩) (by simp only[];omega) (.int .i64 (swp x y a.atoms[k].b))).drew;clear oa2 q2 r hK kf;(go_wp2_with fail)
     go_round
     case rel=>exact ⟨k+1,by omega,by go_num,of,by rw[←upto_set _ _ _ hlt];exact oa,k1,k2,hB⟩
     case measure=>simp[intOf];omega
    ·obtain rfl:k=a.atoms.length:=by omega
     rw[upto_full] at oa;(go_wp2_with fail);refine bodyPost_ret (v:=.agg #[.slice F a.facts.length d1,.slice G a.atoms.length d2]) (by simp[results,Tryz.results239,go_sem,qk1]) rfl ⟨_,rfl,⟨_,_,rfl,?_,?_⟩,bel⟩
     ·exact ((of.setT k1 (by decide) _ _).setT (k1.set_ _ _) (by decide) _ _).lower (by omega)
     ·exact ((oa.setT k1 (by decide) _ _).setT (k1.set_ _ _) (by decide) _ _).lower (by omega)
abbrev tFg:Nat:=233
theorem forget_has {a:Asn} {x:Int} {K:Nat} (h:(tset (termsL a)).testBit x.toNat=false):forgetF a x K=some (a,x):=by unfold forgetF;rw[h];rfl
theorem forget_none {a:Asn} {x:Int} {K:Nat} (h:(tset (termsL a)).testBit x.toNat=true) (hn:newT (tset (termsL a)|||K)=none):forgetF a x K=none:=by unfold forgetF;rw[h,hn];rfl
theorem forget_some {a:Asn} {x:Int} {K n:Nat} (h:(tset (termsL a)).testBit x.toNat=true) (hn:newT (tset (termsL a)|||K)=some n):forgetF a x K=some (substA x (n:Int) a,(n:Int)):=by unfold forgetF;rw[h,hn];rfl
theorem AsnO.setT4 {w:World} {base:Nat} {v:Value} {a:Asn} (h:AsnO w base v a) {g:Nat} {cs:Array Value} (hk:Blk w g tFg cs) (u0 u1 u2 u3:Value):AsnO ((((w.setCell ⟨g,0,none⟩ u0).setCell ⟨g,1,none⟩ u1).setCell ⟨g,2,none⟩ u2).setCell ⟨g,3,none⟩ u3) base v a:=by
 obtain ⟨fv,av,e,p1,p2⟩:=h;have k1:=hk.set_ 0 u0;have k2:=k1.set_ 1 u1;have k3:=k2.set_ 2 u2;exact ⟨fv,av,e,(((p1.setT hk (by decide) _ _).setT k1 (by decide) _ _).setT k2 (by decide) _ _).setT k3 (by decide) _ _,(((p2.setT hk (by decide) _ _).setT k1 (by decide) _ _).setT k2 (by decide) _ _).setT k3 (by decide) _ _⟩
def FgR (w:World) (base:Nat) (x:Int) (o:Option (Asn×Int)) (e:Ending):Prop:=match o with
 | none=>e=.returned (.tuple #[.agg #[.slice none 0 0,.slice none 0 0,.int .i64 0,.int .i64 0],.bool false])
 | some (b,p)=>∃ F f G g,e=.returned (.tuple #[.agg #[.slice F b.facts.length f,.slice G b.atoms.length g,.int .i64 x,.int .i64 p],.bool true])∧AsnO w base (.agg #[.slice F b.facts.length f,.slice G b.atoms.length g]) b
theorem c_impl_forget {lo hi:Nat} (v:Value) (a:Asn) (x:Int) (K:Nat) (w:World) (h:AsnV w lo hi v a) (hK:K<512) (hx:isTermB x=true) :
  Calls Tryz.prog 208 #[v,.int .i64 x,.int .u16 K] w fun e w'=>FgR w' w.heap.size x (forgetF a x K) e∧Below w.heap.size w w':=by
 have hV:=ax h;obtain ⟨A1,c1,A2,c2,rfl,-,-⟩:=h;have HT:=ax (tset_lt (termsL a));(go_enter Tryz.func208,Tryz.ntmps208);have k0:Blk ((w.alloc (.cells #[.slice A1 a.facts.length c1,.slice A2 a.atoms.length c2] tAs)).alloc (.cells #[.slice none 0 0,.slice none 0 0,.int .i64 0,.int .i64 0] tFg)) w.heap.size tAs #[.slice A1 a.facts.length c1,.slice A2 a.atoms.length c2]:=blks;have k6:Blk ((w.alloc (.cells #[.slice A1 a.facts.length c1,.slice A2 a.atoms.length c2] tAs)).alloc (.cells #[.slice none 0 0,.slice none 0 0,.int .i64 0,.int .i64 0] tFg)) (w.heap.size+1) tFg #[.slice none 0 0,.slice none 0 0,.int .i64 0,.int .i64 0]:=blks;(go_wp2_with fail);refine (c_impl_termsIn _ a _ (hV.o.bz bel)).mono ?_;rintro e w1 ⟨rfl,hB1⟩;have hB:=bgo (w:=w) bel hB1;replace k0:=k0.nz hB1;replace k6:=k6.nz hB1;clear hB1;(go_wp2_with fail);refine (c_impl_tHas _ x _ HT.o).mono ?_;rintro e w2 ⟨rfl,rfl⟩;rw[hx,Bool.true_and];have hz:=hB.size;cases hb:(tset (termsL a)).testBit x.toNat
 ·have E:=ax (forget_has (K:=K) hb);clear hb;(replace qk0:=k0.z);(go_wp2_with fail);refine (c_impl_copyAssertion _ a _ (hV.o.bz bel)).mono ?_;rintro e w3 ⟨r,rfl,oC,hB3⟩;obtain ⟨F,f,G,g,rfl⟩:=oC.I.form;have OC:=ax oC;(replace hB:=bgo hB hB3;replace k6:=k6.nz hB3);clear oC hB3 k0 qk0;(replace qk6:=k6.cell;replace rk6:=k6.frozen;replace lk6:=k6.lt);(go_wp2_with fail);have z6:=k6.cell;refine bodyPost_ret (v:=.tuple #[.agg #[.slice F a.facts.length f,.slice G a.atoms.length g,.int .i64 x,.int .i64 x],.bool true]) (by simp[results,Tryz.results208,go_sem,z6]) rfl ⟨?_,?_⟩
  ·rw[E.o];refine ⟨F,f,G,g,rfl,?_⟩;exact (AsnO.setT4 OC.o k6 _ _ _ _).lower (by omega)
  ·exact bel
 ·have HBT:=ax hb;clear hb;(replace qk0:=k0.z);(go_wp2_with fail);refine (c_impl_newVariable _ a K _ (hV.o.bz bel) hK).mono ?_;rintro e w3 ⟨rfl,hB3⟩;(replace hB:=bgo hB hB3;replace k0:=k0.nz hB3;replace qk0:=k0.z;replace k6:=k6.nz hB3);clear hB3;have hz3:=hB.size
  cases hn:newT (tset (termsL a)|||K) with
  | none=>
   have E:=ax (forget_none HBT.o hn);clear hn;(replace qk6:=k6.cell;replace rk6:=k6.frozen;replace lk6:=k6.lt);(go_wp2_with fail);refine bodyPost_ret (v:=.tuple #[.agg #[.slice none 0 0,.slice none 0 0,.int .i64 0,.int .i64 0],.bool false]) (by simp[results,Tryz.results208,go_sem,qk6]) rfl ⟨?_,?_⟩
   ·rw[E.o];rfl
   ·exact bel
  | some n=>
   have E:=ax (forget_some HBT.o hn);have EN:unusedI (tset (termsL a)|||K)=(n:Int):=by unfold unusedI;rw[hn]
   rw[EN];clear hn EN;(go_wp2_with fail);refine (c_impl_replaceIn _ a x (n:Int) _ (hV.o.bz bel)).mono ?_;rintro e w4 ⟨r,rfl,oC,hB4⟩;obtain ⟨F,f,G,g,rfl⟩:=oC.I.form;have OC:=ax oC;(replace hB:=bgo hB hB4;replace k6:=k6.nz hB4);clear oC hB4 k0 qk0;(replace qk6:=k6.cell;replace rk6:=k6.frozen;replace lk6:=k6.lt);(go_wp2_with fail);refine bodyPost_ret (v:=.tuple #[.agg #[.slice F (substA x (n:Int) a).facts.length f,.slice G (substA x (n:Int) a).atoms.length g,.int .i64 x,.int .i64 n],.bool true]) (by simp[results,Tryz.results208,go_sem,qk6]) rfl ⟨?_,?_⟩
   ·rw[E.o];refine ⟨F,f,G,g,rfl,?_⟩;exact (AsnO.setT4 OC.o k6 _ _ _ _).lower (by omega)
   ·exact bel
end
section
open Go Go.RowKit Go.Proofs
def Cms.one:Cms→Nat→Cms
 | .nil,_=>.nil
 | .cons k a b t i body els _,0=>.cons k a b t i body els .nil
 | .cons _ _ _ _ _ _ _ r,n+1=>r.one n
section
variable {w:World} {lo hi:Nat}
theorem CmsAt.one:∀ {L:Cms} {bl o:Nat} (n:Nat),CmsAt w lo hi L bl o→CmsAt w lo hi (L.one n) bl (o+n * 10)
 | .nil,_,_,_,h=>trivial
 | .cons k a b t i body els r,bl,o,0,h=>by
  rw[Nat.zero_mul,Nat.add_zero];exact ⟨h.1,h.2.1,h.2.2.1,h.2.2.2.1,h.2.2.2.2.1,trivial⟩
 | .cons k a b t i body els r,bl,o,n+1,h=>by
  have:=CmsAt.one n h.2.2.2.2.2
  rwa [show o+10+n * 10=o+(n+1) * 10 from by omega] at this
end
theorem fold_ls_bit:∀ (L:Cms) (S n:Nat),(L.fold lsF S).testBit n=(S.testBit n || (L.fold lsF 0).testBit n)
 | .nil,S,n=>by simp[Cms.fold]
 | .cons k a b t i body els r,S,n=>by
  simp only[Cms.fold];rw[fold_ls_bit r,fold_ls_bit els,fold_ls_bit body,fold_ls_bit r (els.fold lsF _),fold_ls_bit els (body.fold lsF (lsF 0 k a b t i)),fold_ls_bit body (lsF 0 k a b t i)];unfold lsF;rw[foldl_tsup_bit,foldl_tsup_bit];simp[Bool.or_assoc]
end
end Go.Proofs.YtgdfdmjnadnlnaaGreat
