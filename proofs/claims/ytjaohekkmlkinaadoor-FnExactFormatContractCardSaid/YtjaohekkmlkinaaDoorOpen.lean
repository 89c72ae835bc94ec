/- Arguments opened: what can be read as data reads as plain lists. -/
import Derived.Test.YtjaohekkmlkinaaDoorProg
import Derived.Test.YtjaohekkmlkinaaDoorDef
import Derived.ProofKit
import Derived.OpenShut
import Derived.Deep.Slices
import Derived.ChangeSame
set_option linter.unusedSimpArgs false
set_option linter.unusedVariables false
set_option maxRecDepth 100000
set_option maxHeartbeats 25600000
namespace Go.Proofs.YtjaohekkmlkinaaDoor
section
open Go Go.RowKit Go.Proofs Go.ChangeShapes Go.WideShapes Go.ChangeAt Go.Deep
theorem flat_at {α:Type} (e:α→List Value) (size:Nat) (hs:∀ a,(e a).length=size):∀ (xs:List α) (j:Nat) (u:Value),(xs.flatMap e)[j]? = some u→∃ i r,∃ h:i<xs.length,r<size∧j=i * size+r∧(e xs[i])[r]? = some u:=by
 intro xs
 induction xs with
 | nil=>intro j u h;simp at h
 | cons x xs ih=>
  intro j u h;rw[List.flatMap_cons,List.getElem?_append] at h
  split at h
  ·rename_i hj;exact ⟨0,j,by simp,by rw[hs] at hj;exact hj,by omega,h⟩
  ·rename_i hj;rw[hs] at h hj;obtain ⟨i,r,hi,hr,he,hx⟩:=ih _ _ h;exact ⟨i+1,r,by simp;omega,hr,by rw[Nat.add_mul];omega,by simpa using hx⟩
theorem flat_len {α:Type} (e:α→List Value) (size:Nat) (hs:∀ a,(e a).length=size) (xs:List α):(xs.flatMap e).length=xs.length * size:=by
 induction xs with
 | nil=>simp
 | cons x xs ih=>rw[List.flatMap_cons,List.length_append,ih,hs,List.length_cons,Nat.add_mul];omega
theorem form2 {α:Type} {l:List α} (h:l.length=2):∃ a b,l=[a,b]:=by
 match l,h with
 | [a,b],_=>exact ⟨a,b,rfl⟩
theorem form3 {α:Type} {l:List α} (h:l.length=3):∃ a b c,l=[a,b,c]:=by
 match l,h with
 | [a,b,c],_=>exact ⟨a,b,c,rfl⟩
theorem form5 {α:Type} {l:List α} (h:l.length=5):∃ a b c d e,l=[a,b,c,d,e]:=by
 match l,h with
 | [a,b,c,d,e],_=>exact ⟨a,b,c,d,e,rfl⟩
theorem none_of_cell {w:World} {a:Addr} {v:Value} (h:w.cell? a=some v):a.spot=none:=by
 unfold World.cell? at h
 split at h
 ·split at h
  ·cases h
  ·rename_i h2;cases hs:a.spot<;>simp_all
 ·cases h
section
variable {H:Type} {enc:TypeId×Value→H} {P:Program} {w:World} {base:Nat} {spare:Nat→Bool} {held:Bool}
theorem tr_slice {α:Type} [Inhabited α] {t e:TypeId} {fuel:Nat} {cs:List Value} {x:DataW H×List MemPlace} (en:α→List Value) (size:Nat) (hs:∀ a,(en a).length=size) (hsz:0<size) (he:P.cellsOf e=size)
  (ht:P.underlying t=some (.slice e)) (hel:∀ n cs x,DataW.trod enc P w base spare held n e cs=some x→∃ a,cs=en a) (h:DataW.trod enc P w base spare held fuel t cs=some x) :
  ∃ (A:Option Addr) (c:Nat) (xs:List α),cs=[.slice A xs.length c]∧xs.length≤9223372036854775807∧Rw w 0 w.heap.size size A xs.length (xs.flatMap en):=by
 rcases open_slice ht h with ⟨rfl,_⟩|⟨a,len,cap,m,n,D,Pl,rfl,hb,hl,hm,hmm,_,hx⟩
 ·exact ⟨none,0,[],rfl,by simp,by simp,fun h=>by simp at h⟩
 ·have hlm:len≤m:=by rw[hmm];split<;>omega
  obtain ⟨f,hf⟩:=choose_lt (α:=α) (n:=len) (p:=fun i a'=>w.cells? base (a.add (i * size)) size=some (en a')) (fun i hi=>by
   obtain ⟨cs',h1,h2⟩:=hx i (by omega);obtain ⟨a',rfl⟩:=hel _ _ _ h2;rw[he] at h1
   exact ⟨a',h1⟩)
  refine ⟨some a,cap,(List.range len).map f,by simp,by simp;unfold maxLen at hm;omega,?_,fun hn=>?_⟩
  ·rw[flat_len en size hs]
  ·have hn':0<len:=by
    rcases Nat.eq_zero_or_pos len with h0|h0
    ·subst h0;simp at hn
    ·exact h0
   have hcell:∀ i,i<len→∀ j,j<size→w.cell? ((a.add (i * size)).add j)=(en (f i))[j]?:=fun i hi j hj=>(World.cells?_some (hf i hi)).2.2 j hj;have h00:=hcell 0 hn' 0 hsz;have hx0:(en (f 0))[0]? = some ((en (f 0))[0]'(by rw[hs];exact hsz)):=List.getElem?_eq_getElem _;rw[hx0,Nat.zero_mul] at h00;have e0:(a.add 0).add 0=a:=by simp[Addr.add]
   rw[e0] at h00;have hsp:=none_of_cell h00;obtain ⟨b,o,s⟩:=a;simp only at hsp;subst hsp;refine ⟨b,o,rfl,Nat.zero_le _,World.block_lt_of_cell? w _ h00,fun j u hu=>?_⟩;obtain ⟨i,r,hi,hr,rfl,hu2⟩:=flat_at en size hs _ _ _ hu;have hi':i<len:=by simpa using hi
   have hc:=hcell i hi' r hr
   have ea:((⟨b,o,none⟩:Addr).add (i * size)).add r=⟨b,o+(i * size+r),none⟩:=by
    rw[Go.Deep.add_add];unfold Addr.add;split
    ·rename_i h0;rw[h0];rfl
    ·rfl
   rw[ea] at hc;rw[hc];simpa using hu2
theorem tr_struct {t:TypeId} {fs:Array Field} {fuel:Nat} {cs:List Value} {x:DataW H×List MemPlace} (ht:P.underlying t=some (.struct fs)) (h:DataW.trod enc P w base spare held fuel t cs=some x) :
  cs.length=P.cellsOf t∧∀ (i:Nat) (f:Field),fs[i]? = some f→∃ n y,DataW.trod enc P w base spare held n f.type ((cs.drop f.offset).take (P.cellsOf f.type))=some y:=by
 obtain ⟨xs,n,_,_,hl,hlen,hf⟩:=DataW.trod_struct ht h;refine ⟨hl,fun i f hi=>?_⟩;have hlt:i<xs.length:=by rw[hlen];exact (Array.getElem?_eq_some_iff.1 hi).1
 exact ⟨n,_,(hf i f hi).trans (List.getElem?_eq_getElem hlt)⟩
theorem tr_struct2 {t:TypeId} {f0 f1:Field} {fuel:Nat} {cs:List Value} {x:DataW H×List MemPlace} (ht:P.underlying t=some (.struct #[f0,f1])) (h:DataW.trod enc P w base spare held fuel t cs=some x) :
  cs.length=P.cellsOf t∧(∃ n y,DataW.trod enc P w base spare held n f0.type ((cs.drop f0.offset).take (P.cellsOf f0.type))=some y)∧(∃ n y,DataW.trod enc P w base spare held n f1.type ((cs.drop f1.offset).take (P.cellsOf f1.type))=some y):=by
 obtain ⟨hl,hf⟩:=tr_struct ht h;exact ⟨hl,hf 0 f0 rfl,hf 1 f1 rfl⟩
theorem tr_struct3 {t:TypeId} {f0 f1 f2:Field} {fuel:Nat} {cs:List Value} {x:DataW H×List MemPlace} (ht:P.underlying t=some (.struct #[f0,f1,f2])) (h:DataW.trod enc P w base spare held fuel t cs=some x) :
  cs.length=P.cellsOf t∧(∃ n y,DataW.trod enc P w base spare held n f0.type ((cs.drop f0.offset).take (P.cellsOf f0.type))=some y)∧(∃ n y,DataW.trod enc P w base spare held n f1.type ((cs.drop f1.offset).take (P.cellsOf f1.type))=some y)∧(∃ n y,DataW.trod enc P w base spare held n f2.type ((cs.drop f2.offset).take (P.cellsOf f2.type))=some y):=by
 obtain ⟨hl,hf⟩:=tr_struct ht h;exact ⟨hl,hf 0 f0 rfl,hf 1 f1 rfl,hf 2 f2 rfl⟩
end
section
variable {H:Type} {enc:TypeId×Value→H} {w:World} {base:Nat} {spare:Nat→Bool} {held:Bool} {fuel:Nat} {cs:List Value} {x:DataW H×List MemPlace}
theorem cells_int:Tryd.prog.cellsOf 3=1:=by kernel_rfl
theorem cells_bool:Tryd.prog.cellsOf 4=1:=by kernel_rfl
theorem tr_int (h:DataW.trod enc Tryd.prog w base spare held fuel 3 cs=some x):∃ n,cs=[.int .i64 n]∧-9223372036854775808≤n∧n≤9223372036854775807:=by
 obtain ⟨n,e,_,hw⟩:=DataW.trod_int Tryd.underlying3 h;refine ⟨n,e,?_⟩;simp[Lit.wf,IntKind.min,IntKind.max,IntKind.signed,IntKind.bits] at hw;omega
theorem tr_bool (h:DataW.trod enc Tryd.prog w base spare held fuel 4 cs=some x):∃ n,cs=[.bool n]:=by
 obtain ⟨n,e,_⟩:=DataW.trod_bool Tryd.underlying4 h;exact ⟨n,e⟩
theorem tr_ints (h:DataW.trod enc Tryd.prog w base spare held fuel 32 cs=some x):∃ (A:Option Addr) (c:Nat) (xs:List Int),cs=[.slice A xs.length c]∧IntsR w A xs:=by
 obtain ⟨A,c,xs,e,hl,hr⟩:=tr_slice (fun n:Int=>[Value.int .i64 n]) 1 (fun _=>rfl) (by omega) cells_int Tryd.underlying32 (fun n cs x h=>by obtain ⟨n,e,_⟩:=tr_int h;exact ⟨n,e⟩) h;refine ⟨A,c,xs,e,?_,hl⟩;have:xs.flatMap (fun n=>[Value.int .i64 n])=encI xs:=by clear hr hl e;induction xs with|nil=>rfl|cons x xs ih=>rw[List.flatMap_cons,ih];rfl
 rwa [this] at hr
theorem cells_lFact:Tryd.prog.cellsOf 138=3:=by kernel_rfl
theorem tr_fact (h:DataW.trod enc Tryd.prog w base spare held fuel 138 cs=some x):∃ f:Fct,cs=[.bool f.eq,.int .i64 f.a,.int .i64 f.b]:=by
 obtain ⟨hl,⟨n0,y0,h0⟩,⟨n1,y1,h1⟩,⟨n2,y2,h2⟩⟩:=tr_struct3 Tryd.underlying138 h;rw[cells_lFact] at hl;obtain ⟨a,b,c,rfl⟩:=form3 hl;simp only[cells_int,cells_bool,List.drop_succ_cons,List.drop_zero,List.take_succ_cons,List.take_zero] at h0 h1 h2;obtain ⟨b0,e0⟩:=tr_bool h0;obtain ⟨i1,e1,_⟩:=tr_int h1;obtain ⟨i2,e2,_⟩:=tr_int h2;exact ⟨⟨b0,i1,i2⟩,by simp_all⟩
theorem cells_lAtom:Tryd.prog.cellsOf 140=3:=by kernel_rfl
theorem tr_atom (h:DataW.trod enc Tryd.prog w base spare held fuel 140 cs=some x):∃ f:Atm,cs=[.int .i64 f.kind,.int .i64 f.a,.int .i64 f.b]:=by
 obtain ⟨hl,⟨n0,y0,h0⟩,⟨n1,y1,h1⟩,⟨n2,y2,h2⟩⟩:=tr_struct3 Tryd.underlying140 h;rw[cells_lAtom] at hl;obtain ⟨a,b,c,rfl⟩:=form3 hl;simp only[cells_int,List.drop_succ_cons,List.drop_zero,List.take_succ_cons,List.take_zero] at h0 h1 h2;obtain ⟨b0,e0,_⟩:=tr_int h0;obtain ⟨i1,e1,_⟩:=tr_int h1;obtain ⟨i2,e2,_⟩:=tr_int h2;exact ⟨⟨b0,i1,i2⟩,by simp_all⟩
theorem tr_facts (h:DataW.trod enc Tryd.prog w base spare held fuel 39 cs=some x):∃ (A:Option Addr) (c:Nat) (xs:List Fct),cs=[.slice A xs.length c]∧FactsR w A xs:=by
 obtain ⟨A,c,xs,e,hl,hr⟩:=tr_slice (fun f:Fct=>[.bool f.eq,.int .i64 f.a,.int .i64 f.b]) 3 (fun _=>rfl) (by omega) cells_lFact Tryd.underlying39 (fun n cs x h=>tr_fact h) h;exact ⟨A,c,xs,e,hr,hl⟩
theorem tr_atoms (h:DataW.trod enc Tryd.prog w base spare held fuel 40 cs=some x):∃ (A:Option Addr) (c:Nat) (xs:List Atm),cs=[.slice A xs.length c]∧AtomsR w A xs:=by
 obtain ⟨A,c,xs,e,hl,hr⟩:=tr_slice (fun f:Atm=>[.int .i64 f.kind,.int .i64 f.a,.int .i64 f.b]) 3 (fun _=>rfl) (by omega) cells_lAtom Tryd.underlying40 (fun n cs x h=>tr_atom h) h;exact ⟨A,c,xs,e,hr,hl⟩
theorem cells_lAsn:Tryd.prog.cellsOf 42=2:=by kernel_rfl
theorem cells_lFacts:Tryd.prog.cellsOf 39=1:=by kernel_rfl
theorem cells_lAtoms:Tryd.prog.cellsOf 40=1:=by kernel_rfl
theorem tr_asn (h:DataW.trod enc Tryd.prog w base spare held fuel 42 cs=some x):∃ (a:Asn) (A1:Option Addr) (c1:Nat) (A2:Option Addr) (c2:Nat),cs=[.slice A1 a.facts.length c1,.slice A2 a.atoms.length c2]∧FactsR w A1 a.facts∧AtomsR w A2 a.atoms:=by
 obtain ⟨hl,⟨n0,y0,h0⟩,⟨n1,y1,h1⟩⟩:=tr_struct2 Tryd.underlying42 h;rw[cells_lAsn] at hl;obtain ⟨a,b,rfl⟩:=form2 hl;simp only[cells_lFacts,cells_lAtoms,List.drop_succ_cons,List.drop_zero,List.take_succ_cons,List.take_zero] at h0 h1;obtain ⟨A1,c1,xs,e1,g1⟩:=tr_facts h0;obtain ⟨A2,c2,ys,e2,g2⟩:=tr_atoms h1;exact ⟨⟨xs,ys⟩,A1,c1,A2,c2,by simp_all,g1,g2⟩
theorem cells_lCtr:Tryd.prog.cellsOf 44=5:=by kernel_rfl
theorem cells_ints:Tryd.prog.cellsOf 32=1:=by kernel_rfl
theorem tr_ctr (h:DataW.trod enc Tryd.prog w base spare held fuel 44 cs=some x):∃ k:Ctr,CtrR w (.agg cs.toArray) k:=by
 obtain ⟨hl,⟨n0,y0,h0⟩,⟨n1,y1,h1⟩,⟨n2,y2,h2⟩⟩:=tr_struct3 Tryd.underlying44 h;rw[cells_lCtr] at hl;obtain ⟨a,b,c,d,e,rfl⟩:=form5 hl;simp only[cells_lAsn,cells_ints,List.drop_succ_cons,List.drop_zero,List.take_succ_cons,List.take_zero] at h0 h1 h2;obtain ⟨k1,A1,c1,A2,c2,e1,g1,g2⟩:=tr_asn h0;obtain ⟨k2,A3,c3,A4,c4,e2,g3,g4⟩:=tr_asn h1;obtain ⟨A5,c5,zs,e3,g5⟩:=tr_ints h2;exact ⟨⟨k1,k2,zs⟩,A1,c1,A2,c2,A3,c3,A4,c4,A5,c5,by simp_all,g1,g2,g3,g4,g5⟩
end
theorem open_ctr {H:Type} {enc:TypeId×Value→H} {w:World} {v:Value} {d:DataW H} {p:List MemPlace} (hv:Value.okWide Tryd.prog w .any 0 44 v) (h:DataW.Trod enc Tryd.prog w 0 (fun _=>true) true 44 v d p):∃ k:Ctr,CtrR w v k:=by
 obtain ⟨cs,rfl,_⟩:=okWide_struct Tryd.underlying44 hv;obtain ⟨fuel,hf⟩:=h;have:=tr_ctr hf;simpa[Value.cells] using this
end
end Go.Proofs.YtjaohekkmlkinaaDoor
