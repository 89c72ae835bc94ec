/- Contracts: impl's cases as an iterator value; the first case. -/
import Derived.Test.YtjaohekkmlkinaaGreatMaExt
import Derived.Test.YtjaohekkmlkinaaGreatMaCaseF
import Derived.Test.YtjaohekkmlkinaaGreatMaKit
import Derived.Deep.RegionHeld3
set_option linter.unusedSimpArgs false
set_option linter.unusedVariables false
set_option maxRecDepth 100000
set_option maxHeartbeats 25600000
namespace Go.Proofs.YtjaohekkmlkinaaGreat
section
open Go Go.RowKit Go.Proofs
attribute [local go_sem ↓] Go.wp_at_zero Go.wp_at_succ
attribute [local go_sem] Oper.semAt_some
abbrev tTS:Nat:=100
def caseS (a:Asn) (F:Nat):Nat:=tins (tset (mz a)) 0|||F
theorem caseS_lt {a:Asn} {F:Nat} (h:F<512):caseS a F<512:=Nat.or_lt_two_pow (n:=9) (tins_lt (tset_lt _) 0) h
theorem caseS_bit (a:Asn) (F n:Nat):(caseS a F).testBit n=(decide (jq (n:Int)=true∧(n:Int)∈mz a) || decide (n=0) || F.testBit n):=by
 unfold caseS;rw[Nat.testBit_or,tins_bit,tset_bit]
 congr 2
 rw[decide_eq_decide];constructor
 ·rintro ⟨_,h⟩;omega
 ·intro h;subst h;exact ⟨by decide,rfl⟩
theorem caseS_zero (a:Asn) (F:Nat):(caseS a F).testBit 0=true:=by rw[caseS_bit];simp
theorem caseS_terms {a:Asn} (h:a.valid=true) (F:Nat):∀ t∈mz a,(caseS a F).testBit t.toNat=true:=by
 intro t ht;have hb:=termsL_ok h t ht;have:=zjA.1 hb;rw[caseS_bit];have e:((t.toNat:Nat):Int)=t:=by omega
 rw[e];simp[hb,ht]
theorem caseS_not {a:Asn} (h:a.valid=true) (F:Nat):∀ t:Nat,(caseS a F).testBit t=false→(∀ f∈a.facts,f.a≠t∧f.b≠t)∧(∀ x∈a.atoms,x.a≠t∧x.b≠t):=by
 intro t ht
 have key:(t:Int)∉mz a:=fun hm=>by
  have:=caseS_terms h F _ hm;rw[Int.toNat_natCast,ht] at this;cases this
 refine ⟨fun f hf=>⟨fun e=>key ?_,fun e=>key ?_⟩,fun x hx=>⟨fun e=>key ?_,fun e=>key ?_⟩⟩
 all_goals simp only[mz,List.mem_append,List.mem_flatMap]
 ·exact Or.inl ⟨f,hf,by simp[factT,e]⟩
 ·exact Or.inl ⟨f,hf,by simp[factT,e]⟩
 ·exact Or.inr ⟨x,hx,by simp[atomT,e]⟩
 ·exact Or.inr ⟨x,hx,by simp[atomT,e]⟩
theorem ext_caseS {a:Asn} (h:a.valid=true) (F:Nat):ext a (caseS a F) 9 zeros=cases a (caseS a F):=ext_cases (Asn.valid_ok h).1 (Asn.valid_ok h).2 (caseS_not h F)
theorem c_seq {a:Asn} {F lo hi n₀ gA gT:Nat} {A1 A2:Option Addr} {d1 d2:Nat} (w:World) (hv:a.valid=true) (hF:F<512) (hA:AsnV w lo hi (.agg #[.slice A1 a.facts.length d1,.slice A2 a.atoms.length d2]) a) (hhi:hi≤n₀) (hn:n₀≤w.heap.size)
  (kA:Blk w gA tAs #[.slice A1 a.facts.length d1,.slice A2 a.atoms.length d2]) (kT:Blk w gT tTS #[.int .u16 (caseS a F:Nat)]) :
  SeqT (α:=CaseT a (caseS a F)) Tryz.prog 201 #[.pointer (some ⟨gA,0,none⟩),.pointer (some ⟨gT,0,none⟩)] (fun x=>#[.agg (case9 x.1)]) tTc (Kept tTc tAs n₀) (fun p=>p.map Subtype.val <+: cases a (caseS a F)) (fun xs=>xs.map Subtype.val=cases a (caseS a F)) (fun pre=>pre.map Subtype.val <+: cases a (caseS a F)) w:=by
 intro n l J Jx W hW hJ hJx hY h0;have kA':=kA.nz hW;have kT':=kT.nz hW;have hA':=hA.bz hW;have hz:=hW.size;have hB1:Below W.heap.size W (W.alloc (.cells (case9 zeros) tTc)):=bel;have h1:=c_impl_extend hv (caseS_lt hF) (caseS_terms hv F) hhi J Jx hJ hY 9 zeros [] _ (by omega) rfl (by rw[ext_caseS hv];simp) (fun j hj=>by omega) (hA'.bz hB1) hB1.size (by have:=hB1.size;omega) (hJ.nz h0 hB1);rw[show ((9 - 9:Nat):Int)=0 from rfl,ext_caseS hv] at h1;have H1:=ax h1;have lA:=kA'.lt;have lT:=kT'.lt;have qA:=kA'.cell;have qT:=kT'.cell;clear h1 hY hJ hJx h0 hA' hA;refine callsIn_wide.2 ?_;(go_enter Tryz.func201,Tryz.ntmps201);(go_wp2_with fail);refine H1.o.mono ?_;rintro e W' (⟨rfl,ys,y1,y2,-⟩|⟨rfl,ys,y1,y2⟩)
 ·have Y:=ax (⟨y1,y2⟩:_∧_);clear y1 y2;(go_wp2_with fail)
  go_end0
  exact ⟨⟨_,rfl⟩,.inl ⟨ys,Y.o.1,Y.o.2⟩⟩
 ·have Y:=ax (⟨y1,y2⟩:_∧_);clear y1 y2;(go_wp2_with fail)
  go_end0
  exact ⟨⟨_,rfl⟩,.inr ⟨ys,Y.o.1,Y.o.2⟩⟩
theorem c_impl_possibleCases {lo hi:Nat} (A1 A2:Option Addr) (d1 d2:Nat) (a:Asn) (F:Nat) (w:World) (h:AsnV w lo hi (.agg #[.slice A1 a.facts.length d1,.slice A2 a.atoms.length d2]) a) (hF:F<512) :
  Calls Tryz.prog 152 #[.agg #[.slice A1 a.facts.length d1,.slice A2 a.atoms.length d2],.int .u16 (F:Nat)] w fun e w'=>∃ gA gT,e=.returned (.func (.func 201) #[] #[.pointer (some ⟨gA,0,none⟩),.pointer (some ⟨gT,0,none⟩)])∧
   w.heap.size≤gA∧w.heap.size≤gT∧Blk w' gA tAs #[.slice A1 a.facts.length d1,.slice A2 a.atoms.length d2]∧Blk w' gT tTS #[.int .u16 (caseS a F:Nat)]∧Below w.heap.size w w':=by
 have hV:=ax h;clear h;have hT:=tset_lt (mz a);have hT2:=tins_lt hT 0;have hU:=u16_or_nat (tins (tset (mz a)) 0) F (by omega) (by omega);(go_enter Tryz.func152,Tryz.ntmps152);(go_wp2_with fail);refine (c_impl_termsIn _ a _ (hV.o.bz bel)).mono ?_;rintro e w1 ⟨rfl,hB1⟩;have k0:Blk w1 w.heap.size tAs #[.slice A1 a.facts.length d1,.slice A2 a.atoms.length d2]:=Blk.nz blks hB1;have hB:Below w.heap.size w w1:=bgo (w:=w) bel hB1;have hz:=hB1.size;simp only[World.size_alloc] at hz;clear hB1;(go_wp2_with fail);refine (c_impl_with _ 0 _ hT).mono ?_;rintro e w2 ⟨rfl,rfl⟩;(go_wp2_with fail);go_ret;refine ⟨w.heap.size,w1.heap.size,rfl,Nat.le_refl _,by omega,k0.alloc _,?_,bel⟩;exact Blk.new _ _ _
abbrev set9 (w:World) (g:Nat) (v0 v1 v2 v3 v4 v5 v6 v7 v8:Value):World:=(((((((((w.setCell ⟨g,0,none⟩ v0).setCell ⟨g,1,none⟩ v1).setCell ⟨g,2,none⟩ v2).setCell ⟨g,3,none⟩ v3).setCell ⟨g,4,none⟩ v4).setCell ⟨g,5,none⟩ v5).setCell ⟨g,6,none⟩ v6).setCell ⟨g,7,none⟩ v7).setCell ⟨g,8,none⟩ v8)
theorem Blk.nine {w:World} {g:Nat} {t:TypeId} {a0 a1 a2 a3 a4 a5 a6 a7 a8 v0 v1 v2 v3 v4 v5 v6 v7 v8:Value} (h:Blk w g t #[a0,a1,a2,a3,a4,a5,a6,a7,a8]):Blk (set9 w g v0 v1 v2 v3 v4 v5 v6 v7 v8) g t #[v0,v1,v2,v3,v4,v5,v6,v7,v8]:=by
 have h0:=h.set_ 0 v0;simp only[List.setIfInBounds_toArray,List.set_cons_zero] at h0;have h1:=h0.set_ 1 v1;simp only[List.setIfInBounds_toArray,List.set_cons_zero,List.set_cons_succ] at h1;have h2:=h1.set_ 2 v2;simp only[List.setIfInBounds_toArray,List.set_cons_zero,List.set_cons_succ] at h2;have h3:=h2.set_ 3 v3;simp only[List.setIfInBounds_toArray,List.set_cons_zero,List.set_cons_succ] at h3;have h4:=h3.set_ 4 v4;simp only[List.setIfInBounds_toArray,List.set_cons_zero,List.set_cons_succ] at h4;have h5:=h4.set_ 5 v5;simp only[List.setIfInBounds_toArray,List.set_cons_zero,List.set_cons_succ] at h5;have h6:=h5.set_ 6 v6;simp only[List.setIfInBounds_toArray,List.set_cons_zero,List.set_cons_succ] at h6;have h7:=h6.set_ 7 v7;simp only[List.setIfInBounds_toArray,List.set_cons_zero,List.set_cons_succ] at h7;have h8:=h7.set_ 8 v8;simp only[List.setIfInBounds_toArray,List.set_cons_zero,List.set_cons_succ] at h8;exact h8
theorem Blk.nineFar {w:World} {g g2:Nat} {t:TypeId} {cs:Array Value} {v0 v1 v2 v3 v4 v5 v6 v7 v8:Value} (h:Blk w g2 t cs) (hn:g2≠g):Blk (set9 w g v0 v1 v2 v3 v4 v5 v6 v7 v8) g2 t cs:=
 ((((((((h.far (p:=⟨g,0,none⟩) hn v0).far (p:=⟨g,1,none⟩) hn v1).far (p:=⟨g,2,none⟩) hn v2).far (p:=⟨g,3,none⟩) hn v3).far (p:=⟨g,4,none⟩) hn v4).far (p:=⟨g,5,none⟩) hn v5).far (p:=⟨g,6,none⟩) hn v6).far (p:=⟨g,7,none⟩) hn v7).far (p:=⟨g,8,none⟩) hn v8
theorem below9 {w w0:World} {B g:Nat} {v0 v1 v2 v3 v4 v5 v6 v7 v8:Value} (h:Below B w0 w) (hn:B≤g):Below B w0 (set9 w g v0 v1 v2 v3 v4 v5 v6 v7 v8):=
 ((((((((h.setCell (p:=⟨g,0,none⟩) hn v0).setCell (p:=⟨g,1,none⟩) hn v1).setCell (p:=⟨g,2,none⟩) hn v2).setCell (p:=⟨g,3,none⟩) hn v3).setCell (p:=⟨g,4,none⟩) hn v4).setCell (p:=⟨g,5,none⟩) hn v5).setCell (p:=⟨g,6,none⟩) hn v6).setCell (p:=⟨g,7,none⟩) hn v7).setCell (p:=⟨g,8,none⟩) hn v8
theorem keeps9 {w:World} {g:Nat} {v0 v1 v2 v3 v4 v5 v6 v7 v8:Value}:KeepsOthers w (set9 w g v0 v1 v2 v3 v4 v5 v6 v7 v8):=
 ((((((((KeepsOthers.setCell _ _ _).trans (KeepsOthers.setCell _ _ _)).trans (KeepsOthers.setCell _ _ _)).trans (KeepsOthers.setCell _ _ _)).trans (KeepsOthers.setCell _ _ _)).trans (KeepsOthers.setCell _ _ _)).trans (KeepsOthers.setCell _ _ _)).trans (KeepsOthers.setCell _ _ _)).trans (KeepsOthers.setCell _ _ _)
theorem Kept.putl {T1 T2:TypeId} {n₀ B:Nat} (hn:n₀≤B) (W:World) (l:Nat) (o o':Obj) (hl:B≤l) (h:W.heap[l]? = some o) (hc:o.isCells=false):Kept T1 T2 n₀ W (W.putObj l o'):=Kept.put o' (by omega) h hc
theorem Blk.putl {W:World} {g l:Nat} {t:TypeId} {cs:Array Value} {o:Obj} (o':Obj) (hb:Blk W g t cs) (hl:W.heap[l]? = some o) (ho:o.isCells=false):Blk (W.putObj l o') g t cs:=
 (World.putObj_heap_other (fun e=>by subst e;unfold Blk at hb;rw[hl] at hb;cases hb;cases ho)).trans hb
end
section
open Go Go.RowKit Go.Proofs
attribute [local go_sem ↓] Go.wp_at_zero Go.wp_at_succ
theorem IntsO.open_ {w:World} {base:Nat} {A:Option Addr} {n c k:Nat} {fs:List Int} (h:IntsO w base (.slice A n c) fs) (hk:k<fs.length):∃ g cur,n=fs.length∧A=some ⟨g,0,none⟩∧base≤g∧Blk w g tI cur∧cur[k]? = some (.int .i64 fs[k])∧
  (∀ v:Int,IntsO (w.setCell ⟨g,k,none⟩ (.int .i64 v)) base (.slice A n c) (fs.set k v)):=by
 obtain ⟨⟨hl,h2⟩,hL⟩:=h;rcases h2 with ⟨e,hn⟩|⟨g,cap,cur,e,hb,hh,hn,hm,hs,ht⟩
 ·omega
 ·injection e with e1 e2 e3;subst e1 e2 e3;have hK:Blk w g tI cur:=hh
  have hP:Pre cur (encI fs) (fs.length * 1):=by
   intro j hj;rw[←ht,List.getElem?_take,if_pos hj];simp
  refine ⟨g,cur,rfl,rfl,hb,hK,(hP _ (by omega)).trans (by simp[List.getElem?_eq_getElem hk]),?_⟩;intro v;refine ⟨?_,by rw[List.length_set];exact hL⟩;rw[show encI (fs.set k v)=(encI fs).set k (.int .i64 v) from by simp[encI,List.map_set],List.length_set];exact own_of_blk (hK.set_ k (.int .i64 v)) hb (by rw[List.length_set,hl]) (hP.setL k (.int .i64 v) (by rw[hs];exact Nat.mul_le_mul hn (Nat.le_refl _)) (by rw[hl];exact Nat.le_refl _)) hn hm (by simpa using hs)
def seekAt (a:Asn) (S n:Nat) (c:List Int) (k:Nat):List (List Int):=if k<8 - n∧cl c k≠k then [] else seek a S n (c.set (8 - n) k)
theorem seek_cut {a:Asn} {S:Nat} (n:Nat) {c:List Int} (h:(fitsS c a.facts&&earlyF c [] a.atoms)=false):seek a S n c=[]:=by
 cases n<;>(unfold seek;rw[h];rfl)
theorem seek_leaf {a:Asn} {S:Nat} {c:List Int} (h:(fitsS c a.facts&&earlyF c [] a.atoms)=true):seek a S 0 c=if apartF [] (filledL a.atoms c) then [c] else []:=by
 unfold seek;rw[h,if_pos rfl]
theorem seek_step {a:Asn} {S n:Nat} {c:List Int} (h:(fitsS c a.facts&&earlyF c [] a.atoms)=true):seek a S (n+1) c=if S.testBit (8 - n) then (List.range (9 - n)).flatMap (seekAt a S n c) else seek a S n c:=by
 conv=>lhs;unfold seek
 rw[h,if_pos rfl];rfl
theorem flatMap_first {α:Type} {f:Nat→List α} {k N:Nat} (hk:k<N) (h:(List.range k).flatMap f=[]) (hne:f k≠[]):∃ y,(f k).head? = some y∧((List.range N).flatMap f).head? = some y:=by
 obtain ⟨m,rfl⟩:∃ m,N=k+(m+1):=⟨N - k - 1,by omega⟩;rw[List.range_add,List.range_succ_eq_map,List.map_cons,List.flatMap_append,List.flatMap_cons,Nat.add_zero,h,List.nil_append]
 cases e:f k with
 | nil=>exact absurd e hne
 | cons y ys=>exact ⟨y,rfl,rfl⟩
def firstI (L:List (List Int)):List Int:=L.head?.getD []
theorem c_fits9 {lo hi lo' hi':Nat} (A B:Option Addr) (c0 c1:Nat) (fs:List Fct) (c:List Int) (w:World) (h:FactsV w lo hi A fs) (h':IntsV w lo' hi' B c) (hc:c.length=9) (hf:FactsOk fs) :
  Calls Tryz.prog 244 #[.slice A fs.length c0,.slice B 9 c1] w fun e w'=>e=.returned (.bool (fitsS c fs))∧w=w':=by
 have:=c_spec_l5Fits A B c0 c1 fs c w h h' hc hf;rwa [hc] at this
theorem c_early9 {lo hi lo' hi':Nat} (A B:Option Addr) (c0 c1:Nat) (xs:List Atm) (c:List Int) (w:World) (h:AtomsV w lo hi A xs) (h':IntsV w lo' hi' B c) (hc:c.length=9) (hx:AtomsOk xs) (hcl:∀ x∈xs,cl c x.a≤8) :
  Calls Tryz.prog 245 #[.slice A xs.length c0,.slice B 9 c1] w fun e w'=>e=.returned (.bool (earlyF c [] xs))∧Below w.heap.size w w':=by
 have:=c_spec_l5Early A B c0 c1 xs c w h h' hc hx hcl;rwa [hc] at this
theorem c_filled9 {lo hi lo' hi':Nat} (A B:Option Addr) (c0 c1:Nat) (xs:List Atm) (c:List Int) (w:World) (h:AtomsV w lo hi A xs) (h':IntsV w lo' hi' B c) (hc:c.length=9) (hx:AtomsOk xs) :
  Calls Tryz.prog 209 #[.slice A xs.length c0,.slice B 9 c1] w fun e w'=>∃ r,e=.returned r∧AtomsO w' w.heap.size r (filledL xs c)∧Below w.heap.size w w':=by
 have:=c_spec_l5Filled A B c0 c1 xs c w h h' hc hx;rwa [hc] at this
theorem openedB:(∀ j:Nat,j<9→cl opened j≤8)∧∀ (S:Nat) (j:Nat),j<9 - 8→S.testBit j=true→0≤cl opened j∧cl opened j≤j:=by
 refine ⟨fun j hj=>?_,fun S j hj _=>?_⟩
 ·obtain rfl|rfl|rfl|rfl|rfl|rfl|rfl|rfl|rfl:j=0∨j=1∨j=2∨j=3∨j=4∨j=5∨j=6∨j=7∨j=8:=by omega
  all_goals decide
 ·obtain rfl:j=0:=by omega
  decide
theorem seek_congr (a:Asn) {S S':Nat} (h:∀ j,1≤j→j<9→S.testBit j=S'.testBit j):∀ (n:Nat) (c:List Int),n≤8→seek a S n c=seek a S' n c:=by
 intro n
 induction n with
 | zero=>intro c _;rfl
 | succ n ih=>
  intro c hn;unfold seek;rw[h (8 - n) (by omega) (by omega)];have e:∀ c',seek a S n c'=seek a S' n c':=fun c'=>ih c' (by omega)
  split
  ·split
   ·apply flatMap_congr';intro k _;rw[e]
   ·exact e _
  ·rfl
theorem seek_caseS {a:Asn} (hv:a.valid=true) (F S:Nat) (h:∀ j,1≤j→j<9→S.testBit j=(caseS a F).testBit j):seek a S 8 opened=cases a (caseS a F):=by
 rw[seek_congr a h 8 opened (by omega)];exact seek_cases (Asn.valid_ok hv).1 (Asn.valid_ok hv).2 (caseS_zero a F) (caseS_not hv F)
end
section
open Go Go.RowKit Go.Proofs
theorem AsnI.setT {w:World} {lo hi:Nat} {v:Value} {x:Asn} (h:AsnI w lo hi v x) {g:Nat} {t:TypeId} {cs:Array Value} (hk:Blk w g t cs) (h1:t≠tF) (h2:t≠tA) (i:Nat) (u:Value):AsnI (w.setCell ⟨g,i,none⟩ u) lo hi v x:=by
 obtain ⟨fv,av,e,p1,p2⟩:=h;exact ⟨fv,av,e,⟨p1.1.setT hk h1 i u,p1.2⟩,⟨p2.1.setT hk h2 i u,p2.2⟩⟩
theorem IntsI.setT {w:World} {lo hi:Nat} {v:Value} {x:List Int} (h:IntsI w lo hi v x) {g:Nat} {t:TypeId} {cs:Array Value} (hk:Blk w g t cs) (h1:t≠tI) (i:Nat) (u:Value):IntsI (w.setCell ⟨g,i,none⟩ u) lo hi v x:=⟨h.1.setT hk h1 i u,h.2⟩
abbrev tIS:Nat:=31
theorem infoIS:(Tryz.prog.info? tIS).map (fun i=>(i.zero,i.size,i.bytes))=some (some (.slice none 0 0),1,24):=by kernel_rfl
section
variable {w w':World} {base base':Nat} {v:Value} {vs:List Value} {xss:List (List Int)}
end
section
variable {w w':World} {lo hi a b:Nat} {v:Value} {xss:List (List Int)}
end
end
section
open Go Go.RowKit Go.Proofs
attribute [local go_sem ↓] Go.wp_at_zero Go.wp_at_succ
attribute [local go_sem] Oper.semAt_some
structure KX (w w':World):Prop where
 os:w'.os=w.os
 tape:w'.tape=w.tape
 output:w'.output=w.output
 size:w.heap.size≤w'.heap.size
 keep:∀ (k:Nat) (o:Obj),w.heap[k]? = some o→(∀ cs,o≠.cells cs tIS (0,0))→w'.heap[k]? = some o
section
variable {w w' w1:World}
theorem KX.of (h:Below w.heap.size w w'):KX w w':=⟨h.os,h.tape,h.output,h.size,fun k o hk _=>(h.block k (Array.getElem?_eq_some_iff.1 hk).1).trans hk⟩
theorem KX.trans (h:KX w w1) (k:KX w1 w'):KX w w':=⟨k.os.trans h.os,k.tape.trans h.tape,k.output.trans h.output,Nat.le_trans h.size k.size,fun i o hi ho=>k.keep i o (h.keep i o hi ho) ho⟩
theorem KX.set (h:KX w w1) {p:Addr} (hp:w.heap.size≤p.block) (u:Value):KX w (w1.setCell p u):=
 ⟨h.os,h.tape,h.output,by have:=h.size;simpa using this,fun k o hk ho=>(Below.heap_setCell w1 p u k (by have:=(Array.getElem?_eq_some_iff.1 hk).1;omega)).trans (h.keep k o hk ho)⟩
theorem KX.app {v:Value} {base n:Nat} {vs:List Value} (h:w.ownsRow base tIS 1 v n vs) (hg:w.grownBy w' v.ownBlock):KX w w':=
 ⟨hg.os,hg.tape,hg.output,hg.size,fun k o hk ho=>(hg.block k (Array.getElem?_eq_some_iff.1 hk).1 (fun e=>by
  rcases h.2 with ⟨rfl,-⟩|⟨g,cap,cur,rfl,-,hh,-⟩
  ·cases e
  ·have e1:k=g:=by simpa[Value.ownBlock] using e
   subst e1;rw[hk] at hh
   exact ho cur (Option.some.inj hh))).trans hk⟩
theorem KX.blk (h:KX w w') {g:Nat} {t:TypeId} {cs:Array Value} (hb:Blk w g t cs) (ht:t≠tIS):Blk w' g t cs:=h.keep g _ hb fun c e=>by injection e with _ e2;exact ht e2
theorem KX.ints (h:KX w w') {base:Nat} {v:Value} {xs:List Int} (ho:IntsO w base v xs):IntsO w' base v xs:=by
 obtain ⟨⟨h1,h2⟩,h3⟩:=ho;refine ⟨⟨h1,?_⟩,h3⟩;rcases h2 with h2|⟨k,cap,cur,hv,hg,hh,r⟩
 ·exact Or.inl h2
 ·exact Or.inr ⟨k,cap,cur,hv,hg,h.blk (g:=k) hh (by decide),r⟩
end
theorem KX.keeps {w w':World} (h:KX w w'):KeepsOthers w w':=⟨h.size,fun k o hk ho=>h.keep k o hk fun cs e=>by subst e;cases ho⟩
section
variable {P:Program} {n:Nat}
end
section
variable {ops:Array Oper} {rest:List Oper} {o:Oper} {a:Act} {Q:Exit→Act→World→Prop} {w w0:World} {base:Nat} {v:Value} {vs:List Value} {xss:List (List Int)}
theorem rwS {w:World} {g:Nat} {sv:Value} (h:Blk w g tIS #[sv]):Rw w g (g+1) 1 (some ⟨g,0,none⟩) 1 [sv]:=
 ⟨rfl,fun _=>⟨g,0,rfl,Nat.le_refl _,Nat.lt_succ_self _,fun j u hu=>by
  match j,hu with
  | 0,hu=>simp at hu;subst hu;exact h.cell 0⟩⟩
end
end
section
open Go Go.RowKit Go.Proofs
attribute [local go_sem ↓] Go.wp_at_zero Go.wp_at_succ
theorem fits_drop (c:List Int) (fs:List Fct) (k:Nat) (hk:k<fs.length):(fs.drop k).all (Fct.fits c)=(fs[k].fits c&&(fs.drop (k+1)).all (Fct.fits c)):=by
 rw[List.drop_eq_getElem_cons hk];rfl
theorem c_impl_factsHold {lo hi:Nat} (A:Option Addr) (d:Nat) (fs:List Fct) (c:List Int) (g:Nat) (w:World) (h:FactsV w lo hi A fs) (hk:Blk w g tTc (encI c).toArray) (hc:c.length=9) (hf:FactsOk fs) :
  Calls Tryz.prog 203 #[.pointer (some ⟨g,0,none⟩),.slice A fs.length d] w fun e w'=>e=.returned (.bool (fs.all (Fct.fits c)))∧Below w.heap.size w w':=by
 have hl:=h.le;have hgl:=hk.lt;have HF:=ax hf;have H:=ax h;clear hf h;(go_enter Tryz.func203,Tryz.ntmps203);(go_wp2_with fail)
 go_loopw [9] (fun i wr=>∃ k:Nat,k≤fs.length∧i=.int .i64 k∧aJ (fs.all (Fct.fits c)=(fs.drop k).all (Fct.fits c))∧Below w.heap.size w wr) (fun i _=>fs.length - (intOf i).toNat)
 case atStart=>exact ⟨0,Nat.zero_le _,rfl,rfl,bel⟩
 case round=>
  obtain ⟨k,hkk,rfl,HA,hB⟩:=hrel;by_cases hlt:k<fs.length
  ·obtain ⟨b,off,rfl,hbl⟩:=H.o.blt hlt;obtain ⟨g0,g1,g2⟩:=(H.o.bz hB).cl hlt;have HD:=ax (fits_drop c fs k hlt);have hfk:=HF.o _ (List.getElem_mem hlt);obtain ⟨f,hfe⟩:∃ f,f=fs[k]:=⟨_,rfl⟩;rw[←hfe] at g0 g1 g2 HD hfk;clear hfe;have kg:Blk wr g tTc (encI c).toArray:=hk.bz hB hgl;have hgr:=kg.lt;(go_wp2_with fail);refine (c_impl_factHolds f c g _ (kg.alloc _) hc hfk.1 hfk.2).mono ?_;rintro e w1 ⟨rfl,hB1⟩;have hBx:Below w.heap.size w w1:=bgo (w:=w) bel hB1;cases hff:f.fits c
   ·have HZ:=ax (show fs.all (Fct.fits c)=false by rw[HA.o,HD.o,hff];rfl);clear hff hB1;(go_wp2_with fail);go_ret;exact ⟨zjD (by rw[HZ.o]),hBx⟩
   ·have HZ:=ax (show (fs.drop k).all (Fct.fits c)=(fs.drop (k+1)).all (Fct.fits c) by rw[HD.o,hff];rfl);clear hff hB1;(go_wp2_with fail)
    go_round
    case rel=>exact ⟨k+1,by omega,by go_num,by show _=_;rw[HA.o,HZ.o],hBx⟩
    case measure=>simp[intOf];omega
  ·obtain rfl:k=fs.length:=by omega
   have HZ:aJ (fs.all (Fct.fits c)=true):=by show _=_;rw[HA.o,List.drop_length];rfl
   (go_wp2_with fail);go_ret;exact ⟨zjD (by rw[HZ.o]),hB⟩
theorem any_drop (p:Atm→Bool) (xs:List Atm) (k:Nat) (hk:k<xs.length):(xs.drop k).any p=(p xs[k] || (xs.drop (k+1)).any p):=by
 rw[List.drop_eq_getElem_cons hk];rfl
def begB (xs:List Atm) (b:Int):Bool:=xs.any fun x=>decide (x.a=b)
theorem c_impl_beginsAt {lo hi:Nat} (A:Option Addr) (d:Nat) (xs:List Atm) (b:Int) (w:World) (h:AtomsV w lo hi A xs) :
  Calls Tryz.prog 253 #[.slice A xs.length d,.int .i64 b] w fun e w'=>e=.returned (.bool (begB xs b))∧Below w.heap.size w w':=by
 have hl:=h.le;have H:=ax h;clear h;(go_enter Tryz.func253,Tryz.ntmps253);(go_wp2_with fail)
 go_loopw [9] (fun i wr=>∃ k:Nat,k≤xs.length∧i=.int .i64 k∧aJ (begB xs b=begB (xs.drop k) b)∧Below w.heap.size w wr) (fun i _=>xs.length - (intOf i).toNat)
 case atStart=>exact ⟨0,Nat.zero_le _,rfl,rfl,bel⟩
 case round=>
  obtain ⟨k,hkk,rfl,HA,hB⟩:=hrel;by_cases hlt:k<xs.length
  ·obtain ⟨bb,off,rfl,hbl⟩:=H.o.blt hlt;obtain ⟨g0,g1,g2⟩:=(H.o.bz hB).cl hlt;have HD:=ax (any_drop (fun x=>decide (x.a=b)) xs k hlt);obtain ⟨x,hxe⟩:∃ x,x=xs[k]:=⟨_,rfl⟩;rw[←hxe] at g0 g1 g2 HD;clear hxe;by_cases he:x.a=b
   ·have HZ:aJ (begB xs b=true):=by show _=_;rw[HA.o];unfold begB;rw[HD.o,decide_eq_true he];rfl
    have he':(x.a == b)=true:=by simpa using he
    clear he;(go_wp2_with fail);go_ret;exact ⟨zjD (by rw[HZ.o]),bel⟩
   ·have HZ:aJ (begB xs b=begB (xs.drop (k+1)) b):=by show _=_;rw[HA.o];unfold begB;rw[HD.o,decide_eq_false he];rfl
    have he':(x.a == b)=false:=by simpa using he
    clear he;(go_wp2_with fail)
    go_round
    case rel=>exact ⟨k+1,by omega,by go_num,HZ,bel⟩
    case measure=>simp[intOf];omega
  ·obtain rfl:k=xs.length:=by omega
   have HZ:aJ (begB xs b=false):=by show _=_;rw[HA.o,List.drop_length];rfl
   (go_wp2_with fail);go_ret;exact ⟨zjD (by rw[HZ.o]),hB⟩
abbrev tMt:Nat:=239
def ub (used:List Bool) (k:Nat):Bool:=(used[k]?).getD false
abbrev cmC (V:Value) (used:List Bool) (cnt:Nat):Array Value:=#[V,.bool (ub used 0),.bool (ub used 1),.bool (ub used 2),.bool (ub used 3),.bool (ub used 4),.bool (ub used 5),.int .i64 (cnt:Int)]
theorem cm_used {w:World} {g cnt:Nat} {t:TypeId} {V:Value} {used:List Bool} (h:Blk w g t (cmC V used cnt)) {k:Nat} (hk:k<6):w.cell? ⟨g,1+k,none⟩=some (.bool (ub used k)):=by
 rw[h.cell];obtain rfl|rfl|rfl|rfl|rfl|rfl:k=0∨k=1∨k=2∨k=3∨k=4∨k=5:=by omega
 all_goals rfl
theorem freeAt_of {xs:List Atm} {used:List Bool} {c:Int} {k:Nat} (hk:k<xs.length) (hu:used.length=xs.length):freeAt xs used c k=(decide (xs[k].a=c) && !ub used k):=by
 unfold freeAt ub;rw[List.getElem?_eq_getElem hk,List.getElem?_eq_getElem (by omega)];rfl
theorem c_impl_unusedAt {lo hi:Nat} (A:Option Addr) (d cnt:Nat) (xs:List Atm) (used:List Bool) (b:Int) (g:Nat) (w:World) (h:AtomsV w lo hi A xs) (hk:Blk w g tMt (cmC (.slice A xs.length d) used cnt)) (hl6:xs.length≤6) (hu:used.length=xs.length) :
  Calls Tryz.prog 251 #[.pointer (some ⟨g,0,none⟩),.int .i64 b] w fun e w'=>e=.returned (.tuple #[.int .i64 ((findU xs used b).getD 0:Nat),.bool (findU xs used b).isSome])∧Below w.heap.size w w':=by
 have hgl:=hk.lt;have H:=ax h;have HU:=ax hu;have q0:=hk.cell 0;have HK:=ax hk;clear h hu hk;(go_enter Tryz.func251,Tryz.ntmps251);(go_wp2_with fail)
 go_loopw [13] (fun i wr=>∃ k:Nat,k≤xs.length∧i=.int .i64 k∧aJ (∀ j,j<k→freeAt xs used b j=false)∧Below w.heap.size w wr) (fun i _=>xs.length - (intOf i).toNat)
 case atStart=>exact ⟨0,Nat.zero_le _,rfl,fun j hj=>absurd hj (Nat.not_lt_zero _),bel⟩
 case round=>
  clear q0;obtain ⟨k,hkk,rfl,HA,hB⟩:=hrel;have kg:Blk wr g tMt (cmC (.slice A xs.length d) used cnt):=HK.o.bz hB hgl;by_cases hlt:k<xs.length
  ·obtain ⟨bb,off,rfl,hbl⟩:=H.o.blt hlt;obtain ⟨g0,g1,g2⟩:=(H.o.bz hB).cl hlt;have HD:=ax (freeAt_of (c:=b) hlt HU.o);have qu:=cm_used kg (k:=k) (by omega);have hgr:=kg.lt;have hk6:(k:Int)<6:=by omega
   obtain ⟨x,hxe⟩:∃ x,x=xs[k]:=⟨_,rfl⟩;rw[←hxe] at g0 g1 g2 HD;clear hxe;clear kg;cases hff:freeAt xs used b k
   ·have HZ:aJ (∀ j,j<k+1→freeAt xs used b j=false):=fun j hj=>by
     by_cases e:j=k
     ·rw[e];exact hff
     ·exact HA.o j (by omega)
    rw[HD.o] at hff;by_cases he:x.a=b
    ·have he':(x.a == b)=true:=by simpa using he
     have hub:ub used k=true:=by rw[decide_eq_true he] at hff;simpa using hff
     rw[hub] at qu;clear he hff hub;(go_wp2_with fail)
     go_round
     case rel=>exact ⟨k+1,by omega,by go_num,HZ,bel⟩
     case measure=>simp[intOf];omega
    ·have he':(x.a == b)=false:=by simpa using he
     clear he hff;(go_wp2_with fail)
     go_round
     case rel=>exact ⟨k+1,by omega,by go_num,HZ,bel⟩
     case measure=>simp[intOf];omega
   ·have HZ:aJ (findU xs used b=some k):=range_find_some hlt hff HA.o;rw[HD.o,Bool.and_eq_true,decide_eq_true_eq] at hff;have he':(x.a == b)=true:=by simpa using hff.1
    have hub:ub used k=false:=by simpa using hff.2
    rw[hub] at qu;clear hff hub;(go_wp2_with fail);go_ret2;exact ⟨by rw[HZ.o];rfl,bel⟩
  ·obtain rfl:k=xs.length:=by omega
   have HZ:aJ (findU xs used b=none):=range_find_none HA.o;(go_wp2_with fail);go_ret2;exact ⟨by rw[HZ.o];rfl,hB⟩
theorem ub_set {used:List Bool} {k:Nat} (hk:k<used.length) (j:Nat):ub (used.set k true) j=if k=j then true else ub used j:=by
 unfold ub;rw[List.getElem?_set];by_cases e:k=j
 ·subst e;simp[hk]
 ·simp[e]
theorem cm_take {V:Value} {used:List Bool} {cnt k:Nat} (hk:k<used.length) (h6:k<6):((cmC V used cnt).setIfInBounds (1+k) (.bool true)).setIfInBounds 7 (.int .i64 ((cnt:Int)+1))=cmC V (used.set k true) (cnt+1):=by
 unfold cmC;simp only[ub_set hk];obtain rfl|rfl|rfl|rfl|rfl|rfl:k=0∨k=1∨k=2∨k=3∨k=4∨k=5:=by omega
 all_goals simp
abbrev cmU (V:Value) (used:List Bool):Array Value:=cmC V used (used.count true)
theorem c_impl_take {V:Value} {used:List Bool} (k g:Nat) (w:World) (hk:Blk w g tMt (cmU V used)) (hku:used[k]? = some false) (h6:used.length≤6) :
  Calls Tryz.prog 252 #[.pointer (some ⟨g,0,none⟩),.int .i64 k] w fun e w'=>(∃ v,e=.returned v)∧Blk w' g tMt (cmU V (used.set k true))∧Mk (fun h=>h=g) w w':=by
 have hgl:=hk.lt;have hkl:k<used.length:=(List.getElem?_eq_some_iff.1 hku).1;have hcnt:=List.count_le_length (a:=true) (l:=used);obtain ⟨cnt,hcn⟩:∃ n,n=used.count true:=⟨_,rfl⟩;have HE:aJ ((used.set k true).count true=cnt+1):=by show _=_;rw[count_take hku,hcn]
 unfold cmU at hk;rw[←hcn] at hk hcnt;have qu:=cm_used hk (k:=k) (by omega);have q7:w.cell? ⟨g,7,none⟩=some (.int .i64 (cnt:Int)):=hk.cell 7;have r:=hk.frozen;have hk6:(k:Int)<6:=by omega
 have HT:=ax (cm_take (V:=V) (cnt:=cnt) hkl (by omega));have HK:=ax hk;have hne:¬(1+k=7):=by omega
 have hne':¬(7=1+k):=by omega
 clear hk hku hcn;(go_enter Tryz.func252,Tryz.ntmps252);(go_wp2_with fail)
 go_end0
 refine ⟨⟨_,rfl⟩,?_,((Mk.refl (fun h=>h=g) _).set (x:=⟨g,1+k,none⟩) rfl _).set (x:=⟨g,7,none⟩) rfl _⟩;show Blk _ _ _ (cmC V (used.set k true) ((used.set k true).count true));rw[HE.o,←HT.o];exact (HK.o.set_ _ _).set_ _ _
def cellF (xs:List Atm) (used:List Bool) (x:Atm):Option (List Bool):=(findU xs used x.a).bind fun k=>if (xs[k]?).getD default=x then some (used.set k true) else none
theorem AtomsV.keepM {w w':World} {lo hi g:Nat} {A:Option Addr} {xs:List Atm} (h:AtomsV w lo hi A xs) (hm:Mk (fun h=>h=g) w w') (hg:hi≤g) (hw:g≤w.heap.size):AtomsV w' lo hi A xs:=h.keepB (hm.bz (lo:=g) (fun k e=>by omega) hw) hg
theorem c_impl_useCell {lo hi:Nat} (A:Option Addr) (d:Nat) (xs:List Atm) (used:List Bool) (x:Atm) (g:Nat) (w:World) (h:AtomsV w lo hi A xs) (hhi:hi≤g) (hk:Blk w g tMt (cmU (.slice A xs.length d) used)) (hl6:xs.length≤6) (hu:used.length=xs.length) :
  Calls Tryz.prog 205 #[.pointer (some ⟨g,0,none⟩),x.val] w fun e w'=>∃ r ys,e=.returned (.tuple #[r,.bool (cellF xs used x).isSome])∧IntsO w' w.heap.size r ys∧Mk (fun h=>h=g) w w'∧(∀ u,cellF xs used x=some u→Blk w' g tMt (cmU (.slice A xs.length d) u)):=by
 have hgl:=hk.lt;have H:=ax h;have HU:=ax hu;have HK:=ax hk;clear h hu hk;(go_enter Tryz.func205,Tryz.ntmps205);(go_wp2_with fail);refine (c_impl_unusedAt A d _ xs used x.a g _ (H.o.bz bel) (HK.o.alloc _) hl6 HU.o).mono ?_;rintro e w1 ⟨rfl,hB1⟩;have hB:Below w.heap.size w w1:=bgo (w:=w) bel hB1;have kg:=HK.o.bz hB hgl;have k0:Blk w1 w.heap.size tA #[.int .i64 x.kind,.int .i64 x.a,.int .i64 x.b]:=Blk.nz blks hB1;have q0:=k0.cell;have l0:=k0.lt;have gl1:=kg.lt;clear hB1;cases hf:findU xs used x.a
 ·have E:aJ (cellF xs used x=none):=by show _=_;unfold cellF;rw[hf];rfl
  clear hf;(go_wp2_with fail);(go_quiet (fail));(go_wp2_with fail);go_ret2;exact ⟨_,[],by rw[E.o];rfl,IntsO.nil _ _,Mk.below_ bel,fun u hu=>by rw[E.o] at hu;cases hu⟩
 ·rename_i k;obtain ⟨hkl,hfr⟩:=findU_some hf;have hfu:=freeAt_used hfr;obtain ⟨b,off,rfl,hbl⟩:=H.o.blt hkl;obtain ⟨g0,g1,g2⟩:=(H.o.bz hB).cl hkl;rw[freeAt_of hkl HU.o,Bool.and_eq_true,decide_eq_true_eq] at hfr;have q1:w1.cell? ⟨g,0,none⟩=some (.slice (some ⟨b,off,none⟩) xs.length d):=kg.cell 0;have E:aJ (cellF xs used x=if xs[k]=x then some (used.set k true) else none):=by show _=_;unfold cellF;rw[hf];simp only[Option.bind_some,List.getElem?_eq_getElem hkl,Option.getD_some]
  obtain ⟨y,hy⟩:∃ y,y=xs[k]:=⟨_,rfl⟩;rw[←hy] at g0 g1 g2 E hfr;have hya:=hfr.1;have hkx:(k:Int)<(xs.length:Int):=by omega
  have HKG:=ax kg;have HFU:=ax hfu;clear hf hy hfr kg hfu;have hq2:∀ i,w1.cell? ⟨w.heap.size,i,none⟩=#[.int .i64 x.kind,.int .i64 x.a,.int .i64 x.b][i]?:=q0;rw[hya] at g1;have e2:(x.a == x.a)=true:=by simp
  by_cases f1:y.kind=x.kind
  ·by_cases f3:y.b=x.b
   ·have E2:aJ (cellF xs used x=some (used.set k true)):=by
     show _=_;rw[E.o,if_pos];cases y;cases x;simp_all
    rw[f1] at g0;rw[f3] at g2;(go_wp2_with fail);(go_quiet (fail));(go_wp2_with fail);have kg:=HKG.o;refine (c_impl_take k g _ (used:=used) (V:=.slice (some ⟨b,off,none⟩) xs.length d) blks HFU.o.2 (by rw[HU.o];exact hl6)).mono ?_;rintro e w3 ⟨⟨v,rfl⟩,k3,hM⟩;have hMM:Mk (fun h=>h=g) w w3:=Mk.trans (Mk.below_ (w:=w) bel) hM;have hz3:=hMM.size;clear kg;(go_wp2_with fail);go_ret2;exact ⟨_,[(k:Int)],by rw[E2.o];rfl,IntsO.one w3 k hz3,hMM.trans (Mk.below_ bel),fun u hu=>by rw[E2.o] at hu;cases hu;exact k3.alloc _⟩
   ·have e3:(y.b == x.b)=false:=by simpa using f3
    have E2:aJ (cellF xs used x=none):=by show _=_;rw[E.o,if_neg (fun e=>f3 (by rw[e]))]
    rw[f1] at g0;(go_wp2_with fail);(go_quiet (fail));(go_wp2_with fail);go_ret2;exact ⟨_,[],by rw[E2.o];rfl,IntsO.nil _ _,Mk.below_ bel,fun u hu=>by rw[E2.o] at hu;cases hu⟩
  ·have e1:(y.kind == x.kind)=false:=by simpa using f1
   have E2:aJ (cellF xs used x=none):=by show _=_;rw[E.o,if_neg (fun e=>f1 (by rw[e]))]
   (go_wp2_with fail);(go_quiet (fail));(go_wp2_with fail);go_ret2;exact ⟨_,[],by rw[E2.o];rfl,IntsO.nil _ _,Mk.below_ bel,fun u hu=>by rw[E2.o] at hu;cases hu⟩
end
end Go.Proofs.YtjaohekkmlkinaaGreat
