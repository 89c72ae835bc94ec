/- Contracts: the spec's Implies. -/
import Derived.Test.YtjjokmlmknllhaaGreatMExpA
import Derived.Test.YtjjokmlmknllhaaGreatMFirstG
import Derived.Deep.DeepCutAuto
import Derived.Test.YtjjokmlmknllhaaGreatMDrawT
import Derived.Test.YtjjokmlmknllhaaGreatMExpD
import Derived.Test.YtjjokmlmknllhaaGreatMTrans
set_option linter.unusedSimpArgs false
set_option linter.unusedVariables false
namespace Go.Proofs.YtjjokmlmknllhaaGreat
open Go Go.RowKit Go.Proofs
attribute [local go_sem ↓] Go.wp_at_zero Go.wp_at_succ
theorem BoolsO.openI {w:World} {base:Nat} {A:Option Addr} {n c k:Nat} {fs:List Bool} (h:BoolsO w base (.slice A n c) fs) (hk:k<fs.length):∃ g cur,n=fs.length∧A=some ⟨g,0,none⟩∧base≤g∧Blk w g tB cur∧cur[k]? = some (.bool fs[k])∧
  (∀ v:Bool,BoolsO (w.setCell ⟨g,k,none⟩ (.bool v)) base (.slice A n c) (fs.set k v)):=by
 obtain ⟨⟨hl,h2⟩,hL⟩:=h
 rcases h2 with ⟨e,hn⟩|⟨g,cap,cur,e,hb,hh,hn,hm,hs,ht⟩
 ·omega
 ·injection e with e1 e2 e3
  subst e1 e2 e3
  have hK:Blk w g tB cur:=hh
  have hP:Pre cur (encB fs) (fs.length * 1):=by
   intro j hj
   rw[←ht,List.getElem?_take,if_pos hj];simp
  refine ⟨g,cur,rfl,rfl,hb,hK,(hP _ (by omega)).trans (by simp[List.getElem?_eq_getElem hk]),?_⟩
  intro v
  refine ⟨?_,by rw[List.length_set];exact hL⟩
  rw[show encB (fs.set k v)=(encB fs).set k (.bool v) from by simp[encB,List.map_set],List.length_set]
  exact own_of_blk (hK.set_ k (.bool v)) hb (by rw[List.length_set,hl]) (hP.setL k (.bool v) (by rw[hs];exact Nat.mul_le_mul hn (Nat.le_refl _)) (by rw[hl];exact Nat.le_refl _)) hn hm (by simpa using hs)
theorem rowB_ {B:Nat} {w w':World} (h:Below B w w') {g:Nat} (hg:g<B) {cs:Array Value} (hc:∀ i,w.cell? ⟨g,i,none⟩=cs[i]?):∀ i,w'.cell? ⟨g,i,none⟩=cs[i]?:=fun i=>(h.cell (p:=⟨g,i,none⟩) hg).trans (hc i)
set_option maxRecDepth 100000 in
set_option maxHeartbeats 6400000 in
theorem c_spec_Implies {lo hi:Nat} (v:Value) (a:Asn) (f:Fct) (w:World) (h:AsnV w lo hi v a) :
  Calls Tryz.prog 183 #[v,f.val] w fun e w'=>e=.returned (.bool (impB a f))∧Below w.heap.size w w':=by
 have hV:=Lib.hid h
 obtain ⟨A1,c1,A2,c2,rfl,h1,h2⟩:=h
 have H1:=Lib.hid h1
 have H2:=Lib.hid h2
 have HE:Hid (impB a f=(a.valid&&f.valid&&(cases a (caseS a (factS f))).all (Fct.fits · f))):=Lib.hid rfl
 obtain ⟨fe,fa,fb⟩:=f
 clear h1 h2
 go_enter Tryz.func183,Tryz.ntmps183
 have k0:Blk ((w.alloc (.cells #[.slice A1 a.facts.length c1,.slice A2 a.atoms.length c2] tAs)).alloc (.cells #[.bool fe,.int .i64 fa,.int .i64 fb] tF)) w.heap.size tAs #[.slice A1 a.facts.length c1,.slice A2 a.atoms.length c2]:=blks
 have k1:Blk ((w.alloc (.cells #[.slice A1 a.facts.length c1,.slice A2 a.atoms.length c2] tAs)).alloc (.cells #[.bool fe,.int .i64 fa,.int .i64 fb] tF)) (w.heap.size+1) tF #[.bool fe,.int .i64 fa,.int .i64 fb]:=blks
 have hB0:Hid (Below w.heap.size w ((w.alloc (.cells #[.slice A1 a.facts.length c1,.slice A2 a.atoms.length c2] tAs)).alloc (.cells #[.bool fe,.int .i64 fa,.int .i64 fb] tF))):=Lib.hid bel
 have hs0:((w.alloc (.cells #[.slice A1 a.facts.length c1,.slice A2 a.atoms.length c2] tAs)).alloc (.cells #[.bool fe,.int .i64 fa,.int .i64 fb] tF)).heap.size=w.heap.size+2:=by simp
 go_wp2_with fail
 generalize ((w.alloc (.cells #[.slice A1 a.facts.length c1,.slice A2 a.atoms.length c2] tAs)).alloc (.cells #[.bool fe,.int .i64 fa,.int .i64 fb] tF))=W at k0 k1 hB0 hs0 ⊢
 refine (c_spec_AssertionValid _ a _ (hV.out.below hB0.out)).mono ?_
 rintro e w1 ⟨rfl,hB1⟩
 replace k0:=k0.next hB1
 replace k1:=k1.next hB1
 have hB:Hid (Below w.heap.size w w1):=Lib.hid (bgo hB0.out hB1)
 have hz1:=hB1.size
 clear hB1 hB0
 (replace qk0:=k0.cell;replace rk0:=k0.frozen;replace lk0:=k0.lt;replace qk1:=k1.cell;replace rk1:=k1.frozen;replace lk1:=k1.lt)
 cases hv:a.valid
 ·go_wp2_with fail
  go_ret
  exact ⟨ret_bool (by rw[HE.out,hv];rfl),hB.out⟩
 have HV:=Lib.hid hv
 clear hv
 go_wp2_with fail
 refine (c_spec_FactValid ⟨fe,fa,fb⟩ _).mono ?_
 rintro e w2 ⟨rfl,hB2⟩
 replace k0:=k0.next hB2
 replace k1:=k1.next hB2
 replace hB:Hid (Below w.heap.size w w2):=Lib.hid (bgo hB.out hB2)
 have hz2:=hB2.size
 clear hB2 qk0 rk0 lk0 qk1 rk1 lk1
 (replace qk0:=k0.cell;replace rk0:=k0.frozen;replace lk0:=k0.lt;replace qk1:=k1.cell;replace rk1:=k1.frozen;replace lk1:=k1.lt)
 cases hf:Fct.valid ⟨fe,fa,fb⟩
 ·go_wp2_with fail
  go_ret
  exact ⟨ret_bool (by rw[HE.out,hf];simp),hB.out⟩
 have HFO:=Fct.valid_ok hf
 have HSEEK:=Lib.hid (imp_seek (f:=⟨fe,fa,fb⟩) HV.out hf)
 have HE2:Hid (impB a ⟨fe,fa,fb⟩=(seek ⟨a.facts++[Fct.mk (!fe) fa fb],a.atoms⟩ ((tset (termsL a)|||1 <<< fa.toNat)|||1 <<< fb.toNat) 8 opened).isEmpty):=Lib.hid (by rw[HE.out,HV.out,hf,HSEEK.out];rfl)
 have HOK:Hid (FactsOk (a.facts++[Fct.mk (!fe) fa fb])∧AtomsOk a.atoms):=Lib.hid ⟨fun g hg=>by
  rw[List.mem_append,List.mem_singleton] at hg
  rcases hg with hg|rfl
  ·exact (Asn.valid_ok HV.out).1 g hg
  ·exact HFO,(Asn.valid_ok HV.out).2⟩
 have hvl:=valid_len HV.out
 have HVL:Hid ((a.facts++[Fct.mk (!fe) fa fb]).length≤40∧a.atoms.length≤6):=Lib.hid ⟨by simp;omega,hvl.2⟩
 have hfl:a.facts.length+1≤1049600:=by omega
 clear hf HSEEK HE hvl
 simp only at HFO
 obtain ⟨⟨ha0,ha8⟩,hb0,hb8⟩:=HFO
 obtain ⟨na,rfl⟩:∃ n:Nat,fa=(n:Int):=⟨fa.toNat,by omega⟩
 obtain ⟨nb,rfl⟩:∃ n:Nat,fb=(n:Int):=⟨fb.toNat,by omega⟩
 have hna:na<9:=by omega
 have hnb:nb<9:=by omega
 have hnai:(na:Int)<9:=by omega
 have hnbi:(nb:Int)<9:=by omega
 have HT:=Lib.hid (termsL_ok HV.out)
 rw[show ((na:Int)).toNat=na from rfl,show ((nb:Int)).toNat=nb from rfl] at HE2
 clear ha0 ha8 hb0 hb8
 go_wp2_with fail
 refine (c_spec_l3Terms _ a _ (hV.out.below hB.out) HT.out).mono ?_
 rintro e w3 ⟨r3,rfl,o3,hB3⟩
 obtain ⟨Tb,ct,rfl,-⟩:=o3.reads
 rw[flagsOf_length] at o3 ⊢
 obtain ⟨S0,hS0⟩:∃ S0,S0=tset (termsL a):=⟨_,rfl⟩
 rw[←hS0] at o3 HE2
 replace k0:=k0.next hB3
 replace k1:=k1.next hB3
 replace hB:Hid (Below w.heap.size w w3):=Lib.hid (bgo hB.out hB3)
 have hz3:=hB3.size
 clear hB3 hS0 qk0 rk0 lk0 qk1 rk1 lk1 HT
 obtain ⟨g,cur,-,rfl,hg,kg,hc,hset⟩:=o3.openI (k:=na) (by rw[flagsOf_length];exact hna)
 have qg:=kg.cell na
 rw[hc] at qg
 have fg:=kg.frozen na
 have lg:=kg.lt
 have hg0:=k0.ne_ kg (by decide)
 have hg1:=k1.ne_ kg (by decide)
 have O4:=Lib.hid (hset true)
 have hlg:w2.heap.size≤g:=hg
 clear hset hc
 (replace qk0:=k0.cell;replace rk0:=k0.frozen;replace lk0:=k0.lt;replace qk1:=k1.cell;replace rk1:=k1.frozen;replace lk1:=k1.lt)
 go_upto_region 5 with fail
 rw[flagsOf_set] at O4
 replace k0:=k0.far (p:=⟨g,na,none⟩) hg0 (.bool true)
 replace k1:=k1.far (p:=⟨g,na,none⟩) hg1 (.bool true)
 replace hB:Hid (Below w.heap.size w (w3.setCell ⟨g,na,none⟩ (.bool true))):=Lib.hid (hB.out.setCell (p:=⟨g,na,none⟩) (by simp only;omega) _)
 have hz4:(w3.setCell ⟨g,na,none⟩ (.bool true)).heap.size=w3.heap.size:=by simp
 clear qg fg kg qk0 rk0 lk0 qk1 rk1 lk1 o3
 generalize (w3.setCell ⟨g,na,none⟩ (.bool true))=W4 at k0 k1 hB hz4 O4 ⊢
 obtain ⟨g',cur',-,eg,-,kg,hc,hset⟩:=O4.out.openI (k:=nb) (by rw[flagsOf_length];exact hnb)
 injection eg with eg
 injection eg with eg
 subst eg
 have qg:=kg.cell nb
 rw[hc] at qg
 have fg:=kg.frozen nb
 have O5:=Lib.hid (hset true)
 clear hset hc
 (replace qk0:=k0.cell;replace rk0:=k0.frozen;replace lk0:=k0.lt;replace qk1:=k1.cell;replace rk1:=k1.frozen;replace lk1:=k1.lt)
 go_upto_region 6 with fail
 rw[flagsOf_set] at O5
 obtain ⟨S1,hS1⟩:∃ S1,S1=(S0|||1 <<< na)|||1 <<< nb:=⟨_,rfl⟩
 rw[←hS1] at O5 HE2
 replace k0:=k0.far (p:=⟨g,nb,none⟩) hg0 (.bool true)
 replace k1:=k1.far (p:=⟨g,nb,none⟩) hg1 (.bool true)
 replace hB:Hid (Below w.heap.size w (W4.setCell ⟨g,nb,none⟩ (.bool true))):=Lib.hid (hB.out.setCell (p:=⟨g,nb,none⟩) (by simp only;omega) _)
 have hz5:(W4.setCell ⟨g,nb,none⟩ (.bool true)).heap.size=W4.heap.size:=by simp
 clear qg fg kg qk0 rk0 lk0 qk1 rk1 lk1 O4 hS1
 generalize (W4.setCell ⟨g,nb,none⟩ (.bool true))=W5 at k0 k1 hB hz5 O5 ⊢
 have T5:=Lib.hid (O5.out.reads)
 clear O5
 (replace qk0:=k0.cell;replace rk0:=k0.frozen;replace lk0:=k0.lt;replace qk1:=k1.cell;replace rk1:=k1.frozen;replace lk1:=k1.lt)
 go_upto_region 7 with fail
 have hbx:Below W5.heap.size W5 (W5.alloc (.cells #[.bool !fe,.int .i64 na,.int .i64 nb] tF)):=bbox (Below.refl _ _) _
 have kn:Blk (W5.alloc (.cells #[.bool !fe,.int .i64 na,.int .i64 nb] tF)) W5.heap.size tF #[.bool !fe,.int .i64 na,.int .i64 nb]:=Blk.new _ _ _
 replace k0:=k0.next hbx
 have HB6:=Lib.hid (bgo hB.out hbx)
 have hz6:(W5.alloc (.cells #[.bool !fe,.int .i64 na,.int .i64 nb] tF)).heap.size=W5.heap.size+1:=by simp
 have T6:Hid (BoolsV (W5.alloc (.cells #[.bool !fe,.int .i64 na,.int .i64 nb] tF)) w2.heap.size W5.heap.size (some ⟨g,0,none⟩) (flagsOf S1)):=Lib.hid (by
  obtain ⟨A,c,e,h⟩:=T5.out
  injection e with e
  subst e
  exact h.below hbx)
 clear T5 hB hbx k1 qk0 rk0 lk0 qk1 rk1 lk1
 have h53:W5.heap.size=w3.heap.size:=by omega
 obtain ⟨xn,hxn⟩:∃ x,x=w3.heap.size:=⟨_,rfl⟩
 rw[h53,←hxn] at kn hz6
 rw[←hxn]
 generalize (W5.alloc (.cells #[.bool !fe,.int .i64 na,.int .i64 nb] tF))=W6 at k0 kn HB6 hz6 T6 ⊢
 have hln:xn<W6.heap.size:=by omega
 have hz56:W5.heap.size≤W6.heap.size:=by omega
 clear hxn h53 hz6
 have hl0:=k0.lt
 have hwW:w.heap.size≤W6.heap.size:=HB6.out.size
 have HATM:=Lib.hid (fun (W:World) (hb:Below w.heap.size w W)=>(show AtomsV W 0 (hi+W.heap.size) A2 a.atoms from (H2.out.below hb).mono (Nat.zero_le _) (by omega)))
 go_cut [7,8] (fun s7 s8 wc=>s8=.bool (!(seek ⟨a.facts++[Fct.mk (!fe) na nb],a.atoms⟩ S1 8 opened).isEmpty)∧Hid (Below w.heap.size w wc))
 case first=>
  go_wp2_with fail
  refine wp_region_noPanic ?_
  refine wp_region_held_drew (S:=(fun w'=>(∀ i,w'.cell? ⟨w.heap.size,i,none⟩=#[.slice A1 a.facts.length c1,.slice A2 a.atoms.length c2][i]?)∧(∀ i,w'.cell? ⟨xn,i,none⟩=#[.bool !fe,.int .i64 na,.int .i64 nb][i]?))) (by kernel_rfl) (⟨k0.cell,kn.cell⟩) (fun hHeld=>?_)
  refine tk 1 ?_ rfl (fun w hSw=>?_) hHeld ?_
  rotate_left
  ·((try dsimp only at hSw);go_split_ands;go_simp;(try with_reducible rfl))
  try simp only[Act.put,zA,zB,zC,zD,zE,zF]
  refine tk 2 ?_ rfl (fun w hSw=>?_) hHeld ?_
  rotate_left
  ·((try dsimp only at hSw);go_split_ands;go_simp;(try with_reducible rfl))
  try simp only[Act.put,zA,zB,zC,zD,zE,zF]
  refine tk 4 ?_ rfl (fun w hSw=>?_) hHeld ?_
  rotate_left
  ·((try dsimp only at hSw);go_split_ands;go_simp;(try with_reducible rfl))
  try simp only[Act.put,zA,zB,zC,zD,zE,zF]
  refine tk 7 ?_ rfl (fun w hSw=>?_) hHeld ?_
  rotate_left
  ·((try dsimp only at hSw);go_split_ands;go_simp;(try with_reducible rfl))
  try simp only[Act.put,zA,zB,zC,zD,zE,zF]
  refine tk 8 ?_ rfl (fun w hSw=>?_) hHeld ?_
  rotate_left
  ·((try dsimp only at hSw);go_split_ands;go_simp;(try with_reducible rfl))
  try simp only[Act.put,zA,zB,zC,zD,zE,zF]
  refine tk 10 ?_ rfl (fun w hSw=>?_) hHeld ?_
  rotate_left
  ·((try dsimp only at hSw);go_split_ands;go_simp;(try with_reducible rfl))
  try simp only[Act.put,zA,zB,zC,zD,zE,zF]
  refine wpAnyH_ready (rs:=[0,5]) (by kernel_rfl) (by simp) ?_
  refine AllReadyH.cons rfl (fun K hK=>?_) (AllReadyH.cons rfl (fun K hK=>?_) (AllReadyH.nil))
  ·skip
   try simp only[List.getElem_toArray,List.getElem_cons_zero,List.getElem_cons_succ]
   go_simp
   refine hK.out _ _ ⟨(rowB_ (show Below W6.heap.size W6 _ from bel) (by omega) k0.cell),(rowB_ (show Below W6.heap.size W6 _ from bel) (by omega) kn.cell)⟩ (fun hHeldN=>?_)
   clear hHeld hK K
   have hHeld:=hHeldN
   clear hHeldN
   have hE:Hid (FactsO (W6.drew.alloc (.cells #[] tF)) W6.heap.size (.slice (some ⟨W6.heap.size,0,none⟩) 0 0) []):=Lib.hid (FactsO.empty W6.drew)
   have hbE:Below W6.heap.size W6 (W6.drew.alloc (.cells #[] tF)):=bel
   have HBE:=Lib.hid (HB6.out.trans (hbE.mono hwW))
   have TE:=Lib.hid (T6.out.below hbE)
   have kE0:=k0.next hbE
   have kEn:=kn.next hbE
   have zE:(W6.drew.alloc (.cells #[] tF)).heap.size=W6.heap.size+1:=by simp
   refine wpAnyH_ready (rs:=[3,5]) (by kernel_rfl) (by simp) ?_
   refine AllReadyH.cons rfl (fun K hK=>?_) (AllReadyH.cons rfl (fun K hK=>?_) (AllReadyH.nil))
   ·skip
    refine stepFL (ys:=a.facts) (base:=W6.heap.size) rfl _ _ rfl rfl hE.out rfl (H1.out.below (HBE.out)) (by simpa using Nat.le_of_succ_le hfl) (by first|omega|(simp;done)|(simp;omega)) ?_;intro A3 c3 w3x o3 hg3 hB3
    have kc0:=kE0.below hB3 (by omega)
    have kcn:=kEn.below hB3 (by omega)
    have HBc0:=Lib.hid (HBE.out.trans (hB3.mono hwW))
    have Tc0:=Lib.hid (show BoolsV w3x w2.heap.size W5.heap.size (some ⟨g,0,none⟩) (flagsOf S1) from Rd.keep TE.out fun b h1 h2=>hB3.block b (by omega))
    have z3x:=hg3.size
    simp only[World.size_alloc,World.size_drew] at z3x
    have O3:=Lib.hid o3
    clear hg3 hB3 o3
    refine hK.out _ _ ⟨kc0.cell,kcn.cell⟩ (fun hHeldN=>?_)
    clear hHeld hK K
    have hHeld:=hHeldN
    clear hHeldN
    refine rdc 5 rfl fun K hK=>?_
    try simp only[zA,zB,zC]
    go_simp
    refine hK.out _ _ (⟨(rowB_ (show Below w3x.heap.size w3x _ from bel) (by omega) kc0.cell),(rowB_ (show Below w3x.heap.size w3x _ from bel) (by omega) kcn.cell)⟩) ?_
    clear hHeld hK K
    intro hHeld
    try simp only[Act.put,zA,zB,zC,zD,zE,zF]
    have hbL:Below w3x.heap.size w3x (w3x.alloc (.cells #[.bool !fe,.int .i64 na,.int .i64 nb] tF)):=bbox (Below.refl _ _) _
    have k0c:=kc0.next hbL
    have knc:=kcn.next hbL
    have HBc:=Lib.hid (bgo HBc0.out hbL)
    have Tc:=Lib.hid (Tc0.out.below hbL)
    have OF:=Lib.hid (O3.out.below hbL)
    have KL:Blk (w3x.alloc (.cells #[.bool !fe,.int .i64 na,.int .i64 nb] tF)) w3x.heap.size tF #[.bool !fe,.int .i64 na,.int .i64 nb]:=Blk.new _ _ _
    clear hbL
    refine rdc 6 rfl fun K hK=>?_
    skip
    (refine stepFL (ys:=[Fct.mk (!fe) na nb]) (base:=W6.heap.size) rfl _ _ rfl rfl OF.out rfl (FactsV.one (f:=Fct.mk (!fe) na nb) KL) (by simpa using hfl) (by first|omega|(simp;done)|(simp;omega)) ?_;intro A6 c6 w6 o6 hg6 hB6;have ka:=k0c.below hB6 hl0;have kb:=knc.below hB6 hln;have HB7:=Lib.hid (HBc.out.trans (hB6.mono hwW));have T7:=Lib.hid (show BoolsV w6 w2.heap.size W5.heap.size (some ⟨g,0,none⟩) (flagsOf S1) from Rd.keep Tc.out fun b h1 h2=>hB6.block b (by omega));have O6:=Lib.hid o6;have z6:=hg6.size;clear o6 hg6 hB6)
    refine hK.out _ _ (⟨ka.cell,kb.cell⟩) ?_
    clear hHeld hK K
    intro hHeld
    try simp only[Act.put,zA,zB,zC,zD,zE,zF]
    refine tk 9 ?_ rfl (fun w hSw=>?_) hHeld ?_
    rotate_left
    ·((try dsimp only at hSw);go_split_ands;go_simp;(try with_reducible rfl))
    try simp only[Act.put,zA,zB,zC,zD,zE,zF]
    refine rdc 11 rfl fun K hK=>?_
    try simp only[zA,zB,zC]
    (go_simp;refine (c_spec_l5Open _).mono ?_;rintro e w7 ⟨r7,rfl,o7,hB7⟩;obtain ⟨C7,d7,rfl,f7⟩:=o7.reads;have kc:=ka.next hB7;have kd:=kb.next hB7;have HB8:=Lib.hid (bgo HB7.out hB7);have T8:=Lib.hid (T7.out.below hB7);have O8:=Lib.hid (O6.out.below hB7);have F8:=Lib.hid f7;have z7:=hB7.size;clear hB7 o7 f7)
    refine hK.out _ _ (⟨kc.cell,kd.cell⟩) ?_
    clear hHeld hK K
    intro hHeld
    try simp only[Act.put,zA,zB,zC,zD,zE,zF]
    refine rdc 12 rfl fun K hK=>?_
    try simp only[zA,zB,zC]
    (go_simp;have hA8:AsnV w7 0 (hi+w7.heap.size) (.agg #[.slice A6 (a.facts++[Fct.mk (!fe) na nb]).length c6,.slice A2 a.atoms.length c2]) ⟨a.facts++[Fct.mk (!fe) na nb],a.atoms⟩:=⟨_,_,_,_,rfl,O8.out.readsI.2.mono (Nat.zero_le _) (by omega),(HATM.out _ HB8.out)⟩;have hcall:=c_spec_l5FirstG (a:=⟨a.facts++[Fct.mk (!fe) na nb],a.atoms⟩) (S:=S1) (some ⟨g,0,none⟩) ct HOK HVL 8 opened C7 d7 _ _ w7 (by omega) rfl (openedB.2 _) openedB.1 hA8 T8.out F8.out;simp only[List.length_append,List.length_cons,List.length_nil,Nat.zero_add] at hcall;refine hcall.mono ?_;rintro e w8 ⟨r8,rfl,o8,hB8⟩;have ke:=kc.next hB8;have kf:=kd.next hB8;have HB9:=Lib.hid (bgo HB8.out hB8);clear hB8 o8 hcall hA8)
    refine hK.out _ _ (⟨ke.cell,kf.cell⟩) ?_
    clear hHeld hK K
    intro hHeld
    try simp only[Act.put,zA,zB,zC,zD,zE,zF]
    refine tk 13 ?_ rfl (fun w hSw=>?_) hHeld ?_
    rotate_left
    ·((try dsimp only at hSw);go_split_ands;go_simp;(try with_reducible rfl))
    try simp only[Act.put,zA,zB,zC,zD,zE,zF]
    refine tk 14 ?_ rfl (fun w hSw=>?_) hHeld ?_
    rotate_left
    ·((try dsimp only at hSw);go_split_ands;go_simp;(try with_reducible rfl))
    try simp only[Act.put,zA,zB,zC,zD,zE,zF]
    refine tk 15 ?_ rfl (fun w hSw=>?_) hHeld ?_
    rotate_left
    ·((try dsimp only at hSw);go_split_ands;go_simp;(try with_reducible rfl))
    try simp only[Act.put,zA,zB,zC,zD,zE,zF]
    refine rdc 16 rfl fun K hK=>?_
    try simp only[zA,zB,zC]
    go_simp
    refine hK.out _ _ (⟨ke.cell,kf.cell⟩) ?_
    clear hHeld hK K
    intro hHeld
    try simp only[Act.put,zA,zB,zC,zD,zE,zF]
    refine rdc 17 rfl fun K hK=>?_
    try simp only[zA,zB,zC]
    go_simp
    refine hK.out _ _ (⟨ke.cell,kf.cell⟩) ?_
    clear hHeld hK K
    intro hHeld
    try simp only[Act.put,zA,zB,zC,zD,zE,zF]
    refine wpAnyH_done (by kernel_rfl) ?_ _
    refine NoPanic.normal ?_
    go_wp2_with fail
    go_meet
    case rel=>exact ⟨rfl,HB9⟩
   ·skip
    try simp only[List.getElem_toArray,List.getElem_cons_zero,List.getElem_cons_succ]
    go_simp
    refine hK.out _ _ ⟨(rowB_ (show Below W6.heap.size W6 _ from bel) (by omega) k0.cell),(rowB_ (show Below W6.heap.size W6 _ from bel) (by omega) kn.cell)⟩ (fun hHeldN=>?_)
    clear hHeld hK K
    have hHeld:=hHeldN
    clear hHeldN
    have hbL:Below (W6.drew.alloc (.cells #[] tF)).heap.size (W6.drew.alloc (.cells #[] tF)) ((W6.drew.alloc (.cells #[] tF)).alloc (.cells #[.bool !fe,.int .i64 na,.int .i64 nb] tF)):=bbox (Below.refl _ _) _
    have kL:=Blk.new (W6.drew.alloc (.cells #[] tF)) tF #[.bool !fe,.int .i64 na,.int .i64 nb]
    have kL0:=kE0.next hbL
    have kLn:=kEn.next hbL
    have HBL:=Lib.hid (bgo HBE.out hbL)
    have TL:=Lib.hid (TE.out.below hbL)
    have hL:=Lib.hid (hE.out.below hbL)
    refine rdc 3 rfl fun K hK=>?_
    skip
    (refine stepFL (ys:=a.facts) (base:=W6.heap.size) rfl _ _ rfl rfl hL.out rfl (H1.out.below (HBL.out)) (by simpa using Nat.le_of_succ_le hfl) (by first|omega|(simp;done)|(simp;omega)) ?_;intro A3 c3 w3x o3 hg3 hB3;have k0c:=kL0.below hB3 (by omega);have knc:=kLn.below hB3 (by omega);have HBc:=Lib.hid (HBL.out.trans (hB3.mono hwW));have Tc:=Lib.hid (show BoolsV w3x w2.heap.size W5.heap.size (some ⟨g,0,none⟩) (flagsOf S1) from Rd.keep TL.out fun b h1 h2=>hB3.block b (by omega));have KL:=kL.grown hg3 (fun e=>by have e2:(W6.drew.alloc (.cells #[] tF)).heap.size=W6.heap.size:=Option.some.inj e;simp only[World.size_alloc,World.size_drew] at e2;omega);have z3x:=hg3.size;have OF:=Lib.hid o3;clear hg3 hB3 o3)
    refine hK.out _ _ (⟨k0c.cell,knc.cell⟩) ?_
    clear hHeld hK K
    intro hHeld
    try simp only[Act.put,zA,zB,zC,zD,zE,zF]
    simp only[World.size_alloc,World.size_drew] at KL z3x
    refine rdc 6 rfl fun K hK=>?_
    skip
    (refine stepFL (ys:=[Fct.mk (!fe) na nb]) (base:=W6.heap.size) rfl _ _ rfl rfl OF.out rfl (FactsV.one (f:=Fct.mk (!fe) na nb) KL) (by simpa using hfl) (by first|omega|(simp;done)|(simp;omega)) ?_;intro A6 c6 w6 o6 hg6 hB6;have ka:=k0c.below hB6 hl0;have kb:=knc.below hB6 hln;have HB7:=Lib.hid (HBc.out.trans (hB6.mono hwW));have T7:=Lib.hid (show BoolsV w6 w2.heap.size W5.heap.size (some ⟨g,0,none⟩) (flagsOf S1) from Rd.keep Tc.out fun b h1 h2=>hB6.block b (by omega));have O6:=Lib.hid o6;have z6:=hg6.size;clear o6 hg6 hB6)
    refine hK.out _ _ (⟨ka.cell,kb.cell⟩) ?_
    clear hHeld hK K
    intro hHeld
    try simp only[Act.put,zA,zB,zC,zD,zE,zF]
    refine tk 9 ?_ rfl (fun w hSw=>?_) hHeld ?_
    rotate_left
    ·((try dsimp only at hSw);go_split_ands;go_simp;(try with_reducible rfl))
    try simp only[Act.put,zA,zB,zC,zD,zE,zF]
    refine rdc 11 rfl fun K hK=>?_
    try simp only[zA,zB,zC]
    (go_simp;refine (c_spec_l5Open _).mono ?_;rintro e w7 ⟨r7,rfl,o7,hB7⟩;obtain ⟨C7,d7,rfl,f7⟩:=o7.reads;have kc:=ka.next hB7;have kd:=kb.next hB7;have HB8:=Lib.hid (bgo HB7.out hB7);have T8:=Lib.hid (T7.out.below hB7);have O8:=Lib.hid (O6.out.below hB7);have F8:=Lib.hid f7;have z7:=hB7.size;clear hB7 o7 f7)
    refine hK.out _ _ (⟨kc.cell,kd.cell⟩) ?_
    clear hHeld hK K
    intro hHeld
    try simp only[Act.put,zA,zB,zC,zD,zE,zF]
    refine rdc 12 rfl fun K hK=>?_
    try simp only[zA,zB,zC]
    (go_simp;have hA8:AsnV w7 0 (hi+w7.heap.size) (.agg #[.slice A6 (a.facts++[Fct.mk (!fe) na nb]).length c6,.slice A2 a.atoms.length c2]) ⟨a.facts++[Fct.mk (!fe) na nb],a.atoms⟩:=⟨_,_,_,_,rfl,O8.out.readsI.2.mono (Nat.zero_le _) (by omega),(HATM.out _ HB8.out)⟩;have hcall:=c_spec_l5FirstG (a:=⟨a.facts++[Fct.mk (!fe) na nb],a.atoms⟩) (S:=S1) (some ⟨g,0,none⟩) ct HOK HVL 8 opened C7 d7 _ _ w7 (by omega) rfl (openedB.2 _) openedB.1 hA8 T8.out F8.out;simp only[List.length_append,List.length_cons,List.length_nil,Nat.zero_add] at hcall;refine hcall.mono ?_;rintro e w8 ⟨r8,rfl,o8,hB8⟩;have ke:=kc.next hB8;have kf:=kd.next hB8;have HB9:=Lib.hid (bgo HB8.out hB8);clear hB8 o8 hcall hA8)
    refine hK.out _ _ (⟨ke.cell,kf.cell⟩) ?_
    clear hHeld hK K
    intro hHeld
    try simp only[Act.put,zA,zB,zC,zD,zE,zF]
    refine tk 13 ?_ rfl (fun w hSw=>?_) hHeld ?_
    rotate_left
    ·((try dsimp only at hSw);go_split_ands;go_simp;(try with_reducible rfl))
    try simp only[Act.put,zA,zB,zC,zD,zE,zF]
    refine tk 14 ?_ rfl (fun w hSw=>?_) hHeld ?_
    rotate_left
    ·((try dsimp only at hSw);go_split_ands;go_simp;(try with_reducible rfl))
    try simp only[Act.put,zA,zB,zC,zD,zE,zF]
    refine tk 15 ?_ rfl (fun w hSw=>?_) hHeld ?_
    rotate_left
    ·((try dsimp only at hSw);go_split_ands;go_simp;(try with_reducible rfl))
    try simp only[Act.put,zA,zB,zC,zD,zE,zF]
    refine rdc 16 rfl fun K hK=>?_
    try simp only[zA,zB,zC]
    go_simp
    refine hK.out _ _ (⟨ke.cell,kf.cell⟩) ?_
    clear hHeld hK K
    intro hHeld
    try simp only[Act.put,zA,zB,zC,zD,zE,zF]
    refine rdc 17 rfl fun K hK=>?_
    try simp only[zA,zB,zC]
    go_simp
    refine hK.out _ _ (⟨ke.cell,kf.cell⟩) ?_
    clear hHeld hK K
    intro hHeld
    try simp only[Act.put,zA,zB,zC,zD,zE,zF]
    refine wpAnyH_done (by kernel_rfl) ?_ _
    refine NoPanic.normal ?_
    go_wp2_with fail
    go_meet
    case rel=>exact ⟨rfl,HB9⟩
  ·skip
   try simp only[List.getElem_toArray,List.getElem_cons_zero,List.getElem_cons_succ]
   go_simp
   refine hK.out _ _ ⟨(rowB_ (show Below W6.heap.size W6 _ from bel) (by omega) k0.cell),(rowB_ (show Below W6.heap.size W6 _ from bel) (by omega) kn.cell)⟩ (fun hHeldN=>?_)
   clear hHeld hK K
   have hHeld:=hHeldN
   clear hHeldN
   have kL:=Blk.new W6.drew tF #[.bool !fe,.int .i64 na,.int .i64 nb]
   refine rdc 0 rfl fun K hK=>?_
   try simp only[zA,zB,zC]
   go_simp
   refine hK.out _ _ (⟨(rowB_ (show Below W6.heap.size W6 _ from bel) (by omega) k0.cell),(rowB_ (show Below W6.heap.size W6 _ from bel) (by omega) kn.cell)⟩) ?_
   clear hHeld hK K
   intro hHeld
   try simp only[Act.put,zA,zB,zC,zD,zE,zF]
   have hbE:Below W6.heap.size W6 ((W6.drew.alloc (.cells #[.bool !fe,.int .i64 na,.int .i64 nb] tF)).alloc (.cells #[] tF)):=bel
   have kE0:=k0.next hbE
   have kEn:=kn.next hbE
   have kL2:=kL.alloc (.cells #[] tF)
   have HBE:=Lib.hid (HB6.out.trans (hbE.mono hwW))
   have TE:=Lib.hid (T6.out.below hbE)
   have hE:Hid (FactsO ((W6.drew.alloc (.cells #[.bool !fe,.int .i64 na,.int .i64 nb] tF)).alloc (.cells #[] tF)) W6.heap.size (.slice (some ⟨W6.heap.size+1,0,none⟩) 0 0) []):=Lib.hid (by
    have:=(FactsO.empty (W6.drew.alloc (.cells #[.bool !fe,.int .i64 na,.int .i64 nb] tF))).lower (base':=W6.heap.size) (by simp)
    simpa using this)
   have zE:((W6.drew.alloc (.cells #[.bool !fe,.int .i64 na,.int .i64 nb] tF)).alloc (.cells #[] tF)).heap.size=W6.heap.size+2:=by simp
   refine rdc 3 rfl fun K hK=>?_
   skip
   (refine stepFL (ys:=a.facts) (base:=W6.heap.size) rfl _ _ rfl rfl hE.out rfl (H1.out.below (HBE.out)) (by simpa using Nat.le_of_succ_le hfl) (by first|omega|(simp;done)|(simp;omega)) ?_;intro A3 c3 w3x o3 hg3 hB3;have k0c:=kE0.below hB3 (by omega);have knc:=kEn.below hB3 (by omega);have HBc:=Lib.hid (HBE.out.trans (hB3.mono hwW));have Tc:=Lib.hid (show BoolsV w3x w2.heap.size W5.heap.size (some ⟨g,0,none⟩) (flagsOf S1) from Rd.keep TE.out fun b h1 h2=>hB3.block b (by omega));have KL:=kL2.grown hg3 (fun e=>by have e2:W6.heap.size=W6.heap.size+1:=Option.some.inj e;omega);have z3x:=hg3.size;have OF:=Lib.hid o3;clear hg3 hB3 o3)
   refine hK.out _ _ (⟨k0c.cell,knc.cell⟩) ?_
   clear hHeld hK K
   intro hHeld
   try simp only[Act.put,zA,zB,zC,zD,zE,zF]
   simp only[World.size_alloc,World.size_drew] at z3x
   simp only[World.size_drew] at KL
   refine rdc 6 rfl fun K hK=>?_
   skip
   (refine stepFL (ys:=[Fct.mk (!fe) na nb]) (base:=W6.heap.size) rfl _ _ rfl rfl OF.out rfl (FactsV.one (f:=Fct.mk (!fe) na nb) KL) (by simpa using hfl) (by first|omega|(simp;done)|(simp;omega)) ?_;intro A6 c6 w6 o6 hg6 hB6;have ka:=k0c.below hB6 hl0;have kb:=knc.below hB6 hln;have HB7:=Lib.hid (HBc.out.trans (hB6.mono hwW));have T7:=Lib.hid (show BoolsV w6 w2.heap.size W5.heap.size (some ⟨g,0,none⟩) (flagsOf S1) from Rd.keep Tc.out fun b h1 h2=>hB6.block b (by omega));have O6:=Lib.hid o6;have z6:=hg6.size;clear o6 hg6 hB6)
   refine hK.out _ _ (⟨ka.cell,kb.cell⟩) ?_
   clear hHeld hK K
   intro hHeld
   try simp only[Act.put,zA,zB,zC,zD,zE,zF]
   refine tk 9 ?_ rfl (fun w hSw=>?_) hHeld ?_
   rotate_left
   ·((try dsimp only at hSw);go_split_ands;go_simp;(try with_reducible rfl))
   try simp only[Act.put,zA,zB,zC,zD,zE,zF]
   refine rdc 11 rfl fun K hK=>?_
   try simp only[zA,zB,zC]
   (go_simp;refine (c_spec_l5Open _).mono ?_;rintro e w7 ⟨r7,rfl,o7,hB7⟩;obtain ⟨C7,d7,rfl,f7⟩:=o7.reads;have kc:=ka.next hB7;have kd:=kb.next hB7;have HB8:=Lib.hid (bgo HB7.out hB7);have T8:=Lib.hid (T7.out.below hB7);have O8:=Lib.hid (O6.out.below hB7);have F8:=Lib.hid f7;have z7:=hB7.size;clear hB7 o7 f7)
   refine hK.out _ _ (⟨kc.cell,kd.cell⟩) ?_
   clear hHeld hK K
   intro hHeld
   try simp only[Act.put,zA,zB,zC,zD,zE,zF]
   refine rdc 12 rfl fun K hK=>?_
   try simp only[zA,zB,zC]
   (go_simp;have hA8:AsnV w7 0 (hi+w7.heap.size) (.agg #[.slice A6 (a.facts++[Fct.mk (!fe) na nb]).length c6,.slice A2 a.atoms.length c2]) ⟨a.facts++[Fct.mk (!fe) na nb],a.atoms⟩:=⟨_,_,_,_,rfl,O8.out.readsI.2.mono (Nat.zero_le _) (by omega),(HATM.out _ HB8.out)⟩;have hcall:=c_spec_l5FirstG (a:=⟨a.facts++[Fct.mk (!fe) na nb],a.atoms⟩) (S:=S1) (some ⟨g,0,none⟩) ct HOK HVL 8 opened C7 d7 _ _ w7 (by omega) rfl (openedB.2 _) openedB.1 hA8 T8.out F8.out;simp only[List.length_append,List.length_cons,List.length_nil,Nat.zero_add] at hcall;refine hcall.mono ?_;rintro e w8 ⟨r8,rfl,o8,hB8⟩;have ke:=kc.next hB8;have kf:=kd.next hB8;have HB9:=Lib.hid (bgo HB8.out hB8);clear hB8 o8 hcall hA8)
   refine hK.out _ _ (⟨ke.cell,kf.cell⟩) ?_
   clear hHeld hK K
   intro hHeld
   try simp only[Act.put,zA,zB,zC,zD,zE,zF]
   refine tk 13 ?_ rfl (fun w hSw=>?_) hHeld ?_
   rotate_left
   ·((try dsimp only at hSw);go_split_ands;go_simp;(try with_reducible rfl))
   try simp only[Act.put,zA,zB,zC,zD,zE,zF]
   refine tk 14 ?_ rfl (fun w hSw=>?_) hHeld ?_
   rotate_left
   ·((try dsimp only at hSw);go_split_ands;go_simp;(try with_reducible rfl))
   try simp only[Act.put,zA,zB,zC,zD,zE,zF]
   refine tk 15 ?_ rfl (fun w hSw=>?_) hHeld ?_
   rotate_left
   ·((try dsimp only at hSw);go_split_ands;go_simp;(try with_reducible rfl))
   try simp only[Act.put,zA,zB,zC,zD,zE,zF]
   refine rdc 16 rfl fun K hK=>?_
   try simp only[zA,zB,zC]
   go_simp
   refine hK.out _ _ (⟨ke.cell,kf.cell⟩) ?_
   clear hHeld hK K
   intro hHeld
   try simp only[Act.put,zA,zB,zC,zD,zE,zF]
   refine rdc 17 rfl fun K hK=>?_
   try simp only[zA,zB,zC]
   go_simp
   refine hK.out _ _ (⟨ke.cell,kf.cell⟩) ?_
   clear hHeld hK K
   intro hHeld
   try simp only[Act.put,zA,zB,zC,zD,zE,zF]
   refine wpAnyH_done (by kernel_rfl) ?_ _
   refine NoPanic.normal ?_
   go_wp2_with fail
   go_meet
   case rel=>exact ⟨rfl,HB9⟩
 case rest=>
  obtain ⟨rfl,HB9⟩:=hcut
  rw[←HE2.out]
  go_wp2_with fail
  go_ret
  exact ⟨ret_bool (by simp),HB9.out⟩
end Go.Proofs.YtjjokmlmknllhaaGreat

/- Exposing cells: the helpers of spec. -/
namespace Go.Proofs.YtjjokmlmknllhaaGreat
open Go Go.RowKit Go.Proofs
attribute [local go_sem ↓] Go.wp_at_zero Go.wp_at_succ
set_option maxRecDepth 100000 in
set_option maxHeartbeats 1600000 in
theorem c_l10Equal {lo hi:Nat} (v:Value) (a:Asn) (x y:Int) (w:World) (h:AsnV w lo hi v a):Calls Tryz.prog 149 #[v,.int .i64 x,.int .i64 y] w fun e w'=>e=.returned (.bool (impB a ⟨true,x,y⟩))∧Below w.heap.size w w':=by
 have hV:=Lib.hid h
 obtain ⟨A1,c1,A2,c2,rfl,-⟩:=h
 go_enter Tryz.func149,Tryz.ntmps149
 go_wp2_with fail
 refine (c_spec_Implies _ a ⟨true,x,y⟩ _ (hV.out.below bel)).mono ?_
 rintro e w1 ⟨rfl,hB1⟩
 have hB:=bgo (w:=w) bel hB1
 go_wp2_with fail
 go_ret
 exact ⟨rfl,hB⟩
set_option maxRecDepth 100000 in
set_option maxHeartbeats 1600000 in
theorem c_l10Front {lo hi:Nat} (v:Value) (a:Asn) (x:Atm) (i:Nat) (w:World) (h:AsnV w lo hi v a) (hv:a.valid=true) (hi':i<a.atoms.length) :
  Calls Tryz.prog 150 #[v,.agg #[.int .i64 x.kind,.int .i64 x.a,.int .i64 x.b],.int .i64 i] w fun e w'=>∃ F d G g,e=.returned (.agg #[.slice F a.facts.length d,.slice G a.atoms.length g])∧AsnO w' w.heap.size (.agg #[.slice F a.facts.length d,.slice G a.atoms.length g]) ⟨a.facts,[x]++withoutL a.atoms i⟩∧Below w.heap.size w w':=by
 have hV:=Lib.hid h
 obtain ⟨A1,c1,A2,c2,rfl,-⟩:=h
 have hvl:=valid_len hv
 have hwl:([x]++withoutL a.atoms i).length=a.atoms.length:=by have:=withoutL_len hi';simp;omega
 have HW:=Lib.hid hwl
 have HE:=Lib.hid (wo_one hi')
 clear hv hwl
 go_enter Tryz.func150,Tryz.ntmps150
 have kr:Blk (((w.alloc (.cells #[.slice A1 a.facts.length c1,.slice A2 a.atoms.length c2] tAs)).alloc (.cells #[.int .i64 x.kind,.int .i64 x.a,.int .i64 x.b] tA)).alloc (.cells #[.slice none 0 0,.slice none 0 0] tAs)) (w.heap.size+2) tAs #[.slice none 0 0,.slice none 0 0]:=blks
 go_wp2_with fail
 refine (c_l6WithoutF _ a i i x _ (hV.out.below bel) (by omega) (by omega)).mono ?_
 rw[HE.out]
 rintro e w1 ⟨r,rfl,o,hB1⟩
 have hB:=bgo (w:=w) bel hB1
 replace kr:=kr.next hB1
 clear hB1
 obtain ⟨fv,av,rfl,o1,o2⟩:=o
 obtain ⟨F,d,rfl,-⟩:=o1.reads
 obtain ⟨G,g,rfl,-⟩:=o2.reads
 simp only[HW.out] at o2 ⊢
 have O1:=Lib.hid (o1.lower (base':=w.heap.size) (by simp;omega))
 have O2:=Lib.hid (o2.lower (base':=w.heap.size) (by simp;omega))
 clear o1 o2
 (replace qkr:=kr.cell;replace rkr:=kr.frozen;replace lkr:=kr.lt)
 go_wp2_with fail
 refine bodyPost_ret (v:=.agg #[.slice F a.facts.length d,.slice G a.atoms.length g]) (by simp[results,Tryz.results150,go_sem,qkr]) rfl ⟨F,d,G,g,rfl,⟨_,_,rfl,?_,?_⟩,bel⟩
 ·exact (O1.out.setT kr (by decide) 0 _).setT (kr.set_ 0 _) (by decide) 1 _
 ·exact (O2.out.setT kr (by decide) 0 _).setT (kr.set_ 0 _) (by decide) 1 _
set_option maxRecDepth 100000 in
set_option maxHeartbeats 3200000 in
theorem c_l10Know {lo hi:Nat} (v:Value) (a:Asn) (x t:Int) (w:World) (h:AsnV w lo hi v a) (hl:a.facts.length≤1000) :
  Calls Tryz.prog 146 #[v,.int .i64 x,.int .i64 t] w fun e w'=>∃ F d G g,e=.returned (.agg #[.slice F (a.facts.length+1) d,.slice G a.atoms.length g])∧AsnO w' w.heap.size (.agg #[.slice F (a.facts.length+1) d,.slice G a.atoms.length g]) ⟨a.facts++[⟨true,x,t⟩],a.atoms⟩∧Below w.heap.size w w':=by
 have hV:=Lib.hid h
 obtain ⟨A1,c1,A2,c2,rfl,-⟩:=h
 go_enter Tryz.func146,Tryz.ntmps146
 have kr:Blk ((w.alloc (.cells #[.slice A1 a.facts.length c1,.slice A2 a.atoms.length c2] tAs)).alloc (.cells #[.slice none 0 0,.slice none 0 0] tAs)) (w.heap.size+1) tAs #[.slice none 0 0,.slice none 0 0]:=blks
 go_wp2_with fail
 refine (c_l3Copy _ a _ (hV.out.below bel)).mono ?_
 rintro e w1 ⟨r,rfl,o,hB1⟩
 have hB:=bgo (w:=w) bel hB1
 replace kr:=kr.next hB1
 have hs1:w.heap.size+2≤w1.heap.size:=by have:=hB1.size;simp at this;omega
 clear hB1
 obtain ⟨fv,av,rfl,o1,o2⟩:=o
 obtain ⟨F,d,rfl,-⟩:=o1.reads
 obtain ⟨G,g,rfl,-⟩:=o2.reads
 have O1:=Lib.hid (o1.lower (base':=w.heap.size) (by simp;omega))
 have O2:=Lib.hid (o2.lower (base':=w.heap.size) (by simp;omega))
 have HB:=Lib.hid hB
 clear o1 o2 hB
 go_upto_region 2 with fail
 have ko:Blk (w1.alloc (.cells #[.slice F a.facts.length d,.slice G a.atoms.length g] tAs)) w1.heap.size tAs #[.slice F a.facts.length d,.slice G a.atoms.length g]:=Blk.new _ _ _
 replace kr:=kr.alloc (.cells #[.slice F a.facts.length d,.slice G a.atoms.length g] tAs)
 replace O1:=Lib.hid (O1.out.below (bbox (Below.refl _ _) (.cells #[.slice F a.facts.length d,.slice G a.atoms.length g] tAs)))
 replace O2:=Lib.hid (O2.out.below (bbox (Below.refl _ _) (.cells #[.slice F a.facts.length d,.slice G a.atoms.length g] tAs)))
 replace HB:=Lib.hid (bbox HB.out (.cells #[.slice F a.facts.length d,.slice G a.atoms.length g] tAs))
 have hsw:w1.heap.size<(w1.alloc (.cells #[.slice F a.facts.length d,.slice G a.atoms.length g] tAs)).heap.size:=by simp
 generalize (w1.alloc (.cells #[.slice F a.facts.length d,.slice G a.atoms.length g] tAs))=W at ko kr O1 O2 HB hsw ⊢
 obtain ⟨y,hy⟩:∃ y,y=w1.heap.size:=⟨_,rfl⟩
 rw[←hy] at ko hs1 hsw ⊢
 clear hy
 (replace qko:=ko.cell;replace rko:=ko.frozen;replace lko:=ko.lt;replace qkr:=kr.cell;replace rkr:=kr.frozen;replace lkr:=kr.lt)
 go_wp2_with (at_builtin;refine appFL (ys:=[⟨true,x,t⟩]) (base:=w.heap.size) rfl _ _ rfl rfl (O1.out.below bel) rfl (FactsV.one (f:=⟨true,x,t⟩) (Blk.new W tF _)) (by simp;omega) (by simp;omega) ?_;intro A6 c6 w6 o6 hg6 hB6;have kO:=O1.out.below (w':=W.alloc (.cells #[.bool true,.int .i64 x,.int .i64 t] tF)) bel;have ko6:=Blk.grownO (hg:=hg6) (ko.alloc _) kO.1 (by decide);have kr6:=Blk.grownO (hg:=hg6) (kr.alloc _) kO.1 (by decide);have O26:Hid (AtomsO w6 w.heap.size (.slice G a.atoms.length g) a.atoms):=Lib.hid ⟨own_grownO (O2.out.below (w':=W.alloc (.cells #[.bool true,.int .i64 x,.int .i64 t] tF)) bel).1 kO.1 hg6 (by decide),O2.out.2⟩;have HB6:Hid (Below w.heap.size w w6):=Lib.hid ((bbox HB.out _).trans hB6);have O16:=Lib.hid o6;clear hB6 hg6 o6 kO qko rko lko qkr rkr lkr;(replace qko6:=ko6.cell;replace rko6:=ko6.frozen;replace lko6:=ko6.lt;replace qkr6:=kr6.cell;replace rkr6:=kr6.frozen;replace lkr6:=kr6.lt))
 simp only[List.length_append,List.length_cons,List.length_nil,Nat.zero_add] at O16 ⊢
 refine bodyPost_ret (v:=.agg #[.slice A6 (a.facts.length+1) c6,.slice G a.atoms.length g]) (by simp[results,Tryz.results146,go_sem,qkr6]) rfl ⟨A6,c6,G,g,rfl,⟨_,_,rfl,?_,?_⟩,?_⟩
 ·have kr7:=kr6.far (p:=⟨y,0,none⟩) (by simp only;omega) (.slice A6 (a.facts.length+1) c6)
  exact ((O16.out.setT ko6 (by decide) 0 _).setT kr7 (by decide) 0 _).setT (kr7.set_ 0 _) (by decide) 1 _
 ·have kr7:=kr6.far (p:=⟨y,0,none⟩) (by simp only;omega) (.slice A6 (a.facts.length+1) c6)
  exact ((O26.out.setT ko6 (by decide) 0 _).setT kr7 (by decide) 0 _).setT (kr7.set_ 0 _) (by decide) 1 _
 ·exact ((HB6.out.setCell (p:=⟨y,0,none⟩) (by simp only;omega) _).setCell (p:=⟨w.heap.size+1,0,none⟩) (by simp only;omega) _).setCell (p:=⟨w.heap.size+1,1,none⟩) (by simp only;omega) _
set_option maxRecDepth 100000 in
set_option maxHeartbeats 3200000 in
theorem c_l10New {lo hi lo' hi':Nat} (v:Value) (a:Asn) (B:Option Addr) (c K:Nat) (w:World) (h:AsnV w lo hi v a) (h':BoolsV w lo' hi' B (flagsOf K)) (hv:a.valid=true) :
  Calls Tryz.prog 122 #[v,.slice B 9 c] w fun e w'=>e=.returned (.tuple #[.int .i64 (unusedI (tset (termsL a)|||K)),.bool (newT (tset (termsL a)|||K)).isSome])∧Below w.heap.size w w':=by
 have hV:=Lib.hid h
 have HT:=Lib.hid (termsL_ok hv)
 have h'':=Lib.hid h'
 obtain ⟨pb,ob,rfl,lpb⟩:=flags_addr h'
 obtain ⟨A1,c1,A2,c2,rfl,h1,h2⟩:=h
 clear hv h1 h2
 go_enter Tryz.func122,Tryz.ntmps122
 go_wp2_with fail
 refine (c_spec_l3Terms _ a _ (hV.out.below bel) HT.out).mono ?_
 rintro e w1 ⟨r,rfl,oT,hB1⟩
 have hB:=bgo (w:=w) bel hB1
 have fC:=h''.out.below hB
 generalize hTe:tset (termsL a)=T at oT
 have HTE:=Lib.hid hTe
 clear hTe
 obtain ⟨Tb,ct,rfl,fT⟩:=oT.reads
 rw[flagsOf_length]
 obtain ⟨pt,ot,rfl,lpt⟩:=flags_addr fT
 clear hB1 oT h' h''
 go_wp2_with fail
 go_loop [7] (fun i=>∃ k:Nat,5≤k∧k≤9∧i=.int .i64 k∧Hid (∀ j,5≤j→j<k→(T|||K).testBit j=true)) (fun i=>10 - (intOf i).toNat)
 case atStart=>exact ⟨5,by omega,by omega,rfl,Lib.hid fun j h1 h2=>by omega⟩
 case round=>
  obtain ⟨k,h5,h9,rfl,HA⟩:=hrel
  by_cases hlt:k<9
  ·have hki:(k:Int)≤8:=by omega
   have f1:=flags_at fT (m:=k) (by omega)
   have f2:=flags_at fC (m:=k) (by omega)
   have k9:(k:Int)<9:=by omega
   have HBit:Hid ((T|||K).testBit k=(T.testBit k || K.testBit k)):=Lib.hid (Nat.testBit_or ..)
   have HN:Hid ((T|||K).testBit k=true→∀ j,5≤j→j<k+1→(T|||K).testBit j=true):=Lib.hid fun hb j h1 h2=>by
    by_cases e:j=k
    ·rw[e];exact hb
    ·exact HA.out j h1 (by omega)
   cases ht:T.testBit k
   ·cases hc:K.testBit k
    ·have E:=Lib.hid (newT_yes h5 (by omega) HA.out (by rw[HBit.out,ht,hc];rfl))
     rw[ht] at f1
     rw[hc] at f2
     clear ht hc HA HN HBit
     go_wp2_with fail
     go_ret2
     exact ⟨by unfold unusedI;rw[HTE.out,E.out];rfl,hB⟩
    ·have HN2:=Lib.hid (HN.out (by rw[HBit.out,ht,hc];rfl))
     rw[ht] at f1
     rw[hc] at f2
     clear ht hc HA HN HBit
     go_wp2_with fail
     go_round
     case rel=>exact ⟨k+1,by omega,by omega,by go_num,HN2⟩
     case measure=>simp[intOf];omega
   ·have HN2:=Lib.hid (HN.out (by rw[HBit.out,ht];rfl))
    rw[ht] at f1
    clear ht HA HN HBit
    go_wp2_with fail
    go_round
    case rel=>exact ⟨k+1,by omega,by omega,by go_num,HN2⟩
    case measure=>simp[intOf];omega
  ·obtain rfl:k=9:=by omega
   have E:=Lib.hid (newT_no (S:=T|||K) fun j h1 h2=>HA.out j h1 (by omega))
   go_wp2_with fail
   go_ret2
   exact ⟨by unfold unusedI;rw[HTE.out,E.out];rfl,hB⟩
end Go.Proofs.YtjjokmlmknllhaaGreat

/- Exposing cells: spec.l10Unfold. -/
namespace Go.Proofs.YtjjokmlmknllhaaGreat
open Go Go.RowKit Go.Proofs
attribute [local go_sem ↓] Go.wp_at_zero Go.wp_at_succ
theorem AsnO.parts {w:World} {b:Nat} {f g:Value} {a:Asn} (h:AsnO w b (.agg #[f,g]) a):FactsO w b f a.facts∧AtomsO w b g a.atoms:=by
 obtain ⟨_,_,e,h1,h2⟩:=h
 injection e with e
 injection e with e
 injection e with e1 e2
 injection e2 with e2 e3
 subst e1 e2
 exact ⟨h1,h2⟩
section
variable {ops:Array Oper} {o:Oper} {a:Act} {K:Act→World→Prop} {Q:Exit→Act→World→Prop} {E:Prop} {w:World} {base lo hi c n m:Nat} {v:Value} {A:Option Addr}
theorem stepALm (hgd:o.guard=none) (s x:Operand) (ho:o.op=.call { callee:=.builtin .append,args:=#[s,x],argTypes:=#[32,32] })
  {xs ys zs:List Atm} (hs:a.eval s=v) (hown:AtomsO w base v xs) (hx:a.eval x=.slice A m c) (hm:m=ys.length) (hR:AtomsV w lo hi A ys) (hz:zs=xs++ys) (hn:n=zs.length) (hl:n≤1049600) (hb:base≤w.heap.size)
  (h:∀ A' c' w',AtomsO w' base (.slice A' n c') zs→w.grownBy w' v.ownBlock→Below base w w'→K (a.put o.dst (.slice A' n c')) w'):if Region.wanted o (yielded ops a.tmps)=true then Oper.wp Tryz.prog o a w K Q else E:=by
 subst hm hz hn
 refine stepAL hgd s x ho hs hown hx hR (by rwa [List.length_append] at hl) hb h
end
def OpC (n:Nat) (a:Asn) (t:Int) (K:Nat):Prop:=∀ (lo hi lo' hi':Nat) (v:Value) (B:Option Addr) (c:Nat) (w:World),AsnC w lo hi v a→BoolsV w lo' hi' B (flagsOf (tins K t))→a.facts.length≤1000→a.atoms.length≤1000→
 Calls Tryz.prog 84 #[v,.int .i64 t,.slice B 9 c,.int .i64 (n:Int)] w fun e w'=>∃ r vs l,e=.returned (.tuple #[r,.bool (exposeF n a t K).isSome])∧A2O w' w.heap.size r vs l∧l.length≤2 ^ n∧(exposeF n a t K=none∨exposeF n a t K=some l)∧Below w.heap.size w w'
def UnC (n:Nat) (a:Asn) (x:Atm) (i:Nat) (t:Int) (K:Nat):Prop:=∀ (lo hi lo' hi':Nat) (v:Value) (B:Option Addr) (c:Nat) (w:World),AsnC w lo hi v a→BoolsV w lo' hi' B (flagsOf (tins K t))→
 Calls Tryz.prog 151 #[v,.int .i64 t,.slice B 9 c,.int .i64 ((n:Int)+1),.int .i64 i] w fun e w'=>∃ r vs l,e=.returned (.tuple #[r,.bool (listF n a x i t K).isSome])∧A2O w' w.heap.size r vs l∧l.length≤2 ^ (n+1)∧(listF n a x i t K=none∨listF n a x i t K=some l)∧Below w.heap.size w w'
set_option maxRecDepth 100000 in
set_option maxHeartbeats 12800000 in
theorem c_l10Unfold (n:Nat) (a:Asn) (x:Atm) (i:Nat) (t:Int) (Ks:Nat) (hv:a.valid=true) (hx:a.atoms[i]? = some x) (hn:n≤6)
  (HE:OpC n (emptyX a x i) t Ks) (HF:∀ m:Nat,OpC n (fullX a x i (m:Int)) t Ks):UnC n a x i t Ks:=by
 intro lo hi0 lo' hi' v B cB w h hB0
 have hV:=Lib.hid h
 have HFL:=Lib.hid hB0
 obtain ⟨A1,c1,A2,c2,rfl,h1,h2,hcap⟩:=h
 have hvl:=valid_len hv
 have HVa:=Lib.hid hv
 obtain ⟨hi,hxe⟩:=List.getElem?_eq_some_iff.1 hx
 have hwl:=withoutL_len hi
 obtain ⟨b,o,rfl,-⟩:=h2.at hi
 have HV2:=Lib.hid h2
 have hii:(i:Int)<(a.atoms.length:Int):=by omega
 have hw:IntKind.i64.wrap ((i:Int)+1)=(i:Int)+1:=IntWalk.i64_in _ (by omega)
 have hs1:=sliceAh b o a.atoms.length c2 i (by omega)
 obtain ⟨A',hs2,hA'⟩:=sliceAl b o a.atoms.length c2 (i+1) (by omega) hcap
 push_cast at hs2
 have hT:=Lib.hid (h2.take_ (k:=i) (by omega))
 have hD:Hid (AtomsV w lo _ A' (a.atoms.drop (i+1))):=Lib.hid (by
  by_cases hlt:i+1<a.atoms.length
  ·rw[hA' (by omega)]
   exact h2.drop_ (by omega)
  ·rw[List.drop_eq_nil_of_le (by omega)]
   exact Rd.nil _ _ _ _ _)
 have HL1:Hid ((a.atoms.take i).length=i):=Lib.hid (by rw[List.length_take];omega)
 have HL2:Hid ((a.atoms.drop (i+1)).length=a.atoms.length - (i+1)):=Lib.hid List.length_drop
 have HHi:=Lib.hid hi
 have HEH:=Lib.hid HE
 have HFH:=Lib.hid HF
 have HN:=Lib.hid (Nat.pow_le_pow_right (show 0<2 from by decide) hn)
 have HX:=Lib.hid hxe
 clear h1 h2 HE HF hx hv hB0 hA' hxe
 go_enter Tryz.func151,Tryz.ntmps151
 have k0:Blk (w.alloc (.cells #[.slice A1 a.facts.length c1,.slice (some ⟨b,o,none⟩) a.atoms.length c2] tAs)) w.heap.size tAs #[.slice A1 a.facts.length c1,.slice (some ⟨b,o,none⟩) a.atoms.length c2]:=blks
 have hs1':=Lib.hid hs1
 have hs2':=Lib.hid hs2
 have hw':=Lib.hid hw
 clear hs1 hs2 hw
 go_wp2_with fail
 refine (c_l10New _ a B cB (tins Ks t) _ (hV.out.V.below bel) (HFL.out.below bel) HVa.out).mono ?_
 rintro e w1 ⟨rfl,hB1⟩
 have HB:=Lib.hid (bgo (w:=w) bel hB1)
 replace k0:=k0.next hB1
 have hz1:w.heap.size+1≤w1.heap.size:=by have:=hB1.size;simp at this;omega
 clear hB1
 cases hnt:newT (tset (termsL a)|||tins Ks t)
 case none=>
  have E:=Lib.hid (list_none (n:=n) (x:=x) (i:=i) hnt)
  clear hnt
  go_wp2_with fail
  go_ret2
  exact ⟨_,[],[],by rw[E.out];rfl,(A2O.empty w1 rfl).lower (by omega),Nat.zero_le _,.inl E.out,bbox HB.out _⟩
 case some m=>
  have EI:unusedI (tset (termsL a)|||tins Ks t)=(m:Int):=by unfold unusedI;rw[hnt]
  rw[EI]
  clear EI
  have HNT:=Lib.hid hnt
  clear hnt
  (replace qk0:=k0.cell;replace rk0:=k0.frozen;replace lk0:=k0.lt)
  obtain ⟨b',o',hbo,g0,g1,g2⟩:=(HV2.out.below HB.out).at HHi.out
  injection hbo with hbo
  injection hbo with hb1 hb2
  subst hb1 hb2
  rw[HX.out] at g0 g1 g2
  go_upto_region 5 with fail
  clear qk0 rk0 lk0 g0 g1 g2
  have hbq:=bbox (Below.refl w1.heap.size w1) (.cells #[.int .i64 x.kind,.int .i64 x.a,.int .i64 x.b] tA)
  have kx:Blk (w1.alloc (.cells #[.int .i64 x.kind,.int .i64 x.a,.int .i64 x.b] tA)) w1.heap.size tA #[.int .i64 x.kind,.int .i64 x.a,.int .i64 x.b]:=Blk.new _ _ _
  replace k0:=k0.next hbq
  replace HB:=Lib.hid (bgo HB.out hbq)
  have hzw:(w1.alloc (.cells #[.int .i64 x.kind,.int .i64 x.a,.int .i64 x.b] tA)).heap.size=w1.heap.size+1:=by simp
  clear hbq
  generalize w1.alloc (.cells #[.int .i64 x.kind,.int .i64 x.a,.int .i64 x.b] tA)=W1 at k0 kx HB hzw ⊢
  obtain ⟨yx,hyx⟩:∃ y,y=w1.heap.size:=⟨_,rfl⟩
  rw[←hyx] at kx hzw ⊢
  have hyw:w.heap.size<yx:=by omega
  clear hyx hz1
  (replace qk0:=k0.cell;replace rk0:=k0.frozen;replace lk0:=k0.lt)
  go_wp2_with fail
  refine (c_l3Copy _ a _ (hV.out.V.below HB.out)).mono ?_
  rintro e w2 ⟨r,rfl,oc,hB2⟩
  obtain ⟨fv,av,rfl,o1,o2⟩:=oc
  obtain ⟨F,d,rfl,-⟩:=o1.reads
  obtain ⟨G,g,rfl,-⟩:=o2.reads
  have O1:=Lib.hid (o1.lower (base':=w.heap.size) (by omega))
  clear o1 o2
  replace k0:=k0.next hB2
  replace kx:=kx.next hB2
  replace HB:=Lib.hid (bgo HB.out hB2)
  have hz2:=hB2.size
  clear hB2 qk0 rk0 lk0
  go_upto_region 6 with fail
  have hbq:=bbox (Below.refl w2.heap.size w2) (.cells #[.slice F a.facts.length d,.slice G a.atoms.length g] tAs)
  have kE:Blk (w2.alloc (.cells #[.slice F a.facts.length d,.slice G a.atoms.length g] tAs)) w2.heap.size tAs #[.slice F a.facts.length d,.slice G a.atoms.length g]:=Blk.new _ _ _
  replace k0:=k0.next hbq
  replace kx:=kx.next hbq
  replace O1:=Lib.hid (O1.out.below hbq)
  replace HB:=Lib.hid (bgo HB.out hbq)
  have hz3:(w2.alloc (.cells #[.slice F a.facts.length d,.slice G a.atoms.length g] tAs)).heap.size=w2.heap.size+1:=by simp
  clear hbq
  generalize (w2.alloc (.cells #[.slice F a.facts.length d,.slice G a.atoms.length g] tAs))=W2 at k0 kx kE O1 HB hz3 ⊢
  obtain ⟨yE,hyE⟩:∃ y,y=w2.heap.size:=⟨_,rfl⟩
  rw[←hyE] at kE hz3 ⊢
  have hyE2:yx<yE:=by omega
  have hyE3:yE<W2.heap.size:=by omega
  clear hyE hz2 hzw hz3
  (replace qkE:=kE.cell;replace rkE:=kE.frozen;replace lkE:=kE.lt;replace qkx:=kx.cell;replace rkx:=kx.frozen;replace lkx:=kx.lt)
  go_upto_region 7 with (at_builtin;refine appFL (ys:=[⟨true,x.a,x.b⟩]) (base:=w.heap.size) rfl _ _ rfl rfl (O1.out.below bel) rfl (FactsV.one (f:=⟨true,x.a,x.b⟩) (Blk.new W2 tF _)) (by simp<;>omega) (by simp<;>omega) ?_;intro A6 c6 w6 o6 hg6 hB6;have kO:=O1.out.below (w':=W2.alloc (.cells #[.bool true,.int .i64 x.a,.int .i64 x.b] tF)) bel;have kE6:=Blk.grownO (hg:=hg6) (kE.alloc _) kO.1 (by decide);have k06:=Blk.grownO (hg:=hg6) (k0.alloc _) kO.1 (by decide);have kx6:=Blk.grownO (hg:=hg6) (kx.alloc _) kO.1 (by decide);have HB6:Hid (Below w.heap.size w w6):=Lib.hid ((bbox HB.out _).trans hB6);have O16:=Lib.hid o6;have hz6:W2.heap.size+1≤w6.heap.size:=(by have:=hg6.size;simp at this;omega);clear hB6 hg6 o6 kO qkE rkE lkE qkx rkx lkx;(replace qkE6:=kE6.cell;replace rkE6:=kE6.frozen;replace lkE6:=kE6.lt))
  simp only[List.length_append,List.length_cons,List.length_nil,Nat.zero_add] at O16 ⊢
  have kE7:Blk (w6.setCell ⟨yE,0,none⟩ (.slice A6 (a.facts.length+1) c6)) yE tAs #[.slice A6 (a.facts.length+1) c6,.slice G a.atoms.length g]:=by
   have:=kE6.set_ 0 (.slice A6 (a.facts.length+1) c6)
   simpa using this
  have k07:=k06.far (p:=⟨yE,0,none⟩) (by simp only;omega) (.slice A6 (a.facts.length+1) c6)
  have kx7:=kx6.far (p:=⟨yE,0,none⟩) (by simp only;omega) (.slice A6 (a.facts.length+1) c6)
  have O17:=Lib.hid (O16.out.setT kE6 (by decide) 0 (.slice A6 (a.facts.length+1) c6))
  have HB7:=Lib.hid (HB6.out.setCell (p:=⟨yE,0,none⟩) (by simp only;omega) (.slice A6 (a.facts.length+1) c6))
  have hz7:W2.heap.size+1≤(w6.setCell ⟨yE,0,none⟩ (.slice A6 (a.facts.length+1) c6)).heap.size:=by simpa using hz6
  clear k0 kx kE O1 HB kE6 k06 kx6 O16 HB6 hz6 qkE6 rkE6 lkE6
  generalize (w6.setCell ⟨yE,0,none⟩ (.slice A6 (a.facts.length+1) c6))=W7 at kE7 k07 kx7 O17 HB7 hz7 ⊢
  clear w6
  have hs1:=hs1'.out
  have hs2:=hs2'.out
  have hw:=hw'.out
  (replace qk07:=k07.cell;replace rk07:=k07.frozen;replace lk07:=k07.lt;replace qkE7:=kE7.cell;replace rkE7:=kE7.frozen;replace lkE7:=kE7.lt)
  go_wp2_with fail
  clear qk07 rk07 lk07
  refine wp_region_noPanic ?_
  refine wp_region_held_drew (S:=(fun w'=>∀ i,w'.cell? ⟨w.heap.size,i,none⟩=#[.slice A1 a.facts.length c1,.slice (some ⟨b,o,none⟩) a.atoms.length c2][i]?)) (by kernel_rfl) (k07.drew.cell) (fun hHeld=>?_)
  have HBQ:Hid (Below W7.heap.size W7 W7.drew):=Lib.hid (Below.refl _ _).drew
  have hzq:W7.heap.size≤W7.drew.heap.size:=Nat.le_refl _
  clear qkE7 rkE7 lkE7
  generalize W7.drew=wq at HBQ hzq hHeld ⊢
  refine tk 1 ?_ rfl (fun w hSw=>?_) hHeld ?_
  rotate_left
  ·((try dsimp only at hSw);go_split_ands;go_simp;(try with_reducible rfl))
  try simp only[Act.put,zA,zB,zC,zD,zE,zF]
  refine tk 2 ?_ rfl (fun w hSw=>?_) hHeld ?_
  rotate_left
  ·((try dsimp only at hSw);go_split_ands;go_simp;(try with_reducible rfl))
  try simp only[Act.put,zA,zB,zC,zD,zE,zF]
  refine tk 3 ?_ rfl (fun w hSw=>?_) hHeld ?_
  rotate_left
  ·((try dsimp only at hSw);go_split_ands;go_simp;(try with_reducible rfl))
  try simp only[Act.put,zA,zB,zC,zD,zE,zF]
  refine tk 4 ?_ rfl (fun w hSw=>?_) hHeld ?_
  rotate_left
  ·((try dsimp only at hSw);go_split_ands;go_simp;(try with_reducible rfl))
  try simp only[Act.put,zA,zB,zC,zD,zE,zF]
  refine tk 6 ?_ rfl (fun w hSw=>?_) hHeld ?_
  rotate_left
  ·((try dsimp only at hSw);go_split_ands;go_simp;(try with_reducible rfl))
  try simp only[Act.put,zA,zB,zC,zD,zE,zF]
  refine tk 7 ?_ rfl (fun w hSw=>?_) hHeld ?_
  rotate_left
  ·((try dsimp only at hSw);go_split_ands;go_simp;(try with_reducible rfl))
  try simp only[Act.put,zA,zB,zC,zD,zE,zF]
  refine tk 8 ?_ rfl (fun w hSw=>?_) hHeld ?_
  rotate_left
  ·((try dsimp only at hSw);go_split_ands;go_simp;(try with_reducible rfl))
  try simp only[Act.put,zA,zB,zC,zD,zE,zF]
  refine tk 9 ?_ rfl (fun w hSw=>?_) hHeld ?_
  rotate_left
  ·((try dsimp only at hSw);go_split_ands;go_simp;(try with_reducible rfl))
  try simp only[Act.put,zA,zB,zC,zD,zE,zF]
  refine tk 10 ?_ rfl (fun w hSw=>?_) hHeld ?_
  rotate_left
  ·((try dsimp only at hSw);go_split_ands;go_simp;(try with_reducible rfl))
  try simp only[Act.put,zA,zB,zC,zD,zE,zF]
  clear hs1 hs2 hw
  refine rdc 0 rfl fun K hK=>?_
  try simp only[zA,zB,zC]
  go_simp
  refine hK.out _ _ (((k07.next HBQ.out).alloc _).cell) ?_
  clear hHeld hK K
  intro hHeld
  try simp only[Act.put,zA,zB,zC,zD,zE,zF]
  have OA0:Hid (AtomsO (wq.alloc (.cells #[] tA)) W7.heap.size (.slice (some ⟨wq.heap.size,0,none⟩) 0 0) []):=Lib.hid ((AtomsO.empty wq).lower hzq)
  replace HBQ:=Lib.hid (HBQ.out.alloc hzq (.cells #[] tA))
  have hzq2:W7.heap.size≤(wq.alloc (.cells #[] tA)).heap.size:=by simp;omega
  generalize wq.alloc (.cells #[] tA)=wz at HBQ OA0 hzq2 hHeld ⊢
  refine rdc 5 rfl fun K hK=>?_
  skip
  (refine stepALm (base:=W7.heap.size) (n:=i) (zs:=a.atoms.take i) rfl _ _ rfl rfl OA0.out rfl HL1.out.symm (hT.out.below (bgo HB7.out HBQ.out)) rfl HL1.out.symm (by omega) hzq2 ?_;intro A8 c8 w8 o8 hg8 hB8;replace HBQ:=Lib.hid (HBQ.out.trans hB8);have OA1:=Lib.hid o8;have hzq3:=Nat.le_trans hzq2 hB8.size;clear o8 hg8 hB8 OA0)
  refine hK.out _ _ ((k07.next HBQ.out).cell) ?_
  clear hHeld hK K
  intro hHeld
  try simp only[Act.put,zA,zB,zC,zD,zE,zF]
  refine rdc 11 rfl fun K hK=>?_
  skip
  (refine stepALm (base:=W7.heap.size) (n:=a.atoms.length - 1) (zs:=withoutL a.atoms i) rfl _ _ rfl rfl OA1.out rfl HL2.out.symm (hD.out.below (bgo HB7.out HBQ.out)) rfl (by omega) (by omega) hzq3 ?_;intro A9 c9 w9 o9 hg9 hB9;replace HBQ:=Lib.hid (HBQ.out.trans hB9);have OA2:=Lib.hid o9;have hzq4:=Nat.le_trans hzq3 hB9.size;clear o9 hg9 hB9 OA1)
  refine hK.out _ _ ((k07.next HBQ.out).cell) ?_
  clear hHeld hK K
  intro hHeld
  try simp only[Act.put,zA,zB,zC,zD,zE,zF]
  refine tk 12 ?_ rfl (fun w hSw=>?_) hHeld ?_
  rotate_left
  ·((try dsimp only at hSw);go_split_ands;go_simp;(try with_reducible rfl))
  try simp only[Act.put,zA,zB,zC,zD,zE,zF]
  have kE9:=kE7.next HBQ.out
  have qkE9:=kE9.cell
  have rkE9:=kE9.frozen
  have lkE9:=kE9.lt
  refine rdc 13 rfl fun K hK=>?_
  try simp only[zA,zB,zC]
  go_simp
  refine hK.out _ _ (((k07.next HBQ.out).far (p:=⟨yE,1,none⟩) (by simp only;omega) _).cell) ?_
  clear hHeld hK K
  intro hHeld
  try simp only[Act.put,zA,zB,zC,zD,zE,zF]
  refine wpAnyH_done (by kernel_rfl) ?_ _
  refine NoPanic.normal ?_
  clear qkE9 rkE9 lkE9 hHeld
  have kE10:Blk (w9.setCell ⟨yE,1,none⟩ (.slice A9 (a.atoms.length - 1) c9)) yE tAs #[.slice A6 (a.facts.length+1) c6,.slice A9 (a.atoms.length - 1) c9]:=by
   have:=kE9.set_ 1 (.slice A9 (a.atoms.length - 1) c9)
   simpa using this
  have k010:=(k07.next HBQ.out).far (p:=⟨yE,1,none⟩) (by simp only;omega) (.slice A9 (a.atoms.length - 1) c9)
  have kx10:=(kx7.next HBQ.out).far (p:=⟨yE,1,none⟩) (by simp only;omega) (.slice A9 (a.atoms.length - 1) c9)
  have OE1:=Lib.hid ((O17.out.below HBQ.out).setT kE9 (by decide) 1 (.slice A9 (a.atoms.length - 1) c9))
  have OE2:=Lib.hid ((OA2.out.lower (base':=w.heap.size) HB7.out.size).setT kE9 (by decide) 1 (.slice A9 (a.atoms.length - 1) c9))
  have HB10:=Lib.hid ((bgo HB7.out HBQ.out).setCell (p:=⟨yE,1,none⟩) (by simp only;omega) (.slice A9 (a.atoms.length - 1) c9))
  have hz10:yE<(w9.setCell ⟨yE,1,none⟩ (.slice A9 (a.atoms.length - 1) c9)).heap.size:=kE10.lt
  clear k07 kx7 kE7 O17 HB7 hz7 HBQ OA2 kE9 hzq hzq2 hzq3 hzq4
  generalize (w9.setCell ⟨yE,1,none⟩ (.slice A9 (a.atoms.length - 1) c9))=W8 at kE10 k010 kx10 OE1 OE2 HB10 hz10 ⊢
  (replace qk010:=k010.cell;replace rk010:=k010.frozen;replace lk010:=k010.lt;replace qkx10:=kx10.cell;replace rkx10:=kx10.frozen;replace lkx10:=kx10.lt)
  go_wp2_with fail
  refine (c_l10Front _ a ⟨1,x.a,(m:Int)⟩ i _ (hV.out.V.below HB10.out) HVa.out HHi.out).mono ?_
  rintro e w11 ⟨F2,d2,G2,g2,rfl,oF,hB11⟩
  have OFX:=Lib.hid oF
  have HBX:=Lib.hid hB11
  have hz11:=hB11.size
  clear oF hB11 qk010 rk010 lk010 qkx10 rkx10 lkx10
  go_upto_region 9 with fail
  replace OFX:=Lib.hid (OFX.out.below (bbox (Below.refl _ _) (.cells #[.slice F2 a.facts.length d2,.slice G2 a.atoms.length g2] tAs)))
  replace HBX:=Lib.hid (bbox HBX.out (.cells #[.slice F2 a.facts.length d2,.slice G2 a.atoms.length g2] tAs))
  have kF:Blk (w11.alloc (.cells #[.slice F2 a.facts.length d2,.slice G2 a.atoms.length g2] tAs)) w11.heap.size tAs #[.slice F2 a.facts.length d2,.slice G2 a.atoms.length g2]:=Blk.new _ _ _
  have hzF:w11.heap.size+1≤(w11.alloc (.cells #[.slice F2 a.facts.length d2,.slice G2 a.atoms.length g2] tAs)).heap.size:=by simp
  generalize (w11.alloc (.cells #[.slice F2 a.facts.length d2,.slice G2 a.atoms.length g2] tAs))=W9 at OFX HBX kF hzF ⊢
  obtain ⟨yF,hyF⟩:∃ y,y=w11.heap.size:=⟨_,rfl⟩
  rw[←hyF] at kF hzF hz11 ⊢
  clear hyF
  have OF1:=Lib.hid OFX.out.parts.1
  have OF2:=Lib.hid OFX.out.parts.2
  clear OFX
  simp only at OF1 OF2
  have kx11:=kx10.next HBX.out
  (replace qkF:=kF.cell;replace rkF:=kF.frozen;replace lkF:=kF.lt;replace qkx11:=kx11.cell;replace rkx11:=kx11.frozen;replace lkx11:=kx11.lt)
  go_upto_region 10 with (at_builtin;refine appFL (ys:=[⟨false,x.a,x.b⟩]) (base:=W8.heap.size) rfl _ _ rfl rfl (OF1.out.below bel) rfl (FactsV.one (f:=⟨false,x.a,x.b⟩) (Blk.new W9 tF _)) (by simp<;>omega) (by simp<;>omega) ?_;intro A12 c12 w12 o12 hg12 hB12;have kO:=OF1.out.below (w':=W9.alloc (.cells #[.bool false,.int .i64 x.a,.int .i64 x.b] tF)) bel;have kF12:=Blk.grownO (hg:=hg12) (kF.alloc _) kO.1 (by decide);have OF22:=Lib.hid (AtomsO.grownF (OF2.out.below (w':=W9.alloc (.cells #[.bool false,.int .i64 x.a,.int .i64 x.b] tF)) bel) kO hg12);have HBX12:Hid (Below W8.heap.size W8 w12):=Lib.hid ((bbox HBX.out _).trans hB12);have OF12:=Lib.hid o12;clear hB12 hg12 o12 kO qkF rkF lkF qkx11 rkx11 lkx11;(replace qkF12:=kF12.cell;replace rkF12:=kF12.frozen;replace lkF12:=kF12.lt))
  simp only[List.length_append,List.length_cons,List.length_nil,Nat.zero_add] at OF12 ⊢
  have kF13:Blk (w12.setCell ⟨yF,0,none⟩ (.slice A12 (a.facts.length+1) c12)) yF tAs #[.slice A12 (a.facts.length+1) c12,.slice G2 a.atoms.length g2]:=by
   have:=kF12.set_ 0 (.slice A12 (a.facts.length+1) c12)
   simpa using this
  have OF13:=Lib.hid (OF12.out.setT kF12 (by decide) 0 (.slice A12 (a.facts.length+1) c12))
  have OF23:=Lib.hid (OF22.out.setT kF12 (by decide) 0 (.slice A12 (a.facts.length+1) c12))
  have HBX13:=Lib.hid (HBX12.out.setCell (p:=⟨yF,0,none⟩) (by simp only;omega) (.slice A12 (a.facts.length+1) c12))
  clear kF kx11 OF1 OF2 HBX kF12 OF12 OF22 HBX12 qkF12 rkF12 lkF12
  generalize (w12.setCell ⟨yF,0,none⟩ (.slice A12 (a.facts.length+1) c12))=W10 at kF13 OF13 OF23 HBX13 ⊢
  have kx13:=kx10.next HBX13.out
  (replace qkF13:=kF13.cell;replace rkF13:=kF13.frozen;replace lkF13:=kF13.lt;replace qkx13:=kx13.cell;replace rkx13:=kx13.frozen;replace lkx13:=kx13.lt)
  go_upto_region 11 with (at_builtin;refine appAL (ys:=[⟨2,(m:Int),x.b⟩]) (base:=W8.heap.size) rfl _ _ rfl rfl (OF23.out.below bel) (by rfl) (AtomsV.one (f:=⟨2,(m:Int),x.b⟩) (Blk.new W10 tA _)) (by simp<;>omega) (by have:=HBX13.out.size;simp<;>omega) ?_;intro A14 c14 w14 o14 hg14 hB14;have kO:=OF23.out.below (w':=W10.alloc (.cells #[.int .i64 2,.int .i64 m,.int .i64 x.b] tA)) bel;have kF14:=Blk.grownO (hg:=hg14) (kF13.alloc _) kO.1 (by decide);have OF14:=Lib.hid (FactsO.grownA (OF13.out.below (w':=W10.alloc (.cells #[.int .i64 2,.int .i64 m,.int .i64 x.b] tA)) bel) kO hg14);have HBX14:Hid (Below W8.heap.size W8 w14):=Lib.hid ((bbox HBX13.out _).trans hB14);have OF24:=Lib.hid o14;clear hB14 hg14 o14 kO qkF13 rkF13 lkF13 qkx13 rkx13 lkx13;(replace qkF14:=kF14.cell;replace rkF14:=kF14.frozen;replace lkF14:=kF14.lt))
  simp only[List.length_append,List.length_cons,List.length_nil,Nat.zero_add] at OF24 ⊢
  have hLL:1+(withoutL a.atoms i).length+1=a.atoms.length+1:=by omega
  try rw[hLL]
  replace OF24:Hid (AtomsO w14 W8.heap.size (.slice A14 (a.atoms.length+1) c14) (([⟨1,x.a,(m:Int)⟩]++withoutL a.atoms i)++[⟨2,(m:Int),x.b⟩])):=Lib.hid (by
   have h24:=OF24.out
   try rw[hLL] at h24
   exact h24)
  have kF15:Blk (w14.setCell ⟨yF,1,none⟩ (.slice A14 (a.atoms.length+1) c14)) yF tAs #[.slice A12 (a.facts.length+1) c12,.slice A14 (a.atoms.length+1) c14]:=by
   have:=kF14.set_ 1 (.slice A14 (a.atoms.length+1) c14)
   simpa using this
  have OF15:=Lib.hid (OF14.out.setT kF14 (by decide) 1 (.slice A14 (a.atoms.length+1) c14))
  have OF25:=Lib.hid (OF24.out.setT kF14 (by decide) 1 (.slice A14 (a.atoms.length+1) c14))
  have HBX15:=Lib.hid (HBX14.out.setCell (p:=⟨yF,1,none⟩) (by simp only;omega) (.slice A14 (a.atoms.length+1) c14))
  clear kF13 kx13 OF13 OF23 HBX13 kF14 OF14 OF24 HBX14 qkF14 rkF14 lkF14 hLL
  generalize (w14.setCell ⟨yF,1,none⟩ (.slice A14 (a.atoms.length+1) c14))=W12 at kF15 OF15 OF25 HBX15 ⊢
  have hz15:=HBX15.out.size
  have kE15:=kE10.next HBX15.out
  have OE:Hid (AsnO W12 w.heap.size (.agg #[.slice A6 (a.facts.length+1) c6,.slice A9 (a.atoms.length - 1) c9]) (emptyX a x i)):=Lib.hid ⟨_,_,rfl,OE1.out.below HBX15.out,OE2.out.below HBX15.out⟩
  have OX:Hid (AsnO W12 W8.heap.size (.agg #[.slice A12 (a.facts.length+1) c12,.slice A14 (a.atoms.length+1) c14]) (fullX a x i (m:Int))):=Lib.hid ⟨_,_,rfl,OF15.out,OF25.out⟩
  have HB15:=Lib.hid (bgo HB10.out HBX15.out)
  have hLE:Hid ((emptyX a x i).facts.length≤1000∧(emptyX a x i).atoms.length≤1000):=Lib.hid (by simp only[emptyX,List.length_append,List.length_cons,List.length_nil];omega)
  have hLF:Hid ((fullX a x i (m:Int)).facts.length≤1000∧(fullX a x i (m:Int)).atoms.length≤1000):=Lib.hid (by simp only[fullX,List.length_append,List.length_cons,List.length_nil];omega)
  clear OE1 OE2 HBX15 OF15 OF25 kE10 k010 kx10 HB10
  have hni:(n:Int)≤6:=by omega
  (replace qkE15:=kE15.cell;replace rkE15:=kE15.frozen;replace lkE15:=kE15.lt)
  go_wp2_with fail
  refine (HEH.out w.heap.size _ _ _ _ B cB _ OE.out.C (HFL.out.below HB15.out) hLE.out.1 hLE.out.2).mono ?_
  rintro e w16 ⟨r1,vs1,l1,rfl,o1,hl1,HR1,hB16⟩
  obtain ⟨R1,z1,rfl⟩:=o1.form
  have O1:=Lib.hid o1
  have HR1':=Lib.hid HR1
  replace OX:=Lib.hid (OX.out.below hB16)
  have kF16:=kF15.next hB16
  have HB16:=Lib.hid (bgo HB15.out hB16)
  have hz16:=hB16.size
  clear o1 HR1 hB16 HB15 kF15 kE15 qkE15 rkE15 lkE15 OE
  (replace qkF16:=kF16.cell;replace rkF16:=kF16.frozen;replace lkF16:=kF16.lt)
  go_wp2_with fail
  refine (HFH.out m W8.heap.size _ _ _ _ B cB _ OX.out.C (HFL.out.below HB16.out) hLF.out.1 hLF.out.2).mono ?_
  rintro e w17 ⟨r2,vs2,l2,rfl,o2,hl2,HR2,hB17⟩
  obtain ⟨R2,z2,rfl⟩:=o2.form
  have O2:=Lib.hid o2
  have HR2':=Lib.hid HR2
  have HB17':=Lib.hid hB17
  have HB17:=Lib.hid (bgo HB16.out hB17)
  have hz17:=hB17.size
  have hp:=HN.out
  have hll:l1.length+l2.length≤1049600:=by omega
  have hll2:Hid (l1.length+l2.length≤2 ^ (n+1)):=Lib.hid (by rw[Nat.pow_succ];omega)
  clear o2 HR2 hB17 HB16 kF16 qkF16 rkF16 lkF16 OX hl1 hl2 hp
  have HE1:Hid (∀ e1,exposeF n (emptyX a x i) t Ks=none→(listF n a x i t Ks).isSome=e1→e1=false):=Lib.hid fun e1 h h'=>by rw[←h',list_first HNT.out h];rfl
  have HBoth:Hid ((listF n a x i t Ks).isSome=((exposeF n (emptyX a x i) t Ks).isSome&&(exposeF n (fullX a x i (m:Int)) t Ks).isSome)∧(listF n a x i t Ks=none∨listF n a x i t Ks=some (l1++l2))):=Lib.hid (by
   rcases HR1'.out with e1|e1
   ·rw[list_first HNT.out e1,e1];exact ⟨rfl,.inl rfl⟩
   ·rcases HR2'.out with e2|e2
    ·rw[list_second HNT.out e2,e1,e2];exact ⟨rfl,.inl rfl⟩
    ·rw[list_both HNT.out e1 e2,e1,e2];exact ⟨rfl,.inr rfl⟩)
  clear HE1 HR1' HR2'
  generalize (exposeF n (emptyX a x i) t Ks).isSome=p1 at HBoth ⊢
  generalize (exposeF n (fullX a x i (m:Int)) t Ks).isSome=p2 at HBoth ⊢
  cases p1<;>cases p2
  all_goals
   go_wp2_with (at_builtin;refine wpList_appL (base:=w.heap.size) rfl _ _ 57 rfl Tryz.underlying57 infoAs2 rfl (by decide) (by decide) rfl (own_lower (own_below O1.out.row HB17'.out) (by omega)) rfl O2.out.rd.raw O2.out.els.one_cell hll (by omega) ?_;intro v18 w18 hO18 hg18 hB18;have HR18:=Lib.hid hO18;have HG18:=Lib.hid hg18;have HB18:=Lib.hid (HB17.out.trans hB18);obtain ⟨A18,d18,rfl,-⟩:=own_reads hO18 hll;clear hO18 hg18 hB18)
   go_ret2
   exact ⟨_,vs1++vs2,l1++l2,by rw[HBoth.out.1];rfl,(O1.out.lower (by omega)).cat HB17'.out O2.out (by omega) (Nat.le_refl _) hll HG18.out HR18.out,by rw[List.length_append];exact hll2.out,HBoth.out.2,HB18.out⟩
end Go.Proofs.YtjjokmlmknllhaaGreat

/- Appending assertions to a list of our own. -/
namespace Go.Proofs.YtjjokmlmknllhaaGreat
open Go Go.RowKit Go.Proofs
attribute [local go_sem ↓] Go.wp_at_zero Go.wp_at_succ
section
variable {ops:Array Oper} {rest:List Oper} {o:Oper} {a:Act} {Q:Exit→Act→World→Prop} {w w0:World} {base mid:Nat} {v v2:Value} {vs vs2:List Value} {ss ss2:List Asn}
theorem appA2 (hgd:o.guard=none) (s x:Operand) (ho:o.op=.call { callee:=.builtin .append,args:=#[s,x],argTypes:=#[57,57] })
  (hs:a.eval s=v) (h0:A2O w0 base v vs ss) (hb0:Below w0.heap.size w0 w) (hbase:base≤w0.heap.size) (h2:A2O w mid v2 vs2 ss2) (hm:w0.heap.size≤mid) (hx:a.eval x=v2) (hl:ss.length+ss2.length≤1049600)
  (h:∀ A' c' w',A2O w' base (.slice A' (ss.length+ss2.length) c') (vs++vs2) (ss++ss2)→w.grownBy w' v.ownBlock→Below base w w'→wpList Tryz.prog ops Q rest (a.put o.dst (.slice A' (ss.length+ss2.length) c')) w'):wpList Tryz.prog ops Q (o :: rest) a w:=by
 obtain ⟨A,c,rfl⟩:=h2.form
 refine wpList_appL (base:=base) hgd s x 57 ho Tryz.underlying57 infoAs2 rfl (by decide) (by decide) hs (own_below h0.row hb0) hx h2.rd.raw h2.els.one_cell hl (Nat.le_trans hbase hb0.size) ?_
 intro v' w' hO hg hB
 have hC:=h0.cat hb0 h2 (Nat.le_trans hbase hm) hm hl hg hO
 obtain ⟨A',d,rfl,-⟩:=own_reads hO hl
 exact h A' d w' hC hg hB
end
end Go.Proofs.YtjjokmlmknllhaaGreat

/- Exposing a cell is exact: the results entail the assertion, and one of them holds where it does. Plain; no program. -/
namespace Go.Proofs.YtjjokmlmknllhaaGreat
open Go Go.RowKit
section
variable {M:Int→Int} {F G G':List Atm} {a:Asn} {x:Atm} {i:Nat} {t m:Int}
theorem Cover.mk {css:List (List Atm)} (h:Covs M F G css) (hp:F.Perm css.flatten) (hn:(F.map fun y=>M y.a).Nodup):Cover M F G:=by
 have hs:=covs_starts G css h
 obtain ⟨g,g1,g2⟩:=covs_fun G css h (((hp.map fun y=>M y.a).nodup_iff.1 hn).sublist hs)
 exact ⟨g,g2,by rw[←g1];exact hp⟩
theorem cov_self (y:Atm):CovM M F y [y]:=by
 unfold CovM
 split
 ·exact ⟨y,rfl,rfl⟩
 ·exact ⟨rfl,.inl ⟨rfl,rfl⟩⟩
theorem covs_self:∀ (G:List Atm),Covs M F G (G.map fun y=>[y])
 | []=>trivial
 | y :: G=>⟨cov_self y,covs_self G⟩
theorem flat_self:∀ (G:List Atm),(G.map fun y=>[y]).flatten=G
 | []=>rfl
 | y :: G=>by simp[flat_self G]
theorem Cover.permG (h:Cover M F G) (hp:G.Perm G'):Cover M F G':=by
 obtain ⟨g,h1,h2⟩:=h
 exact ⟨g,fun x hx=>h1 x (hp.mem_iff.2 hx),h2.trans (hp.flatMap_right g)⟩
theorem fill_perm (hx:a.atoms[i]? = some x):(a.atoms.filter (fillM M)).Perm ((x :: withoutL a.atoms i).filter (fillM M)):=(without_perm hx).filter _
theorem cell_fill {p q:Int}:fillM M ⟨1,p,q⟩=true:=rfl
theorem ent_ofCell (hx:a.atoms[i]? = some x) (hk:x.kind=1) (hs:Sat M (cellX a x i t)):M x.a=M t∧EntM M (cellX a x i t) a:=by
 have hfx:fillM M x=true:=by unfold fillM;rw[decide_eq_true hk];rfl
 have ht:M x.a=M t:=by
  by_cases e:x.a=t
  ·rw[e]
  ·exact of_decide_eq_true (hs.facts ⟨true,x.a,t⟩ (by simp[cellX,e]))
 refine ⟨ht,fun f hf=>hs.facts f (by simp[cellX,hf]),?_⟩
 have hp:=fill_perm (M:=M) hx
 rw[List.filter_cons_of_pos hfx] at hp
 have hn:=hs.apart
 simp only[cellX] at hn ⊢
 rw[List.filter_cons_of_pos cell_fill] at hn ⊢
 refine (Cover.mk (G:=x :: (withoutL a.atoms i).filter (fillM M)) (css:=[⟨1,t,x.b⟩] :: ((withoutL a.atoms i).filter (fillM M)).map fun y=>[y]) ⟨?_,covs_self _⟩ (by rw[List.flatten_cons,flat_self];exact List.Perm.refl _) hn).permG hp.symm
 unfold CovM
 rw[if_pos hk]
 exact ⟨_,rfl,by simp[clsM,hk,ht]⟩
theorem unfill (hk:x.kind=2) (he:M x.a=M x.b):fillM M x=false:=by
 unfold fillM;rw[decide_eq_false (by omega),decide_eq_true he];rfl
theorem ent_ofEmpty (hx:a.atoms[i]? = some x) (hk:x.kind=2) (hs:Sat M (emptyX a x i)):EntM M (emptyX a x i) a:=by
 have he:M x.a=M x.b:=of_decide_eq_true (hs.facts ⟨true,x.a,x.b⟩ (by simp[emptyX]))
 refine ⟨fun f hf=>hs.facts f (by simp[emptyX,hf]),?_⟩
 have hp:=fill_perm (M:=M) hx
 rw[List.filter_cons_of_neg (by simp[unfill hk he])] at hp
 exact Cover.perm hp.symm
theorem ent_ofFull (hx:a.atoms[i]? = some x) (hk:x.kind=2) (hs:Sat M (fullX a x i m)):EntM M (fullX a x i m) a:=by
 have hne:decide (M x.a=M x.b)=false:=hs.facts ⟨false,x.a,x.b⟩ (by simp[fullX])
 have hfx:fillM M x=true:=by unfold fillM;rw[hne];simp
 have hn:=hs.apart
 refine ⟨fun f hf=>hs.facts f (by simp[fullX,hf]),?_⟩
 have hp:=fill_perm (M:=M) hx
 rw[List.filter_cons_of_pos hfx] at hp
 simp only[fullX] at hn ⊢
 rw[List.filter_append,List.filter_append,List.filter_cons_of_pos cell_fill,List.filter_nil] at hn ⊢
 refine Cover.permG ?_ hp.symm
 cases hfl:fillM M ⟨2,m,x.b⟩
 ·have hmb:M m=M x.b:=by simpa [fillM] using hfl
  rw[List.filter_cons_of_neg (by simp[hfl]),List.filter_nil,List.append_nil] at hn ⊢
  refine Cover.mk (css:=[⟨1,x.a,m⟩] :: ((withoutL a.atoms i).filter (fillM M)).map fun y=>[y]) ⟨?_,covs_self _⟩ (by rw[List.flatten_cons,flat_self];done) hn
  unfold CovM
  rw[if_neg (by omega)]
  exact ⟨rfl,.inl ⟨rfl,hmb⟩⟩
 ·have hmb:M m≠M x.b:=by simpa [fillM] using hfl
  rw[List.filter_cons_of_pos hfl,List.filter_nil] at hn ⊢
  refine Cover.mk (css:=[⟨1,x.a,m⟩,⟨2,m,x.b⟩] :: ((withoutL a.atoms i).filter (fillM M)).map fun y=>[y]) ⟨?_,covs_self _⟩ ?_ hn
  ·unfold CovM
   rw[if_neg (by omega)]
   exact ⟨rfl,.inr ⟨by simp,hmb,fun (h:(1:Int)=2)=>absurd h (by decide),rfl,.inl ⟨rfl,rfl⟩⟩⟩
  ·rw[List.flatten_cons,flat_self]
   simp only[List.singleton_append,List.cons_append,List.nil_append]
   exact (List.perm_append_singleton _ _).cons _
end
theorem expose_valid {n:Nat} {a:Asn} {t:Int} {K:Nat} {l:List Asn} (h:exposeF n a t K=some l):a.valid=true:=by
 cases hv:a.valid
 ·rw[expose_bad hv] at h;cases h
 ·rfl
theorem expose_ent:∀ (n:Nat) (a:Asn) (t:Int) (K:Nat) (l:List Asn),exposeF n a t K=some l→∀ e∈l,e.valid=true∧(∀ M,Sat M e→EntM M e a)∧∃ b rest,e.atoms=⟨1,t,b⟩ :: rest
 | 0,_,_,_,_,h=>by cases h
 | n+1,a,t,K,l,h=>by
  intro e he
  have hv:=expose_valid h
  cases hc:consB a
  ·rw[expose_no hv hc] at h
   obtain rfl:=Option.some.inj h
   cases he
  cases hf:findK a 1 t with
  | some i=>
   obtain ⟨x,hx,hk,-,-⟩:=find_some hf
   rw[expose_cell hv hc hf hx] at h
   split at h
   ·rename_i hcv
    obtain rfl:=Option.some.inj h
    obtain rfl:=List.mem_singleton.1 he
    exact ⟨hcv,fun M hM=>(ent_ofCell hx hk hM).2,_,_,rfl⟩
   ·cases h
  | none=>
   cases hg:findK a 2 t with
   | none=>rw[expose_none hv hc hf hg] at h;cases h
   | some i=>
    obtain ⟨x,hx,hk,-,-⟩:=find_some hg
    rw[expose_list hv hc hf hg hx] at h
    unfold listF at h
    split at h
    ·cases h
    ·rename_i m hm
     split at h
     ·cases h
     ·rename_i l1 h1
      split at h
      ·cases h
      ·rename_i l2 h2
       obtain rfl:=Option.some.inj h
       rcases List.mem_append.1 he with he|he
       ·obtain ⟨g1,g2,g3⟩:=expose_ent n _ _ _ _ h1 e he
        exact ⟨g1,fun M hM=>(g2 M hM).trans (ent_ofEmpty hx hk ((g2 M hM).sat hM)) hM (expose_valid h1),g3⟩
       ·obtain ⟨g1,g2,g3⟩:=expose_ent n _ _ _ _ h2 e he
        exact ⟨g1,fun M hM=>(g2 M hM).trans (ent_ofFull hx hk ((g2 M hM).sat hM)) hM (expose_valid h2),g3⟩
end Go.Proofs.YtjjokmlmknllhaaGreat
