/- Contracts: a command's head (spec.l8Head). -/
import Derived.Test.YtjaohekkmlkinaaGreatMbPrgH
import Derived.Deep.DeepCutAuto
set_option linter.unusedSimpArgs false
set_option linter.unusedVariables false
set_option maxRecDepth 100000
set_option maxHeartbeats 25600000
namespace Go.Proofs.YtjaohekkmlkinaaGreat
section
open Go Go.RowKit Go.Proofs
def headV (h:Hd) (fv av:Value):Value:=.agg #[.int .i64 h.k,.int .i64 h.a,.int .i64 h.b,.bool h.t.eq,.int .i64 h.t.a,.int .i64 h.t.b,fv,av,.slice none 0 0,.slice none 0 0]
theorem head1 {l:Bs} (h:(splitM l [58,61]).2.2=true):headF l=asgnPF (splitM l [58,61]).1 (splitM l [58,61]).2.1:=by unfold headF;rw[if_pos h]
theorem headI0 {l:Bs} (h:(splitM l [58,61]).2.2=false):headF l=wordF (splitM l [32]).1 (splitM l [32]).2.1:=by unfold headF;rw[h];rfl
theorem word7 {word rest:Bs} (h1:word≠[110,101,119]) (h2:word≠[102,114,101,101]) (h3:word≠[105,102]) :
  wordF word rest=⟨7,0,0,pF (splitM rest [32,119,105,116,104,32]).1,pA (splitM rest [32,119,105,116,104,32]).2.1⟩:=by
 unfold wordF;rw[if_neg h1,if_neg h2,if_neg h3]
theorem headV_sim {h:Hd} (hi:h.i=⟨[],[]⟩) (ht:h.t=fctZ):Value.agg (simC h.k h.a h.b)=headV h (.slice none 0 0) (.slice none 0 0):=by
 obtain ⟨k,a,b,t,i⟩:=h;simp only at hi ht;subst hi ht;rfl
theorem c_l8Head (l:Bs) (w:World) (hl:l.length≤1000000):Calls Tryz.prog 241 #[sv l] w fun e w'=>∃ fv av,e=.returned (headV (headF l) fv av)∧FactsO w' w.heap.size fv (headF l).i.facts∧AtomsO w' w.heap.size av (headF l).i.atoms∧Below w.heap.size w w':=by
 have k0:Blk (w.alloc (.cells (simC 0 0 0) tC)) w.heap.size tC (simC 0 0 0):=Blk.new _ _ _;have s1:=splitM_len l [58,61];have s2:=splitM_len l [32];have H1:=ax (fun h=>head1 (l:=l) h);have H0:=ax (fun h=>headI0 (l:=l) h);have c1:=fun w=>c_l8Split l [58,61] w (by omega) (by simp);have c2:=fun w=>c_l8Split l [32] w (by omega) (by simp);obtain ⟨⟨le,ri,ok⟩,hs⟩:∃ s,s=splitM l [58,61]:=⟨_,rfl⟩;obtain ⟨⟨wo,re,o2⟩,hs2⟩:∃ s,s=splitM l [32]:=⟨_,rfl⟩;rw[←hs] at s1 H1 H0 c1;rw[←hs2] at s2 H0 c2;clear hs hs2;simp only at s1 s2 c1 c2;obtain ⟨l1,l2⟩:=s1;obtain ⟨l3,l4⟩:=s2;replace c1:=ax c1;replace c2:=ax c2;(go_enter Tryz.func241,Tryz.ntmps241);(go_wp2_with fail);refine (c1.o _).mono ?_;rintro e w1 ⟨rfl,hB1⟩;replace k0:=k0.nz hB1;have HB1:=ax (bgo (w:=w) (bel:Below w.heap.size w (w.alloc (.cells (simC 0 0 0) tC))) hB1);clear hB1 c1
 cases ok with
 | true=>
  have hH:=ax (H1.o rfl);clear H0 H1;have q0:=k0.cell;have r0:=k0.frozen;have l0:=k0.lt;(go_wp2_with fail);refine (c_l8Assign le ri _ (by omega) (by omega)).mono ?_;rintro e w2 ⟨rfl,hB2⟩;replace k0:=k0.nz hB2;have HB2:=ax (bgo HB1.o hB2);clear hB2 HB1 q0 r0 l0;obtain ⟨ak,aa,ab,hak⟩:∃ k a b,k=(asgnPF le ri).k∧a=(asgnPF le ri).a∧b=(asgnPF le ri).b:=⟨_,_,_,rfl,rfl,rfl⟩;have hv:aJ (Value.agg (simC ak aa ab)=headV (asgnPF le ri) (.slice none 0 0) (.slice none 0 0)):=ax (by rw[hak.1,hak.2.1,hak.2.2];exact headV_sim rfl rfl);rw[←hak.1,←hak.2.1,←hak.2.2];clear hak;have q0:=k0.cell;have r0:=k0.frozen;have l0:=k0.lt;unfold simC at q0 k0;(go_wp2_with fail);unfold simC;(go_wp2_with fail);refine retW (D:=fun T=>Blk T w.heap.size tC (simC ak aa ab)∧Below w.heap.size w T) ⟨ten0 k0,below_ten HB2.o (Nat.le_refl _)⟩ ?_;rintro T ⟨kT,r1⟩;have t:=kT.cell;exact bodyPost_ret (v:=.agg (simC ak aa ab)) (by simp[results,Tryz.results241,go_sem,simC,t]) rfl ⟨_,_,by rw[hH.o,hv.o],by rw[hH.o];exact FactsO.nil _ _,by rw[hH.o];exact AtomsO.nil _ _,r1⟩
 | false=>
  have hH:=ax (H0.o rfl);clear H0 H1;have q0:=k0.cell;have r0:=k0.frozen;have l0:=k0.lt;(go_wp2_with fail);refine (c2.o _).mono ?_;rintro e w2 ⟨rfl,hB2⟩;replace k0:=k0.nz hB2;have HB2:=ax (bgo HB1.o hB2);clear hB2 HB1 q0 r0 l0;have q0:=k0.cell;have r0:=k0.frozen;have l0:=k0.lt;(go_wp2_with fail);refine (c_ParseTerm re _).mono ?_;rintro e w3 ⟨rfl,rfl⟩;obtain ⟨ta,hta⟩:∃ t:Int,t=pT re:=⟨_,rfl⟩;rw[show (((parseT re).getD 0:Nat):Int)=ta from hta.symm];by_cases h1:wo=[110,101,119]
  ·subst h1;have hH2:aJ (headF l=⟨4,ta,0,fctZ,⟨[],[]⟩⟩):=ax (by rw[hH.o,hta];rfl);clear hH hta;unfold simC at q0 k0;(go_wp2_with fail);refine retW (D:=fun T=>Blk T w.heap.size tC (simC 4 ta 0)∧Below w.heap.size w T) ⟨ten0 k0,below_ten HB2.o (Nat.le_refl _)⟩ ?_;rintro T ⟨kT,r1⟩;have t:=kT.cell;exact bodyPost_ret (v:=.agg (simC 4 ta 0)) (by simp[results,Tryz.results241,go_sem,simC,t]) rfl ⟨_,_,by rw[hH2.o];rfl,by rw[hH2.o];exact FactsO.nil _ _,by rw[hH2.o];exact AtomsO.nil _ _,r1⟩
  have h1b:(wo == [110,101,119])=false:=by rw[bytes_eq];simpa using h1
  by_cases h2:wo=[102,114,101,101]
  ·subst h2;have hH2:aJ (headF l=⟨5,ta,0,fctZ,⟨[],[]⟩⟩):=ax (by rw[hH.o,hta];rfl);clear hH hta h1 h1b;unfold simC at q0 k0;(go_wp2_with fail);refine retW (D:=fun T=>Blk T w.heap.size tC (simC 5 ta 0)∧Below w.heap.size w T) ⟨ten0 k0,below_ten HB2.o (Nat.le_refl _)⟩ ?_;rintro T ⟨kT,r1⟩;have t:=kT.cell;exact bodyPost_ret (v:=.agg (simC 5 ta 0)) (by simp[results,Tryz.results241,go_sem,simC,t]) rfl ⟨_,_,by rw[hH2.o];rfl,by rw[hH2.o];exact FactsO.nil _ _,by rw[hH2.o];exact AtomsO.nil _ _,r1⟩
  have h2b:(wo == [102,114,101,101])=false:=by rw[bytes_eq];simpa using h2
  by_cases h3:wo=[105,102]
  ·subst h3;have hH2:aJ (headF l=⟨6,0,0,pF re,⟨[],[]⟩⟩):=ax (by rw[hH.o];rfl);clear hH hta h1 h1b h2 h2b;(go_wp2_with fail);refine (c_ParseFact re _).mono ?_;rintro e w4 ⟨rfl,hB4⟩;replace k0:=k0.nz hB4;have HB4:=ax (bgo HB2.o hB4);clear hB4 HB2 q0 r0 l0;obtain ⟨fe,fa,fb,hfv⟩:∃ fe fa fb,((parseF re).getD fct0)=⟨fe,fa,fb⟩:=⟨_,_,_,rfl⟩;have hfv2:((parseF re).getD fct0).val=.agg #[.bool fe,.int .i64 fa,.int .i64 fb]:=by rw[hfv]
   rw[hfv2];have hH3:aJ (headF l=⟨6,0,0,⟨fe,fa,fb⟩,⟨[],[]⟩⟩):=ax (by rw[hH2.o,←hfv];rfl);clear hfv hfv2 hH2;have q0:=k0.cell;have r0:=k0.frozen;have l0:=k0.lt;unfold simC at q0 k0;(go_wp2_with fail);refine retW (D:=fun T=>Blk T w.heap.size tC #[.int .i64 6,.int .i64 0,.int .i64 0,.bool fe,.int .i64 fa,.int .i64 fb,.slice none 0 0,.slice none 0 0,.slice none 0 0,.slice none 0 0]∧Below w.heap.size w T) ⟨(ten0 k0).alloc _,(below_ten HB4.o (Nat.le_refl _)).alloc (by simp;omega) _⟩ ?_;rintro T ⟨kT,r1⟩;have t:=kT.cell;exact bodyPost_ret (v:=headV ⟨6,0,0,⟨fe,fa,fb⟩,⟨[],[]⟩⟩ (.slice none 0 0) (.slice none 0 0)) (by simp[results,Tryz.results241,go_sem,headV,t]) rfl ⟨_,_,by rw[hH3.o],by rw[hH3.o];exact FactsO.nil _ _,by rw[hH3.o];exact AtomsO.nil _ _,r1⟩
  have h3b:(wo == [105,102])=false:=by rw[bytes_eq];simpa using h3
  have hH2:=ax (hH.o.trans (word7 h1 h2 h3));have s5:=splitM_len re [32,119,105,116,104,32];have c5:=fun w=>c_l8Split re [32,119,105,116,104,32] w (by omega) (by simp);obtain ⟨⟨te,iv,o3⟩,hs5⟩:∃ s,s=splitM re [32,119,105,116,104,32]:=⟨_,rfl⟩;rw[←hs5] at s5 c5 hH2;clear hs5 h1 h2 h3 hH hta;simp only at s5 c5;replace c5:=ax c5;(go_wp2_with fail);refine (c5.o _).mono ?_;rintro e w5 ⟨rfl,hB5⟩;replace k0:=k0.nz hB5;have HB5:=ax (bgo HB2.o hB5);clear hB5 HB2 q0 r0 l0 c5;have q0:=k0.cell;have r0:=k0.frozen;have l0:=k0.lt;(go_wp2_with fail);refine (c_ParseFact te _).mono ?_;rintro e w6 ⟨rfl,hB6⟩;replace k0:=k0.nz hB6;have HB6:=ax (bgo HB5.o hB6);clear hB6 HB5 q0 r0 l0;obtain ⟨fe,fa,fb,hfv⟩:∃ fe fa fb,((parseF te).getD fct0)=⟨fe,fa,fb⟩:=⟨_,_,_,rfl⟩;have hfv2:((parseF te).getD fct0).val=.agg #[.bool fe,.int .i64 fa,.int .i64 fb]:=by rw[hfv]
  rw[hfv2];have hH3:aJ (headF l=⟨7,0,0,⟨fe,fa,fb⟩,pA iv⟩):=ax (by rw[hH2.o,←hfv];rfl);clear hfv hfv2 hH2;have q0:=k0.cell;have r0:=k0.frozen;have l0:=k0.lt;have hne:w.heap.size≠w6.heap.size:=by omega
  have k2:Blk (w6.alloc (.cells #[.bool fe,.int .i64 fa,.int .i64 fb] tF)) w6.heap.size tF #[.bool fe,.int .i64 fa,.int .i64 fb]:=blks;(go_wp2_with fail);refine (c_ParseAssertion iv _ (by omega)).mono ?_;rintro e w7 ⟨r7,rfl,o7,hB7⟩;have z7:w6.heap.size+1≤w7.heap.size:=by simpa using hB7.size
  have hB67:Below w6.heap.size w6 w7:=bgo (w:=w6) bel hB7;replace k0:=k0.nz hB67;replace k2:=k2.nz hB7;have HB7:=ax (bgo HB6.o hB67);have zz:=HB6.o.size;have zw:w.heap.size≤(w6.alloc (.cells #[.bool fe,.int .i64 fa,.int .i64 fb] tF)).heap.size:=by simp;omega
  clear HB6 q0 r0 l0;obtain ⟨i,hi⟩:∃ i,i=pA iv:=⟨_,rfl⟩;rw[show (parseA iv).getD ⟨[],[]⟩=i from hi.symm] at o7;rw[←hi] at hH3;clear hi;obtain ⟨fv,av,rfl,of,oa⟩:=o7;obtain ⟨AF,cF,rfl,-⟩:=of.rj;obtain ⟨AA,cA,rfl,-⟩:=oa.rj;have HF:=ax (of.bq (base':=w.heap.size) zw);have HA:=ax (oa.bq (base':=w.heap.size) zw);clear of oa hB7 hB67;obtain ⟨px,hpx⟩:∃ p,p=(parseA iv).isSome:=⟨_,rfl⟩;rw[←hpx];clear hpx;have q0:=k0.cell;have r0:=k0.frozen;have l0:=k0.lt;have q2:=k2.cell;have r2:=k2.frozen;have l2':=k2.lt;unfold simC at q0 k0;(go_wp2_with fail);refine retW (D:=fun T=>Blk T w.heap.size tC #[.int .i64 7,.int .i64 0,.int .i64 0,.bool fe,.int .i64 fa,.int .i64 fb,.slice AF i.facts.length cF,.slice AA i.atoms.length cA,.slice none 0 0,.slice none 0 0]∧Below w.heap.size w T∧FactsO T w.heap.size (.slice AF i.facts.length cF) i.facts∧AtomsO T w.heap.size (.slice AA i.atoms.length cA) i.atoms) ⟨(ten0 k0).alloc _,(below_ten HB7.o (Nat.le_refl _)).alloc (by simp;omega) _,?_,?_⟩ ?_
  ·exact ⟨own_below (own_ten HF.o.1 k0 (by decide)) (bbox (Below.refl _ _) _),HF.o.2⟩
  ·exact ⟨own_below (own_ten HA.o.1 k0 (by decide)) (bbox (Below.refl _ _) _),HA.o.2⟩
  rintro T ⟨kT,r1,oF,oA⟩;have t:=kT.cell;exact bodyPost_ret (v:=headV ⟨7,0,0,⟨fe,fa,fb⟩,i⟩ (.slice AF i.facts.length cF) (.slice AA i.atoms.length cA)) (by simp[results,Tryz.results241,go_sem,headV,t]) rfl ⟨_,_,by rw[hH3.o],by rw[hH3.o];exact oF,by rw[hH3.o];exact oA,r1⟩
def atI:Option Nat→Int
 | some m=>(m:Int)
 | none=>-1
theorem app_assoc:∀ (A B C:Cms),(A.app B).app C=A.app (B.app C)
 | .nil,B,C=>rfl
 | .cons k a b t i body els r,B,C=>by simp only[Cms.app,app_assoc r B C]
theorem app_nil:∀ (A:Cms),A.app .nil=A
 | .nil=>rfl
 | .cons k a b t i body els r=>by simp only[Cms.app,app_nil r]
def blkSt (ls:List Bs) (d:Nat) (R:Cms×Option Nat) (acc:Cms):Option Nat→Prop
 | some p=>∃ n,ls.length≤n+p∧acc.app (blkF ls n p d).1=R.1∧(blkF ls n p d).2=R.2
 | none=>acc=R.1∧R.2=none
section
variable {ls:List Bs} {d p m:Nat} {R:Cms×Option Nat} {acc body els:Cms}
theorem blkSt.start (n:Nat) (h:ls.length≤n+p):blkSt ls d (blkF ls n p d) .nil (some p):=⟨n,h,rfl,rfl⟩
theorem blkSt.stop (h:blkSt ls d R acc (some p)) (hc:¬(p+1<ls.length∧ls.getD p []≠endL∧ls.getD p []≠elseL)):acc=R.1∧R.2=some p:=by
 obtain ⟨n,h1,h2,h3⟩:=h
 cases n with
 | zero=>exact ⟨by rw[←h2];exact (app_nil acc).symm,h3.symm⟩
 | succ n=>
  unfold blkF at h2 h3;rw[if_neg hc] at h2 h3;exact ⟨by rw[←h2];exact (app_nil acc).symm,h3.symm⟩
theorem blkSt.on (h:blkSt ls d R acc (some p)) (hp:p<ls.length):∃ m,ls.length≤m+(p+1)∧acc.app (blkF ls (m+1) p d).1=R.1∧(blkF ls (m+1) p d).2=R.2:=by
 obtain ⟨n,h1,h2,h3⟩:=h
 cases n with
 | zero=>omega
 | succ n=>exact ⟨n,by omega,h2,h3⟩
theorem blkSt.mk (hm:ls.length≤m+(p+1)) {F:Cms×Option Nat} (h2:acc.app F.1=R.1) (h3:F.2=R.2) {H:Hd} {q:Nat} (hq:p+1≤q) (e:F=(.one1 H body els (blkF ls m q d).1,(blkF ls m q d).2)):blkSt ls d R (acc.app (.one1 H body els .nil)) (some q):=by
 subst e;exact ⟨m,by omega,by rw[app_assoc];exact h2,h3⟩
theorem blkSt.mk0 {F:Cms×Option Nat} (h2:acc.app F.1=R.1) (h3:F.2=R.2) {H:Hd} (e:F=(.one1 H body els .nil,none)):blkSt ls d R (acc.app (.one1 H body els .nil)) none:=by
 subst e;exact ⟨h2,h3.symm⟩
theorem blk_basic (hc:p+1<ls.length∧ls.getD p []≠endL∧ls.getD p []≠elseL) (h:¬((headF (ls.getD p [])).k=6∨(headF (ls.getD p [])).k=7)) :
  blkF ls (m+1) p d=(.one1 (headF (ls.getD p [])) .nil .nil (blkF ls m (p+1) d).1,(blkF ls m (p+1) d).2):=by
 rw[blkF,if_pos hc,if_neg h]
theorem blk_zero (hc:p+1<ls.length∧ls.getD p []≠endL∧ls.getD p []≠elseL) (h:(headF (ls.getD p [])).k=6∨(headF (ls.getD p [])).k=7) (hd:d<1):blkF ls (m+1) p d=(.nil,none):=by
 rw[blkF,if_pos hc,if_pos h,if_pos hd]
theorem blk_none (hc:p+1<ls.length∧ls.getD p []≠endL∧ls.getD p []≠elseL) (h:(headF (ls.getD p [])).k=6∨(headF (ls.getD p [])).k=7) (hd:¬d<1) (hb:(blkF ls m (p+1) (d - 1)).2=none) :
  blkF ls (m+1) p d=(.one1 (headF (ls.getD p [])) (blkF ls m (p+1) (d - 1)).1 .nil .nil,none):=by
 rw[blkF,if_pos hc,if_pos h,if_neg hd]
 split
 ·rename_i b e;rw[e]
 ·rename_i b q e;rw[e] at hb;cases hb
theorem blk_noelse {q:Nat} (hc:p+1<ls.length∧ls.getD p []≠endL∧ls.getD p []≠elseL) (h:(headF (ls.getD p [])).k=6∨(headF (ls.getD p [])).k=7) (hd:¬d<1) (hb:(blkF ls m (p+1) (d - 1)).2=some q)
  (hq:¬(q<ls.length∧ls.getD q []=elseL)):blkF ls (m+1) p d=(.one1 (headF (ls.getD p [])) (blkF ls m (p+1) (d - 1)).1 .nil (blkF ls m (q+1) d).1,(blkF ls m (q+1) d).2):=by
 rw[blkF,if_pos hc,if_pos h,if_neg hd]
 split
 ·rename_i b e;rw[e] at hb;cases hb
 ·rename_i b q' e;rw[e] at hb;injection hb with hb;subst hb;rw[if_neg hq,e]
theorem blk_else0 {q:Nat} (hc:p+1<ls.length∧ls.getD p []≠endL∧ls.getD p []≠elseL) (h:(headF (ls.getD p [])).k=6∨(headF (ls.getD p [])).k=7) (hd:¬d<1) (hb:(blkF ls m (p+1) (d - 1)).2=some q)
  (hq:q<ls.length∧ls.getD q []=elseL) (he:(blkF ls m (q+1) (d - 1)).2=none):blkF ls (m+1) p d=(.one1 (headF (ls.getD p [])) (blkF ls m (p+1) (d - 1)).1 (blkF ls m (q+1) (d - 1)).1 .nil,none):=by
 rw[blkF,if_pos hc,if_pos h,if_neg hd]
 split
 ·rename_i b e;rw[e] at hb;cases hb
 ·rename_i b q' e;rw[e] at hb;injection hb with hb;subst hb;rw[if_pos hq,e]
  split
  ·rename_i b' e';rw[e']
  ·rename_i b' r e';rw[e'] at he;cases he
theorem blk_else {q r:Nat} (hc:p+1<ls.length∧ls.getD p []≠endL∧ls.getD p []≠elseL) (h:(headF (ls.getD p [])).k=6∨(headF (ls.getD p [])).k=7) (hd:¬d<1) (hb:(blkF ls m (p+1) (d - 1)).2=some q)
  (hq:q<ls.length∧ls.getD q []=elseL) (he:(blkF ls m (q+1) (d - 1)).2=some r):blkF ls (m+1) p d=(.one1 (headF (ls.getD p [])) (blkF ls m (p+1) (d - 1)).1 (blkF ls m (q+1) (d - 1)).1 (blkF ls m (r+1) d).1,(blkF ls m (r+1) d).2):=by
 rw[blkF,if_pos hc,if_pos h,if_neg hd]
 split
 ·rename_i b e;rw[e] at hb;cases hb
 ·rename_i b q' e;rw[e] at hb;injection hb with hb;subst hb;rw[if_pos hq,e]
  split
  ·rename_i b' e';rw[e'] at he;cases he
  ·rename_i b' r' e';rw[e'] at he;injection he with he;subst he;rw[e']
end
theorem getD_at {ls:List Bs} {p:Nat} (h:p<ls.length):ls.getD p []=ls[p]:=by simp[List.getD,List.getElem?_eq_getElem h]
def BlkOk (d:Nat):Prop:=∀ (lo hi:Nat) (A:Option Addr) (c:Nat) (ls:List Bs) (p n:Nat) (w:World),StrsV w lo hi A ls→(∀ x∈ls,x.length≤1000000)→ls.length≤1049000→p≤ls.length→ls.length≤n+p→
  Calls Tryz.prog 193 #[.slice A ls.length c,.int .i64 p,.int .i64 d] w fun e w'=>∃ v,e=.returned (.tuple #[v,.int .i64 (atI (blkF ls n p d).2)])∧CmsN w' w.heap.size v (blkF ls n p d).1∧Below w.heap.size w w'
theorem l8Block_zero:BlkOk 0:=by
  intro lo hi A c ls p n w hV hS hL hp hn;have HV:=ax hV;have HS:=ax hS;obtain ⟨R,hR⟩:∃ R,R=blkF ls n p (0):=⟨_,rfl⟩;have hst:aJ (blkSt ls (0) R .nil (some p)):=ax (by rw[hR];exact blkSt.start n hn);rw[←hR];clear hV hS hn hR;(go_enter Tryz.func193,Tryz.ntmps193);have hN0:=CmsN.empty w (Nat.le_refl _);(go_wp2_with fail)
  go_loopg [1,8] (ls.length+12) (fun gh s1 s8 wr=>∃ (acc:Cms) (nx:Option Nat),s1=.int .i64 (atI nx)∧aJ (CmsN wr w.heap.size s8 acc)∧aJ (blkSt ls (0) R acc nx)∧acc.len≤ls.length+0∧aJ (∀ q,nx=some q→acc.len≤q∧q≤ls.length+0∧ls.length+12≤gh+q)∧aJ (Below w.heap.size w wr))
  case atStart=>exact ⟨.nil,some p,rfl,ax hN0,hst,by simp[Cms.len],ax (fun q e=>by injection e with e;subst e;simp[Cms.len];omega),ax (bbox (Below.refl _ _) _)⟩
  case round=>
   clear hN0 hst;obtain ⟨acc,nx,rfl,hN,hst,hal,hnx,HB⟩:=hrel;have hz:=HB.o.size;obtain ⟨A5,c5,rfl,-⟩:=hN.o.rj;have hOL:=ax hN.o.own_lt
   cases nx with
   | none=>
    have hE:=ax hst.o;have hf:aJ (R.2=none):=ax hE.o.2;have ha:aJ (acc=R.1):=ax hE.o.1;have hm1:atI none = -1:=rfl;rw[hm1];clear hE hst hnx;(go_wp2_with fail);refine bodyPost_ret (v:=.tuple #[.slice A5 acc.len c5,.int .i64 (-1)]) (by simp[results,Tryz.results193,go_sem]) rfl ⟨_,by rw[hf.o];rfl,by rw[←ha.o];exact hN.o,HB.o⟩
   | some q=>
    obtain ⟨hq1,hq2,hq3⟩:=hnx.o q rfl;have hqi:atI (some q)=(q:Int):=rfl;rw[hqi];clear hnx;have hq0:(0:Int)≤(q:Int):=by omega
    have hSt:=ax (fun hc=>hst.o.stop hc);by_cases hlt:q+1<ls.length
    ·have hlti:(q:Int)+1<(ls.length:Int):=by omega
     obtain ⟨b,o,rfl,hc⟩:=(HV.o.bz HB.o).at (show q<ls.length by omega);have hbl:=block_lt_of_cell hc;have hgd:=getD_at (ls:=ls) (p:=q) (by omega);have hxl:(ls[q]'(by omega)).length≤1000000:=HS.o _ (List.getElem_mem _);have hOn:=ax (hst.o.on (by omega));obtain ⟨x,hxx⟩:∃ x,x=ls[q]'(by omega):=⟨_,rfl⟩;rw[←hxx] at hc hgd hxl;rw[hgd] at hSt;clear hxx;by_cases he1:x=endL
     ·subst he1;have hE:=ax (hSt.o (fun h=>h.2.1 rfl));have hf:aJ (R.2=some q):=ax hE.o.2;have ha:aJ (acc=R.1):=ax hE.o.1;clear hE hSt hOn hst;(go_wp2_with fail);refine bodyPost_ret (v:=.tuple #[.slice A5 acc.len c5,.int .i64 q]) (by simp[results,Tryz.results193,go_sem]) rfl ⟨_,by rw[hf.o];rfl,by rw[←ha.o];exact hN.o,HB.o⟩
     have he1b:(x == [101,110,100])=false:=by rw[bytes_eq];simpa using he1
     by_cases he2:x=elseL
     ·subst he2;have hE:=ax (hSt.o (fun h=>h.2.2 rfl));have hf:aJ (R.2=some q):=ax hE.o.2;have ha:aJ (acc=R.1):=ax hE.o.1;clear hE hSt hOn hst;(go_wp2_with fail);refine bodyPost_ret (v:=.tuple #[.slice A5 acc.len c5,.int .i64 q]) (by simp[results,Tryz.results193,go_sem]) rfl ⟨_,by rw[hf.o];rfl,by rw[←ha.o];exact hN.o,HB.o⟩
     have he2b:(x == [101,108,115,101])=false:=by rw[bytes_eq];simpa using he2
     have hcc:=ax (show q+1<ls.length∧ls.getD q []≠endL∧ls.getD q []≠elseL from ⟨hlt,by rw[hgd];exact he1,by rw[hgd];exact he2⟩);obtain ⟨m,hm,hF1,hF2⟩:=hOn.o;replace hF1:=ax hF1;replace hF2:=ax hF2;clear he1 he2 hOn hst hSt;(go_wp2_with fail);refine (c_l8Head x _ hxl).mono ?_;rintro e w1 ⟨fv,av,rfl,of,oa,hB1⟩;obtain ⟨⟨k,ha,hb,⟨te,ta,tb⟩,i⟩,hH⟩:∃ h,h=headF x:=⟨_,rfl⟩;rw[←hH] at of oa ⊢;replace hH:=ax (show headF (ls.getD q [])=⟨k,ha,hb,⟨te,ta,tb⟩,i⟩ by rw[hgd];exact hH.symm);unfold headV;simp only at of oa ⊢;obtain ⟨AF,cF,rfl,vF⟩:=of.rj;obtain ⟨AA,cA,rfl,vA⟩:=oa.rj;have zr:=hB1.size;have HB1:=ax (bgo HB.o hB1);have hcb:w1.heap.size≠b:=by have h9:b<wr.heap.size:=hbl;omega
     have HX0:=ax (show ∀ y,wr.heap.size≤y→y<w1.heap.size→(w.heap.size≤y∧(Value.slice A5 acc.len c5).ownBlock≠some y∧y≠w1.heap.size) from fun y h1 h2=>⟨by omega,fun e=>by have:=hOL.o y e;omega,by omega⟩);have HXN:=ax (show ∀ y,w1.heap.size+1≤y→(w.heap.size≤y∧(Value.slice A5 acc.len c5).ownBlock≠some y∧y≠w1.heap.size) from fun y h1=>⟨by omega,fun e=>by have:=hOL.o y e;omega,by omega⟩);have XF:=ax (Rw.x vF.raw HX0.o);have XA:=ax (Rw.x vA.raw HX0.o);have HN1:=ax (hN.o.bz hB1);have k0:Blk (w1.alloc (.cells #[.int .i64 k,.int .i64 ha,.int .i64 hb,.bool te,.int .i64 ta,.int .i64 tb,.slice AF i.facts.length cF,.slice AA i.atoms.length cA,.slice none 0 0,.slice none 0 0] tC)) w1.heap.size tC #[.int .i64 k,.int .i64 ha,.int .i64 hb,.bool te,.int .i64 ta,.int .i64 tb,.slice AF i.facts.length cF,.slice AA i.atoms.length cA,.slice none 0 0,.slice none 0 0]:=Blk.new _ _ _;have hBw:aJ (Below w1.heap.size w1 (w1.alloc (.cells #[.int .i64 k,.int .i64 ha,.int .i64 hb,.bool te,.int .i64 ta,.int .i64 tb,.slice AF i.facts.length cF,.slice AA i.atoms.length cA,.slice none 0 0,.slice none 0 0] tC))):=ax (bbox (Below.refl _ _) _);have hq1i:=ax (show (q:Int)+1=((q+1:Nat):Int) by omega);clear of oa vF vA hB1 hc hN hbl HB;by_cases hk:k=6∨k=7
     ·have hz0:=ax (blk_zero (m:=m) (d:=0) hcc.o (by rw[hH.o];exact hk) (by omega));have hR1:aJ (R.2=none):=ax (by rw[←hF2.o,hz0.o]);have hR2:aJ (acc=R.1):=ax (by rw[←hF1.o,hz0.o];exact (app_nil acc).symm);have HB2:aJ (Below w.heap.size w (w1.alloc (.cells #[.int .i64 k,.int .i64 ha,.int .i64 hb,.bool te,.int .i64 ta,.int .i64 tb,.slice AF i.facts.length cF,.slice AA i.atoms.length cA,.slice none 0 0,.slice none 0 0] tC))):=ax (HB1.o.trans (hBw.o.mono (by omega)));have HN2:=ax (HN1.o.bz hBw.o);clear hz0 hH hF1 hF2;rcases hk with rfl|rfl
      all_goals
       (replace qk0:=k0.z);(go_wp2_with fail);refine bodyPost_ret (v:=.tuple #[.slice A5 acc.len c5,.int .i64 (-1)]) (by simp[results,Tryz.results193,go_sem]) rfl ⟨_,by rw[hR1.o];rfl,by rw[←hR2.o];exact HN2.o,HB2.o⟩
     ·have hk6:(k == 6)=false:=by simp;omega
      have hk7:(k == 7)=false:=by simp;omega
      have hzb:=ax (blk_basic (m:=m) (d:=0) hcc.o (by rw[hH.o];exact hk));have hstx:aJ (blkSt ls 0 R (acc.app (.cons k ha hb ⟨te,ta,tb⟩ i .nil .nil .nil)) (some (q+1))):=ax (blkSt.mk (H:=⟨k,ha,hb,⟨te,ta,tb⟩,i⟩) hm hF1.o hF2.o (Nat.le_refl _) (by rw[hzb.o,hH.o]));clear hzb hF1 hF2 hk;(replace qk0:=k0.z);(go_upto_region 17 with fail);clear qk0;rw[hq1i.o];generalize w1.alloc (.cells #[.int .i64 k,.int .i64 ha,.int .i64 hb,.bool te,.int .i64 ta,.int .i64 tb,.slice AF i.facts.length cF,.slice AA i.atoms.length cA,.slice none 0 0,.slice none 0 0] tC)=wx at *;have hBx:=hBw;have kx:=k0;obtain ⟨nx,hnxe⟩:∃ nx,nx=some (q+1):=⟨_,rfl⟩;have hati:((q+1:Nat):Int)=atI nx:=by rw[hnxe];rfl
      rw[hati];rw[←hnxe] at hstx;have hnx:aJ (∀ r,nx=some r→q+1≤r∧r≤ls.length+0):=ax (fun r e=>by rw[hnxe] at e;injection e with e;subst e;omega);obtain ⟨AB,cB,AE,cE,hAB⟩:∃ (AB:Option Addr) (cB:Nat) (AE:Option Addr) (cE:Nat),AB=none∧cB=0∧AE=none∧cE=0:=⟨_,_,_,_,rfl,rfl,rfl,rfl⟩;obtain ⟨body,hbody⟩:∃ body,body=Cms.nil:=⟨_,rfl⟩;obtain ⟨els,hels⟩:∃ body,body=Cms.nil:=⟨_,rfl⟩;have h3:aJ (PartX wx (fun y=>w.heap.size≤y∧(Value.slice A5 acc.len c5).ownBlock≠some y∧y≠w1.heap.size) AB body):=ax (by rw[hbody];exact PartX.nil _);have h4:aJ (PartX wx (fun y=>w.heap.size≤y∧(Value.slice A5 acc.len c5).ownBlock≠some y∧y≠w1.heap.size) AE els):=ax (by rw[hels];exact PartX.nil _);have hkx:Blk wx w1.heap.size tC #[.int .i64 k,.int .i64 ha,.int .i64 hb,.bool te,.int .i64 ta,.int .i64 tb,.slice AF i.facts.length cF,.slice AA i.atoms.length cA,.slice AB body.len cB,.slice AE els.len cE]:=by rw[hAB.1,hAB.2.1,hAB.2.2.1,hAB.2.2.2,hbody,hels];exact kx
      replace kx:=hkx;replace hstx:aJ (blkSt ls 0 R (acc.app (.cons k ha hb ⟨te,ta,tb⟩ i body els .nil)) nx):=ax (by rw[hbody,hels];exact hstx.o);clear hAB hbody hels hkx hnxe hati k0 hBw hk6 hk7;have hT0:=HN1.o.bz hBx.o;obtain ⟨cs,ho9,hT9,-⟩:=hT0;replace hT9:=ax hT9;replace ho9:=ax ho9;have hl9:w.heap.size≤wx.heap.size:=by have:=hBx.o.size;omega
      have XF9:=ax (XF.o.keep (w':=wx) fun y _ hy=>hBx.o.block y hy);have XA9:=ax (XA.o.keep (w':=wx) fun y _ hy=>hBx.o.block y hy);clear XF XA HN1;have hfin:acc.len+1≤1049600∧w.heap.size≤w1.heap.size:=by omega
      have hacc:acc.len+1≤ls.length+0:=by omega
      obtain ⟨hfin,hw1⟩:=hfin;have hq3:=ax (show 1≤gk∧ls.length+12≤gk+q by omega);replace hacc:=ax hacc;replace hq1:=ax hq1;replace hw1:=ax hw1;have qkx:=kx.cell;have rkx:=kx.frozen;have lkx:=kx.lt;replace kx:=ax kx;clear hqi hgd he1b he2b hcc hm hxl hq0 hlti hlt hal hq2 hH hcb hz zr;(go_wp2_with (at_builtin;(refine appCX (base:=w.heap.size) (g0:=wx.heap.size) rfl _ _ rfl rfl (own_below ho9.o (bbox (Below.refl _ _) _)) (tenL k ha hb ⟨te,ta,tb⟩ (.slice AF i.facts.length cF) (.slice AA i.atoms.length cA) (.slice AB body.len cB) (.slice AE els.len cE)) rfl (Blk.new _ _ _) rfl rfl (tenOne _ _ _ _ _ _ _ _ _ _ _ _ _ _ _ _) hfin (by simp;omega) ?_);(intro A8 c8 w8 o8 g8 B8 v8;have o8:=ax o8;have g8:=ax g8;have v8:=ax v8;have B8:=ax B8)));have kX:∀ y,y<wx.heap.size→(wx.alloc (.cells (tenL k ha hb ⟨te,ta,tb⟩ (.slice AF i.facts.length cF) (.slice AA i.atoms.length cA) (.slice AB body.len cB) (.slice AE els.len cE)).toArray tC)).heap[y]? = wx.heap[y]?:=fun y hy=>(bbox (Below.refl _ wx) _).block y hy;have N8:CmsN w8 w.heap.size (.slice A8 (acc.len+1) c8) (acc.app (.cons k ha hb ⟨te,ta,tb⟩ i body els .nil)):=CmsN.grow (hT9.o.keep fun y _ hy=>kX y hy) hfin ((XF9.o.mono fun y hy _=>⟨hy.1,hy.2.1⟩).keep fun y _ hy=>kX y hy) ((XA9.o.mono fun y hy _=>⟨hy.1,hy.2.1⟩).keep fun y _ hy=>kX y hy) ((h3.o.mono fun y hy _=>⟨hy.1,hy.2.1⟩).keep fun y _ hy=>kX y hy) ((h4.o.mono fun y hy _=>⟨hy.1,hy.2.1⟩).keep fun y _ hy=>kX y hy) o8.o g8.o v8.o;have F8:Below w.heap.size w w8:=((HB1.o.trans (hBx.o.mono hw1.o)).alloc hl9 _).trans B8.o;have hLl:(acc.app (.cons k ha hb ⟨te,ta,tb⟩ i body els .nil)).len=acc.len+1:=by rw[Cms.len_app];rfl
      go_roundg (gk - 1)
      case rel=>exact ⟨acc.app (.cons k ha hb ⟨te,ta,tb⟩ i body els .nil),nx,rfl,ax N8,hstx,by rw[hLl];exact hacc.o,ax (fun r e=>by have:=hnx.o r e;have:=hq1.o;have:=hq3.o;rw[hLl];omega),ax F8⟩
      case measure=>have:=hq3.o;omega
    ·have hlti:¬(q:Int)+1<(ls.length:Int):=by omega
     have hE:=ax (hSt.o (fun h=>hlt h.1));have hf:aJ (R.2=some q):=ax hE.o.2;have ha:aJ (acc=R.1):=ax hE.o.1;clear hE hSt hst;(go_wp2_with fail);refine bodyPost_ret (v:=.tuple #[.slice A5 acc.len c5,.int .i64 q]) (by simp[results,Tryz.results193,go_sem]) rfl ⟨_,by rw[hf.o];rfl,by rw[←ha.o];exact hN.o,HB.o⟩
end
end Go.Proofs.YtjaohekkmlkinaaGreat
