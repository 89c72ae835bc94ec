/- Contracts: a command's head (spec.l8Head). -/
import Derived.Test.YtjaohekkmlkinaaGreatMPrgH
import Derived.Deep.DeepCutAuto
import Derived.Laws.BitsAllLaws
import Derived.BigQuiet
import Derived.Deep.RegionHeld3
import Derived.Deep.QuietTactic
set_option linter.unusedSimpArgs false
set_option linter.unusedVariables false
set_option maxRecDepth 100000
set_option maxHeartbeats 25600000
namespace Go.Proofs.YtjaohekkmlkinaaGreat
section
open Go Go.RowKit Go.Proofs
def headV (h:Hd) (fv av:Value):Value:=.agg #[.int .i64 h.k,.int .i64 h.a,.int .i64 h.b,.bool h.t.eq,.int .i64 h.t.a,.int .i64 h.t.b,fv,av,.slice none 0 0,.slice none 0 0]
theorem head1 {l:Bs} (h:(splitM l [58,61]).2.2=true):headF l=asgnPF (splitM l [58,61]).1 (splitM l [58,61]).2.1:=by unfold headF;rw[if_pos h]
theorem headI0 {l:Bs} (h:(splitM l [58,61]).2.2=false):headF l=wordF (splitM l [32]).1 (splitM l [32]).2.1:=by unfold headF;rw[h];rfl
theorem word7 {word rest:Bs} (h1:word≠[110,101,119]) (h2:word≠[102,114,101,101]) (h3:word≠[105,102]) :
  wordF word rest=⟨7,0,0,pF (splitM rest [32,119,105,116,104,32]).1,pA (splitM rest [32,119,105,116,104,32]).2.1⟩:=by
 unfold wordF;rw[if_neg h1,if_neg h2,if_neg h3]
theorem headV_sim {h:Hd} (hi:h.i=⟨[],[]⟩) (ht:h.t=fctZ):Value.agg (simC h.k h.a h.b)=headV h (.slice none 0 0) (.slice none 0 0):=by
 obtain ⟨k,a,b,t,i⟩:=h;simp only at hi ht;subst hi ht;rfl
theorem c_l8Head (l:Bs) (w:World) (hl:l.length≤1000000):Calls Tryz.prog 241 #[sv l] w fun e w'=>∃ fv av,e=.returned (headV (headF l) fv av)∧FactsO w' w.heap.size fv (headF l).i.facts∧AtomsO w' w.heap.size av (headF l).i.atoms∧Below w.heap.size w w':=by
 have k0:Blk (w.alloc (.cells (simC 0 0 0) tC)) w.heap.size tC (simC 0 0 0):=Blk.new _ _ _;have s1:=splitM_len l [58,61];have s2:=splitM_len l [32];have H1:=ax (fun h=>head1 (l:=l) h);have H0:=ax (fun h=>headI0 (l:=l) h);have c1:=fun w=>c_l8Split l [58,61] w (by omega) (by simp);have c2:=fun w=>c_l8Split l [32] w (by omega) (by simp);obtain ⟨⟨le,ri,ok⟩,hs⟩:∃ s,s=splitM l [58,61]:=⟨_,rfl⟩;obtain ⟨⟨wo,re,o2⟩,hs2⟩:∃ s,s=splitM l [32]:=⟨_,rfl⟩;rw[←hs] at s1 H1 H0 c1;rw[←hs2] at s2 H0 c2;clear hs hs2;simp only at s1 s2 c1 c2;obtain ⟨l1,l2⟩:=s1;obtain ⟨l3,l4⟩:=s2;replace c1:=ax c1;replace c2:=ax c2;(go_enter Tryz.func241,Tryz.ntmps241);(go_wp2_with fail);refine (c1.o _).mono ?_;rintro e w1 ⟨rfl,hB1⟩;replace k0:=k0.nz hB1;have HB1:=ax (bgo (w:=w) (bel:Below w.heap.size w (w.alloc (.cells (simC 0 0 0) tC))) hB1);clear hB1 c1
 cases ok with
 | true=>
  have hH:=ax (H1.o rfl);clear H0 H1;have q0:=k0.cell;have r0:=k0.frozen;have l0:=k0.lt;(go_wp2_with fail);refine (c_l8Assign le ri _ (by omega) (by omega)).mono ?_;rintro e w2 ⟨rfl,hB2⟩;replace k0:=k0.nz hB2;have HB2:=ax (bgo HB1.o hB2);clear hB2 HB1 q0 r0 l0;obtain ⟨ak,aa,ab,hak⟩:∃ k a b,k=(asgnPF le ri).k∧a=(asgnPF le ri).a∧b=(asgnPF le ri).b:=⟨_,_,_,rfl,rfl,rfl⟩;have hv:aJ (Value.agg (simC ak aa ab)=headV (asgnPF le ri) (.slice none 0 0) (.slice none 0 0)):=ax (by rw[hak.1,hak.2.1,hak.2.2];exact headV_sim rfl rfl);rw[←hak.1,←hak.2.1,←hak.2.2];clear hak;have q0:=k0.cell;have r0:=k0.frozen;have l0:=k0.lt;unfold simC at q0 k0;(go_wp2_with fail);unfold simC;(go_wp2_with fail);refine retW (D:=fun T=>Blk T w.heap.size tC (simC ak aa ab)∧Below w.heap.size w T) ⟨ten0 k0,below_ten HB2.o (Nat.le_refl _)⟩ ?_;rintro T ⟨kT,r1⟩;have t:=kT.cell;exact bodyPost_ret (v:=.agg (simC ak aa ab)) (by simp[results,Tryz.results241,go_sem,simC,t]) rfl ⟨_,_,by rw[hH.o,hv.o],by rw[hH.o];exact FactsO.nil _ _,by rw[hH.o];exact AtomsO.nil _ _,r1⟩
 | false=>
  have hH:=ax (H0.o rfl);clear H0 H1;have q0:=k0.cell;have r0:=k0.frozen;have l0:=k0.lt;(go_wp2_with fail);refine (c2.o _).mono ?_;rintro e w2 ⟨rfl,hB2⟩;replace k0:=k0.nz hB2;have HB2:=ax (bgo HB1.o hB2);clear hB2 HB1 q0 r0 l0;have q0:=k0.cell;have r0:=k0.frozen;have l0:=k0.lt;(go_wp2_with fail);refine (c_ParseTerm re _).mono ?_;rintro e w3 ⟨rfl,rfl⟩;obtain ⟨ta,hta⟩:∃ t:Int,t=pT re:=⟨_,rfl⟩;rw[show (((parseT re).getD 0:Nat):Int)=ta from hta.symm];by_cases h1:wo=[110,101,119]
  ·subst h1;have hH2:aJ (headF l=⟨4,ta,0,fctZ,⟨[],[]⟩⟩):=ax (by rw[hH.o,hta];rfl);clear hH hta;unfold simC at q0 k0;(go_wp2_with fail);refine retW (D:=fun T=>Blk T w.heap.size tC (simC 4 ta 0)∧Below w.heap.size w T) ⟨ten0 k0,below_ten HB2.o (Nat.le_refl _)⟩ ?_;rintro T ⟨kT,r1⟩;have t:=kT.cell;exact bodyPost_ret (v:=.agg (simC 4 ta 0)) (by simp[results,Tryz.results241,go_sem,simC,t]) rfl ⟨_,_,by rw[hH2.o];rfl,by rw[hH2.o];exact FactsO.nil _ _,by rw[hH2.o];exact AtomsO.nil _ _,r1⟩
  have h1b:(wo == [110,101,119])=false:=by rw[bytes_eq];simpa using h1
  by_cases h2:wo=[102,114,101,101]
  ·subst h2;have hH2:aJ (headF l=⟨5,ta,0,fctZ,⟨[],[]⟩⟩):=ax (by rw[hH.o,hta];rfl);clear hH hta h1 h1b;unfold simC at q0 k0;(go_wp2_with fail);refine retW (D:=fun T=>Blk T w.heap.size tC (simC 5 ta 0)∧Below w.heap.size w T) ⟨ten0 k0,below_ten HB2.o (Nat.le_refl _)⟩ ?_;rintro T ⟨kT,r1⟩;have t:=kT.cell;exact bodyPost_ret (v:=.agg (simC 5 ta 0)) (by simp[results,Tryz.results241,go_sem,simC,t]) rfl ⟨_,_,by rw[hH2.o];rfl,by rw[hH2.o];exact FactsO.nil _ _,by rw[hH2.o];exact AtomsO.nil _ _,r1⟩
  have h2b:(wo == [102,114,101,101])=false:=by rw[bytes_eq];simpa using h2
  by_cases h3:wo=[105,102]
  ·subst h3;have hH2:aJ (headF l=⟨6,0,0,pF re,⟨[],[]⟩⟩):=ax (by rw[hH.o];rfl);clear hH hta h1 h1b h2 h2b;(go_wp2_with fail);refine (c_ParseFact re _).mono ?_;rintro e w4 ⟨rfl,hB4⟩;replace k0:=k0.nz hB4;have HB4:=ax (bgo HB2.o hB4);clear hB4 HB2 q0 r0 l0;obtain ⟨fe,fa,fb,hfv⟩:∃ fe fa fb,((parseF re).getD fct0)=⟨fe,fa,fb⟩:=⟨_,_,_,rfl⟩;have hfv2:((parseF re).getD fct0).val=.agg #[.bool fe,.int .i64 fa,.int .i64 fb]:=by rw[hfv]
   rw[hfv2];have hH3:aJ (headF l=⟨6,0,0,⟨fe,fa,fb⟩,⟨[],[]⟩⟩):=ax (by rw[hH2.o,←hfv];rfl);clear hfv hfv2 hH2;have q0:=k0.cell;have r0:=k0.frozen;have l0:=k0.lt;unfold simC at q0 k0;(go_wp2_with fail);refine retW (D:=fun T=>Blk T w.heap.size tC #[.int .i64 6,.int .i64 0,.int .i64 0,.bool fe,.int .i64 fa,.int .i64 fb,.slice none 0 0,.slice none 0 0,.slice none 0 0,.slice none 0 0]∧Below w.heap.size w T) ⟨(ten0 k0).alloc _,(below_ten HB4.o (Nat.le_refl _)).alloc (by simp;omega) _⟩ ?_;rintro T ⟨kT,r1⟩;have t:=kT.cell;exact bodyPost_ret (v:=headV ⟨6,0,0,⟨fe,fa,fb⟩,⟨[],[]⟩⟩ (.slice none 0 0) (.slice none 0 0)) (by simp[results,Tryz.results241,go_sem,headV,t]) rfl ⟨_,_,by rw[hH3.o],by rw[hH3.o];exact FactsO.nil _ _,by rw[hH3.o];exact AtomsO.nil _ _,r1⟩
  have h3b:(wo == [105,102])=false:=by rw[bytes_eq];simpa using h3
  have hH2:=ax (hH.o.trans (word7 h1 h2 h3));have s5:=splitM_len re [32,119,105,116,104,32];have c5:=fun w=>c_l8Split re [32,119,105,116,104,32] w (by omega) (by simp);obtain ⟨⟨te,iv,o3⟩,hs5⟩:∃ s,s=splitM re [32,119,105,116,104,32]:=⟨_,rfl⟩;rw[←hs5] at s5 c5 hH2;clear hs5 h1 h2 h3 hH hta;simp only at s5 c5;replace c5:=ax c5;(go_wp2_with fail);refine (c5.o _).mono ?_;rintro e w5 ⟨rfl,hB5⟩;replace k0:=k0.nz hB5;have HB5:=ax (bgo HB2.o hB5);clear hB5 HB2 q0 r0 l0 c5;have q0:=k0.cell;have r0:=k0.frozen;have l0:=k0.lt;(go_wp2_with fail);refine (c_ParseFact te _).mono ?_;rintro e w6 ⟨rfl,hB6⟩;replace k0:=k0.nz hB6;have HB6:=ax (bgo HB5.o hB6);clear hB6 HB5 q0 r0 l0;obtain ⟨fe,fa,fb,hfv⟩:∃ fe fa fb,((parseF te).getD fct0)=⟨fe,fa,fb⟩:=⟨_,_,_,rfl⟩;have hfv2:((parseF te).getD fct0).val=.agg #[.bool fe,.int .i64 fa,.int .i64 fb]:=by rw[hfv]
  rw[hfv2];have hH3:aJ (headF l=⟨7,0,0,⟨fe,fa,fb⟩,pA iv⟩):=ax (by rw[hH2.o,←hfv];rfl);clear hfv hfv2 hH2;have q0:=k0.cell;have r0:=k0.frozen;have l0:=k0.lt;have hne:w.heap.size≠w6.heap.size:=by omega
  have k2:Blk (w6.alloc (.cells #[.bool fe,.int .i64 fa,.int .i64 fb] tF)) w6.heap.size tF #[.bool fe,.int .i64 fa,.int .i64 fb]:=blks;(go_wp2_with fail);refine (c_ParseAssertion iv _ (by omega)).mono ?_;rintro e w7 ⟨r7,rfl,o7,hB7⟩;have z7:w6.heap.size+1≤w7.heap.size:=by simpa using hB7.size
  have hB67:Below w6.heap.size w6 w7:=bgo (w:=w6) bel hB7;replace k0:=k0.nz hB67;replace k2:=k2.nz hB7;have HB7:=ax (bgo HB6.o hB67);have zz:=HB6.o.size;have zw:w.heap.size≤(w6.alloc (.cells #[.bool fe,.int .i64 fa,.int .i64 fb] tF)).heap.size:=by simp;omega
  clear HB6 q0 r0 l0;obtain ⟨i,hi⟩:∃ i,i=pA iv:=⟨_,rfl⟩;rw[show (parseA iv).getD ⟨[],[]⟩=i from hi.symm] at o7;rw[←hi] at hH3;clear hi;obtain ⟨fv,av,rfl,of,oa⟩:=o7;obtain ⟨AF,cF,rfl,-⟩:=of.rj;obtain ⟨AA,cA,rfl,-⟩:=oa.rj;have HF:=ax (of.bq (base':=w.heap.size) zw);have HA:=ax (oa.bq (base':=w.heap.size) zw);clear of oa hB7 hB67;obtain ⟨px,hpx⟩:∃ p,p=(parseA iv).isSome:=⟨_,rfl⟩;rw[←hpx];clear hpx;have q0:=k0.cell;have r0:=k0.frozen;have l0:=k0.lt;have q2:=k2.cell;have r2:=k2.frozen;have l2':=k2.lt;unfold simC at q0 k0;(go_wp2_with fail);refine retW (D:=fun T=>Blk T w.heap.size tC #[.int .i64 7,.int .i64 0,.int .i64 0,.bool fe,.int .i64 fa,.int .i64 fb,.slice AF i.facts.length cF,.slice AA i.atoms.length cA,.slice none 0 0,.slice none 0 0]∧Below w.heap.size w T∧FactsO T w.heap.size (.slice AF i.facts.length cF) i.facts∧AtomsO T w.heap.size (.slice AA i.atoms.length cA) i.atoms) ⟨(ten0 k0).alloc _,(below_ten HB7.o (Nat.le_refl _)).alloc (by simp;omega) _,?_,?_⟩ ?_
  ·exact ⟨own_below (own_ten HF.o.1 k0 (by decide)) (bbox (Below.refl _ _) _),HF.o.2⟩
  ·exact ⟨own_below (own_ten HA.o.1 k0 (by decide)) (bbox (Below.refl _ _) _),HA.o.2⟩
  rintro T ⟨kT,r1,oF,oA⟩;have t:=kT.cell;exact bodyPost_ret (v:=headV ⟨7,0,0,⟨fe,fa,fb⟩,i⟩ (.slice AF i.facts.length cF) (.slice AA i.atoms.length cA)) (by simp[results,Tryz.results241,go_sem,headV,t]) rfl ⟨_,_,by rw[hH3.o],by rw[hH3.o];exact oF,by rw[hH3.o];exact oA,r1⟩
def atI:Option Nat→Int
 | some m=>(m:Int)
 | none=>-1
theorem app_assoc:∀ (A B C:Cms),(A.app B).app C=A.app (B.app C)
 | .nil,B,C=>rfl
 | .cons k a b t i body els r,B,C=>by simp only[Cms.app,app_assoc r B C]
theorem app_nil:∀ (A:Cms),A.app .nil=A
 | .nil=>rfl
 | .cons k a b t i body els r=>by simp only[Cms.app,app_nil r]
def blkSt (ls:List Bs) (d:Nat) (R:Cms×Option Nat) (acc:Cms):Option Nat→Prop
 | some p=>∃ n,ls.length≤n+p∧acc.app (blkF ls n p d).1=R.1∧(blkF ls n p d).2=R.2
 | none=>acc=R.1∧R.2=none
section
variable {ls:List Bs} {d p m:Nat} {R:Cms×Option Nat} {acc body els:Cms}
theorem blkSt.start (n:Nat) (h:ls.length≤n+p):blkSt ls d (blkF ls n p d) .nil (some p):=⟨n,h,rfl,rfl⟩
theorem blkSt.stop (h:blkSt ls d R acc (some p)) (hc:¬(p+1<ls.length∧ls.getD p []≠endL∧ls.getD p []≠elseL)):acc=R.1∧R.2=some p:=by
 obtain ⟨n,h1,h2,h3⟩:=h
 cases n with
 | zero=>exact ⟨by rw[←h2];exact (app_nil acc).symm,h3.symm⟩
 | succ n=>
  unfold blkF at h2 h3;rw[if_neg hc] at h2 h3;exact ⟨by rw[←h2];exact (app_nil acc).symm,h3.symm⟩
theorem blkSt.on (h:blkSt ls d R acc (some p)) (hp:p<ls.length):∃ m,ls.length≤m+(p+1)∧acc.app (blkF ls (m+1) p d).1=R.1∧(blkF ls (m+1) p d).2=R.2:=by
 obtain ⟨n,h1,h2,h3⟩:=h
 cases n with
 | zero=>omega
 | succ n=>exact ⟨n,by omega,h2,h3⟩
theorem blkSt.mk (hm:ls.length≤m+(p+1)) {F:Cms×Option Nat} (h2:acc.app F.1=R.1) (h3:F.2=R.2) {H:Hd} {q:Nat} (hq:p+1≤q) (e:F=(.one1 H body els (blkF ls m q d).1,(blkF ls m q d).2)):blkSt ls d R (acc.app (.one1 H body els .nil)) (some q):=by
 subst e;exact ⟨m,by omega,by rw[app_assoc];exact h2,h3⟩
theorem blkSt.mk0 {F:Cms×Option Nat} (h2:acc.app F.1=R.1) (h3:F.2=R.2) {H:Hd} (e:F=(.one1 H body els .nil,none)):blkSt ls d R (acc.app (.one1 H body els .nil)) none:=by
 subst e;exact ⟨h2,h3.symm⟩
theorem blk_basic (hc:p+1<ls.length∧ls.getD p []≠endL∧ls.getD p []≠elseL) (h:¬((headF (ls.getD p [])).k=6∨(headF (ls.getD p [])).k=7)) :
  blkF ls (m+1) p d=(.one1 (headF (ls.getD p [])) .nil .nil (blkF ls m (p+1) d).1,(blkF ls m (p+1) d).2):=by
 rw[blkF,if_pos hc,if_neg h]
theorem blk_zero (hc:p+1<ls.length∧ls.getD p []≠endL∧ls.getD p []≠elseL) (h:(headF (ls.getD p [])).k=6∨(headF (ls.getD p [])).k=7) (hd:d<1):blkF ls (m+1) p d=(.nil,none):=by
 rw[blkF,if_pos hc,if_pos h,if_pos hd]
theorem blk_none (hc:p+1<ls.length∧ls.getD p []≠endL∧ls.getD p []≠elseL) (h:(headF (ls.getD p [])).k=6∨(headF (ls.getD p [])).k=7) (hd:¬d<1) (hb:(blkF ls m (p+1) (d - 1)).2=none) :
  blkF ls (m+1) p d=(.one1 (headF (ls.getD p [])) (blkF ls m (p+1) (d - 1)).1 .nil .nil,none):=by
 rw[blkF,if_pos hc,if_pos h,if_neg hd]
 split
 ·rename_i b e;rw[e]
 ·rename_i b q e;rw[e] at hb;cases hb
theorem blk_noelse {q:Nat} (hc:p+1<ls.length∧ls.getD p []≠endL∧ls.getD p []≠elseL) (h:(headF (ls.getD p [])).k=6∨(headF (ls.getD p [])).k=7) (hd:¬d<1) (hb:(blkF ls m (p+1) (d - 1)).2=some q)
  (hq:¬(q<ls.length∧ls.getD q []=elseL)):blkF ls (m+1) p d=(.one1 (headF (ls.getD p [])) (blkF ls m (p+1) (d - 1)).1 .nil (blkF ls m (q+1) d).1,(blkF ls m (q+1) d).2):=by
 rw[blkF,if_pos hc,if_pos h,if_neg hd]
 split
 ·rename_i b e;rw[e] at hb;cases hb
 ·rename_i b q' e;rw[e] at hb;injection hb with hb;subst hb;rw[if_neg hq,e]
theorem blk_else0 {q:Nat} (hc:p+1<ls.length∧ls.getD p []≠endL∧ls.getD p []≠elseL) (h:(headF (ls.getD p [])).k=6∨(headF (ls.getD p [])).k=7) (hd:¬d<1) (hb:(blkF ls m (p+1) (d - 1)).2=some q)
  (hq:q<ls.length∧ls.getD q []=elseL) (he:(blkF ls m (q+1) (d - 1)).2=none):blkF ls (m+1) p d=(.one1 (headF (ls.getD p [])) (blkF ls m (p+1) (d - 1)).1 (blkF ls m (q+1) (d - 1)).1 .nil,none):=by
 rw[blkF,if_pos hc,if_pos h,if_neg hd]
 split
 ·rename_i b e;rw[e] at hb;cases hb
 ·rename_i b q' e;rw[e] at hb;injection hb with hb;subst hb;rw[if_pos hq,e]
  split
  ·rename_i b' e';rw[e']
  ·rename_i b' r e';rw[e'] at he;cases he
theorem blk_else {q r:Nat} (hc:p+1<ls.length∧ls.getD p []≠endL∧ls.getD p []≠elseL) (h:(headF (ls.getD p [])).k=6∨(headF (ls.getD p [])).k=7) (hd:¬d<1) (hb:(blkF ls m (p+1) (d - 1)).2=some q)
  (hq:q<ls.length∧ls.getD q []=elseL) (he:(blkF ls m (q+1) (d - 1)).2=some r):blkF ls (m+1) p d=(.one1 (headF (ls.getD p [])) (blkF ls m (p+1) (d - 1)).1 (blkF ls m (q+1) (d - 1)).1 (blkF ls m (r+1) d).1,(blkF ls m (r+1) d).2):=by
 rw[blkF,if_pos hc,if_pos h,if_neg hd]
 split
 ·rename_i b e;rw[e] at hb;cases hb
 ·rename_i b q' e;rw[e] at hb;injection hb with hb;subst hb;rw[if_pos hq,e]
  split
  ·rename_i b' e';rw[e'] at he;cases he
  ·rename_i b' r' e';rw[e'] at he;injection he with he;subst he;rw[e']
end
theorem getD_at {ls:List Bs} {p:Nat} (h:p<ls.length):ls.getD p []=ls[p]:=by simp[List.getD,List.getElem?_eq_getElem h]
def BlkOk (d:Nat):Prop:=∀ (lo hi:Nat) (A:Option Addr) (c:Nat) (ls:List Bs) (p n:Nat) (w:World),StrsV w lo hi A ls→(∀ x∈ls,x.length≤1000000)→ls.length≤1049000→p≤ls.length→ls.length≤n+p→
  Calls Tryz.prog 193 #[.slice A ls.length c,.int .i64 p,.int .i64 d] w fun e w'=>∃ v,e=.returned (.tuple #[v,.int .i64 (atI (blkF ls n p d).2)])∧CmsN w' w.heap.size v (blkF ls n p d).1∧Below w.heap.size w w'
theorem l8Block_zero:BlkOk 0:=by
  intro lo hi A c ls p n w hV hS hL hp hn;have HV:=ax hV;have HS:=ax hS;obtain ⟨R,hR⟩:∃ R,R=blkF ls n p (0):=⟨_,rfl⟩;have hst:aJ (blkSt ls (0) R .nil (some p)):=ax (by rw[hR];exact blkSt.start n hn);rw[←hR];clear hV hS hn hR;(go_enter Tryz.func193,Tryz.ntmps193);have hN0:=CmsN.empty w (Nat.le_refl _);(go_wp2_with fail)
  go_loopg [1,8] (ls.length+12) (fun gh s1 s8 wr=>∃ (acc:Cms) (nx:Option Nat),s1=.int .i64 (atI nx)∧aJ (CmsN wr w.heap.size s8 acc)∧aJ (blkSt ls (0) R acc nx)∧acc.len≤ls.length+0∧aJ (∀ q,nx=some q→acc.len≤q∧q≤ls.length+0∧ls.length+12≤gh+q)∧aJ (Below w.heap.size w wr))
  case atStart=>exact ⟨.nil,some p,rfl,ax hN0,hst,by simp[Cms.len],ax (fun q e=>by injection e with e;subst e;simp[Cms.len];omega),ax (bbox (Below.refl _ _) _)⟩
  case round=>
   clear hN0 hst;obtain ⟨acc,nx,rfl,hN,hst,hal,hnx,HB⟩:=hrel;have hz:=HB.o.size;obtain ⟨A5,c5,rfl,-⟩:=hN.o.rj;have hOL:=ax hN.o.own_lt
   cases nx with
   | none=>
    have hE:=ax hst.o;have hf:aJ (R.2=none):=ax hE.o.2;have ha:aJ (acc=R.1):=ax hE.o.1;have hm1:atI none = -1:=rfl;rw[hm1];clear hE hst hnx;(go_wp2_with fail);refine bodyPost_ret (v:=.tuple #[.slice A5 acc.len c5,.int .i64 (-1)]) (by simp[results,Tryz.results193,go_sem]) rfl ⟨_,by rw[hf.o];rfl,by rw[←ha.o];exact hN.o,HB.o⟩
   | some q=>
    obtain ⟨hq1,hq2,hq3⟩:=hnx.o q rfl;have hqi:atI (some q)=(q:Int):=rfl;rw[hqi];clear hnx;have hq0:(0:Int)≤(q:Int):=by omega
    have hSt:=ax (fun hc=>hst.o.stop hc);by_cases hlt:q+1<ls.length
    ·have hlti:(q:Int)+1<(ls.length:Int):=by omega
     obtain ⟨b,o,rfl,hc⟩:=(HV.o.bz HB.o).at (show q<ls.length by omega);have hbl:=block_lt_of_cell hc;have hgd:=getD_at (ls:=ls) (p:=q) (by omega);have hxl:(ls[q]'(by omega)).length≤1000000:=HS.o _ (List.getElem_mem _);have hOn:=ax (hst.o.on (by omega));obtain ⟨x,hxx⟩:∃ x,x=ls[q]'(by omega):=⟨_,rfl⟩;rw[←hxx] at hc hgd hxl;rw[hgd] at hSt;clear hxx;by_cases he1:x=endL
     ·subst he1;have hE:=ax (hSt.o (fun h=>h.2.1 rfl));have hf:aJ (R.2=some q):=ax hE.o.2;have ha:aJ (acc=R.1):=ax hE.o.1;clear hE hSt hOn hst;(go_wp2_with fail);refine bodyPost_ret (v:=.tuple #[.slice A5 acc.len c5,.int .i64 q]) (by simp[results,Tryz.results193,go_sem]) rfl ⟨_,by rw[hf.o];rfl,by rw[←ha.o];exact hN.o,HB.o⟩
     have he1b:(x == [101,110,100])=false:=by rw[bytes_eq];simpa using he1
     by_cases he2:x=elseL
     ·subst he2;have hE:=ax (hSt.o (fun h=>h.2.2 rfl));have hf:aJ (R.2=some q):=ax hE.o.2;have ha:aJ (acc=R.1):=ax hE.o.1;clear hE hSt hOn hst;(go_wp2_with fail);refine bodyPost_ret (v:=.tuple #[.slice A5 acc.len c5,.int .i64 q]) (by simp[results,Tryz.results193,go_sem]) rfl ⟨_,by rw[hf.o];rfl,by rw[←ha.o];exact hN.o,HB.o⟩
     have he2b:(x == [101,108,115,101])=false:=by rw[bytes_eq];simpa using he2
     have hcc:=ax (show q+1<ls.length∧ls.getD q []≠endL∧ls.getD q []≠elseL from ⟨hlt,by rw[hgd];exact he1,by rw[hgd];exact he2⟩);obtain ⟨m,hm,hF1,hF2⟩:=hOn.o;replace hF1:=ax hF1;replace hF2:=ax hF2;clear he1 he2 hOn hst hSt;(go_wp2_with fail);refine (c_l8Head x _ hxl).mono ?_;rintro e w1 ⟨fv,av,rfl,of,oa,hB1⟩;obtain ⟨⟨k,ha,hb,⟨te,ta,tb⟩,i⟩,hH⟩:∃ h,h=headF x:=⟨_,rfl⟩;rw[←hH] at of oa ⊢;replace hH:=ax (show headF (ls.getD q [])=⟨k,ha,hb,⟨te,ta,tb⟩,i⟩ by rw[hgd];exact hH.symm);unfold headV;simp only at of oa ⊢;obtain ⟨AF,cF,rfl,vF⟩:=of.rj;obtain ⟨AA,cA,rfl,vA⟩:=oa.rj;have zr:=hB1.size;have HB1:=ax (bgo HB.o hB1);have hcb:w1.heap.size≠b:=by have h9:b<wr.heap.size:=hbl;omega
     have HX0:=ax (show ∀ y,wr.heap.size≤y→y<w1.heap.size→(w.heap.size≤y∧(Value.slice A5 acc.len c5).ownBlock≠some y∧y≠w1.heap.size) from fun y h1 h2=>⟨by omega,fun e=>by have:=hOL.o y e;omega,by omega⟩);have HXN:=ax (show ∀ y,w1.heap.size+1≤y→(w.heap.size≤y∧(Value.slice A5 acc.len c5).ownBlock≠some y∧y≠w1.heap.size) from fun y h1=>⟨by omega,fun e=>by have:=hOL.o y e;omega,by omega⟩);have XF:=ax (Rw.x vF.raw HX0.o);have XA:=ax (Rw.x vA.raw HX0.o);have HN1:=ax (hN.o.bz hB1);have k0:Blk (w1.alloc (.cells #[.int .i64 k,.int .i64 ha,.int .i64 hb,.bool te,.int .i64 ta,.int .i64 tb,.slice AF i.facts.length cF,.slice AA i.atoms.length cA,.slice none 0 0,.slice none 0 0] tC)) w1.heap.size tC #[.int .i64 k,.int .i64 ha,.int .i64 hb,.bool te,.int .i64 ta,.int .i64 tb,.slice AF i.facts.length cF,.slice AA i.atoms.length cA,.slice none 0 0,.slice none 0 0]:=Blk.new _ _ _;have hBw:aJ (Below w1.heap.size w1 (w1.alloc (.cells #[.int .i64 k,.int .i64 ha,.int .i64 hb,.bool te,.int .i64 ta,.int .i64 tb,.slice AF i.facts.length cF,.slice AA i.atoms.length cA,.slice none 0 0,.slice none 0 0] tC))):=ax (bbox (Below.refl _ _) _);have hq1i:=ax (show (q:Int)+1=((q+1:Nat):Int) by omega);clear of oa vF vA hB1 hc hN hbl HB;by_cases hk:k=6∨k=7
     ·have hz0:=ax (blk_zero (m:=m) (d:=0) hcc.o (by rw[hH.o];exact hk) (by omega));have hR1:aJ (R.2=none):=ax (by rw[←hF2.o,hz0.o]);have hR2:aJ (acc=R.1):=ax (by rw[←hF1.o,hz0.o];exact (app_nil acc).symm);have HB2:aJ (Below w.heap.size w (w1.alloc (.cells #[.int .i64 k,.int .i64 ha,.int .i64 hb,.bool te,.int .i64 ta,.int .i64 tb,.slice AF i.facts.length cF,.slice AA i.atoms.length cA,.slice none 0 0,.slice none 0 0] tC))):=ax (HB1.o.trans (hBw.o.mono (by omega)));have HN2:=ax (HN1.o.bz hBw.o);clear hz0 hH hF1 hF2;rcases hk with rfl|rfl
      all_goals
       (replace qk0:=k0.z);(go_wp2_with fail);refine bodyPost_ret (v:=.tuple #[.slice A5 acc.len c5,.int .i64 (-1)]) (by simp[results,Tryz.results193,go_sem]) rfl ⟨_,by rw[hR1.o];rfl,by rw[←hR2.o];exact HN2.o,HB2.o⟩
     ·have hk6:(k == 6)=false:=by simp;omega
      have hk7:(k == 7)=false:=by simp;omega
      have hzb:=ax (blk_basic (m:=m) (d:=0) hcc.o (by rw[hH.o];exact hk));have hstx:aJ (blkSt ls 0 R (acc.app (.cons k ha hb ⟨te,ta,tb⟩ i .nil .nil .nil)) (some (q+1))):=ax (blkSt.mk (H:=⟨k,ha,hb,⟨te,ta,tb⟩,i⟩) hm hF1.o hF2.o (Nat.le_refl _) (by rw[hzb.o,hH.o]));clear hzb hF1 hF2 hk;(replace qk0:=k0.z);(go_upto_region 17 with fail);clear qk0;rw[hq1i.o];generalize w1.alloc (.cells #[.int .i64 k,.int .i64 ha,.int .i64 hb,.bool te,.int .i64 ta,.int .i64 tb,.slice AF i.facts.length cF,.slice AA i.atoms.length cA,.slice none 0 0,.slice none 0 0] tC)=wx at *;have hBx:=hBw;have kx:=k0;obtain ⟨nx,hnxe⟩:∃ nx,nx=some (q+1):=⟨_,rfl⟩;have hati:((q+1:Nat):Int)=atI nx:=by rw[hnxe];rfl
      rw[hati];rw[←hnxe] at hstx;have hnx:aJ (∀ r,nx=some r→q+1≤r∧r≤ls.length+0):=ax (fun r e=>by rw[hnxe] at e;injection e with e;subst e;omega);obtain ⟨AB,cB,AE,cE,hAB⟩:∃ (AB:Option Addr) (cB:Nat) (AE:Option Addr) (cE:Nat),AB=none∧cB=0∧AE=none∧cE=0:=⟨_,_,_,_,rfl,rfl,rfl,rfl⟩;obtain ⟨body,hbody⟩:∃ body,body=Cms.nil:=⟨_,rfl⟩;obtain ⟨els,hels⟩:∃ body,body=Cms.nil:=⟨_,rfl⟩;have h3:aJ (PartX wx (fun y=>w.heap.size≤y∧(Value.slice A5 acc.len c5).ownBlock≠some y∧y≠w1.heap.size) AB body):=ax (by rw[hbody];exact PartX.nil _);have h4:aJ (PartX wx (fun y=>w.heap.size≤y∧(Value.slice A5 acc.len c5).ownBlock≠some y∧y≠w1.heap.size) AE els):=ax (by rw[hels];exact PartX.nil _);have hkx:Blk wx w1.heap.size tC #[.int .i64 k,.int .i64 ha,.int .i64 hb,.bool te,.int .i64 ta,.int .i64 tb,.slice AF i.facts.length cF,.slice AA i.atoms.length cA,.slice AB body.len cB,.slice AE els.len cE]:=by rw[hAB.1,hAB.2.1,hAB.2.2.1,hAB.2.2.2,hbody,hels];exact kx
      replace kx:=hkx;replace hstx:aJ (blkSt ls 0 R (acc.app (.cons k ha hb ⟨te,ta,tb⟩ i body els .nil)) nx):=ax (by rw[hbody,hels];exact hstx.o);clear hAB hbody hels hkx hnxe hati k0 hBw hk6 hk7;have hT0:=HN1.o.bz hBx.o;obtain ⟨cs,ho9,hT9,-⟩:=hT0;replace hT9:=ax hT9;replace ho9:=ax ho9;have hl9:w.heap.size≤wx.heap.size:=by have:=hBx.o.size;omega
      have XF9:=ax (XF.o.keep (w':=wx) fun y _ hy=>hBx.o.block y hy);have XA9:=ax (XA.o.keep (w':=wx) fun y _ hy=>hBx.o.block y hy);clear XF XA HN1;have hfin:acc.len+1≤1049600∧w.heap.size≤w1.heap.size:=by omega
      have hacc:acc.len+1≤ls.length+0:=by omega
      obtain ⟨hfin,hw1⟩:=hfin;have hq3:=ax (show 1≤gk∧ls.length+12≤gk+q by omega);replace hacc:=ax hacc;replace hq1:=ax hq1;replace hw1:=ax hw1;have qkx:=kx.cell;have rkx:=kx.frozen;have lkx:=kx.lt;replace kx:=ax kx;clear hqi hgd he1b he2b hcc hm hxl hq0 hlti hlt hal hq2 hH hcb hz zr;(go_wp2_with (at_builtin;(refine appCX (base:=w.heap.size) (g0:=wx.heap.size) rfl _ _ rfl rfl (own_below ho9.o (bbox (Below.refl _ _) _)) (tenL k ha hb ⟨te,ta,tb⟩ (.slice AF i.facts.length cF) (.slice AA i.atoms.length cA) (.slice AB body.len cB) (.slice AE els.len cE)) rfl (Blk.new _ _ _) rfl rfl (tenOne _ _ _ _ _ _ _ _ _ _ _ _ _ _ _ _) hfin (by simp;omega) ?_);(intro A8 c8 w8 o8 g8 B8 v8;have o8:=ax o8;have g8:=ax g8;have v8:=ax v8;have B8:=ax B8)));have kX:∀ y,y<wx.heap.size→(wx.alloc (.cells (tenL k ha hb ⟨te,ta,tb⟩ (.slice AF i.facts.length cF) (.slice AA i.atoms.length cA) (.slice AB body.len cB) (.slice AE els.len cE)).toArray tC)).heap[y]? = wx.heap[y]?:=fun y hy=>(bbox (Below.refl _ wx) _).block y hy;have N8:CmsN w8 w.heap.size (.slice A8 (acc.len+1) c8) (acc.app (.cons k ha hb ⟨te,ta,tb⟩ i body els .nil)):=CmsN.grow (hT9.o.keep fun y _ hy=>kX y hy) hfin ((XF9.o.mono fun y hy _=>⟨hy.1,hy.2.1⟩).keep fun y _ hy=>kX y hy) ((XA9.o.mono fun y hy _=>⟨hy.1,hy.2.1⟩).keep fun y _ hy=>kX y hy) ((h3.o.mono fun y hy _=>⟨hy.1,hy.2.1⟩).keep fun y _ hy=>kX y hy) ((h4.o.mono fun y hy _=>⟨hy.1,hy.2.1⟩).keep fun y _ hy=>kX y hy) o8.o g8.o v8.o;have F8:Below w.heap.size w w8:=((HB1.o.trans (hBx.o.mono hw1.o)).alloc hl9 _).trans B8.o;have hLl:(acc.app (.cons k ha hb ⟨te,ta,tb⟩ i body els .nil)).len=acc.len+1:=by rw[Cms.len_app];rfl
      go_roundg (gk - 1)
      case rel=>exact ⟨acc.app (.cons k ha hb ⟨te,ta,tb⟩ i body els .nil),nx,rfl,ax N8,hstx,by rw[hLl];exact hacc.o,ax (fun r e=>by have:=hnx.o r e;have:=hq1.o;have:=hq3.o;rw[hLl];omega),ax F8⟩
      case measure=>have:=hq3.o;omega
    ·have hlti:¬(q:Int)+1<(ls.length:Int):=by omega
     have hE:=ax (hSt.o (fun h=>hlt h.1));have hf:aJ (R.2=some q):=ax hE.o.2;have ha:aJ (acc=R.1):=ax hE.o.1;clear hE hSt hst;(go_wp2_with fail);refine bodyPost_ret (v:=.tuple #[.slice A5 acc.len c5,.int .i64 q]) (by simp[results,Tryz.results193,go_sem]) rfl ⟨_,by rw[hf.o];rfl,by rw[←ha.o];exact hN.o,HB.o⟩
theorem l8Block_succ (d:Nat) (hd:d≤9) (IH:BlkOk d):BlkOk (d+1):=by
  intro lo hi A c ls p n w hV hS hL hp hn;replace IH:=ax (fun lo hi A c p n w hV=>IH lo hi A c ls p n w hV hS hL);have HV:=ax hV;have HS:=ax hS;obtain ⟨R,hR⟩:∃ R,R=blkF ls n p (d+1):=⟨_,rfl⟩;have hst:aJ (blkSt ls (d+1) R .nil (some p)):=ax (by rw[hR];exact blkSt.start n hn);rw[←hR];clear hV hS hn hR;(go_enter Tryz.func193,Tryz.ntmps193);have hN0:=CmsN.empty w (Nat.le_refl _);(go_wp2_with fail)
  go_loopg [1,8] (ls.length+12) (fun gh s1 s8 wr=>∃ (acc:Cms) (nx:Option Nat),s1=.int .i64 (atI nx)∧aJ (CmsN wr w.heap.size s8 acc)∧aJ (blkSt ls (d+1) R acc nx)∧acc.len≤ls.length+d+1∧aJ (∀ q,nx=some q→acc.len≤q∧q≤ls.length+d+1∧ls.length+12≤gh+q)∧aJ (Below w.heap.size w wr))
  case atStart=>exact ⟨.nil,some p,rfl,ax hN0,hst,by simp[Cms.len],ax (fun q e=>by injection e with e;subst e;simp[Cms.len];omega),ax (bbox (Below.refl _ _) _)⟩
  case round=>
   clear hN0 hst;obtain ⟨acc,nx,rfl,hN,hst,hal,hnx,HB⟩:=hrel;have hz:=HB.o.size;obtain ⟨A5,c5,rfl,-⟩:=hN.o.rj;have hOL:=ax hN.o.own_lt
   cases nx with
   | none=>
    have hE:=ax hst.o;have hf:aJ (R.2=none):=ax hE.o.2;have ha:aJ (acc=R.1):=ax hE.o.1;have hm1:atI none = -1:=rfl;rw[hm1];clear hE hst hnx;(go_wp2_with fail);refine bodyPost_ret (v:=.tuple #[.slice A5 acc.len c5,.int .i64 (-1)]) (by simp[results,Tryz.results193,go_sem]) rfl ⟨_,by rw[hf.o];rfl,by rw[←ha.o];exact hN.o,HB.o⟩
   | some q=>
    obtain ⟨hq1,hq2,hq3⟩:=hnx.o q rfl;have hqi:atI (some q)=(q:Int):=rfl;rw[hqi];clear hnx;have hq0:(0:Int)≤(q:Int):=by omega
    have hSt:=ax (fun hc=>hst.o.stop hc);by_cases hlt:q+1<ls.length
    ·have hlti:(q:Int)+1<(ls.length:Int):=by omega
     obtain ⟨b,o,rfl,hc⟩:=(HV.o.bz HB.o).at (show q<ls.length by omega);have hbl:=block_lt_of_cell hc;have hgd:=getD_at (ls:=ls) (p:=q) (by omega);have hxl:(ls[q]'(by omega)).length≤1000000:=HS.o _ (List.getElem_mem _);have hOn:=ax (hst.o.on (by omega));obtain ⟨x,hxx⟩:∃ x,x=ls[q]'(by omega):=⟨_,rfl⟩;rw[←hxx] at hc hgd hxl;rw[hgd] at hSt;clear hxx;by_cases he1:x=endL
     ·subst he1;have hE:=ax (hSt.o (fun h=>h.2.1 rfl));have hf:aJ (R.2=some q):=ax hE.o.2;have ha:aJ (acc=R.1):=ax hE.o.1;clear hE hSt hOn hst;(go_wp2_with fail);refine bodyPost_ret (v:=.tuple #[.slice A5 acc.len c5,.int .i64 q]) (by simp[results,Tryz.results193,go_sem]) rfl ⟨_,by rw[hf.o];rfl,by rw[←ha.o];exact hN.o,HB.o⟩
     have he1b:(x == [101,110,100])=false:=by rw[bytes_eq];simpa using he1
     by_cases he2:x=elseL
     ·subst he2;have hE:=ax (hSt.o (fun h=>h.2.2 rfl));have hf:aJ (R.2=some q):=ax hE.o.2;have ha:aJ (acc=R.1):=ax hE.o.1;clear hE hSt hOn hst;(go_wp2_with fail);refine bodyPost_ret (v:=.tuple #[.slice A5 acc.len c5,.int .i64 q]) (by simp[results,Tryz.results193,go_sem]) rfl ⟨_,by rw[hf.o];rfl,by rw[←ha.o];exact hN.o,HB.o⟩
     have he2b:(x == [101,108,115,101])=false:=by rw[bytes_eq];simpa using he2
     have hcc:=ax (show q+1<ls.length∧ls.getD q []≠endL∧ls.getD q []≠elseL from ⟨hlt,by rw[hgd];exact he1,by rw[hgd];exact he2⟩);obtain ⟨m,hm,hF1,hF2⟩:=hOn.o;replace hF1:=ax hF1;replace hF2:=ax hF2;clear he1 he2 hOn hst hSt;(go_wp2_with fail);refine (c_l8Head x _ hxl).mono ?_;rintro e w1 ⟨fv,av,rfl,of,oa,hB1⟩;obtain ⟨⟨k,ha,hb,⟨te,ta,tb⟩,i⟩,hH⟩:∃ h,h=headF x:=⟨_,rfl⟩;rw[←hH] at of oa ⊢;replace hH:=ax (show headF (ls.getD q [])=⟨k,ha,hb,⟨te,ta,tb⟩,i⟩ by rw[hgd];exact hH.symm);unfold headV;simp only at of oa ⊢;obtain ⟨AF,cF,rfl,vF⟩:=of.rj;obtain ⟨AA,cA,rfl,vA⟩:=oa.rj;have zr:=hB1.size;have HB1:=ax (bgo HB.o hB1);have hcb:w1.heap.size≠b:=by have h9:b<wr.heap.size:=hbl;omega
     have HX0:=ax (show ∀ y,wr.heap.size≤y→y<w1.heap.size→(w.heap.size≤y∧(Value.slice A5 acc.len c5).ownBlock≠some y∧y≠w1.heap.size) from fun y h1 h2=>⟨by omega,fun e=>by have:=hOL.o y e;omega,by omega⟩);have HXN:=ax (show ∀ y,w1.heap.size+1≤y→(w.heap.size≤y∧(Value.slice A5 acc.len c5).ownBlock≠some y∧y≠w1.heap.size) from fun y h1=>⟨by omega,fun e=>by have:=hOL.o y e;omega,by omega⟩);have XF:=ax (Rw.x vF.raw HX0.o);have XA:=ax (Rw.x vA.raw HX0.o);have HN1:=ax (hN.o.bz hB1);have k0:Blk (w1.alloc (.cells #[.int .i64 k,.int .i64 ha,.int .i64 hb,.bool te,.int .i64 ta,.int .i64 tb,.slice AF i.facts.length cF,.slice AA i.atoms.length cA,.slice none 0 0,.slice none 0 0] tC)) w1.heap.size tC #[.int .i64 k,.int .i64 ha,.int .i64 hb,.bool te,.int .i64 ta,.int .i64 tb,.slice AF i.facts.length cF,.slice AA i.atoms.length cA,.slice none 0 0,.slice none 0 0]:=Blk.new _ _ _;have hBw:aJ (Below w1.heap.size w1 (w1.alloc (.cells #[.int .i64 k,.int .i64 ha,.int .i64 hb,.bool te,.int .i64 ta,.int .i64 tb,.slice AF i.facts.length cF,.slice AA i.atoms.length cA,.slice none 0 0,.slice none 0 0] tC))):=ax (bbox (Below.refl _ _) _);have hq1i:=ax (show (q:Int)+1=((q+1:Nat):Int) by omega);clear of oa vF vA hB1 hc hN hbl HB;have hd1:((d+1:Nat):Int) - 1=(d:Int):=by omega
     have hdn:¬(((d+1:Nat):Int)<1):=by omega
     by_cases hk:k=6∨k=7
     ·have hk':(headF (ls.getD q [])).k=6∨(headF (ls.getD q [])).k=7:=by rw[hH.o];exact hk
      have Hno:=ax (fun r h1 h2=>blk_noelse (q:=r) (m:=m) (d:=d+1) hcc.o hk' (by omega) h1 h2);have Hn:=ax (fun h1=>blk_none (m:=m) (d:=d+1) hcc.o hk' (by omega) h1);have He0:=ax (fun r h1 h2 h3=>blk_else0 (q:=r) (m:=m) (d:=d+1) hcc.o hk' (by omega) h1 h2 h3);have He:=ax (fun r r' h1 h2 h3=>blk_else (q:=r) (r:=r') (m:=m) (d:=d+1) hcc.o hk' (by omega) h1 h2 h3);rw[Nat.add_sub_cancel] at Hno Hn He0 He;rw[hH.o] at Hno Hn He0 He;have hle1:=ax (fun r=>blkF_le ls m (q+1) d (m:=r));have Ib:=ax (fun W hW=>IH.o lo hi (some ⟨b,o,none⟩) c (q+1) m W hW (by omega) (by omega));obtain ⟨⟨body,nb⟩,hB⟩:∃ B,B=blkF ls m (q+1) d:=⟨_,rfl⟩;rw[←hB] at Hno Hn He0 He hle1 Ib;simp only at Hno Hn He0 He hle1 Ib;clear hB hk';have HW0:=ax (hBw.o);rcases hk with hk|hk
      ·have t6:(k == 6)=true:=by simp[hk]
       clear hk;(replace qk0:=k0.z);(go_upto_if 52 with fail)
       go_cut [1] (fun s1 wc=>∃ (body els:Cms) (nx:Option Nat) (AB:Option Addr) (cB:Nat) (AE:Option Addr) (cE:Nat),s1=.int .i64 (atI nx)∧aJ (blkSt ls (d+1) R (acc.app (.cons k ha hb ⟨te,ta,tb⟩ i body els .nil)) nx)∧aJ (∀ r,nx=some r→q+1≤r∧r≤ls.length+(d+1))∧
        Blk wc w1.heap.size tC #[.int .i64 k,.int .i64 ha,.int .i64 hb,.bool te,.int .i64 ta,.int .i64 tb,.slice AF i.facts.length cF,.slice AA i.atoms.length cA,.slice AB body.len cB,.slice AE els.len cE]∧
        aJ (PartX wc (fun y=>w.heap.size≤y∧(Value.slice A5 acc.len c5).ownBlock≠some y∧y≠w1.heap.size) AB body)∧aJ (PartX wc (fun y=>w.heap.size≤y∧(Value.slice A5 acc.len c5).ownBlock≠some y∧y≠w1.heap.size) AE els)∧aJ (Below w1.heap.size w1 wc))
       case first=>
        (go_wp2_with fail);refine (Ib.o _ ((HV.o.bz HB1.o).bz hBw.o)).mono ?_;rintro e w2 ⟨v2,rfl,N2,hB2⟩;obtain ⟨AB,cB,rfl,-⟩:=N2.rj;have z2:=hB2.size;simp only[World.size_alloc] at z2;have k2:=k0.nz hB2;have HW2:=ax (bgo hBw.o hB2);have P2:=ax (N2.part.mono (Y:=fun y=>w.heap.size≤y∧(Value.slice A5 acc.len c5).ownBlock≠some y∧y≠w1.heap.size) fun y hy _=>HXN.o y (by simpa using hy));have k3:=k2.set_ 8 (.slice AB body.len cB);simp only[List.setIfInBounds_toArray,List.set_cons_zero,List.set_cons_succ] at k3;have P3:=ax (P2.o.keep (w':=w2.setCell ⟨w1.heap.size,8,none⟩ (.slice AB body.len cB)) fun y hy _=>Below.heap_setCell w2 ⟨w1.heap.size,8,none⟩ (.slice AB body.len cB) y hy.2.2);have HW3:aJ (Below w1.heap.size w1 (w2.setCell ⟨w1.heap.size,8,none⟩ (.slice AB body.len cB))):=ax (HW2.o.setCell (Nat.le_refl _) _);replace k3:=ax k3;clear N2 hB2 qk0 P2;(replace qk2:=k2.z)
        cases nb with
        | none=>
         have hm1:atI none = -1:=rfl;rw[hm1];have hst2:=ax (blkSt.mk0 (ls:=ls) (d:=d+1) hF1.o hF2.o (Hn.o rfl));clear Hno Hn He0 He hF1 hF2 Ib;(go_wp2_with fail);go_meet
         case rel=>exact ⟨body,.nil,none,AB,cB,none,0,rfl,hst2,ax (fun r e=>by cases e),k3.o,P3.o,ax (PartX.nil _),HW3.o⟩
        | some r=>
         have hr:=hle1.o r rfl;have hri:atI (some r)=(r:Int):=rfl;rw[hri];have hr0:(0:Int)≤(r:Int):=by omega
         have hr1:=ax (show (r:Int)+1=((r+1:Nat):Int) by omega);by_cases hrl:r<ls.length
         ·have hrli:(r:Int)<(ls.length:Int):=by omega
          have hgr:=getD_at (ls:=ls) (p:=r) hrl;obtain ⟨b',o',e',hcr⟩:=((HV.o.bz HB1.o).bz HW2.o).at hrl;injection e' with e';injection e' with e1 e2;subst e1 e2;obtain ⟨y,hyy⟩:∃ y,y=ls[r]:=⟨_,rfl⟩;rw[←hyy] at hgr hcr;clear hyy;by_cases hy:y=elseL
          ·subst hy;have Ie:=ax (fun W hW=>IH.o lo hi (some ⟨b,o,none⟩) c (r+1) m W hW (by omega) (by omega));have hle2:=ax (fun r'=>blkF_le ls m (r+1) d (m:=r'));have He0':=ax (fun h3=>He0.o r rfl ⟨hrl,hgr⟩ h3);have He':=ax (fun r' h3=>He.o r r' rfl ⟨hrl,hgr⟩ h3);obtain ⟨⟨els,ne⟩,hE⟩:∃ B,B=blkF ls m (r+1) d:=⟨_,rfl⟩;rw[←hE] at Ie hle2 He0' He';simp only at Ie hle2 He0' He';clear hE Hno Hn He0 He Ib;(go_wp2_with fail);refine (Ie.o _ ((HV.o.bz HB1.o).bz HW3.o)).mono ?_;rintro e w4 ⟨v4,rfl,N4,hB4⟩;obtain ⟨AE,cE,rfl,-⟩:=N4.rj;have z4:=hB4.size;simp only[World.size_setCell] at z4;have k4:=k3.o.nz hB4;have HW4:=ax (bgo HW3.o hB4);have P4:=ax (N4.part.mono (Y:=fun y=>w.heap.size≤y∧(Value.slice A5 acc.len c5).ownBlock≠some y∧y≠w1.heap.size) fun y hy _=>HXN.o y (by have h1:=hy;simp only[World.size_setCell] at h1;omega));have Q4:=ax (P3.o.keep (w':=w4) fun y _ hy=>hB4.block y hy);have k5:=k4.set_ 9 (.slice AE els.len cE);simp only[List.setIfInBounds_toArray,List.set_cons_zero,List.set_cons_succ] at k5;have P5:=ax (P4.o.keep (w':=w4.setCell ⟨w1.heap.size,9,none⟩ (.slice AE els.len cE)) fun y hy _=>Below.heap_setCell w4 ⟨w1.heap.size,9,none⟩ (.slice AE els.len cE) y hy.2.2);have Q5:=ax (Q4.o.keep (w':=w4.setCell ⟨w1.heap.size,9,none⟩ (.slice AE els.len cE)) fun y hy _=>Below.heap_setCell w4 ⟨w1.heap.size,9,none⟩ (.slice AE els.len cE) y hy.2.2);have HW5:aJ (Below w1.heap.size w1 (w4.setCell ⟨w1.heap.size,9,none⟩ (.slice AE els.len cE))):=ax (HW4.o.setCell (Nat.le_refl _) _);replace k5:=ax k5;clear N4 hB4 qk2 P4 Q4 P3 k3 HW3;(replace qk4:=k4.z)
           cases ne with
           | none=>
            have hm1:atI none = -1:=rfl;rw[hm1];have hst2:=ax (blkSt.mk0 (ls:=ls) (d:=d+1) hF1.o hF2.o (He0'.o rfl));clear He0' He' hF1 hF2;(go_wp2_with fail);go_meet
            case rel=>exact ⟨body,els,none,AB,cB,AE,cE,rfl,hst2,ax (fun r e=>by cases e),k5.o,Q5.o,P5.o,HW5.o⟩
           | some s=>
            have hs:=hle2.o s rfl;have hsi:atI (some s)=(s:Int):=rfl;rw[hsi];have hs0:(0:Int)≤(s:Int):=by omega
            have hs1:=ax (show (s:Int)+1=((s+1:Nat):Int) by omega);have hst2:=ax (blkSt.mk (ls:=ls) (d:=d+1) (q:=s+1) hm hF1.o hF2.o (by omega) (He'.o s rfl));clear He0' He' hF1 hF2;(go_wp2_with fail);go_meet
            case rel=>exact ⟨body,els,some (s+1),AB,cB,AE,cE,by rw[hs1.o];rfl,hst2,ax (fun r e=>by injection e with e;subst e;omega),k5.o,Q5.o,P5.o,HW5.o⟩
          ·have hyb:(y == [101,108,115,101])=false:=by rw[bytes_eq];simpa using hy
           have hst2:=ax (blkSt.mk (ls:=ls) (d:=d+1) (q:=r+1) hm hF1.o hF2.o (by omega) (Hno.o r rfl (fun h=>hy (by rw[←hgr];exact h.2))));clear Hno Hn He0 He hF1 hF2 Ib hy;(go_wp2_with fail);go_meet
           case rel=>exact ⟨body,.nil,some (r+1),AB,cB,none,0,by rw[hr1.o];rfl,hst2,ax (fun r e=>by injection e with e;subst e;omega),k3.o,P3.o,ax (PartX.nil _),HW3.o⟩
         ·have hrli:¬(r:Int)<(ls.length:Int):=by omega
          have hst2:=ax (blkSt.mk (ls:=ls) (d:=d+1) (q:=r+1) hm hF1.o hF2.o (by omega) (Hno.o r rfl (fun h=>hrl h.1)));clear Hno Hn He0 He hF1 hF2 Ib;(go_wp2_with fail);go_meet
          case rel=>exact ⟨body,.nil,some (r+1),AB,cB,none,0,by rw[hr1.o];rfl,hst2,ax (fun r e=>by injection e with e;subst e;omega),k3.o,P3.o,ax (PartX.nil _),HW3.o⟩
       case rest=>
        obtain ⟨body,els,nx,AB,cB,AE,cE,rfl,hstx,hnx,kx,h3,h4,hBx⟩:=hcut;obtain ⟨wx,rfl⟩:∃ z,z=wc:=⟨_,rfl⟩;clear k0 hBw qk0 Hno Hn He0 He Ib hF1 hF2 hle1 HW0;have hT0:=HN1.o.bz hBx.o;obtain ⟨cs,ho9,hT9,-⟩:=hT0;replace hT9:=ax hT9;replace ho9:=ax ho9;have hl9:w.heap.size≤wx.heap.size:=by have:=hBx.o.size;omega
        have XF9:=ax (XF.o.keep (w':=wx) fun y _ hy=>hBx.o.block y hy);have XA9:=ax (XA.o.keep (w':=wx) fun y _ hy=>hBx.o.block y hy);clear XF XA HN1;have hfin:acc.len+1≤1049600∧w.heap.size≤w1.heap.size:=by omega
        have hacc:acc.len+1≤ls.length+(d+1):=by omega
        obtain ⟨hfin,hw1⟩:=hfin;have hq3:=ax (show 1≤gk∧ls.length+12≤gk+q by omega);replace hacc:=ax hacc;replace hq1:=ax hq1;replace hw1:=ax hw1;have qkx:=kx.cell;have rkx:=kx.frozen;have lkx:=kx.lt;replace kx:=ax kx;clear hqi hgd he1b he2b hcc hm hxl hq0 hlti hlt hal hq2 hH hcb hz zr;(go_wp2_with (at_builtin;(refine appCX (base:=w.heap.size) (g0:=wx.heap.size) rfl _ _ rfl rfl (own_below ho9.o (bbox (Below.refl _ _) _)) (tenL k ha hb ⟨te,ta,tb⟩ (.slice AF i.facts.length cF) (.slice AA i.atoms.length cA) (.slice AB body.len cB) (.slice AE els.len cE)) rfl (Blk.new _ _ _) rfl rfl (tenOne _ _ _ _ _ _ _ _ _ _ _ _ _ _ _ _) hfin (by simp;omega) ?_);(intro A8 c8 w8 o8 g8 B8 v8;have o8:=ax o8;have g8:=ax g8;have v8:=ax v8;have B8:=ax B8)));have kX:∀ y,y<wx.heap.size→(wx.alloc (.cells (tenL k ha hb ⟨te,ta,tb⟩ (.slice AF i.facts.length cF) (.slice AA i.atoms.length cA) (.slice AB body.len cB) (.slice AE els.len cE)).toArray tC)).heap[y]? = wx.heap[y]?:=fun y hy=>(bbox (Below.refl _ wx) _).block y hy;have N8:CmsN w8 w.heap.size (.slice A8 (acc.len+1) c8) (acc.app (.cons k ha hb ⟨te,ta,tb⟩ i body els .nil)):=CmsN.grow (hT9.o.keep fun y _ hy=>kX y hy) hfin ((XF9.o.mono fun y hy _=>⟨hy.1,hy.2.1⟩).keep fun y _ hy=>kX y hy) ((XA9.o.mono fun y hy _=>⟨hy.1,hy.2.1⟩).keep fun y _ hy=>kX y hy) ((h3.o.mono fun y hy _=>⟨hy.1,hy.2.1⟩).keep fun y _ hy=>kX y hy) ((h4.o.mono fun y hy _=>⟨hy.1,hy.2.1⟩).keep fun y _ hy=>kX y hy) o8.o g8.o v8.o;have F8:Below w.heap.size w w8:=((HB1.o.trans (hBx.o.mono hw1.o)).alloc hl9 _).trans B8.o;have hLl:(acc.app (.cons k ha hb ⟨te,ta,tb⟩ i body els .nil)).len=acc.len+1:=by rw[Cms.len_app];rfl
        go_roundg (gk - 1)
        case rel=>exact ⟨acc.app (.cons k ha hb ⟨te,ta,tb⟩ i body els .nil),nx,rfl,ax N8,hstx,by rw[hLl];exact hacc.o,ax (fun r e=>by have:=hnx.o r e;have:=hq1.o;have:=hq3.o;rw[hLl];omega),ax F8⟩
        case measure=>have:=hq3.o;omega
      ·have t6:(k == 6)=false:=by simp[hk]
       have t7:(k == 7)=true:=by simp[hk]
       clear hk;(replace qk0:=k0.z);(go_upto_if 52 with fail)
       go_cut [1] (fun s1 wc=>∃ (body els:Cms) (nx:Option Nat) (AB:Option Addr) (cB:Nat) (AE:Option Addr) (cE:Nat),s1=.int .i64 (atI nx)∧aJ (blkSt ls (d+1) R (acc.app (.cons k ha hb ⟨te,ta,tb⟩ i body els .nil)) nx)∧aJ (∀ r,nx=some r→q+1≤r∧r≤ls.length+(d+1))∧
        Blk wc w1.heap.size tC #[.int .i64 k,.int .i64 ha,.int .i64 hb,.bool te,.int .i64 ta,.int .i64 tb,.slice AF i.facts.length cF,.slice AA i.atoms.length cA,.slice AB body.len cB,.slice AE els.len cE]∧
        aJ (PartX wc (fun y=>w.heap.size≤y∧(Value.slice A5 acc.len c5).ownBlock≠some y∧y≠w1.heap.size) AB body)∧aJ (PartX wc (fun y=>w.heap.size≤y∧(Value.slice A5 acc.len c5).ownBlock≠some y∧y≠w1.heap.size) AE els)∧aJ (Below w1.heap.size w1 wc))
       case first=>
        (go_wp2_with fail);refine (Ib.o _ ((HV.o.bz HB1.o).bz hBw.o)).mono ?_;rintro e w2 ⟨v2,rfl,N2,hB2⟩;obtain ⟨AB,cB,rfl,-⟩:=N2.rj;have z2:=hB2.size;simp only[World.size_alloc] at z2;have k2:=k0.nz hB2;have HW2:=ax (bgo hBw.o hB2);have P2:=ax (N2.part.mono (Y:=fun y=>w.heap.size≤y∧(Value.slice A5 acc.len c5).ownBlock≠some y∧y≠w1.heap.size) fun y hy _=>HXN.o y (by simpa using hy));have k3:=k2.set_ 8 (.slice AB body.len cB);simp only[List.setIfInBounds_toArray,List.set_cons_zero,List.set_cons_succ] at k3;have P3:=ax (P2.o.keep (w':=w2.setCell ⟨w1.heap.size,8,none⟩ (.slice AB body.len cB)) fun y hy _=>Below.heap_setCell w2 ⟨w1.heap.size,8,none⟩ (.slice AB body.len cB) y hy.2.2);have HW3:aJ (Below w1.heap.size w1 (w2.setCell ⟨w1.heap.size,8,none⟩ (.slice AB body.len cB))):=ax (HW2.o.setCell (Nat.le_refl _) _);replace k3:=ax k3;clear N2 hB2 qk0 P2;(replace qk2:=k2.z)
        cases nb with
        | none=>
         have hm1:atI none = -1:=rfl;rw[hm1];have hst2:=ax (blkSt.mk0 (ls:=ls) (d:=d+1) hF1.o hF2.o (Hn.o rfl));clear Hno Hn He0 He hF1 hF2 Ib;(go_wp2_with fail);go_meet
         case rel=>exact ⟨body,.nil,none,AB,cB,none,0,rfl,hst2,ax (fun r e=>by cases e),k3.o,P3.o,ax (PartX.nil _),HW3.o⟩
        | some r=>
         have hr:=hle1.o r rfl;have hri:atI (some r)=(r:Int):=rfl;rw[hri];have hr0:(0:Int)≤(r:Int):=by omega
         have hr1:=ax (show (r:Int)+1=((r+1:Nat):Int) by omega);by_cases hrl:r<ls.length
         ·have hrli:(r:Int)<(ls.length:Int):=by omega
          have hgr:=getD_at (ls:=ls) (p:=r) hrl;obtain ⟨b',o',e',hcr⟩:=((HV.o.bz HB1.o).bz HW2.o).at hrl;injection e' with e';injection e' with e1 e2;subst e1 e2;obtain ⟨y,hyy⟩:∃ y,y=ls[r]:=⟨_,rfl⟩;rw[←hyy] at hgr hcr;clear hyy;by_cases hy:y=elseL
          ·subst hy;have Ie:=ax (fun W hW=>IH.o lo hi (some ⟨b,o,none⟩) c (r+1) m W hW (by omega) (by omega));have hle2:=ax (fun r'=>blkF_le ls m (r+1) d (m:=r'));have He0':=ax (fun h3=>He0.o r rfl ⟨hrl,hgr⟩ h3);have He':=ax (fun r' h3=>He.o r r' rfl ⟨hrl,hgr⟩ h3);obtain ⟨⟨els,ne⟩,hE⟩:∃ B,B=blkF ls m (r+1) d:=⟨_,rfl⟩;rw[←hE] at Ie hle2 He0' He';simp only at Ie hle2 He0' He';clear hE Hno Hn He0 He Ib;(go_wp2_with fail);refine (Ie.o _ ((HV.o.bz HB1.o).bz HW3.o)).mono ?_;rintro e w4 ⟨v4,rfl,N4,hB4⟩;obtain ⟨AE,cE,rfl,-⟩:=N4.rj;have z4:=hB4.size;simp only[World.size_setCell] at z4;have k4:=k3.o.nz hB4;have HW4:=ax (bgo HW3.o hB4);have P4:=ax (N4.part.mono (Y:=fun y=>w.heap.size≤y∧(Value.slice A5 acc.len c5).ownBlock≠some y∧y≠w1.heap.size) fun y hy _=>HXN.o y (by have h1:=hy;simp only[World.size_setCell] at h1;omega));have Q4:=ax (P3.o.keep (w':=w4) fun y _ hy=>hB4.block y hy);have k5:=k4.set_ 9 (.slice AE els.len cE);simp only[List.setIfInBounds_toArray,List.set_cons_zero,List.set_cons_succ] at k5;have P5:=ax (P4.o.keep (w':=w4.setCell ⟨w1.heap.size,9,none⟩ (.slice AE els.len cE)) fun y hy _=>Below.heap_setCell w4 ⟨w1.heap.size,9,none⟩ (.slice AE els.len cE) y hy.2.2);have Q5:=ax (Q4.o.keep (w':=w4.setCell ⟨w1.heap.size,9,none⟩ (.slice AE els.len cE)) fun y hy _=>Below.heap_setCell w4 ⟨w1.heap.size,9,none⟩ (.slice AE els.len cE) y hy.2.2);have HW5:aJ (Below w1.heap.size w1 (w4.setCell ⟨w1.heap.size,9,none⟩ (.slice AE els.len cE))):=ax (HW4.o.setCell (Nat.le_refl _) _);replace k5:=ax k5;clear N4 hB4 qk2 P4 Q4 P3 k3 HW3;(replace qk4:=k4.z)
           cases ne with
           | none=>
            have hm1:atI none = -1:=rfl;rw[hm1];have hst2:=ax (blkSt.mk0 (ls:=ls) (d:=d+1) hF1.o hF2.o (He0'.o rfl));clear He0' He' hF1 hF2;(go_wp2_with fail);go_meet
            case rel=>exact ⟨body,els,none,AB,cB,AE,cE,rfl,hst2,ax (fun r e=>by cases e),k5.o,Q5.o,P5.o,HW5.o⟩
           | some s=>
            have hs:=hle2.o s rfl;have hsi:atI (some s)=(s:Int):=rfl;rw[hsi];have hs0:(0:Int)≤(s:Int):=by omega
            have hs1:=ax (show (s:Int)+1=((s+1:Nat):Int) by omega);have hst2:=ax (blkSt.mk (ls:=ls) (d:=d+1) (q:=s+1) hm hF1.o hF2.o (by omega) (He'.o s rfl));clear He0' He' hF1 hF2;(go_wp2_with fail);go_meet
            case rel=>exact ⟨body,els,some (s+1),AB,cB,AE,cE,by rw[hs1.o];rfl,hst2,ax (fun r e=>by injection e with e;subst e;omega),k5.o,Q5.o,P5.o,HW5.o⟩
          ·have hyb:(y == [101,108,115,101])=false:=by rw[bytes_eq];simpa using hy
           have hst2:=ax (blkSt.mk (ls:=ls) (d:=d+1) (q:=r+1) hm hF1.o hF2.o (by omega) (Hno.o r rfl (fun h=>hy (by rw[←hgr];exact h.2))));clear Hno Hn He0 He hF1 hF2 Ib hy;(go_wp2_with fail);go_meet
           case rel=>exact ⟨body,.nil,some (r+1),AB,cB,none,0,by rw[hr1.o];rfl,hst2,ax (fun r e=>by injection e with e;subst e;omega),k3.o,P3.o,ax (PartX.nil _),HW3.o⟩
         ·have hrli:¬(r:Int)<(ls.length:Int):=by omega
          have hst2:=ax (blkSt.mk (ls:=ls) (d:=d+1) (q:=r+1) hm hF1.o hF2.o (by omega) (Hno.o r rfl (fun h=>hrl h.1)));clear Hno Hn He0 He hF1 hF2 Ib;(go_wp2_with fail);go_meet
          case rel=>exact ⟨body,.nil,some (r+1),AB,cB,none,0,by rw[hr1.o];rfl,hst2,ax (fun r e=>by injection e with e;subst e;omega),k3.o,P3.o,ax (PartX.nil _),HW3.o⟩
       case rest=>
        obtain ⟨body,els,nx,AB,cB,AE,cE,rfl,hstx,hnx,kx,h3,h4,hBx⟩:=hcut;obtain ⟨wx,rfl⟩:∃ z,z=wc:=⟨_,rfl⟩;clear k0 hBw qk0 Hno Hn He0 He Ib hF1 hF2 hle1 HW0;have hT0:=HN1.o.bz hBx.o;obtain ⟨cs,ho9,hT9,-⟩:=hT0;replace hT9:=ax hT9;replace ho9:=ax ho9;have hl9:w.heap.size≤wx.heap.size:=by have:=hBx.o.size;omega
        have XF9:=ax (XF.o.keep (w':=wx) fun y _ hy=>hBx.o.block y hy);have XA9:=ax (XA.o.keep (w':=wx) fun y _ hy=>hBx.o.block y hy);clear XF XA HN1;have hfin:acc.len+1≤1049600∧w.heap.size≤w1.heap.size:=by omega
        have hacc:acc.len+1≤ls.length+(d+1):=by omega
        obtain ⟨hfin,hw1⟩:=hfin;have hq3:=ax (show 1≤gk∧ls.length+12≤gk+q by omega);replace hacc:=ax hacc;replace hq1:=ax hq1;replace hw1:=ax hw1;have qkx:=kx.cell;have rkx:=kx.frozen;have lkx:=kx.lt;replace kx:=ax kx;clear hqi hgd he1b he2b hcc hm hxl hq0 hlti hlt hal hq2 hH hcb hz zr;(go_wp2_with (at_builtin;(refine appCX (base:=w.heap.size) (g0:=wx.heap.size) rfl _ _ rfl rfl (own_below ho9.o (bbox (Below.refl _ _) _)) (tenL k ha hb ⟨te,ta,tb⟩ (.slice AF i.facts.length cF) (.slice AA i.atoms.length cA) (.slice AB body.len cB) (.slice AE els.len cE)) rfl (Blk.new _ _ _) rfl rfl (tenOne _ _ _ _ _ _ _ _ _ _ _ _ _ _ _ _) hfin (by simp;omega) ?_);(intro A8 c8 w8 o8 g8 B8 v8;have o8:=ax o8;have g8:=ax g8;have v8:=ax v8;have B8:=ax B8)));have kX:∀ y,y<wx.heap.size→(wx.alloc (.cells (tenL k ha hb ⟨te,ta,tb⟩ (.slice AF i.facts.length cF) (.slice AA i.atoms.length cA) (.slice AB body.len cB) (.slice AE els.len cE)).toArray tC)).heap[y]? = wx.heap[y]?:=fun y hy=>(bbox (Below.refl _ wx) _).block y hy;have N8:CmsN w8 w.heap.size (.slice A8 (acc.len+1) c8) (acc.app (.cons k ha hb ⟨te,ta,tb⟩ i body els .nil)):=CmsN.grow (hT9.o.keep fun y _ hy=>kX y hy) hfin ((XF9.o.mono fun y hy _=>⟨hy.1,hy.2.1⟩).keep fun y _ hy=>kX y hy) ((XA9.o.mono fun y hy _=>⟨hy.1,hy.2.1⟩).keep fun y _ hy=>kX y hy) ((h3.o.mono fun y hy _=>⟨hy.1,hy.2.1⟩).keep fun y _ hy=>kX y hy) ((h4.o.mono fun y hy _=>⟨hy.1,hy.2.1⟩).keep fun y _ hy=>kX y hy) o8.o g8.o v8.o;have F8:Below w.heap.size w w8:=((HB1.o.trans (hBx.o.mono hw1.o)).alloc hl9 _).trans B8.o;have hLl:(acc.app (.cons k ha hb ⟨te,ta,tb⟩ i body els .nil)).len=acc.len+1:=by rw[Cms.len_app];rfl
        go_roundg (gk - 1)
        case rel=>exact ⟨acc.app (.cons k ha hb ⟨te,ta,tb⟩ i body els .nil),nx,rfl,ax N8,hstx,by rw[hLl];exact hacc.o,ax (fun r e=>by have:=hnx.o r e;have:=hq1.o;have:=hq3.o;rw[hLl];omega),ax F8⟩
        case measure=>have:=hq3.o;omega
     ·have hk6:(k == 6)=false:=by simp;omega
      have hk7:(k == 7)=false:=by simp;omega
      have hzb:=ax (blk_basic (m:=m) (d:=d+1) hcc.o (by rw[hH.o];exact hk));have hstx:aJ (blkSt ls (d+1) R (acc.app (.cons k ha hb ⟨te,ta,tb⟩ i .nil .nil .nil)) (some (q+1))):=ax (blkSt.mk (H:=⟨k,ha,hb,⟨te,ta,tb⟩,i⟩) hm hF1.o hF2.o (Nat.le_refl _) (by rw[hzb.o,hH.o]));clear hzb hF1 hF2 hk;(replace qk0:=k0.z);(go_upto_region 17 with fail);clear qk0;rw[hq1i.o];generalize w1.alloc (.cells #[.int .i64 k,.int .i64 ha,.int .i64 hb,.bool te,.int .i64 ta,.int .i64 tb,.slice AF i.facts.length cF,.slice AA i.atoms.length cA,.slice none 0 0,.slice none 0 0] tC)=wx at *;have hBx:=hBw;have kx:=k0;obtain ⟨nx,hnxe⟩:∃ nx,nx=some (q+1):=⟨_,rfl⟩;have hati:((q+1:Nat):Int)=atI nx:=by rw[hnxe];rfl
      rw[hati];rw[←hnxe] at hstx;have hnx:aJ (∀ r,nx=some r→q+1≤r∧r≤ls.length+(d+1)):=ax (fun r e=>by rw[hnxe] at e;injection e with e;subst e;omega);obtain ⟨AB,cB,AE,cE,hAB⟩:∃ (AB:Option Addr) (cB:Nat) (AE:Option Addr) (cE:Nat),AB=none∧cB=0∧AE=none∧cE=0:=⟨_,_,_,_,rfl,rfl,rfl,rfl⟩;obtain ⟨body,hbody⟩:∃ body,body=Cms.nil:=⟨_,rfl⟩;obtain ⟨els,hels⟩:∃ body,body=Cms.nil:=⟨_,rfl⟩;have h3:aJ (PartX wx (fun y=>w.heap.size≤y∧(Value.slice A5 acc.len c5).ownBlock≠some y∧y≠w1.heap.size) AB body):=ax (by rw[hbody];exact PartX.nil _);have h4:aJ (PartX wx (fun y=>w.heap.size≤y∧(Value.slice A5 acc.len c5).ownBlock≠some y∧y≠w1.heap.size) AE els):=ax (by rw[hels];exact PartX.nil _);have hkx:Blk wx w1.heap.size tC #[.int .i64 k,.int .i64 ha,.int .i64 hb,.bool te,.int .i64 ta,.int .i64 tb,.slice AF i.facts.length cF,.slice AA i.atoms.length cA,.slice AB body.len cB,.slice AE els.len cE]:=by rw[hAB.1,hAB.2.1,hAB.2.2.1,hAB.2.2.2,hbody,hels];exact kx
      replace kx:=hkx;replace hstx:aJ (blkSt ls (d+1) R (acc.app (.cons k ha hb ⟨te,ta,tb⟩ i body els .nil)) nx):=ax (by rw[hbody,hels];exact hstx.o);clear hAB hbody hels hkx hnxe hati k0 hBw hk6 hk7;have hT0:=HN1.o.bz hBx.o;obtain ⟨cs,ho9,hT9,-⟩:=hT0;replace hT9:=ax hT9;replace ho9:=ax ho9;have hl9:w.heap.size≤wx.heap.size:=by have:=hBx.o.size;omega
      have XF9:=ax (XF.o.keep (w':=wx) fun y _ hy=>hBx.o.block y hy);have XA9:=ax (XA.o.keep (w':=wx) fun y _ hy=>hBx.o.block y hy);clear XF XA HN1;have hfin:acc.len+1≤1049600∧w.heap.size≤w1.heap.size:=by omega
      have hacc:acc.len+1≤ls.length+(d+1):=by omega
      obtain ⟨hfin,hw1⟩:=hfin;have hq3:=ax (show 1≤gk∧ls.length+12≤gk+q by omega);replace hacc:=ax hacc;replace hq1:=ax hq1;replace hw1:=ax hw1;have qkx:=kx.cell;have rkx:=kx.frozen;have lkx:=kx.lt;replace kx:=ax kx;clear hqi hgd he1b he2b hcc hm hxl hq0 hlti hlt hal hq2 hH hcb hz zr;(go_wp2_with (at_builtin;(refine appCX (base:=w.heap.size) (g0:=wx.heap.size) rfl _ _ rfl rfl (own_below ho9.o (bbox (Below.refl _ _) _)) (tenL k ha hb ⟨te,ta,tb⟩ (.slice AF i.facts.length cF) (.slice AA i.atoms.length cA) (.slice AB body.len cB) (.slice AE els.len cE)) rfl (Blk.new _ _ _) rfl rfl (tenOne _ _ _ _ _ _ _ _ _ _ _ _ _ _ _ _) hfin (by simp;omega) ?_);(intro A8 c8 w8 o8 g8 B8 v8;have o8:=ax o8;have g8:=ax g8;have v8:=ax v8;have B8:=ax B8)));have kX:∀ y,y<wx.heap.size→(wx.alloc (.cells (tenL k ha hb ⟨te,ta,tb⟩ (.slice AF i.facts.length cF) (.slice AA i.atoms.length cA) (.slice AB body.len cB) (.slice AE els.len cE)).toArray tC)).heap[y]? = wx.heap[y]?:=fun y hy=>(bbox (Below.refl _ wx) _).block y hy;have N8:CmsN w8 w.heap.size (.slice A8 (acc.len+1) c8) (acc.app (.cons k ha hb ⟨te,ta,tb⟩ i body els .nil)):=CmsN.grow (hT9.o.keep fun y _ hy=>kX y hy) hfin ((XF9.o.mono fun y hy _=>⟨hy.1,hy.2.1⟩).keep fun y _ hy=>kX y hy) ((XA9.o.mono fun y hy _=>⟨hy.1,hy.2.1⟩).keep fun y _ hy=>kX y hy) ((h3.o.mono fun y hy _=>⟨hy.1,hy.2.1⟩).keep fun y _ hy=>kX y hy) ((h4.o.mono fun y hy _=>⟨hy.1,hy.2.1⟩).keep fun y _ hy=>kX y hy) o8.o g8.o v8.o;have F8:Below w.heap.size w w8:=((HB1.o.trans (hBx.o.mono hw1.o)).alloc hl9 _).trans B8.o;have hLl:(acc.app (.cons k ha hb ⟨te,ta,tb⟩ i body els .nil)).len=acc.len+1:=by rw[Cms.len_app];rfl
      go_roundg (gk - 1)
      case rel=>exact ⟨acc.app (.cons k ha hb ⟨te,ta,tb⟩ i body els .nil),nx,rfl,ax N8,hstx,by rw[hLl];exact hacc.o,ax (fun r e=>by have:=hnx.o r e;have:=hq1.o;have:=hq3.o;rw[hLl];omega),ax F8⟩
      case measure=>have:=hq3.o;omega
    ·have hlti:¬(q:Int)+1<(ls.length:Int):=by omega
     have hE:=ax (hSt.o (fun h=>hlt h.1));have hf:aJ (R.2=some q):=ax hE.o.2;have ha:aJ (acc=R.1):=ax hE.o.1;clear hE hSt hst;(go_wp2_with fail);refine bodyPost_ret (v:=.tuple #[.slice A5 acc.len c5,.int .i64 q]) (by simp[results,Tryz.results193,go_sem]) rfl ⟨_,by rw[hf.o];rfl,by rw[←ha.o];exact hN.o,HB.o⟩
theorem c_l8Block:∀ (d:Nat),d≤10→BlkOk d
 | 0,_=>l8Block_zero
 | d+1,h=>l8Block_succ d (by omega) (c_l8Block d (by omega))
theorem c_l8Line {lo hi:Nat} (k a b:Int) (t:Fct) (i:Asn) (A1 A2 A3 A4:Option Addr) (c1 c2 n3 c3 n4 c4:Nat) (w:World) (h:AsnV w lo hi (.agg #[.slice A1 i.facts.length c1,.slice A2 i.atoms.length c2]) i) :
  Calls Tryz.prog 280 #[.agg #[.int .i64 k,.int .i64 a,.int .i64 b,.bool t.eq,.int .i64 t.a,.int .i64 t.b,.slice A1 i.facts.length c1,.slice A2 i.atoms.length c2,.slice A3 n3 c3,.slice A4 n4 c4]] w fun e w'=>e=.returned (sv (lineL k a b t i))∧Below w.heap.size w w':=by
 obtain ⟨hl1,hl2⟩:i.facts.length≤1049600∧i.atoms.length≤1049600:=by
  obtain ⟨B1,d1,B2,d2,e,h1,h2⟩:=h;exact ⟨h1.le,h2.le⟩
 have HV:=ax h;have la:=tnameL_len a;have lb:=tnameL_len b;have lt:=fmtF_len t;have li:=textA_len i;have ca:=c_TermName a;have cb:=c_TermName b;have ct:=c_l1Text t;have ci:=fun w h=>c_l3Text (lo:=lo) (hi:=hi) (.agg #[.slice A1 i.facts.length c1,.slice A2 i.atoms.length c2]) i w h;obtain ⟨NA,hNA⟩:∃ N,N=tnameL a:=⟨_,rfl⟩;obtain ⟨NB,hNB⟩:∃ N,N=tnameL b:=⟨_,rfl⟩;obtain ⟨NT,hNT⟩:∃ N,N=fmtF t:=⟨_,rfl⟩;obtain ⟨NI,hNI⟩:∃ N,N=textA i:=⟨_,rfl⟩
 have hL:aJ (lineL k a b t i=if k=1 then NA++[58,61]++NB else if k=2 then NA++[58,61,91]++NB++[93] else if k=3 then [91]++NA++[93,58,61]++NB
  else if k=4 then [110,101,119,32]++NA else if k=5 then [102,114,101,101,32]++NA else if k=6 then [105,102,32]++NT else [119,104,105,108,101,32]++NT++[32,119,105,116,104,32]++NI):=ax (by rw[hNA,hNB,hNT,hNI];rfl)
 rw[←hNA] at la ca;rw[←hNB] at lb cb;rw[←hNT] at lt ct;rw[←hNI] at li ci;replace ca:=ax ca;replace cb:=ax cb;replace ct:=ax ct;replace ci:=ax ci;clear hNA hNB hNT hNI h;obtain ⟨te,ta,tb⟩:=t;unfold Fct.val at ct;simp only at ct ⊢;have k0:Blk (w.alloc (.cells #[.int .i64 k,.int .i64 a,.int .i64 b,.bool te,.int .i64 ta,.int .i64 tb,.slice A1 i.facts.length c1,.slice A2 i.atoms.length c2,.slice A3 n3 c3,.slice A4 n4 c4] tC)) w.heap.size tC #[.int .i64 k,.int .i64 a,.int .i64 b,.bool te,.int .i64 ta,.int .i64 tb,.slice A1 i.facts.length c1,.slice A2 i.atoms.length c2,.slice A3 n3 c3,.slice A4 n4 c4]:=Blk.new _ _ _;have hB0:Below w.heap.size w (w.alloc (.cells #[.int .i64 k,.int .i64 a,.int .i64 b,.bool te,.int .i64 ta,.int .i64 tb,.slice A1 i.facts.length c1,.slice A2 i.atoms.length c2,.slice A3 n3 c3,.slice A4 n4 c4] tC)):=bbox (Below.refl _ _) _;(go_enter Tryz.func280,Tryz.ntmps280);(replace qk0:=k0.z);(go_wp2_with fail);refine (ca.o _).mono ?_;rintro e w1 ⟨rfl,rfl⟩;(go_wp2_with fail);refine (cb.o _).mono ?_;rintro e w1 ⟨rfl,rfl⟩;have hBh:=ax hB0;by_cases h1:k=1
 ·have b1:(k == 1)=true:=by simp[h1]
  obtain ⟨S0,e0,n0⟩:=addO (P:=Tryz.prog) NA [58,61] (by first|omega|(simp;omega));have l0:S0.length≤10:=by rw[e0.o];simp;omega
  obtain ⟨S1,e1,n1⟩:=addO (P:=Tryz.prog) S0 NB (by first|omega|(simp;omega));have hR:aJ (lineL k a b ⟨te,ta,tb⟩ i=S1):=ax (by rw[hL.o,if_pos h1,e1.o,e0.o]);clear hL h1;(go_wp2_with fail);go_ret;exact ⟨ret_str hR.o.symm,hBh.o⟩
 have b1:(k == 1)=false:=by simp[h1]
 by_cases h2:k=2
 ·have b2:(k == 2)=true:=by simp[h2]
  obtain ⟨S0,e0,n0⟩:=addO (P:=Tryz.prog) NA [58,61,91] (by first|omega|(simp;omega));have l0:S0.length≤10:=by rw[e0.o];simp;omega
  obtain ⟨S1,e1,n1⟩:=addO (P:=Tryz.prog) S0 NB (by first|omega|(simp;omega));have l1:S1.length≤20:=by rw[e1.o];simp;omega
  obtain ⟨S2,e2,n2⟩:=addO (P:=Tryz.prog) S1 [93] (by first|omega|(simp;omega));have hR:aJ (lineL k a b ⟨te,ta,tb⟩ i=S2):=ax (by rw[hL.o,if_neg h1,if_pos h2,e2.o,e1.o,e0.o]);clear hL h2;(go_wp2_with fail);go_ret;exact ⟨ret_str hR.o.symm,hBh.o⟩
 have b2:(k == 2)=false:=by simp[h2]
 by_cases h3:k=3
 ·have b3:(k == 3)=true:=by simp[h3]
  obtain ⟨S0,e0,n0⟩:=addO (P:=Tryz.prog) [91] NA (by first|omega|(simp;omega));have l0:S0.length≤10:=by rw[e0.o];simp;omega
  obtain ⟨S1,e1,n1⟩:=addO (P:=Tryz.prog) S0 [93,58,61] (by first|omega|(simp;omega));have l1:S1.length≤20:=by rw[e1.o];simp;omega
  obtain ⟨S2,e2,n2⟩:=addO (P:=Tryz.prog) S1 NB (by first|omega|(simp;omega));have hR:aJ (lineL k a b ⟨te,ta,tb⟩ i=S2):=ax (by rw[hL.o,if_neg h1,if_neg h2,if_pos h3,e2.o,e1.o,e0.o]);clear hL h3;(go_wp2_with fail);go_ret;exact ⟨ret_str hR.o.symm,hBh.o⟩
 have b3:(k == 3)=false:=by simp[h3]
 by_cases h4:k=4
 ·have b4:(k == 4)=true:=by simp[h4]
  obtain ⟨S0,e0,n0⟩:=addO (P:=Tryz.prog) [110,101,119,32] NA (by first|omega|(simp;omega));have hR:aJ (lineL k a b ⟨te,ta,tb⟩ i=S0):=ax (by rw[hL.o,if_neg h1,if_neg h2,if_neg h3,if_pos h4,e0.o]);clear hL h4;(go_wp2_with fail);go_ret;exact ⟨ret_str hR.o.symm,hBh.o⟩
 have b4:(k == 4)=false:=by simp[h4]
 by_cases h5:k=5
 ·have b5:(k == 5)=true:=by simp[h5]
  obtain ⟨S0,e0,n0⟩:=addO (P:=Tryz.prog) [102,114,101,101,32] NA (by first|omega|(simp;omega));have hR:aJ (lineL k a b ⟨te,ta,tb⟩ i=S0):=ax (by rw[hL.o,if_neg h1,if_neg h2,if_neg h3,if_neg h4,if_pos h5,e0.o]);clear hL h5;(go_wp2_with fail);go_ret;exact ⟨ret_str hR.o.symm,hBh.o⟩
 have b5:(k == 5)=false:=by simp[h5]
 by_cases h6:k=6
 ·have b6:(k == 6)=true:=by simp[h6]
  obtain ⟨S0,e0,n0⟩:=addO (P:=Tryz.prog) [105,102,32] NT (by simp;omega);have hR:aJ (lineL k a b ⟨te,ta,tb⟩ i=S0):=ax (by rw[hL.o,if_neg h1,if_neg h2,if_neg h3,if_neg h4,if_neg h5,if_pos h6,e0.o]);clear hL h1 h2 h3 h4 h5 h6;(go_wp2_with fail);refine (ct.o _).mono ?_;rintro e w2 ⟨rfl,hB2⟩;have hB2':=ax (bgo hBh.o hB2);(go_wp2_with fail);go_ret;exact ⟨ret_str hR.o.symm,hB2'.o⟩
 have b6:(k == 6)=false:=by simp[h6]
 obtain ⟨S0,e0,n0⟩:=addO (P:=Tryz.prog) [119,104,105,108,101,32] NT (by simp;omega);have l0:S0.length≤20:=by rw[e0.o];simp;omega
 obtain ⟨S1,e1,n1⟩:=addO (P:=Tryz.prog) S0 [32,119,105,116,104,32] (by simp;omega);have l1:S1.length≤30:=by rw[e1.o];simp;omega
 obtain ⟨S2,e2,n2⟩:=addO (P:=Tryz.prog) S1 NI (by omega);have hR:aJ (lineL k a b ⟨te,ta,tb⟩ i=S2):=ax (by rw[hL.o,if_neg h1,if_neg h2,if_neg h3,if_neg h4,if_neg h5,if_neg h6,e2.o,e1.o,e0.o]);clear hL h1 h2 h3 h4 h5 h6 l0 l1;(go_wp2_with fail)
 go_region_held3 (fun w'=>(∀ j,w'.cell? ⟨w.heap.size,j,none⟩=#[.int .i64 k,.int .i64 a,.int .i64 b,.bool te,.int .i64 ta,.int .i64 tb,.slice A1 i.facts.length c1,.slice A2 i.atoms.length c2,.slice A3 n3 c3,.slice A4 n4 c4][j]?))
  (exact Blk.cell blks)
  (first
   | (go_at_call 277;refine (ct.o _).mono ?_;rintro e w2 ⟨rfl,hB2⟩;have hBw2:=bgo (w:=w) bel hB2;have m0:=Blk.nz (g:=w.heap.size) blks hB2;have m0c:=m0.cell;have m0f:=m0.frozen)
   | (go_at_call 240;refine (ci.o _ (HV.o.bz bel)).mono ?_;rintro e w3 ⟨rfl,hB3⟩;have hBw3:=bgo (w:=w) bel hB3;have p0:=Blk.nz (g:=w.heap.size) blks hB3;have p0c:=p0.cell;have p0f:=p0.frozen))
 all_goals
  (go_wp2_with fail);go_ret;exact ⟨ret_str hR.o.symm,bel⟩
theorem textL_cons (k a b:Int) (t:Fct) (i:Asn) (body els r:Cms):textL (.cons k a b t i body els r)=lineL k a b t i++[10]++textL body++(if 0<els.len then [101,108,115,101,10]++textL els else [])++(if k=6∨k=7 then [101,110,100,10] else [])++textL r:=by rw[textL]
theorem l8Text_go:∀ (N:Nat) (L:Cms),L.sz<N→∀ (A:Option Addr) (c d lo hi:Nat) (w:World),CmsV w lo hi A L→L.len≤1049600→L.small 1049600→L.shape d=true→L.sz≤16→
  Calls Tryz.prog 242 #[.slice A L.len c] w fun e w'=>e=.returned (sv (textL L))∧Below w.heap.size w w':=by
 intro N
 induction N with
 | zero=>intro L h;omega
 | succ N IH=>
  intro L hsz A c d lo hi w hV hlen hsm hsh hcz;replace IH:=ax IH;replace hV:=ax hV;replace hsm:=ax hsm;replace hsz:=ax hsz;have hTL:=textL_len hsh;obtain ⟨R,hR⟩:∃ R,R=textL L:=⟨_,rfl⟩;have hRl:R.length≤4000:=by rw[hR];omega
  replace hcz:=ax hcz;replace hsh:=ax hsh;obtain ⟨n,hn⟩:∃ n,n=L.len:=⟨_,rfl⟩;rw[←hn,←hR];rw[←hn] at hlen;replace hn:=ax hn;replace hR:=ax hR;clear hTL;(go_enter Tryz.func242,Tryz.ntmps242);(go_wp2_with fail)
  go_loopw [3,4] (fun y x wr=>∃ (j:Nat) (X:Bs),j≤n∧x=.int .i64 j∧y=sv X∧aJ (X++textL (L.drop j)=R)∧aJ (Below w.heap.size w wr)) (fun _ x _=>n - (intOf x).toNat)
  case atStart=>exact ⟨0,[],Nat.zero_le _,rfl,rfl,ax hR.o.symm,ax bel⟩
  case round=>
   obtain ⟨j,X,hj,rfl,rfl,HR,HB⟩:=hrel;have hXl:X.length≤4000:=by have h:=congrArg List.length HR.o;rw[List.length_append] at h;omega
   by_cases hlt:j<n
   ·have hlti:(j:Int)<(n:Int):=by omega
    have hpos:0<(L.drop j).len:=by rw[Cms.drop_len,←hn.o];omega
    obtain ⟨k,a,b,t,i,body,els,r,eL⟩:=Cms.cons_of_len hpos;obtain ⟨bl,o,rfl,-,-,hAt⟩:=(hV.o.bz HB.o) (by rw[←hn.o];omega);have hD:=hAt.drop j;have hS:=Cms.small_drop j hsm.o;have hZ:=Cms.sz_drop j L;have hSh:=Cms.shape_drop j hsh.o;have hDs:=Cms.drop_succ j L eL;have HR':=HR.o;rw[eL] at hD hS hZ HR' hSh;obtain ⟨⟨p0,p1,p2,p3,p4,p5⟩,⟨A6,c6,p6,g6⟩,⟨A7,c7,p7,g7⟩,⟨A8,c8,p8,g8⟩,⟨A9,c9,p9,g9⟩,-⟩:=hD;obtain ⟨s1,s2,s3,s4,s5,s6,-⟩:=hS;simp only[Cms.sz] at hZ;simp only[Cms.shape,Bool.and_eq_true] at hSh;have hbs:body.sz<N:=by have:=hsz.o;omega
    have hes:els.sz<N:=by have:=hsz.o;omega
    have hbz:body.sz≤16:=by have:=hcz.o;omega
    have hez:els.sz≤16:=by have:=hcz.o;omega
    have gB:aJ (CmsV wr lo hi A8 body):=g8;have gE:aJ (CmsV wr lo hi A9 els):=g9;have gI:aJ (AsnV wr lo hi (.agg #[.slice A6 i.facts.length c6,.slice A7 i.atoms.length c7]) i):=ax ⟨A6,c6,A7,c7,rfl,⟨g6,s1⟩,⟨g7,s2⟩⟩;have hfi:=fval_inv hSh.2.1;have lln:=lineL_len (k:=k) (a:=a) (b:=b) (t:=t) hfi.1 hfi.2;have lbd:=textL_len hSh.2.2.1;have lel:=textL_len hSh.2.2.2.1;rw[←hDs,textL_cons] at HR';have cl:=fun W h=>c_l8Line (lo:=lo) (hi:=hi) k a b t i A6 A7 A8 A9 c6 c7 body.len c8 els.len c9 W h;have cB:=fun W h=>IH.o body hbs A8 c8 (d - 1) lo hi W h s3 s5 hSh.2.2.1 hbz;have cE:=fun W h=>IH.o els hes A9 c9 (d - 1) lo hi W h s4 s6 hSh.2.2.2.1 hez;obtain ⟨LN,hLN⟩:∃ x,x=lineL k a b t i:=⟨_,rfl⟩;obtain ⟨TB,hTB⟩:∃ x,x=textL body:=⟨_,rfl⟩;obtain ⟨TE,hTE⟩:∃ x,x=textL els:=⟨_,rfl⟩;rw[←hLN] at HR' lln cl;rw[←hTB] at HR' lbd cB;rw[←hTE] at HR' lel cE;obtain ⟨te,ta,tb⟩:=t;simp only at p3 p4 p5 cl;have lbd':TB.length≤4000:=by omega
    have lel':TE.length≤4000:=by omega
    have hbl:bl<wr.heap.size:=block_lt_of_cell p0;replace HR':=ax HR';replace cl:=ax cl;replace cB:=ax cB;replace cE:=ax cE;have hj1:=ax (show ((j+1:Nat):Int)=(j:Int)+1 by omega);clear HR hLN hTB hTE hSh hfi hZ s5 s6 s1 s2 g6 g7 g8 g9 hAt eL hDs hpos lbd lel hbs hes hbz hez;obtain ⟨S1,e1,n1⟩:=addO (P:=Tryz.prog) X LN (by omega);have l1:S1.length≤4300:=by rw[e1.o,List.length_append];omega
    obtain ⟨S2,e2,n2⟩:=addO (P:=Tryz.prog) S1 [10] (by simp;omega);have l2:S2.length≤4400:=by rw[e2.o,List.length_append];simp;omega
    obtain ⟨S3,e3,n3⟩:=addO (P:=Tryz.prog) S2 TB (by omega);have l3:S3.length≤9000:=by rw[e3.o,List.length_append];omega
    have E3:aJ (S3=X++LN++[10]++TB):=ax (by rw[e3.o,e2.o,e1.o]);clear l1 l2 e1 e2 e3 lln hXl;have k0:Blk (wr.alloc (.cells #[.int .i64 k,.int .i64 a,.int .i64 b,.bool te,.int .i64 ta,.int .i64 tb,.slice A6 i.facts.length c6,.slice A7 i.atoms.length c7,.slice A8 body.len c8,.slice A9 els.len c9] tC)) wr.heap.size tC #[.int .i64 k,.int .i64 a,.int .i64 b,.bool te,.int .i64 ta,.int .i64 tb,.slice A6 i.facts.length c6,.slice A7 i.atoms.length c7,.slice A8 body.len c8,.slice A9 els.len c9]:=Blk.new _ _ _;have hz:=HB.o.size;(go_wp2_with fail)
    go_region_held3 (fun w'=>(∀ q,w'.cell? ⟨wr.heap.size,q,none⟩=#[.int .i64 k,.int .i64 a,.int .i64 b,.bool te,.int .i64 ta,.int .i64 tb,.slice A6 i.facts.length c6,.slice A7 i.atoms.length c7,.slice A8 body.len c8,.slice A9 els.len c9][q]?))
     (exact Blk.cell blks)
     (first
      | (go_at_call 280;refine (cl.o _ (gI.o.bz bel)).mono ?_;rintro e w2 ⟨rfl,hB2⟩;have hBw2:=bgo (w:=wr) bel hB2;have m0:=Blk.nz (g:=wr.heap.size) blks hB2;have m0c:=m0.cell;have m0f:=m0.frozen)
      | (go_at_call 242;refine (cB.o _ (gB.o.bz bel)).mono ?_;rintro e w3 ⟨rfl,hB3⟩;have hBw3:=bgo (w:=wr) bel hB3;have p0:=Blk.nz (g:=wr.heap.size) blks hB3;have p0c:=p0.cell;have p0f:=p0.frozen))
    all_goals
     have HBx:aJ (Below wr.heap.size wr _):=ax hBw3;clear hBw3 hBw2 hB2 hB3 m0 m0c m0f;by_cases hel:0<els.len
     ·have heli:(0:Int)<(els.len:Int):=by omega
      obtain ⟨S4,e4,n4⟩:=addO (P:=Tryz.prog) S3 [101,108,115,101,10] (by simp;omega);have l4:S4.length≤9100:=by rw[e4.o,List.length_append];simp;omega
      obtain ⟨S5,e5,n5⟩:=addO (P:=Tryz.prog) S4 TE (by omega);have l5:S5.length≤14000:=by rw[e5.o,List.length_append];omega
      have E5:aJ (S5=X++LN++[10]++TB++([101,108,115,101,10]++TE)):=ax (by rw[e5.o,e4.o,E3.o,List.append_assoc]);replace HR':aJ (S5++((if k=6∨k=7 then [101,110,100,10] else [])++textL (L.drop (j+1)))=R):=ax (by rw[E5.o,←HR'.o,if_pos hel];simp only[List.append_assoc]);clear e4 e5 E5 E3 hel l4;(go_wp2_with fail);refine (cE.o _ (gE.o.bz HBx.o)).mono ?_;rintro e w4 ⟨rfl,hB4⟩;have HB4:=ax (bgo HBx.o hB4);have q0:=p0.nz hB4;clear hB4 HBx p0c p0f p0;have q0c:=q0.cell;have q0f:=q0.frozen;by_cases h6:k=6
      ·have b6:(k == 6)=true:=by simp[h6]
       obtain ⟨S6,e6,n6⟩:=addO (P:=Tryz.prog) S5 [101,110,100,10] (by simp;omega);have HR2:aJ (S6++textL (L.drop (j+1))=R):=ax (by rw[e6.o,←HR'.o,if_pos (Or.inl h6),List.append_assoc]);clear h6 e6;(go_wp2_with fail)
       go_round
       case rel=>exact ⟨j+1,S6,by omega,by go_num,rfl,HR2,ax (bgo HB.o HB4.o)⟩
       case measure=>simp[intOf];omega
      have b6:(k == 6)=false:=by simp[h6]
      by_cases h7:k=7
      ·have b7:(k == 7)=true:=by simp[h7]
       obtain ⟨S6,e6,n6⟩:=addO (P:=Tryz.prog) S5 [101,110,100,10] (by simp;omega);have HR2:aJ (S6++textL (L.drop (j+1))=R):=ax (by rw[e6.o,←HR'.o,if_pos (Or.inr h7),List.append_assoc]);clear h6 h7 e6;(go_wp2_with fail)
       go_round
       case rel=>exact ⟨j+1,S6,by omega,by go_num,rfl,HR2,ax (bgo HB.o HB4.o)⟩
       case measure=>simp[intOf];omega
      have b7:(k == 7)=false:=by simp[h7]
      have HR2:aJ (S5++textL (L.drop (j+1))=R):=ax (by rw[←HR'.o,if_neg (by rintro (h|h)<;>contradiction),List.nil_append]);clear h6 h7;(go_wp2_with fail)
      go_round
      case rel=>exact ⟨j+1,S5,by omega,by go_num,rfl,HR2,ax (bgo HB.o HB4.o)⟩
      case measure=>simp[intOf];omega
     ·have heli:¬(0:Int)<(els.len:Int):=by omega
      replace HR':aJ (S3++((if k=6∨k=7 then [101,110,100,10] else [])++textL (L.drop (j+1)))=R):=ax (by rw[E3.o,←HR'.o,if_neg hel];simp only[List.append_assoc,List.append_nil,List.nil_append]);clear E3 hel;by_cases h6:k=6
      ·have b6:(k == 6)=true:=by simp[h6]
       obtain ⟨S6,e6,n6⟩:=addO (P:=Tryz.prog) S3 [101,110,100,10] (by simp;omega);have HR2:aJ (S6++textL (L.drop (j+1))=R):=ax (by rw[e6.o,←HR'.o,if_pos (Or.inl h6),List.append_assoc]);clear h6 e6;(go_wp2_with fail)
       go_round
       case rel=>exact ⟨j+1,S6,by omega,by go_num,rfl,HR2,ax (bgo HB.o HBx.o)⟩
       case measure=>simp[intOf];omega
      have b6:(k == 6)=false:=by simp[h6]
      by_cases h7:k=7
      ·have b7:(k == 7)=true:=by simp[h7]
       obtain ⟨S6,e6,n6⟩:=addO (P:=Tryz.prog) S3 [101,110,100,10] (by simp;omega);have HR2:aJ (S6++textL (L.drop (j+1))=R):=ax (by rw[e6.o,←HR'.o,if_pos (Or.inr h7),List.append_assoc]);clear h6 h7 e6;(go_wp2_with fail)
       go_round
       case rel=>exact ⟨j+1,S6,by omega,by go_num,rfl,HR2,ax (bgo HB.o HBx.o)⟩
       case measure=>simp[intOf];omega
      have b7:(k == 7)=false:=by simp[h7]
      have HR2:aJ (S3++textL (L.drop (j+1))=R):=ax (by rw[←HR'.o,if_neg (by rintro (h|h)<;>contradiction),List.nil_append]);clear h6 h7;(go_wp2_with fail)
      go_round
      case rel=>exact ⟨j+1,S3,by omega,by go_num,rfl,HR2,ax (bgo HB.o HBx.o)⟩
      case measure=>simp[intOf];omega
   ·obtain rfl:j=n:=by omega
    have hE:aJ (X=R):=ax (by have h:=HR.o;rw[hn.o,Cms.drop_all,textL,List.append_nil] at h;exact h);(go_wp2_with fail);go_ret;exact ⟨ret_str hE.o,HB.o⟩
theorem c_FormatProgram {lo hi:Nat} (L:Cms) (A:Option Addr) (c:Nat) (w:World) (hV:CmsV w lo hi A L) (hlen:L.len≤1049600) (hsm:L.small 1049600) (hz:L.sz≤1049600) :
  Calls Tryz.prog 195 #[.slice A L.len c] w fun e w'=>e=.returned (sv (fmtP L))∧Below w.heap.size w w':=by
 have HV:=ax hV;have cp:=ax (fun W h=>c_spec_ProgramValid (lo:=lo) (hi:=hi) L A c W h hlen hsm hz);have cT:=ax (fun W h h1 h2=>l8Text_go (L.sz+1) L (Nat.lt_succ_self _) A c 4 lo hi W h hlen hsm h1 h2);clear hV hsm hz;(go_enter Tryz.func195,Tryz.ntmps195);(go_wp2_with fail);refine (cp.o _ HV.o).mono ?_;rintro e w1 ⟨rfl,hB1⟩;have HB1:=ax hB1;clear hB1;cases hp:L.prog
 ·have hR:aJ (fmtP L=[]):=ax (by unfold fmtP;rw[hp];rfl);clear hp;(go_wp2_with fail);go_ret;exact ⟨ret_str hR.o.symm,HB1.o⟩
 ·have hR:aJ (fmtP L=textL L):=ax (by unfold fmtP;rw[if_pos hp]);have hs:=ax (prog_shape hp);clear hp;(go_wp2_with fail);refine (cT.o _ (HV.o.bz HB1.o) hs.o.1 hs.o.2).mono ?_;rintro e w2 ⟨rfl,hB2⟩;(go_wp2_with fail);go_ret;exact ⟨ret_str hR.o.symm,bgo HB1.o hB2⟩
def Cms.invs:Cms→Prop
 | .nil=>True
 | .cons _ _ _ _ i body els r=>(i.facts.length≤12∧i.atoms.length≤6)∧body.invs∧els.invs∧r.invs
theorem Cms.invs_small {n:Nat} (h12:12≤n):∀ {L:Cms},L.invs→L.sz≤n→L.small n
 | .nil,_,_=>trivial
 | .cons k a b t i body els r,h,hs=>by
  simp only[Cms.sz] at hs;have h1:=Cms.len_sz body;have h2:=Cms.len_sz els;exact ⟨by have:=h.1.1;omega,by have:=h.1.2;omega,by omega,by omega,Cms.invs_small h12 h.2.1 (by omega),Cms.invs_small h12 h.2.2.1 (by omega),Cms.invs_small h12 h.2.2.2 (by omega)⟩
theorem pA_short (l:Bs):(pA l).facts.length≤12∧(pA l).atoms.length≤6:=by
 unfold pA
 cases h:parseA l with
 | none=>simp
 | some a=>exact Asn.valid_len (parseA_valid h).1
theorem headF_short (l:Bs):(headF l).i.facts.length≤12∧(headF l).i.atoms.length≤6:=by
 unfold headF
 split
 ·simp[asgnPF]
 ·unfold wordF
  repeat' split
  ·simp
  ·simp
  ·simp
  ·exact pA_short _
theorem one1_invs {l:Bs} {body els r:Cms} (h1:body.invs) (h2:els.invs) (h3:r.invs):(Cms.one1 (headF l) body els r).invs:=⟨headF_short l,h1,h2,h3⟩
theorem blkF_invs (ls:List Bs):∀ (n p d:Nat),(blkF ls n p d).1.invs
 | 0,p,d=>trivial
 | n+1,p,d=>by
  have I:=blkF_invs ls n;unfold blkF
  split
  ·split
   ·split
    ·trivial
    ·split
     ·rename_i body hb;exact one1_invs (by have:=I (p+1) (d - 1);rw[hb] at this;exact this) trivial trivial
     ·rename_i body m hb;have hbi:body.invs:=by have:=I (p+1) (d - 1);rw[hb] at this;exact this
      split
      ·split
       ·rename_i els he;exact one1_invs hbi (by have:=I (m+1) (d - 1);rw[he] at this;exact this) trivial
       ·rename_i els q he;exact one1_invs hbi (by have:=I (m+1) (d - 1);rw[he] at this;exact this) (I _ _)
      ·exact one1_invs hbi trivial (I _ _)
   ·exact one1_invs trivial trivial (I _ _)
  ·trivial
theorem blkF_sz (ls:List Bs):∀ (n p d:Nat),(∀ m,(blkF ls n p d).2=some m→(blkF ls n p d).1.sz+p≤m)∧((blkF ls n p d).2=none→(blkF ls n p d).1.sz+p≤ls.length+d)
 | 0,p,d=>⟨fun m h=>by simp[blkF] at h;simp[blkF,Cms.sz];omega,fun h=>by simp[blkF] at h⟩
 | n+1,p,d=>by
  have I:=blkF_sz ls n;unfold blkF
  split
  ·rename_i hc
   split
   ·split
    ·exact ⟨fun m h=>by simp at h,fun _=>by simp only[Cms.sz];omega⟩
    ·rename_i hd
     split
     ·rename_i body hb;have h1:=(I (p+1) (d - 1)).2;rw[hb] at h1;have h1:=h1 rfl;exact ⟨fun m h=>by simp at h,fun _=>by simp only[Cms.one1,Cms.sz];simp only at h1;omega⟩
     ·rename_i body m hb;have h1:=(I (p+1) (d - 1)).1 m;rw[hb] at h1;have h1:=h1 rfl;simp only at h1
      split
      ·split
       ·rename_i els he;have h2:=(I (m+1) (d - 1)).2;rw[he] at h2;have h2:=h2 rfl;simp only at h2;exact ⟨fun m h=>by simp at h,fun _=>by simp only[Cms.one1,Cms.sz];omega⟩
       ·rename_i els q he;have h2:=(I (m+1) (d - 1)).1 q;rw[he] at h2;have h2:=h2 rfl;simp only at h2;have h3:=I (q+1) d;refine ⟨fun r h=>?_,fun h=>?_⟩
        ·have:=h3.1 r h;simp only[Cms.one1,Cms.sz];omega
        ·have:=h3.2 h;simp only[Cms.one1,Cms.sz];omega
      ·have h3:=I (m+1) d;refine ⟨fun r h=>?_,fun h=>?_⟩
       ·have:=h3.1 r h;simp only[Cms.one1,Cms.sz];omega
       ·have:=h3.2 h;simp only[Cms.one1,Cms.sz];omega
   ·have h3:=I (p+1) d;refine ⟨fun r h=>?_,fun h=>?_⟩
    ·have:=h3.1 r h;simp only[Cms.one1,Cms.sz];omega
    ·have:=h3.2 h;simp only[Cms.one1,Cms.sz];omega
  ·rename_i hc;exact ⟨fun m h=>by injection h with h;simp only[Cms.sz];omega,fun h=>by cases h⟩
theorem readP_sz {l:Bs} (h:l.length≤4000):(readP l).sz≤4010:=by
 unfold readP;have hl:=splitA_len 10 l []
 change (splitL 10 l).length≤_ at hl
 have h1:=blkF_sz (splitL 10 l) ((splitL 10 l).length+1) 0 4
 cases e:(blkF (splitL 10 l) ((splitL 10 l).length+1) 0 4).2 with
 | none=>have:=h1.2 e;omega
 | some m=>have:=h1.1 m e;have:=blkF_le _ _ _ _ e;omega
theorem splitA_short (c:UInt8):∀ (l acc:Bs),∀ x∈splitA c acc l,x.length≤acc.length+l.length
 | [],acc,x,h=>by simp[splitA] at h;subst h;simp
 | y :: r,acc,x,h=>by
  unfold splitA at h
  split at h
  ·rcases List.mem_cons.1 h with rfl|h
   ·simp
   ·have:=splitA_short c r [] x h;simp at this ⊢;omega
  ·have:=splitA_short c r (acc++[y]) x h;simp at this ⊢;omega
theorem c_ParseProgram (l:Bs) (w:World) (hl:l.length≤1049000):Calls Tryz.prog 144 #[sv l] w fun e w'=>∃ v,e=.returned (.tuple #[v,.bool (parsesP l)])∧CmsN w' w.heap.size v (parseP l)∧Below w.heap.size w w':=by
 by_cases h4:l.length≤4000
 ·have h4i:¬(4000:Int)<(l.length:Int):=by omega
  have hz:=readP_sz h4;have hinv:(readP l).invs:=blkF_invs _ _ _ _;have hsm:=ax (Cms.invs_small (n:=1049600) (by omega) hinv (by omega));have hlen:=Cms.len_sz (readP l);have hb:=ax (fun lo hi A c W hV=>c_l8Block 4 (by omega) lo hi A c (splitL 10 l) 0 ((splitL 10 l).length+1) W hV (fun x hx=>by have:=splitA_short 10 l [] x hx;simp at this;omega) (by have:=splitA_len 10 l [];change (splitL 10 l).length≤_ at this;omega) (Nat.zero_le _) (by omega));have hP:aJ (parsesP l=(decide (fmtP (readP l)=l)&&(readP l).prog)):=ax (by unfold parsesP;rw[decide_eq_true h4,Bool.true_and]);have hQ:aJ (parseP l=if parsesP l then readP l else .nil):=ax rfl;rw[show (blkF (splitL 10 l) ((splitL 10 l).length+1) 0 4).1=readP l from rfl] at hb;obtain ⟨L,hL⟩:∃ L,L=readP l:=⟨_,rfl⟩;obtain ⟨nx,hnx⟩:∃ nx,nx=(blkF (splitL 10 l) ((splitL 10 l).length+1) 0 4).2:=⟨_,rfl⟩;rw[←hL] at hz hsm hlen hb hP hQ;rw[←hnx] at hb;obtain ⟨ls,hls⟩:∃ ls,ls=splitL 10 l:=⟨_,rfl⟩;rw[←hls] at hb;replace hls:=ax hls;clear hinv hL hnx;have cF:=ax (fun (lo hi:Nat) A c W h=>c_FormatProgram (lo:=lo) (hi:=hi) L A c W h (by omega) hsm.o (by omega));have cV:=ax (fun (lo hi:Nat) A c W h=>c_spec_ProgramValid (lo:=lo) (hi:=hi) L A c W h (by omega) hsm.o (by omega));clear hz hlen hsm;(go_enter Tryz.func144,Tryz.ntmps144);(go_wp2_with fail);refine (c_l18Cut l 10 _ hl).mono ?_;rintro e w1 ⟨r1,rfl,o1,hB1⟩;obtain ⟨A1,d1,rfl,v1⟩:=o1.rj;rw[←hls.o] at v1 ⊢;have HB1:=ax hB1;have HV1:=ax v1;clear v1 o1 hB1 hls;(go_wp2_with fail);refine (hb.o _ _ _ _ _ HV1.o).mono ?_;rintro e w2 ⟨v,rfl,N2,hB2⟩;obtain ⟨A2,d2,rfl,V2⟩:=N2.rj;have HB2:=ax (bgo HB1.o hB2);have HN2:=ax (N2.bq (base':=w.heap.size) HB1.o.size);have HV2:=ax V2;clear N2 V2 hB2 hb HB1;(go_wp2_with fail);refine (cF.o _ _ _ _ _ HV2.o).mono ?_;rintro e w3 ⟨rfl,hB3⟩;have HB3:=ax (bgo HB2.o hB3);have HN3:=ax (HN2.o.bz hB3);have HV3:=ax (HV2.o.bz hB3);clear hB3 HN2 HV2 HB2;obtain ⟨T,hT⟩:∃ T,T=fmtP L:=⟨_,rfl⟩;rw[←hT] at hP ⊢;clear hT;by_cases ht:T=l
  ·subst ht;(go_wp2_with fail);refine (cV.o _ _ _ _ _ HV3.o).mono ?_;rintro e w4 ⟨rfl,hB4⟩;have HB4:=ax (bgo HB3.o hB4);have HN4:=ax (HN3.o.bz hB4);clear hB4 HN3 HB3;cases hp:L.prog
   ·have hE:aJ (parsesP T=false):=ax (by rw[hP.o,hp];simp);have hF:aJ (parseP T=.nil):=ax (by rw[hQ.o,hE.o];rfl);clear hp;(go_wp2_with fail);refine bodyPost_ret (v:=.tuple #[.slice (some ⟨w4.heap.size,0,none⟩) 0 0,.bool false]) (by simp[results,Tryz.results144,go_sem]) rfl ⟨_,by rw[hE.o],by rw[hF.o];exact CmsN.empty _ HB4.o.size,HB4.o.alloc HB4.o.size _⟩
   ·have hE:aJ (parsesP T=true):=ax (by rw[hP.o,hp];simp);have hF:aJ (parseP T=L):=ax (by rw[hQ.o,hE.o];rfl);clear hp;(go_wp2_with fail);refine bodyPost_ret (v:=.tuple #[.slice A2 L.len d2,.bool true]) (by simp[results,Tryz.results144,go_sem]) rfl ⟨_,by rw[hE.o],by rw[hF.o];exact HN4.o,HB4.o⟩
  ·have htb:(T == l)=false:=by rw[bytes_eq];simpa using ht
   have hE:aJ (parsesP l=false):=ax (by rw[hP.o,decide_eq_false ht];rfl);have hF:aJ (parseP l=.nil):=ax (by rw[hQ.o,hE.o];rfl);clear ht;(go_wp2_with fail);refine bodyPost_ret (v:=.tuple #[.slice (some ⟨w3.heap.size,0,none⟩) 0 0,.bool false]) (by simp[results,Tryz.results144,go_sem]) rfl ⟨_,by rw[hE.o],by rw[hF.o];exact CmsN.empty _ HB3.o.size,HB3.o.alloc HB3.o.size _⟩
 ·have h4i:(4000:Int)<(l.length:Int):=by omega
  have hE:aJ (parsesP l=false):=ax (by unfold parsesP;rw[decide_eq_false h4];rfl);have hF:aJ (parseP l=.nil):=ax (by unfold parseP;rw[hE.o];rfl);clear h4;(go_enter Tryz.func144,Tryz.ntmps144);(go_wp2_with fail);refine bodyPost_ret (v:=.tuple #[.slice (some ⟨w.heap.size,0,none⟩) 0 0,.bool false]) (by simp[results,Tryz.results144,go_sem]) rfl ⟨_,by rw[hE.o],by rw[hF.o];exact CmsN.empty _ (Nat.le_refl _),bbox (Below.refl _ _) _⟩
theorem c_l8Draw_step (M S:Nat) (D:Int) (hD1:1≤D) (hD3:D≤3) (hS:S≤10000)
  (IH:1<D→∀ (g p:Nat) (w:World),Rdr w g p→p+M≤999000→Calls Tryz.prog 177 #[.pointer (some ⟨g,0,none⟩),.int .i64 (D - 1)] w fun e w'=>∃ r L q,e=.returned r∧CmsN w' w.heap.size r L∧1≤L.len∧L.len+L.cost≤S∧Rdr w' g q∧q≤p+M∧Fr g w w')
  (g p:Nat) (w:World) (h:Rdr w g p) (hp:p+(130+9 * M)≤999000) :
  Calls Tryz.prog 177 #[.pointer (some ⟨g,0,none⟩),.int .i64 D] w fun e w'=>∃ r L q,e=.returned r∧CmsN w' w.heap.size r L∧1≤L.len∧L.len+L.cost≤21+6 * S∧Rdr w' g q∧q≤p+(130+9 * M)∧Fr g w w':=by
 have H:=ax h;have hlt:=h.lt;replace IH:=ax IH;clear h;(go_enter Tryz.func177,Tryz.ntmps177);have hN0:=CmsN.empty w (Nat.le_refl _);(go_wp2_with fail);refine (c_numL g p [2,1,3,2] _ _ _ _ (H.o.bz bel) (by omega) blks (by rfl) (by first|omega|(simp;omega)) (by rfl) (by simp) (by simp)).mono ?_;rintro e w1 ⟨m,hm,rfl,hR,hF⟩;replace hN0:=ax ((hN0.bz (w':=(w.alloc (.cells #[] tC)).alloc (.cells #[.int .i64 2,.int .i64 1,.int .i64 3,.int .i64 2] tI)) bel).fr hF hlt);have HF1:aJ (Fr g w w1):=(((Fr.refl g w).alloc _).alloc _).trans hF;obtain ⟨k0,rfl⟩:=Int.eq_ofNat_of_zero_le ((by decide:∀ m∈[(2:Int),1,3,2],0≤m) m hm);have hk1:k0≤3:=by have:=(by decide:∀ m∈[(2:Int),1,3,2],m≤3) _ hm;omega
 have hk2:1≤k0:=by have:=(by decide:∀ m∈[(2:Int),1,3,2],1≤m) _ hm;omega
 have HR1:=ax hR;clear hm hR hF H;(go_wp2_with fail)
 go_loopg [5,6] k0 (fun gh s5 s6 wr=>∃ (I:Int) (L:Cms) (q:Nat),s6=.int .i64 I∧0≤I∧I≤gh∧I+L.len=k0∧aJ (CmsN wr w.heap.size s5 L)∧aJ (L.len+L.cost≤L.len * (7+2 * S))∧aJ (q≤p+1+L.len * (42+3 * M))∧aJ (Rdr wr g q)∧aJ (Fr g w wr))
 case atStart=>exact ⟨k0,.nil,p+1,rfl,by omega,by omega,by simp[Cms.len],hN0.o,by simp[aJ,Cms.len,Cms.cost],by simp[aJ,Cms.len],HR1.o,HF1.o⟩
 case round=>
  clear hN0 HR1 HF1;obtain ⟨I,L,q,rfl,hI0,hIg,hIL,hN,hZ,hQ,hR,hF⟩:=hrel;obtain ⟨wo,rfl⟩:∃ x,x=wr:=⟨_,rfl⟩;have hsz:=hF.o.size;have hgb:g<w.heap.size:=hlt;replace hIL:=ax hIL;obtain ⟨A5,c5,rfl,-⟩:=hN.o.rj;have hOL:=ax hN.o.own_lt;by_cases hI:0<I
  ·have hI3:I≤3:=by have:=hIL.o;omega
   have hqp:q+(42+3 * M)≤999000:=by
    have h1:=hQ.o;have h2:L.len * (42+3 * M)≤2 * (42+3 * M):=Nat.mul_le_mul_right _ (by have:=hIL.o;omega);omega
   (go_wp2_with fail);refine (c_l8Simple g q _ (hR.o.bz bel) (by omega)).mono ?_;rintro e w1 ⟨k,a,b,rfl,hR1,hF1⟩;replace hR1:=ax hR1;replace hF1:=ax hF1;have hs1:=hF1.o.size;have hg1:g<w1.heap.size:=by omega
   unfold simC;have c0:Blk (w1.alloc (.cells #[.int .i64 k,.int .i64 a,.int .i64 b,.bool false,.int .i64 0,.int .i64 0,.slice none 0 0,.slice none 0 0,.slice none 0 0,.slice none 0 0] tC)) w1.heap.size tC #[.int .i64 k,.int .i64 a,.int .i64 b,.bool false,.int .i64 0,.int .i64 0,.slice none 0 0,.slice none 0 0,.slice none 0 0,.slice none 0 0]:=Blk.new _ _ _;have F1:aJ (Fr g wo (w1.alloc (.cells #[.int .i64 k,.int .i64 a,.int .i64 b,.bool false,.int .i64 0,.int .i64 0,.slice none 0 0,.slice none 0 0,.slice none 0 0,.slice none 0 0] tC))):=hF1.o.alloc _;have hX:∀ x,(w.heap.size≤x∧(Value.slice A5 L.len c5).ownBlock≠some x∧x≠w1.heap.size)→x≠w1.heap.size:=fun _ h=>h.2.2;have hXg:∀ x,(w.heap.size≤x∧(Value.slice A5 L.len c5).ownBlock≠some x∧x≠w1.heap.size)→x≠g:=fun x h=>by have:=h.1;omega
   have hXN:∀ x,w1.heap.size+1≤x→w.heap.size≤x∧(Value.slice A5 L.len c5).ownBlock≠some x∧x≠w1.heap.size:=fun x h=>⟨by omega,fun e=>by have:=hOL.o x e;omega,by omega⟩;replace hX:=ax hX;replace hXg:=ax hXg;replace hXN:=ax hXN;by_cases hD:1<D
   ·(go_upto_if 24 with fail);refine (c_pick g (q+3) 4 _ (hR1.o.bz bel) (by omega)).mono ?_;rintro e w2 ⟨m,rfl,-,hR2,hF2⟩;have c2:=c0.fr hF2 (by omega);have F2:=ax (F1.o.trans hF2);have s2:=hF2.size;simp only[World.size_alloc] at s2;replace hR2:=ax hR2;clear hF2 c0 F1 hR1 hF1;(go_upto_if 24 with fail)
    go_cut [7] (fun s7 wc=>s7=.pointer (some ⟨w1.heap.size,0,none⟩)∧∃ q2,aJ (Rdr wc g q2)∧q2≤q+(8+2 * M)∧aJ (Fr g wo wc)∧aJ (CmdIn wc (fun x=>w.heap.size≤x∧(Value.slice A5 L.len c5).ownBlock≠some x∧x≠w1.heap.size) w1.heap.size (6+2 * S)))
    case first=>
     by_cases hm:(m:Int)=0
     ·have t2:((m:Int) == 0)=true:=by simpa using hm
      (go_wp2_with fail);refine (c_l8Test g (q+3+1) _ hR2.o (by omega)).mono ?_;rintro e w3 ⟨t,rfl,hR3,hF3⟩;have c3:=c2.fr hF3 (by omega);have F3:=ax (F2.o.trans hF3);have s3:=hF3.size;replace hR3:=ax hR3;clear hF3 c2 F2 hR2;(go_wp2_with fail);refine (IH.o hD g _ _ hR3.o (by omega)).mono ?_;rintro e w4 ⟨r,B,q4,rfl,hN4,hB1,hBS,hR4,hq4,hF4⟩;obtain ⟨AB,cB,rfl,-⟩:=hN4.rj;have P4:=ax (hN4.part.mono fun x hx _=>hXN.o x (by omega));have c4:=c3.fr hF4 (by omega);have F4:=ax (F3.o.trans hF4);have s4:=hF4.size;replace hR4:=ax hR4;replace hBS:=ax hBS;have C4:=ax c4;clear hF4 c3 F3 hR3 hN4;(replace qc4:=c4.z);clear c4;(go_wp2_with fail);refine (c_pick g q4 2 _ (hR4.o.ten (by omega)) (by omega)).mono ?_;rintro e w5 ⟨m2,rfl,-,hR5,hF5⟩;have c5':=(ten0 C4.o (v0:=.int .i64 6) (v1:=.int .i64 0) (v2:=.int .i64 0) (v3:=.bool t.eq) (v4:=.int .i64 t.a) (v5:=.int .i64 t.b) (v6:=.slice none 0 0) (v7:=.slice none 0 0) (v8:=.slice AB B.len cB) (v9:=.slice none 0 0)).fr hF5 (by omega);have P5:=ax ((P4.o.keep fun x hx _=>ten0_far (hX.o x hx)).keep fun x hx hl=>hF5.block x hl (hXg.o x hx));have F5:=ax ((F4.o.ten (by omega)).trans hF5);have s5:=hF5.size;simp only[World.size_setCell] at s5;replace hR5:=ax hR5;clear hF5 P4 F4 hR4 C4;by_cases hm2:(m2:Int)=0
      ·have t3:((m2:Int) == 0)=true:=by simpa using hm2
       (go_wp2_with fail);refine (IH.o hD g _ _ hR5.o (by omega)).mono ?_;rintro e w6 ⟨r,E,q6,rfl,hN6,hE1,hES,hR6,hq6,hF6⟩;obtain ⟨AE,cE,rfl,-⟩:=hN6.rj;have P6:=ax (hN6.part.mono fun x hx _=>hXN.o x (by omega));have c6:=c5'.fr hF6 (by omega);have P5:=ax (P5.o.keep fun x hx hl=>hF6.block x hl (hXg.o x hx));have F6:=ax (F5.o.trans hF6);have s6:=hF6.size;replace hR6:=ax hR6;replace hES:=ax hES;have C6:=ax c6;clear hF6 F5 hR5 hN6 c5';(replace qc6:=c6.z);clear c6;(go_wp2_with fail);go_meet
       case rel=>exact ⟨rfl,q6,hR6.o.set_ (by simp only;omega) _,by omega,F6.o.set_ (Or.inr (by simp only;omega)) _,CmdIn.els_ (i:=⟨[],[]⟩) hX.o C6.o (RwX.none ..) (RwX.none ..) P5.o P6.o (by have:=hBS.o;have:=hES.o;simp;omega)⟩
      ·have t3:((m2:Int) == 0)=false:=by simpa using hm2
       (go_wp2_with fail);go_meet
       case rel=>exact ⟨rfl,q4+1,hR5.o,by omega,F5.o,⟨6,0,0,t,⟨[],[]⟩,B,.nil,none,0,none,0,AB,cB,none,0,c5',RwX.none ..,RwX.none ..,P5.o,PartX.nil _,by have:=hBS.o;simp[Cms.len,Cms.cost];omega⟩⟩
     ·have t2:((m:Int) == 0)=false:=by simpa using hm
      (go_wp2_with fail);go_meet
      case rel=>exact ⟨rfl,q+3+1,hR2.o,by omega,F2.o,(CmdIn.simple c2).more (by omega)⟩
    case rest=>
     obtain ⟨rfl,q2,R2,hq2,F2',C2⟩:=hcut;clear F2 hR2 c2;have s3:=F2'.o.size;have s3':=C2.o.lt;(go_upto_if 46 with fail);refine (c_pick g q2 8 _ R2.o (by omega)).mono ?_;rintro e w4 ⟨m,rfl,-,hR2,hF2⟩;have s4:=hF2.size;have F3:=ax (F2'.o.trans hF2);have C3:=ax (C2.o.fr hF2 hXg.o (by omega));replace hR2:=ax hR2;clear hF2 F2' C2 R2;(go_upto_if 46 with fail)
     go_cut [7] (fun s7 wc=>s7=.pointer (some ⟨w1.heap.size,0,none⟩)∧∃ q2,aJ (Rdr wc g q2)∧q2≤q+(42+3 * M)∧aJ (Fr g wo wc)∧aJ (CmdIn wc (fun x=>w.heap.size≤x∧(Value.slice A5 L.len c5).ownBlock≠some x∧x≠w1.heap.size) w1.heap.size (6+2 * S)))
     case first=>
      by_cases hm:(m:Int)=0
      ·have t2:((m:Int) == 0)=true:=by simpa using hm
       obtain ⟨k,a,b,t0,i,body,els,AF,cF,AA,cA,AB,cB,AE,cE,c3,-⟩:=C3.o;clear C3;(go_wp2_with fail);refine (c_l8Test g (q2+1) _ hR2.o (by omega)).mono ?_;rintro e w5 ⟨t,rfl,hR5,hF5⟩;have c4:=c3.fr hF5 (by omega);have F5:=ax (F3.o.trans hF5);have s5:=hF5.size;replace hR5:=ax hR5;clear hF5 c3 F3 hR2;(go_wp2_with fail);refine (c_l3Draw g (q2+1+3) _ hR5.o (by omega)).mono ?_;rintro e w6 ⟨ra,inv,q6,rfl,hA6,-,hA1,hA2,hR6,hq6,hF6⟩;obtain ⟨B1,d1,B2,d2,rfl,hA3,hA4⟩:=hA6.rj;have P1:=ax (hA3.1.x (X:=(fun x=>w.heap.size≤x∧(Value.slice A5 L.len c5).ownBlock≠some x∧x≠w1.heap.size)) fun x hx _=>hXN.o x (by omega));have P2:=ax (hA4.1.x (X:=(fun x=>w.heap.size≤x∧(Value.slice A5 L.len c5).ownBlock≠some x∧x≠w1.heap.size)) fun x hx _=>hXN.o x (by omega));have c5':=c4.fr hF6 (by omega);have F6:=ax (F5.o.trans hF6);have s6:=hF6.size;replace hR6:=ax hR6;clear hF6 c4 F5 hR5 hA6 hA3 hA4;(go_wp2_with fail);refine (IH.o hD g _ _ hR6.o (by omega)).mono ?_;rintro e w7 ⟨r,B,q7,rfl,hN7,hB1,hBS,hR7,hq7,hF7⟩;obtain ⟨AB7,cB7,rfl,-⟩:=hN7.rj;have P7:=ax (hN7.part.mono fun x hx _=>hXN.o x (by omega));have P1:=ax (P1.o.keep fun x hx hl=>hF7.block x hl (hXg.o x hx));have P2:=ax (P2.o.keep fun x hx hl=>hF7.block x hl (hXg.o x hx));have c7:=c5'.fr hF7 (by omega);have F7:=ax (F6.o.trans hF7);have s7:=hF7.size;replace hR7:=ax hR7;replace hBS:=ax hBS;have C7:=ax c7;clear hF7 c5' F6 hR6 hN7;(replace qc7:=c7.z);clear c7;(go_wp2_with fail);go_meet
       case rel=>
        refine ⟨rfl,q7,ax ?_,by omega,ax ?_,ax ?_⟩
        ·exact Rdr.ten hR7.o (by omega)
        ·exact Fr.ten F7.o (by omega)
        ·exact CmdIn.ten (t:=t) (els:=.nil) C7.o hX.o P1.o P2.o P7.o (PartX.nil _) (by have:=hBS.o;simp[Cms.len,Cms.cost];omega)
      ·have t2:((m:Int) == 0)=false:=by simpa using hm
       (go_wp2_with fail);go_meet
       case rel=>exact ⟨rfl,q2+1,hR2.o,by omega,F3.o,C3.o⟩
     case rest=>
      obtain ⟨rfl,q9,R9,hq9,F9,C9⟩:=hcut;obtain ⟨wx,rfl⟩:∃ x,x=wc:=⟨_,rfl⟩;clear F3 hR2 C3;obtain ⟨k,a,b,t,i,body,els,AF,cF,AA,cA,AB,cB,AE,cE,h0,h1,h2,h3,h4,hn⟩:=C9.o;have H0:=ax h0;(replace qh0:=h0.z);clear h0;replace h1:=ax h1;replace h2:=ax h2;replace h3:=ax h3;replace h4:=ax h4;replace hn:=ax hn;have hl9:w.heap.size≤wx.heap.size:=by have:=hF.o.size;have:=F9.o.size;omega
      have hN9:CmsN wx w.heap.size (.slice A5 L.len c5) L:=hN.o.fr F9.o hgb;obtain ⟨cs,ho9,hT9,-⟩:=hN9;replace hT9:=ax hT9;replace ho9:=ax ho9;have hL3:L.len≤2:=by have:=hIL.o;omega
      clear C9;(go_wp2_with (at_builtin;(refine appCX (base:=w.heap.size) (g0:=wx.heap.size) rfl _ _ rfl rfl (own_below ho9.o (bbox (Below.refl _ _) _)) (tenL k a b t (.slice AF i.facts.length cF) (.slice AA i.atoms.length cA) (.slice AB body.len cB) (.slice AE els.len cE)) rfl (Blk.new _ _ _) rfl rfl (tenOne _ _ _ _ _ _ _ _ _ _ _ _ _ _ _ _) (by omega) (by simp;omega) ?_);(intro A8 c8 w8 o8 g8 B8 v8;have o8:=ax o8;have g8:=ax g8;have v8:=ax v8;have B8:=ax B8)));have kX:∀ x,x<wx.heap.size→(wx.alloc (.cells (tenL k a b t (.slice AF i.facts.length cF) (.slice AA i.atoms.length cA) (.slice AB body.len cB) (.slice AE els.len cE)).toArray tC)).heap[x]? = wx.heap[x]?:=fun x hx=>(bbox (Below.refl _ wx) _).block x hx;have N8:CmsN w8 w.heap.size (.slice A8 (L.len+1) c8) (L.app (.cons k a b t i body els .nil)):=CmsN.grow (hT9.o.keep fun x _ hx=>kX x hx) (by omega) ((h1.o.mono fun x hx _=>⟨hx.1,hx.2.1⟩).keep fun x _ hx=>kX x hx) ((h2.o.mono fun x hx _=>⟨hx.1,hx.2.1⟩).keep fun x _ hx=>kX x hx) ((h3.o.mono fun x hx _=>⟨hx.1,hx.2.1⟩).keep fun x _ hx=>kX x hx) ((h4.o.mono fun x hx _=>⟨hx.1,hx.2.1⟩).keep fun x _ hx=>kX x hx) o8.o g8.o v8.o;have F8:Fr g w w8:=((hF.o.trans F9.o).alloc _).goB B8.o (Nat.le_refl _);have R8:Rdr w8 g q9:=(R9.o.bz (bbox (Below.refl _ _) _)).belowB B8.o hgb;have hLl:(L.app (.cons k a b t i body els .nil)).len=L.len+1:=by rw[Cms.len_app];rfl
      have hLc:(L.app (.cons k a b t i body els .nil)).cost=L.cost+(i.facts.length+i.atoms.length+(body.len+body.cost)+(els.len+els.cost)):=by rw[Cms.cost_app];simp[Cms.cost]
      go_roundg (gk - 1)
      case rel=>
       refine ⟨I - 1,L.app (.cons k a b t i body els .nil),q9,rfl,by omega,by omega,by rw[hLl];have:=hIL.o;omega,N8,?_,?_,R8,F8⟩
       ·show _≤_;rw[hLl,hLc,Nat.succ_mul];have:=hZ.o;have:=hn.o;omega
       ·show _≤_;rw[hLl,Nat.succ_mul];have:=hQ.o;omega
      case measure=>omega
   ·have hD0:¬1<D:=hD;have C1:=ax (CmdIn.simple (X:=fun x=>w.heap.size≤x∧(Value.slice A5 L.len c5).ownBlock≠some x∧x≠w1.heap.size) c0);have R1:=ax (hR1.o.bz (w':=w1.alloc (.cells #[.int .i64 k,.int .i64 a,.int .i64 b,.bool false,.int .i64 0,.int .i64 0,.slice none 0 0,.slice none 0 0,.slice none 0 0,.slice none 0 0] tC)) (bbox (Below.refl _ _) _));obtain ⟨q9,hq9⟩:∃ q9,q9=q+3:=⟨_,rfl⟩;rw[←hq9] at R1;(go_upto_region 12 with fail);generalize w1.alloc (.cells #[.int .i64 k,.int .i64 a,.int .i64 b,.bool false,.int .i64 0,.int .i64 0,.slice none 0 0,.slice none 0 0,.slice none 0 0,.slice none 0 0] tC)=wx at *;have R9:=R1;have F9:=F1;have C9:=C1;clear R1 F1 C1 c0 hR1 hF1;obtain ⟨k,a,b,t,i,body,els,AF,cF,AA,cA,AB,cB,AE,cE,h0,h1,h2,h3,h4,hn⟩:=C9.o;have H0:=ax h0;(replace qh0:=h0.z);clear h0;replace h1:=ax h1;replace h2:=ax h2;replace h3:=ax h3;replace h4:=ax h4;replace hn:=ax hn;have hl9:w.heap.size≤wx.heap.size:=by have:=hF.o.size;have:=F9.o.size;omega
    have hN9:CmsN wx w.heap.size (.slice A5 L.len c5) L:=hN.o.fr F9.o hgb;obtain ⟨cs,ho9,hT9,-⟩:=hN9;replace hT9:=ax hT9;replace ho9:=ax ho9;have hL3:L.len≤2:=by have:=hIL.o;omega
    clear C9;(go_wp2_with (at_builtin;(refine appCX (base:=w.heap.size) (g0:=wx.heap.size) rfl _ _ rfl rfl (own_below ho9.o (bbox (Below.refl _ _) _)) (tenL k a b t (.slice AF i.facts.length cF) (.slice AA i.atoms.length cA) (.slice AB body.len cB) (.slice AE els.len cE)) rfl (Blk.new _ _ _) rfl rfl (tenOne _ _ _ _ _ _ _ _ _ _ _ _ _ _ _ _) (by omega) (by simp;omega) ?_);(intro A8 c8 w8 o8 g8 B8 v8;have o8:=ax o8;have g8:=ax g8;have v8:=ax v8;have B8:=ax B8)));have kX:∀ x,x<wx.heap.size→(wx.alloc (.cells (tenL k a b t (.slice AF i.facts.length cF) (.slice AA i.atoms.length cA) (.slice AB body.len cB) (.slice AE els.len cE)).toArray tC)).heap[x]? = wx.heap[x]?:=fun x hx=>(bbox (Below.refl _ wx) _).block x hx;have N8:CmsN w8 w.heap.size (.slice A8 (L.len+1) c8) (L.app (.cons k a b t i body els .nil)):=CmsN.grow (hT9.o.keep fun x _ hx=>kX x hx) (by omega) ((h1.o.mono fun x hx _=>⟨hx.1,hx.2.1⟩).keep fun x _ hx=>kX x hx) ((h2.o.mono fun x hx _=>⟨hx.1,hx.2.1⟩).keep fun x _ hx=>kX x hx) ((h3.o.mono fun x hx _=>⟨hx.1,hx.2.1⟩).keep fun x _ hx=>kX x hx) ((h4.o.mono fun x hx _=>⟨hx.1,hx.2.1⟩).keep fun x _ hx=>kX x hx) o8.o g8.o v8.o;have F8:Fr g w w8:=((hF.o.trans F9.o).alloc _).goB B8.o (Nat.le_refl _);have R8:Rdr w8 g q9:=(R9.o.bz (bbox (Below.refl _ _) _)).belowB B8.o hgb;have hLl:(L.app (.cons k a b t i body els .nil)).len=L.len+1:=by rw[Cms.len_app];rfl
    have hLc:(L.app (.cons k a b t i body els .nil)).cost=L.cost+(i.facts.length+i.atoms.length+(body.len+body.cost)+(els.len+els.cost)):=by rw[Cms.cost_app];simp[Cms.cost]
    go_roundg (gk - 1)
    case rel=>
     refine ⟨I - 1,L.app (.cons k a b t i body els .nil),q9,rfl,by omega,by omega,by rw[hLl];have:=hIL.o;omega,N8,?_,?_,R8,F8⟩
     ·show _≤_;rw[hLl,hLc,Nat.succ_mul];have:=hZ.o;have:=hn.o;omega
     ·show _≤_;rw[hLl,Nat.succ_mul];have:=hQ.o;omega
    case measure=>omega
  ·have hI0:I=0:=by omega
   subst hI0;(go_wp2_with fail);refine bodyPost_ret (v:=.slice A5 L.len c5) (by simp[results,Tryz.results177,go_sem]) rfl ⟨_,rfl,L,hN.o,by have:=hIL.o;omega,?_,q,hR.o,?_,hF.o⟩
   ·have h1:=hZ.o;have h2:L.len * (7+2 * S)≤3 * (7+2 * S):=Nat.mul_le_mul_right _ (by have:=hIL.o;omega);omega
   ·have h1:=hQ.o;have h2:L.len * (42+3 * M)≤3 * (42+3 * M):=Nat.mul_le_mul_right _ (by have:=hIL.o;omega);omega
theorem c_l8Draw (D:Int) (hD1:1≤D) (hD3:D≤3) (g p:Nat) (w:World) (h:Rdr w g p) (hp:p≤900000) :
  Calls Tryz.prog 177 #[.pointer (some ⟨g,0,none⟩),.int .i64 D] w fun e w'=>∃ r L q,e=.returned r∧CmsN w' w.heap.size r L∧1≤L.len∧L.len+L.cost≤903∧Rdr w' g q∧q≤p+11830∧Fr g w w':=by
 have s1:=fun (D:Int) (h1:1≤D) (h2:D≤1) (g p:Nat) (w:World) (h:Rdr w g p) (hp:p+130≤999000)=>c_l8Draw_step 0 0 D h1 (by omega) (by omega) (fun hd=>absurd hd (by omega)) g p w h (by omega);have s2:=fun (D:Int) (h1:1≤D) (h2:D≤2) (g p:Nat) (w:World) (h:Rdr w g p) (hp:p+1300≤999000)=>c_l8Draw_step 130 21 D h1 (by omega) (by omega) (fun hd g p w h hp=>s1 (D - 1) (by omega) (by omega) g p w h (by omega)) g p w h (by omega);exact c_l8Draw_step 1300 147 D hD1 hD3 (by omega) (fun hd g p w h hp=>s2 (D - 1) (by omega) (by omega) g p w h (by omega)) g p w h (by omega)
theorem c_l8Program (g p:Nat) (w:World) (h:Rdr w g p) (hp:p≤800000) :
  Calls Tryz.prog 196 #[.pointer (some ⟨g,0,none⟩)] w fun e w'=>∃ A c L q,e=.returned (.slice A L.len c)∧CmsV w' w.heap.size w'.heap.size A L∧1≤L.len∧L.len+L.cost≤903∧Rdr w' g q∧q≤p+11900∧Fr g w w':=by
 have H:=ax h;have hlt:=h.lt;clear h;(go_enter Tryz.func196,Tryz.ntmps196);(go_wp2_with fail);refine (c_numL g p [1,2,3,1] _ _ _ _ (H.o.bz bel) (by omega) blks (by rfl) (by first|omega|(simp;omega)) (by rfl) (by simp) (by simp)).mono ?_;rintro e w1 ⟨m,hm,rfl,hR1,hF1⟩;have F1:aJ (Fr g w w1):=((Fr.refl g w).alloc _).trans hF1;have hm1:1≤m:=(by decide:∀ m∈[(1:Int),2,3,1],1≤m) _ hm;have hm3:m≤3:=(by decide:∀ m∈[(1:Int),2,3,1],m≤3) _ hm;have z1:=F1.o.size;replace hR1:=ax hR1;clear hm hF1 H;(go_wp2_with fail);refine (c_l8Draw m hm1 hm3 g (p+1) _ hR1.o (by omega)).mono ?_;rintro e w2 ⟨r,L,q,rfl,hN,hL1,hLS,hR2,hq,hF2⟩;have F2:=ax (F1.o.trans hF2);have z2:=hF2.size;obtain ⟨A,c,rfl,hV⟩:=hN.rj;replace hR2:=ax hR2;replace hV:=ax (hV.mono (lo':=w.heap.size) (by omega) (Nat.le_refl _));replace hLS:=ax hLS;clear hF2 hN F1 hR1;(go_wp2_with fail);refine (c_spec_ProgramValid L A c _ hV.o (by have:=hLS.o;omega) (Cms.cost_small (by have:=hLS.o;omega)) (by have:=hLS.o;have:=Cms.sz_cost L;omega)).mono ?_;rintro e w3 ⟨rfl,hB3⟩;have F3:=ax (F2.o.go hB3);have hR3:=ax (hR2.o.bz hB3);have hV3:=ax (hV.o.bz hB3);have z3:=hB3.size;clear hV F2 hR2 hB3;by_cases hv:L.prog=true
 ·(go_wp2_with fail);go_ret;exact ⟨A,c,L,q,rfl,hV3.o.mono (Nat.le_refl _) (by omega),hL1,hLS.o,hR3.o,by omega,F3.o⟩
 ·replace hv:=Bool.eq_false_iff.2 hv;have hLe:L.len=(L.len - 1)+1:=by omega
  obtain ⟨n,hn⟩:∃ n,n=L.len:=⟨_,rfl⟩;rw[←hn];have hn0:0<n:=by omega
  have hn1:(0:Int)<(n:Int):=by omega
  replace hn:=ax hn;obtain ⟨k,a,b,t,i,body,els,r,rfl⟩:=Cms.cons_of_len hL1;obtain ⟨b0,o0,rfl,hb1,hb2,hA⟩:=hV3.o hL1;obtain ⟨⟨p0,p1,p2,p3,p4,p5⟩,⟨A6,d6,p6,g6⟩,⟨A7,d7,p7,g7⟩,⟨A8,d8,p8,g8⟩,⟨A9,d9,p9,g9⟩,-⟩:=hA;replace g6:=ax g6;replace g7:=ax g7;replace g8:=ax (show CmsV w3 w.heap.size w2.heap.size A8 body from g8);replace g9:=ax (show CmsV w3 w.heap.size w2.heap.size A9 els from g9);have hb3:b0<w3.heap.size:=by omega
  replace hL1:=ax hL1;clear hLe;(go_wp2_with fail);go_ret;have hB:Below w3.heap.size w3 (w3.alloc (.cells #[.int .i64 k,.int .i64 a,.int .i64 b,.bool t.eq,.int .i64 t.a,.int .i64 t.b,.slice A6 i.facts.length d6,.slice A7 i.atoms.length d7,.slice A8 body.len d8,.slice A9 els.len d9] tC)):=bbox (Below.refl _ _) _;have hK:Blk (w3.alloc (.cells #[.int .i64 k,.int .i64 a,.int .i64 b,.bool t.eq,.int .i64 t.a,.int .i64 t.b,.slice A6 i.facts.length d6,.slice A7 i.atoms.length d7,.slice A8 body.len d8,.slice A9 els.len d9] tC)) w3.heap.size tC #[.int .i64 k,.int .i64 a,.int .i64 b,.bool t.eq,.int .i64 t.a,.int .i64 t.b,.slice A6 i.facts.length d6,.slice A7 i.atoms.length d7,.slice A8 body.len d8,.slice A9 els.len d9]:=Blk.new _ _ _;have hsz:(w3.alloc (.cells #[.int .i64 k,.int .i64 a,.int .i64 b,.bool t.eq,.int .i64 t.a,.int .i64 t.b,.slice A6 i.facts.length d6,.slice A7 i.atoms.length d7,.slice A8 body.len d8,.slice A9 els.len d9] tC)).heap.size=w3.heap.size+1:=by simp
  refine ⟨_,_,.cons k a b t i body els .nil,q,rfl,fun _=>⟨_,0,rfl,by omega,by simp,⟨⟨hK.cell 0,hK.cell 1,hK.cell 2,hK.cell 3,hK.cell 4,hK.cell 5⟩,⟨A6,d6,hK.cell 6,(g6.o.bz hB).mono (Nat.le_refl _) (by simp;omega)⟩,⟨A7,d7,hK.cell 7,(g7.o.bz hB).mono (Nat.le_refl _) (by simp;omega)⟩,⟨A8,d8,hK.cell 8,(g8.o.bz hB).mono (Nat.le_refl _) (by simp;omega)⟩,⟨A9,d9,hK.cell 9,(g9.o.bz hB).mono (Nat.le_refl _) (by simp;omega)⟩,trivial⟩⟩,by simp[Cms.len],?_,hR3.o.bz hB,by omega,F3.o.go hB⟩;have:=hLS.o;simp only[Cms.len,Cms.cost] at this ⊢;omega
end
section
open Go Go.RowKit Go.Proofs
attribute [local go_sem ↓] Go.wp_at_zero Go.wp_at_succ
end
section
open Go Go.RowKit Go.Proofs
section
variable {w w':World} {lo hi:Nat}
theorem CmsAt.keep (hk:∀ b,lo≤b→b<hi→w'.heap[b]? = w.heap[b]?):∀ {L:Cms} {bl o:Nat},lo≤bl→bl<hi→CmsAt w lo hi L bl o→CmsAt w' lo hi L bl o
 | .nil,_,_,_,_,_=>trivial
 | .cons k a b t i body els r,bl,o,e1,e2,h=>by
  obtain ⟨⟨h0,h1,h2,h3,h4,h5⟩,⟨A6,c6,h6,g6⟩,⟨A7,c7,h7,g7⟩,⟨A8,c8,h8,g8⟩,⟨A9,c9,h9,g9⟩,hr⟩:=h;have hc:∀ j,w'.cell? ⟨bl,j,none⟩=w.cell? ⟨bl,j,none⟩:=fun j=>World.cell?_of_block (a:=⟨bl,j,none⟩) (hk bl e1 e2);refine ⟨⟨(hc _).trans h0,(hc _).trans h1,(hc _).trans h2,(hc _).trans h3,(hc _).trans h4,(hc _).trans h5⟩,⟨A6,c6,(hc _).trans h6,g6.keep hk⟩,⟨A7,c7,(hc _).trans h7,g7.keep hk⟩,⟨A8,c8,(hc _).trans h8,fun hl=>?_⟩,⟨A9,c9,(hc _).trans h9,fun hl=>?_⟩,CmsAt.keep hk e1 e2 hr⟩
  ·obtain ⟨b',o',e,p1,p2,p3⟩:=g8 hl;exact ⟨b',o',e,p1,p2,CmsAt.keep hk p1 p2 p3⟩
  ·obtain ⟨b',o',e,p1,p2,p3⟩:=g9 hl;exact ⟨b',o',e,p1,p2,CmsAt.keep hk p1 p2 p3⟩
theorem CmsV.keep {A:Option Addr} {L:Cms} (h:CmsV w lo hi A L) (hk:∀ b,lo≤b→b<hi→w'.heap[b]? = w.heap[b]?):CmsV w' lo hi A L:=fun hl=>by
 obtain ⟨b,o,e,p1,p2,p3⟩:=h hl;exact ⟨b,o,e,p1,p2,p3.keep hk p1 p2⟩
end
theorem Cms.invs_cost:∀ {L:Cms},L.invs→L.len+L.cost≤19 * L.sz
 | .nil,_=>Nat.le_refl _
 | .cons k a b t i body els r,h=>by
  have h1:=Cms.invs_cost h.2.1;have h2:=Cms.invs_cost h.2.2.1;have h3:=Cms.invs_cost h.2.2.2;have h4:=h.1;simp only[Cms.len,Cms.cost,Cms.sz];omega
theorem parseP_ok {l:Bs} (h:parsesP l=true) (h0:l≠[]):1≤(parseP l).len∧(parseP l).len+(parseP l).cost≤903:=by
 unfold parseP;rw[if_pos h];unfold parsesP at h;simp only[Bool.and_eq_true,decide_eq_true_eq] at h;refine ⟨?_,?_⟩
 ·cases hL:readP l with
  | nil=>rw[hL] at h;exact absurd h.2.1.symm h0
  | cons=>simp[Cms.len]
 ·have:=Cms.invs_cost (L:=readP l) (blkF_invs _ _ _ _);have:=(prog_shape h.2.2).2;omega
def strOf:Value→Bs
 | .string s=>s.data.toList
 | _=>[]
theorem c_of {lo hi:Nat} (g p:Nat) (A:Option Addr) (c:Nat) (xs:List Bs) (w:World) (h:Rdr w g p) (hp:p≤1000000) (hx:StrsV w lo hi A xs) (hg:g<lo∨hi≤g) (hn:0<xs.length) :
  Calls Tryz.prog 175 #[.pointer (some ⟨g,0,none⟩),.slice A xs.length c] w fun e w'=>∃ m∈xs,e=.returned (sv m)∧Rdr w' g (p+1)∧Fr g w w':=by
 have H:=ax h;have HX:=ax hx;clear h hx;(go_enter Tryz.func175,Tryz.ntmps175);(go_wp2_with fail);refine (c_pick g p _ _ H.o hp).mono ?_;rintro e w1 ⟨m,rfl,hm,hR,hF⟩;have hlt:m<xs.length:=by omega
 obtain ⟨b,o,rfl,c0⟩:=StrsV.at (Rd.fr HX.o hF hg) hlt;have hmi:(m:Int)<(xs.length:Int):=by omega
 have HRF:=ax (And.intro hR hF);have hmem:=ax (List.getElem_mem hlt);obtain ⟨x,hxx⟩:∃ x,x=xs[m]:=⟨_,rfl⟩;rw[←hxx] at c0 hmem;clear hm hR hF hxx;(go_wp2_with fail);go_ret;exact ⟨x,hmem.o,rfl,HRF.o.1,HRF.o.2⟩
theorem c_ofL (g p:Nat) (cs:Array Value) (x n:Nat) (w:World) (h:Rdr w g p) (hp:p≤1000000) (hk:Blk w x tS cs) (hcs:cs=(encS (cs.toList.map strOf)).toArray) (hg:g<x) (hn:n=cs.size) (h0:0<cs.size) (hl:∀ u∈cs.toList.map strOf,1≤u.length∧u.length≤4000) (hl1:cs.size≤100) :
  Calls Tryz.prog 175 #[.pointer (some ⟨g,0,none⟩),.slice (some ⟨x,0,none⟩) n n] w fun e w'=>∃ m:Bs,(1≤m.length∧m.length≤4000)∧e=.returned (sv m)∧Rdr w' g (p+1)∧Fr g w w':=by
 have e:n=(cs.toList.map strOf).length:=by rw[hn];simp
 rw[e];refine (c_of (lo:=x) (hi:=x+1) g p _ _ (cs.toList.map strOf) w h hp ⟨⟨by simp[encS],fun _=>⟨x,0,rfl,Nat.le_refl _,Nat.lt_succ_self _,fun j u hu=>?_⟩⟩,by unfold Lim;simp;omega⟩ (Or.inl hg) (by simpa using h0)).mono ?_
 ·rw[Nat.zero_add,hk.cell,hcs];simpa using hu
 ·rintro e w' ⟨m,hm,rfl,h1,h2⟩;exact ⟨m,hl m hm,rfl,h1,h2⟩
theorem c_l9Code (g p:Nat) (w:World) (h:Rdr w g p) (hp:p≤700000) :
  Calls Tryz.prog 145 #[.pointer (some ⟨g,0,none⟩)] w fun e w'=>∃ A c L q,e=.returned (.slice A (Cms.len L) c)∧CmsV w' w.heap.size w'.heap.size A L∧1≤L.len∧L.len+L.cost≤903∧Rdr w' g q∧q≤p+90000∧Fr g w w':=by
 have H:=ax h;have hlt:=h.lt;clear h;(go_enter Tryz.func145,Tryz.ntmps145);(go_wp2_with fail);refine (c_ofL g p _ _ _ _ (H.o.bz bel) (by omega) blks (by rfl) hlt (by rfl) (by decide) (by decide) (by decide)).mono ?_;rintro e w1 ⟨l,hl,rfl,hR,hF⟩;have hF1:aJ (Fr g w w1):=((Fr.refl g w).alloc _).trans hF;have HR1:=ax hR;have z1:=hF1.o.size;have hg1:g<w1.heap.size:=by omega
 clear hR hF H;obtain ⟨hl1,hl2⟩:=hl;have cP:=ax (fun W=>c_ParseProgram l W (by omega));have hok:=ax (fun h=>parseP_ok (l:=l) h (by intro e;subst e;simp at hl1));obtain ⟨ok,hk⟩:∃ ok,ok=parsesP l:=⟨_,rfl⟩;obtain ⟨L,hL⟩:∃ L,L=parseP l:=⟨_,rfl⟩;rw[←hk,←hL] at cP hok;clear hk hL hl1 hl2;(go_wp2_with fail);refine (cP.o _).mono ?_;rintro e w2 ⟨v,rfl,N2,hB2⟩;obtain ⟨A2,d2,rfl,V2⟩:=N2.rj;have HF2:aJ (Fr g w w2):=ax (hF1.o.trans (Fr.ofBelow hB2));have HR2:=ax (HR1.o.bz hB2);have HV2:=ax (V2.mono z1 (Nat.le_refl _));have z2:=HF2.o.size;have hg2:g<w2.heap.size:=by omega
 clear N2 V2 hB2 hF1 HR1 cP;cases ok
 ·(go_wp2_with fail);refine (c_l8Program g _ _ HR2.o (by omega)).mono ?_;rintro e w3 ⟨A3,c3,L3,q,rfl,hV,hL1,hLS,hR,hq,hF⟩;have HF3:=ax (HF2.o.trans hF);have HV3:=ax (hV.mono z2 (Nat.le_refl _));have HR3:=ax hR;clear hV hR hF;(go_wp2_with fail);go_ret;exact ⟨A3,c3,L3,q,rfl,HV3.o,hL1,hLS,HR3.o,by omega,HF3.o⟩
 ·(go_wp2_with fail);refine (c_pick g _ 3 _ HR2.o (by omega)).mono ?_;rintro e w3 ⟨m,rfl,-,hR,hF⟩;have HF3:=ax (HF2.o.trans hF);have HR3:=ax hR;have z3:=HF3.o.size;clear hR;have HV3:=ax (show CmsV w3 w.heap.size w3.heap.size A2 L from (HV2.o.keep (fun b h1 h2=>hF.block b h2 (by omega))).mono (Nat.le_refl _) hF.size);clear hF;by_cases hm:(0:Int)<(m:Int)
  ·have hs:=ax (hok.o (by simp));(go_wp2_with fail);go_ret;exact ⟨A2,d2,L,p+1+1,rfl,HV3.o,hs.o.1,hs.o.2,HR3.o,by omega,HF3.o⟩
  ·(go_wp2_with fail);refine (c_l8Program g _ _ HR3.o (by omega)).mono ?_;rintro e w4 ⟨A4,c4,L4,q,rfl,hV,hL1,hLS,hR,hq,hF⟩;have HF4:=ax (HF3.o.trans hF);have HV4:=ax (hV.mono z3 (Nat.le_refl _));have HR4:=ax hR;clear hV hR hF;(go_wp2_with fail);go_ret;exact ⟨A4,c4,L4,q,rfl,HV4.o,hL1,hLS,HR4.o,by omega,HF4.o⟩
end
section
open Go Go.RowKit Go.Proofs
attribute [local go_sem ↓] Go.wp_at_zero Go.wp_at_succ
theorem bx11 {w:World} {F:World→Prop} {t0 t1 t2 t3 t4 t5 t6 t7 t8 t9 t10:TypeId} {c0 c1 c2 c3 c4 c5 c6 c7 c8 c9 c10:Array Value} (h:∀ W,Below w.heap.size w W→W.heap.size=w.heap.size+11→Blk W (w.heap.size) t0 c0→Blk W (w.heap.size+1) t1 c1→Blk W (w.heap.size+1+1) t2 c2→Blk W (w.heap.size+1+1+1) t3 c3→Blk W (w.heap.size+1+1+1+1) t4 c4→Blk W (w.heap.size+1+1+1+1+1) t5 c5→Blk W (w.heap.size+1+1+1+1+1+1) t6 c6→Blk W (w.heap.size+1+1+1+1+1+1+1) t7 c7→Blk W (w.heap.size+1+1+1+1+1+1+1+1) t8 c8→Blk W (w.heap.size+1+1+1+1+1+1+1+1+1) t9 c9→Blk W (w.heap.size+1+1+1+1+1+1+1+1+1+1) t10 c10→F W):F (((((((((((w.alloc (.cells c0 t0)).alloc (.cells c1 t1)).alloc (.cells c2 t2)).alloc (.cells c3 t3)).alloc (.cells c4 t4)).alloc (.cells c5 t5)).alloc (.cells c6 t6)).alloc (.cells c7 t7)).alloc (.cells c8 t8)).alloc (.cells c9 t9)).alloc (.cells c10 t10)):=by
 refine h _ ?_ (by simp) ?_ ?_ ?_ ?_ ?_ ?_ ?_ ?_ ?_ ?_ ?_
 ·exact bbox (bbox (bbox (bbox (bbox (bbox (bbox (bbox (bbox (bbox (bbox (Below.refl _ _) _) _) _) _) _) _) _) _) _) _) _
 all_goals (repeat (first|exact Blk.newE (by simp)|refine Blk.alloc ?_ _))
theorem str_sv (s:ByteArray):Value.string s=sv s.data.toList:=by cases s;simp[sv]
theorem row3 {W:World} {y:Nat} {t:TypeId} {a b c:Value} (k:Blk W y t #[a,b,c]) {l0 l1 l2:Bs} (e0:a=sv l0) (e1:b=sv l1) (e2:c=sv l2) (h:(1≤l1.length∧l1.length≤4000)∧l0.length≤4000∧l2.length≤4000) :
  ∃ l0 l1 l2,Blk W y t #[sv l0,sv l1,sv l2]∧((1≤l1.length∧l1.length≤4000)∧l0.length≤4000∧l2.length≤4000):=⟨l0,l1,l2,by rw[←e0,←e1,←e2];exact k,h⟩
structure TriS (g q:Nat) (w u:World) (lo:Nat) (r1:Value) (a:Asn) (r2:Value) (b:Asn) (A:Option Addr) (L:Cms):Prop where
 av:AsnV u lo u.heap.size r1 a
 bv:AsnV u lo u.heap.size r2 b
 cv:CmsV u lo u.heap.size A L
 rd:Rdr u g q
 fr:Fr g w u
theorem AsnV.frk {w w':World} {lo hi g:Nat} {v:Value} {a:Asn} (h:AsnV w lo hi v a) (hf:Fr g w w') (hg:g<lo) (hh:hi≤w.heap.size):AsnV w' lo w'.heap.size v a:=by
 obtain ⟨A,c,B,d,e,h1,h2⟩:=h;have hk:∀ b,lo≤b→b<hi→w'.heap[b]? = w.heap[b]?:=fun b p q=>hf.block b (by omega) (by omega);have hs:=hf.size;exact AsnV.mono ⟨A,c,B,d,e,h1.keep hk,h2.keep hk⟩ (Nat.le_refl _) (by omega)
theorem AsnV.frk0 {w w':World} {lo hi g:Nat} {v:Value} {a:Asn} (h:AsnV w lo hi v a) (hf:Fr g w w') (hg:g<lo) (hh:hi≤w.heap.size):AsnV w' lo hi v a:=by
 obtain ⟨A,c,B,d,e,h1,h2⟩:=h;have hk:∀ b,lo≤b→b<hi→w'.heap[b]? = w.heap[b]?:=fun b p q=>hf.block b (by omega) (by omega);exact ⟨A,c,B,d,e,h1.keep hk,h2.keep hk⟩
theorem CmsV.frk0 {w w':World} {lo hi g:Nat} {A:Option Addr} {L:Cms} (h:CmsV w lo hi A L) (hf:Fr g w w') (hg:g<lo) (hh:hi≤w.heap.size):CmsV w' lo hi A L:=h.keep fun b p q=>hf.block b (by omega) (by omega)
theorem CmsV.frk {w w':World} {lo hi g:Nat} {A:Option Addr} {L:Cms} (h:CmsV w lo hi A L) (hf:Fr g w w') (hg:g<lo) (hh:hi≤w.heap.size):CmsV w' lo w'.heap.size A L:=by
 have hs:=hf.size;exact (h.keep fun b p q=>hf.block b (by omega) (by omega)).mono (Nat.le_refl _) (by omega)
theorem TriS.go {g q:Nat} {w u u':World} {lo:Nat} {r1:Value} {a:Asn} {r2:Value} {b:Asn} {A:Option Addr} {L:Cms} (h:TriS g q w u lo r1 a r2 b A L) (hq:Below u.heap.size u u'):TriS g q w u' lo r1 a r2 b A L:=
 ⟨(h.av.bz hq).mono (Nat.le_refl _) hq.size,(h.bv.bz hq).mono (Nat.le_refl _) hq.size,(h.cv.bz hq).mono (Nat.le_refl _) hq.size,h.rd.bz hq,h.fr.go hq⟩
theorem TriS.st {g q:Nat} {w u:World} {lo:Nat} {r1:Value} {a:Asn} {r2:Value} {b:Asn} {A:Option Addr} {L:Cms} (h:TriS g q w u lo r1 a r2 b A L) {n:Nat} (hn:w.heap.size≤n) (hl:n<lo) (hg:g<n) (x y:Value):TriS g q w ((u.setCell ⟨n,0,none⟩ x).setCell ⟨n,1,none⟩ y) lo r1 a r2 b A L:=by
 have hs:((u.setCell ⟨n,0,none⟩ x).setCell ⟨n,1,none⟩ y).heap.size=u.heap.size:=by simp
 refine ⟨?_,?_,?_,(h.rd.set_ (q:=⟨n,0,none⟩) hg x).set_ (q:=⟨n,1,none⟩) hg y,(h.fr.set_ (p:=⟨n,0,none⟩) (.inr hn) x).set_ (p:=⟨n,1,none⟩) (.inr hn) y⟩
 ·rw[hs];exact (h.av.setb (p:=⟨n,0,none⟩) (.inl hl) x).setb (p:=⟨n,1,none⟩) (.inl hl) y
 ·rw[hs];exact (h.bv.setb (p:=⟨n,0,none⟩) (.inl hl) x).setb (p:=⟨n,1,none⟩) (.inl hl) y
 ·rw[hs];exact h.cv.keep fun b p _=>(Below.heap_setCell _ ⟨n,1,none⟩ y b (by simp only;omega)).trans (Below.heap_setCell _ ⟨n,0,none⟩ x b (by simp only;omega))
theorem c_l11Triple (g p:Nat) (w:World) (h:Rdr w g p) (hp:p≤600000) :
  Calls Tryz.prog 78 #[.pointer (some ⟨g,0,none⟩)] w fun e w'=>∃ r1 r2 a b A c L q,e=.returned (.tuple #[r1,.slice A (Cms.len L) c,r2])∧AsnV w' w.heap.size w'.heap.size r1 a∧AsnV w' w.heap.size w'.heap.size r2 b∧(a.facts.length≤20∧a.atoms.length≤20)∧(b.facts.length≤20∧b.atoms.length≤20)∧CmsV w' w.heap.size w'.heap.size A L∧1≤L.len∧L.len+L.cost≤903∧Rdr w' g q∧q≤p+100000∧Fr g w w':=by
 have H:=ax h;have hlt:=h.lt;clear h;(go_enter Tryz.func78,Tryz.ntmps78);(go_upto_region 2 with fail);refine bx11 (w:=w) (F:=Code.wp _ _ _ _) ?_;rintro W hB hz k2 k4 s0 s1 s2 s3 s4 s5 s6 s7 ko;obtain ⟨co,hco⟩:∃ co,co=(#[.slice (some ⟨w.heap.size+1+1,0,none⟩) 3 3,.slice (some ⟨w.heap.size+1+1+1,0,none⟩) 3 3,.slice (some ⟨w.heap.size+1+1+1+1,0,none⟩) 3 3,.slice (some ⟨w.heap.size+1+1+1+1+1,0,none⟩) 3 3,.slice (some ⟨w.heap.size+1+1+1+1+1+1,0,none⟩) 3 3,.slice (some ⟨w.heap.size+1+1+1+1+1+1+1,0,none⟩) 3 3,.slice (some ⟨w.heap.size+1+1+1+1+1+1+1+1,0,none⟩) 3 3,.slice (some ⟨w.heap.size+1+1+1+1+1+1+1+1+1,0,none⟩) 3 3]:Array Value):=⟨_,rfl⟩
 have TB:aJ (∀ m:Nat,m<8→∃ y l0 l1 l2,(#[.slice (some ⟨w.heap.size+1+1,0,none⟩) 3 3,.slice (some ⟨w.heap.size+1+1+1,0,none⟩) 3 3,.slice (some ⟨w.heap.size+1+1+1+1,0,none⟩) 3 3,.slice (some ⟨w.heap.size+1+1+1+1+1,0,none⟩) 3 3,.slice (some ⟨w.heap.size+1+1+1+1+1+1,0,none⟩) 3 3,.slice (some ⟨w.heap.size+1+1+1+1+1+1+1,0,none⟩) 3 3,.slice (some ⟨w.heap.size+1+1+1+1+1+1+1+1,0,none⟩) 3 3,.slice (some ⟨w.heap.size+1+1+1+1+1+1+1+1+1,0,none⟩) 3 3]:Array Value)[m]? = some (.slice (some ⟨y,0,none⟩) 3 3)∧y≠g∧y<W.heap.size∧Blk W y tS #[sv l0,sv l1,sv l2]∧((1≤l1.length∧l1.length≤4000)∧l0.length≤4000∧l2.length≤4000)):=ax fun m hm=>by
  obtain rfl|rfl|rfl|rfl|rfl|rfl|rfl|rfl:m=0∨m=1∨m=2∨m=3∨m=4∨m=5∨m=6∨m=7:=by omega
  ·obtain ⟨l0,l1,l2,k,hh⟩:=row3 s0 (str_sv _) (str_sv _) (str_sv _) (by decide);exact ⟨_,l0,l1,l2,rfl,by omega,by omega,k,hh⟩
  ·obtain ⟨l0,l1,l2,k,hh⟩:=row3 s1 (str_sv _) (str_sv _) (str_sv _) (by decide);exact ⟨_,l0,l1,l2,rfl,by omega,by omega,k,hh⟩
  ·obtain ⟨l0,l1,l2,k,hh⟩:=row3 s2 (str_sv _) (str_sv _) (str_sv _) (by decide);exact ⟨_,l0,l1,l2,rfl,by omega,by omega,k,hh⟩
  ·obtain ⟨l0,l1,l2,k,hh⟩:=row3 s3 (str_sv _) (str_sv _) (str_sv _) (by decide);exact ⟨_,l0,l1,l2,rfl,by omega,by omega,k,hh⟩
  ·obtain ⟨l0,l1,l2,k,hh⟩:=row3 s4 (str_sv _) (str_sv _) (str_sv _) (by decide);exact ⟨_,l0,l1,l2,rfl,by omega,by omega,k,hh⟩
  ·obtain ⟨l0,l1,l2,k,hh⟩:=row3 s5 (str_sv _) (str_sv _) (str_sv _) (by decide);exact ⟨_,l0,l1,l2,rfl,by omega,by omega,k,hh⟩
  ·obtain ⟨l0,l1,l2,k,hh⟩:=row3 s6 (str_sv _) (str_sv _) (str_sv _) (by decide);exact ⟨_,l0,l1,l2,rfl,by omega,by omega,k,hh⟩
  ·obtain ⟨l0,l1,l2,k,hh⟩:=row3 s7 (str_sv _) (str_sv _) (str_sv _) (by decide);exact ⟨_,l0,l1,l2,rfl,by omega,by omega,k,hh⟩
 rw[←hco] at ko TB;obtain ⟨Y,hY⟩:∃ Y,Y=w.heap.size+1+1+1+1+1+1+1+1+1+1:=⟨_,rfl⟩;rw[←hY] at ko ⊢;have hYg:g<Y:=by omega
 have hYw:w.heap.size+1<Y:=by omega
 have HR:=ax (H.o.bz hB);have HF:aJ (Fr g w W):=ax (Fr.ofBelow hB);clear s0 s1 s2 s3 s4 s5 s6 s7 hY hB H hco;(go_wp2_with fail);refine (c_pick g p 8 _ HR.o (by omega)).mono ?_;rintro e w1 ⟨m,rfl,hm,hR,hF⟩;have hz1:=hF.size;obtain ⟨y,l0,l1,l2,ey,hyg,hyW,ky,⟨hl1,hl1b⟩,hl0,hl2⟩:=TB.o m (by omega);replace k2:=k2.fr hF (by omega);replace k4:=k4.fr hF (by omega);replace ko:=ko.fr hF (by omega);replace ky:=ky.fr hF hyg;replace HF:=ax (HF.o.trans hF);clear HR;have HR:=ax hR;have hmi:(m:Int)<8:=by omega
 have cA0:=ax (fun W=>c_ParseAssertion l0 W (by omega));have cA2:=ax (fun W=>c_ParseAssertion l2 W (by omega));have cP:=ax (fun W=>c_ParseProgram l1 W (by omega))
 have hok:∀ l:Bs,(parseA l).isSome=true→((parseA l).getD ⟨[],[]⟩).facts.length≤12∧((parseA l).getD ⟨[],[]⟩).atoms.length≤6:=fun l h=>by
  cases e:parseA l with
  | none=>rw[e] at h;cases h
  | some a=>exact zjC (parseA_valid e).1
 have hA0:=ax (hok l0);have hA2:=ax (hok l2);have hPP:=ax (fun h=>parseP_ok (l:=l1) h (by intro e;subst e;simp at hl1));obtain ⟨ok0,h1⟩:∃ ok,ok=(parseA l0).isSome:=⟨_,rfl⟩;obtain ⟨a0,h2⟩:∃ a,a=(parseA l0).getD ⟨[],[]⟩:=⟨_,rfl⟩;obtain ⟨ok2,h3⟩:∃ ok,ok=(parseA l2).isSome:=⟨_,rfl⟩;obtain ⟨a2,h4⟩:∃ a,a=(parseA l2).getD ⟨[],[]⟩:=⟨_,rfl⟩;obtain ⟨ok1,h5⟩:∃ ok,ok=parsesP l1:=⟨_,rfl⟩;obtain ⟨L,h6⟩:∃ L,L=parseP l1:=⟨_,rfl⟩;rw[←h1,←h2] at cA0 hA0;rw[←h3,←h4] at cA2 hA2;rw[←h5,←h6] at cP hPP;clear h1 h2 h3 h4 h5 h6 hok TB hR hF hl1 hl1b hl0 hl2;have cy:=(ko.cell m).trans ey;(replace qky:=ky.z);(go_wp2_with fail);refine (cA0.o _).mono ?_;rintro e w2 ⟨r2,rfl,o2,hq⟩;obtain ⟨F0,F1,G0,G1,rfl⟩:=o2.I.form;have hbx:=bbox (Below.refl _ w2) (.cells #[.slice F0 a0.facts.length F1,.slice G0 a0.atoms.length G1] tAs);have k7:=Blk.new w2 tAs #[.slice F0 a0.facts.length F1,.slice G0 a0.atoms.length G1];have hz2:=hq.size;have HA2:aJ (AsnV (w2.alloc (.cells #[.slice F0 a0.facts.length F1,.slice G0 a0.atoms.length G1] tAs)) (w.heap.size+1+1) w2.heap.size (.agg #[.slice F0 a0.facts.length F1,.slice G0 a0.atoms.length G1]) a0):=ax ((o2.rj.bz hbx).mono (by omega) (Nat.le_refl _));have hzb2:w2.heap.size<(w2.alloc (.cells #[.slice F0 a0.facts.length F1,.slice G0 a0.atoms.length G1] tAs)).heap.size:=by simp
 replace hq:=bgo hq hbx;replace k2:=k2.nz hq;replace k4:=k4.nz hq;replace ko:=ko.nz hq;replace ky:=ky.nz hq;replace HF:=ax (HF.o.go hq);replace HR:=ax (HR.o.bz hq);clear hq hbx o2 cA0 cy qky;(go_upto_region 4 with fail);obtain ⟨y7,hyy⟩:∃ y,y=w2.heap.size:=⟨_,rfl⟩;generalize (w2.alloc (.cells #[.slice F0 a0.facts.length F1,.slice G0 a0.atoms.length G1] _))=V2 at *;rw[←hyy] at k7 hz2 hzb2 HA2 ⊢;clear hyy;have cy:=(ko.cell m).trans ey;(replace qky:=ky.z);(go_wp2_with fail);refine (cP.o _).mono ?_;rintro e w3 ⟨v3,rfl,N3,hq⟩;obtain ⟨A3,d3,rfl,hV⟩:=N3.rj;have hz3:=hq.size;obtain ⟨h3,hh3⟩:∃ x,x=w3.heap.size:=⟨_,rfl⟩;have hl3:h3≤w3.heap.size:=by omega
 have HV:aJ (CmsV w3 (w.heap.size+1+1) h3 A3 L):=ax (hV.mono (by omega) (by omega));clear hh3;replace k2:=k2.nz hq;replace k4:=k4.nz hq;replace ko:=ko.nz hq;replace ky:=ky.nz hq;replace k7:=k7.nz hq;replace HF:=ax (HF.o.go hq);replace HR:=ax (HR.o.bz hq);replace HA2:=ax (HA2.o.bz hq);clear hq hV N3 cP cy qky;(go_upto_region 5 with fail);have cy:=(ko.cell m).trans ey;(replace qky:=ky.z);(go_wp2_with fail);refine (cA2.o _).mono ?_;rintro e w4 ⟨r2,rfl,o2,hq⟩;obtain ⟨M0,M1,N0,N1,rfl⟩:=o2.I.form;have hbx:=bbox (Below.refl _ w4) (.cells #[.slice M0 a2.facts.length M1,.slice N0 a2.atoms.length N1] tAs);have k11:=Blk.new w4 tAs #[.slice M0 a2.facts.length M1,.slice N0 a2.atoms.length N1];have hz4:=hq.size;have HA4:aJ (AsnV (w4.alloc (.cells #[.slice M0 a2.facts.length M1,.slice N0 a2.atoms.length N1] tAs)) (w.heap.size+1+1) w4.heap.size (.agg #[.slice M0 a2.facts.length M1,.slice N0 a2.atoms.length N1]) a2):=ax ((o2.rj.bz hbx).mono (by omega) (Nat.le_refl _));have hzb4:w4.heap.size<(w4.alloc (.cells #[.slice M0 a2.facts.length M1,.slice N0 a2.atoms.length N1] tAs)).heap.size:=by simp
 replace hq:=bgo hq hbx;replace k2:=k2.nz hq;replace k4:=k4.nz hq;replace ko:=ko.nz hq;replace ky:=ky.nz hq;replace k7:=k7.nz hq;replace HF:=ax (HF.o.go hq);replace HR:=ax (HR.o.bz hq);replace HA2:=ax (HA2.o.bz hq);replace HV:=ax (HV.o.bz hq);clear hq hbx o2 cA2 cy qky;(go_upto_region 6 with fail);obtain ⟨y11,hyy⟩:∃ y,y=w4.heap.size:=⟨_,rfl⟩;generalize (w4.alloc (.cells #[.slice M0 a2.facts.length M1,.slice N0 a2.atoms.length N1] _))=V4 at *;rw[←hyy] at k11 hz4 hzb4 HA4 ⊢;clear hyy;clear ko ky ey hyg hyW hmi
 go_cut [70] (fun s70 wc=>∃ (bb:Bool) (q:Nat),s70=.bool bb∧aJ (bb=false→ok0=true∧ok1=true∧ok2=true)∧aJ (Rdr wc g q)∧q≤p+2∧aJ (Fr g V4 wc))
 case first=>
  cases ok0
  ·(go_wp2_with fail);go_meet
   case rel=>exact ⟨true,p+1,rfl,ax (fun h=>by cases h),HR,by omega,ax (Fr.refl _ _)⟩
  cases ok1
  ·(go_wp2_with fail);go_meet
   case rel=>exact ⟨true,p+1,rfl,ax (fun h=>by cases h),HR,by omega,ax (Fr.refl _ _)⟩
  cases ok2
  ·(go_wp2_with fail);go_meet
   case rel=>exact ⟨true,p+1,rfl,ax (fun h=>by cases h),HR,by omega,ax (Fr.refl _ _)⟩
  (go_wp2_with fail);refine (c_pick g (p+1) 5 _ HR.o (by omega)).mono ?_;rintro e w5 ⟨z,rfl,hzz,hR,hF⟩;have HR5:=ax hR;have HF5:=ax hF;clear hR hF;by_cases hz0:z=0
  ·subst hz0;(go_wp2_with fail);go_meet
   case rel=>exact ⟨true,p+2,rfl,ax (fun h=>by cases h),HR5,by omega,HF5⟩
  ·have hzi:(((z:Int)) == 0)=false:=by simp;omega
   (go_wp2_with fail);go_meet
   case rel=>exact ⟨false,p+2,rfl,ax (fun _=>by simp),HR5,by omega,HF5⟩
 case rest=>
  obtain ⟨bb,q,rfl,HOK,HR2,hq2,HFc⟩:=hcut;have hf:=HFc.o;have hsz:=hf.size;replace k2:=k2.fr hf (by omega);replace k4:=k4.fr hf (by omega);replace k7:=k7.fr hf (by omega);replace k11:=k11.fr hf (by omega);replace HA2:=ax (HA2.o.frk0 hf (by omega) (by omega));replace HA4:=ax (HA4.o.frk0 hf (by omega) (by omega));replace HV:=ax (HV.o.frk0 hf (by omega) (by omega));replace HF:=ax (HF.o.trans hf);clear HR hf HFc;have HR:=HR2;clear HR2;have hsw:=HF.o.size;cases bb
  case true=>
   clear HOK k7 k11 HA2 HA4 HV hA0 hA2 hPP;(go_wp2_with fail);refine (c_l10Pre g q _ HR.o (by omega)).mono ?_;rintro e u1 ⟨r1,b1,q1,rfl,o1,⟨hb1,hb1'⟩,hR,hq1,hf⟩;have HO1:=ax ((o1.bq (base':=w.heap.size+1+1) (by omega)).rj);have hs1:=hf.size;replace k2:=k2.fr hf (by omega);replace k4:=k4.fr hf (by omega);replace HF:=ax (HF.o.trans hf);clear HR;have HR:=ax hR;clear hR hf o1;(go_wp2_with fail);refine (c_l9Code g q1 _ HR.o (by omega)).mono ?_;rintro e u2 ⟨A2,c2,L2,q2,rfl,hV,hL1,hLS,hR,hq2,hf⟩;have HV2:aJ (CmsV u2 (w.heap.size+1+1) u2.heap.size A2 L2):=ax (hV.mono (by omega) (Nat.le_refl _));have hs2:=hf.size;replace HO1:=ax (HO1.o.frk hf (by omega) (Nat.le_refl _));replace k2:=k2.fr hf (by omega);replace k4:=k4.fr hf (by omega);replace HF:=ax (HF.o.trans hf);clear HR;have HR:=ax hR;clear hR hf hV;(go_wp2_with fail);refine (c_l10Pre g q2 _ HR.o (by omega)).mono ?_;rintro e u3 ⟨r3,b3,q3,rfl,o3,⟨hb3,hb3'⟩,hR,hq3,hf⟩;have HO3:=ax (o3.rj);have hs3:=hf.size;replace HO1:=ax (HO1.o.frk hf (by omega) (Nat.le_refl _));replace HV2:=ax (HV2.o.frk hf (by omega) (Nat.le_refl _));replace k2:=k2.fr hf (by omega);replace k4:=k4.fr hf (by omega);replace HF:=ax (HF.o.trans hf);clear HR;have HR:=ax hR;clear hR hf o3;(go_wp2_with fail);refine (c_l6Weak g q3 _ b3 _ HR.o (by omega) HO3.o (by omega) (by omega)).mono ?_;rintro e u4 ⟨r4,b4,q4,rfl,o4,hb4,hb4',hR,hq4,hf⟩;have hs4:=hf.size;have HT:aJ (TriS g q4 w u4 (w.heap.size+1+1) r1 b1 r4 b4 A2 L2):=ax ⟨HO1.o.frk hf (by omega) (Nat.le_refl _),o4.mono (by omega) (Nat.le_refl _),HV2.o.frk hf (by omega) (Nat.le_refl _),hR,HF.o.trans hf⟩;replace k2:=k2.fr hf (by omega);replace k4:=k4.fr hf (by omega);clear HR hR hf o4 HO1 HV2 HO3 HF;obtain ⟨P1,p1,P2,p2,e1,-,-⟩:=HT.o.av;obtain ⟨Q1,s1,Q2,s2,e2,-,-⟩:=HT.o.bv;subst e1 e2;(replace qk2:=k2.z;replace qk4:=k4.z);(go_wp2_with fail);have HT2:=(HT.o.st (n:=w.heap.size) (Nat.le_refl _) (by omega) hlt (.slice P1 b1.facts.length p1) (.slice P2 b1.atoms.length p2)).st (n:=w.heap.size+1) (by omega) (by omega) (by omega) (.slice Q1 b4.facts.length s1) (.slice Q2 b4.atoms.length s2);have z2:=((((k2.set_ 0 (.slice P1 b1.facts.length p1)).set_ 1 (.slice P2 b1.atoms.length p2)).far (p:=⟨w.heap.size+1,0,none⟩) (by simp only;omega) (.slice Q1 b4.facts.length s1)).far (p:=⟨w.heap.size+1,1,none⟩) (by simp only;omega) (.slice Q2 b4.atoms.length s2)).cell;have z4:=((((k4.far (p:=⟨w.heap.size,0,none⟩) (by simp only;omega) (.slice P1 b1.facts.length p1)).far (p:=⟨w.heap.size,1,none⟩) (by simp only;omega) (.slice P2 b1.atoms.length p2)).set_ 0 (.slice Q1 b4.facts.length s1)).set_ 1 (.slice Q2 b4.atoms.length s2)).cell;refine bodyPost_ret (v:=.tuple #[.agg #[.slice P1 b1.facts.length p1,.slice P2 b1.atoms.length p2],.slice A2 (Cms.len L2) c2,.agg #[.slice Q1 b4.facts.length s1,.slice Q2 b4.atoms.length s2]]) (by simp[results,Tryz.results78,go_sem,z2,z4]) rfl ?_;exact ⟨_,_,b1,b4,A2,c2,L2,q4,rfl,HT2.av.mono (by omega) (Nat.le_refl _),HT2.bv.mono (by omega) (Nat.le_refl _),⟨by omega,by omega⟩,⟨by omega,by omega⟩,HT2.cv.mono (by omega) (Nat.le_refl _),hL1,hLS,HT2.rd,by omega,HT2.fr⟩
  case false=>
   obtain ⟨rfl,rfl,rfl⟩:=HOK.o rfl;have hA0:=hA0.o rfl;have hA2:=hA2.o rfl;have hPP:=hPP.o rfl;have hTA:=ax hA0;have hTB:=ax hA2;have hTP:=ax hPP;clear HOK hA0 hA2 hPP;have l7:=k7.lt;have l11:=k11.lt;(replace qk7:=k7.z;replace qk11:=k11.z);(go_wp2_with fail);refine (c_pick g q 6 _ HR.o (by omega)).mono ?_;rintro e u1 ⟨z,rfl,hzz,hR,hf⟩;have hs1:=hf.size;replace k2:=k2.fr hf (by omega);replace k4:=k4.fr hf (by omega);replace k7:=k7.fr hf (by omega);replace k11:=k11.fr hf (by omega);replace HA2:=ax (HA2.o.frk0 hf (by omega) (by omega));replace HA4:=ax (HA4.o.frk0 hf (by omega) (by omega));replace HV:=ax (HV.o.frk0 hf (by omega) (by omega));replace HF:=ax (HF.o.trans hf);clear HR;have HR:=ax hR;clear hR hf qk7 qk11;(replace qk7:=k7.z;replace qk11:=k11.z);by_cases hz0:z=0
   ·subst hz0;(go_wp2_with fail);refine (c_l6Weak g (q+1) _ a2 _ HR.o (by omega) HA4.o (by have:=hTB.o;omega) (by have:=hTB.o;omega)).mono ?_;rintro e u2 ⟨r4,b4,q4,rfl,o4,hb4,hb4',hR,hq4,hf⟩;have hs2:=hf.size;obtain ⟨Q1,s1,Q2,s2,e2,-,-⟩:=id o4;subst e2;replace k2:=k2.fr hf (by omega);replace k4:=k4.fr hf (by omega);replace k7:=k7.fr hf (by omega);replace k11:=k11.fr hf (by omega);have HT:aJ (TriS g q4 w u2 (w.heap.size+1+1) _ a0 _ b4 A3 L):=ax ⟨(HA2.o.frk0 hf (by omega) (by omega)).mono (Nat.le_refl _) (by omega),o4.mono (by omega) (Nat.le_refl _),(HV.o.frk0 hf (by omega) (by omega)).mono (Nat.le_refl _) (by omega),hR,HF.o.trans hf⟩;have HA2b:=ax (HA2.o.frk0 hf (by omega) (by omega));have HVb:=ax (HV.o.frk0 hf (by omega) (by omega));have HO4:=ax o4;have l11:=k11.lt;clear HR HF HA2 HA4 HV hf hR o4 qk7 qk11;(replace qk11:=k11.z);(go_upto_region 10 with fail);have hlo:=hl3
    have HT2:aJ (TriS g q4 w ((u2.setCell ⟨y11,0,none⟩ (.slice Q1 b4.facts.length s1)).setCell ⟨y11,1,none⟩ (.slice Q2 b4.atoms.length s2)) (w.heap.size+1+1) (.agg #[.slice F0 a0.facts.length F1,.slice G0 a0.atoms.length G1]) a0 (.agg #[.slice Q1 b4.facts.length s1,.slice Q2 b4.atoms.length s2]) b4 A3 L):=ax (by
     have hs:((u2.setCell ⟨y11,0,none⟩ (.slice Q1 b4.facts.length s1)).setCell ⟨y11,1,none⟩ (.slice Q2 b4.atoms.length s2)).heap.size=u2.heap.size:=by simp
     refine ⟨?_,?_,?_,(HT.o.rd.set_ (q:=⟨y11,0,none⟩) (by simp only;omega) _).set_ (q:=⟨y11,1,none⟩) (by simp only;omega) _,(HT.o.fr.set_ (p:=⟨y11,0,none⟩) (.inr (by simp only;omega)) _).set_ (p:=⟨y11,1,none⟩) (.inr (by simp only;omega)) _⟩
     ·rw[hs];exact (((HA2b.o.setb (p:=⟨y11,0,none⟩) (.inr (by simp only;omega)) _).setb (p:=⟨y11,1,none⟩) (.inr (by simp only;omega)) _)).mono (Nat.le_refl _) (by omega)
     ·rw[hs];exact (((HO4.o.setb (p:=⟨y11,0,none⟩) (.inl (by simp only;omega)) _).setb (p:=⟨y11,1,none⟩) (.inl (by simp only;omega)) _)).mono (by omega) (Nat.le_refl _)
     ·rw[hs];exact (HVb.o.keep fun b _ h2=>(Below.heap_setCell _ ⟨y11,1,none⟩ _ b (by simp only;omega)).trans (Below.heap_setCell _ ⟨y11,0,none⟩ _ b (by simp only;omega))).mono (Nat.le_refl _) (by omega))
    replace k2:=(k2.far (p:=⟨y11,0,none⟩) (by simp only;omega) (.slice Q1 b4.facts.length s1)).far (p:=⟨y11,1,none⟩) (by simp only;omega) (.slice Q2 b4.atoms.length s2);replace k4:=(k4.far (p:=⟨y11,0,none⟩) (by simp only;omega) (.slice Q1 b4.facts.length s1)).far (p:=⟨y11,1,none⟩) (by simp only;omega) (.slice Q2 b4.atoms.length s2);replace k7:=(k7.far (p:=⟨y11,0,none⟩) (by simp only;omega) (.slice Q1 b4.facts.length s1)).far (p:=⟨y11,1,none⟩) (by simp only;omega) (.slice Q2 b4.atoms.length s2);replace k11:=(k11.set_ 0 (.slice Q1 b4.facts.length s1)).set_ 1 (.slice Q2 b4.atoms.length s2);simp only[List.setIfInBounds_toArray,List.set_cons_zero,List.set_cons_succ] at k11;clear HT HA2b HVb HO4 qk11;have hbl:b4.facts.length≤20∧b4.atoms.length≤20:=⟨hb4,hb4'⟩;have hqq:q4≤p+100000:=by omega
    generalize ((u2.setCell ⟨y11,0,none⟩ (.slice Q1 b4.facts.length s1)).setCell ⟨y11,1,none⟩ (.slice Q2 b4.atoms.length s2))=V6 at *;have HT:=HT2;clear HT2;have l7:=k7.lt;have l11:=k11.lt;have l2:=k2.lt;have l4:=k4.lt;refine wp_region_noPanic ?_;refine wp_region_held_drew (S:=(fun w'=>(∀ i,w'.cell? ⟨y7,i,none⟩=#[.slice F0 a0.facts.length F1,.slice G0 a0.atoms.length G1][i]?)∧(∀ i,w'.cell? ⟨y11,i,none⟩=#[.slice Q1 b4.facts.length s1,.slice Q2 b4.atoms.length s2][i]?))) (by kernel_rfl) (⟨k7.drew.cell,k11.drew.cell⟩) (fun aH=>?_);have hdr:=(Below.refl V6.heap.size V6).drew;replace k2:=k2.nz hdr;replace k4:=k4.nz hdr;replace k7:=k7.nz hdr;replace k11:=k11.nz hdr;replace HT:=ax (HT.o.go hdr);clear hdr;generalize V6.drew=V7 at *;refine tk2 0 rfl aH (h:=tk2 1 rfl aH (h:=tk2 2 rfl aH (h:=?_)));(try simp only[zz]);(replace qk2:=k2.z);refine rdc 3 rfl fun K hK=>?_;(try simp only[zz]);go_simp;refine hK.out _ _ (⟨((k7.far (p:=⟨w.heap.size,0,none⟩) (by simp only;omega) (.slice F0 a0.facts.length F1)).far (p:=⟨w.heap.size,1,none⟩) (by simp only;omega) (.slice G0 a0.atoms.length G1)).cell,((k11.far (p:=⟨w.heap.size,0,none⟩) (by simp only;omega) (.slice F0 a0.facts.length F1)).far (p:=⟨w.heap.size,1,none⟩) (by simp only;omega) (.slice G0 a0.atoms.length G1)).cell⟩) ?_;clear aH hK K;intro aH;(try simp only[zz]);have jb:=((k4.far (p:=⟨w.heap.size,0,none⟩) (by simp only;omega) (.slice F0 a0.facts.length F1)).far (p:=⟨w.heap.size,1,none⟩) (by simp only;omega) (.slice G0 a0.atoms.length G1));have ja:=((k2.set_ 0 (.slice F0 a0.facts.length F1)).set_ 1 (.slice G0 a0.atoms.length G1));have j7:=((k7.far (p:=⟨w.heap.size,0,none⟩) (by simp only;omega) (.slice F0 a0.facts.length F1)).far (p:=⟨w.heap.size,1,none⟩) (by simp only;omega) (.slice G0 a0.atoms.length G1));have j11:=((k11.far (p:=⟨w.heap.size,0,none⟩) (by simp only;omega) (.slice F0 a0.facts.length F1)).far (p:=⟨w.heap.size,1,none⟩) (by simp only;omega) (.slice G0 a0.atoms.length G1));have HT2:=ax (HT.o.st (n:=w.heap.size) (by omega) (by omega) (by omega) (.slice F0 a0.facts.length F1) (.slice G0 a0.atoms.length G1));clear HT k2 k4 k7 k11 qk2;generalize ((V7.setCell ⟨w.heap.size,0,none⟩ (.slice F0 a0.facts.length F1)).setCell ⟨w.heap.size,1,none⟩ (.slice G0 a0.atoms.length G1))=V8 at *;refine tk2 4 rfl aH (h:=?_);(try simp only[zz]);have qjb:=jb.cell;have rjb:=jb.frozen;have ljb:=jb.lt;refine rdc 5 rfl fun K hK=>?_;(try simp only[zz]);go_simp;refine hK.out _ _ (⟨((j7.far (p:=⟨w.heap.size+1,0,none⟩) (by simp only;omega) (.slice Q1 b4.facts.length s1)).far (p:=⟨w.heap.size+1,1,none⟩) (by simp only;omega) (.slice Q2 b4.atoms.length s2)).cell,((j11.far (p:=⟨w.heap.size+1,0,none⟩) (by simp only;omega) (.slice Q1 b4.facts.length s1)).far (p:=⟨w.heap.size+1,1,none⟩) (by simp only;omega) (.slice Q2 b4.atoms.length s2)).cell⟩) ?_;clear aH hK K;intro aH;(try simp only[zz]);refine dn1 ?_;have za:=((ja.far (p:=⟨w.heap.size+1,0,none⟩) (by simp only;omega) (.slice Q1 b4.facts.length s1)).far (p:=⟨w.heap.size+1,1,none⟩) (by simp only;omega) (.slice Q2 b4.atoms.length s2)).cell;have zb:=((jb.set_ 0 (.slice Q1 b4.facts.length s1)).set_ 1 (.slice Q2 b4.atoms.length s2)).cell;have HT3:=HT2.o.st (n:=w.heap.size+1) (by omega) (by omega) (by omega) (.slice Q1 b4.facts.length s1) (.slice Q2 b4.atoms.length s2);clear qjb rjb ljb j7 j11 aH;(go_wp2_with fail);refine bodyPost_ret (v:=.tuple #[.agg #[.slice F0 a0.facts.length F1,.slice G0 a0.atoms.length G1],.slice A3 (Cms.len L) d3,.agg #[.slice Q1 b4.facts.length s1,.slice Q2 b4.atoms.length s2]]) (by simp[results,Tryz.results78,go_sem,za,zb]) rfl ?_;exact ⟨_,_,a0,b4,A3,d3,L,q4,rfl,HT3.av.mono (by omega) (Nat.le_refl _),HT3.bv.mono (by omega) (Nat.le_refl _),(by have:=hTA.o;omega),hbl,HT3.cv.mono (by omega) (Nat.le_refl _),hTP.o.1,hTP.o.2,HT3.rd,hqq,HT3.fr⟩
   ·have hzi:(((z:Int)) == 0)=false:=by simp;omega
    have HT:aJ (TriS g (q+1) w u1 (w.heap.size+1+1) (.agg #[.slice F0 a0.facts.length F1,.slice G0 a0.atoms.length G1]) a0 (.agg #[.slice M0 a2.facts.length M1,.slice N0 a2.atoms.length N1]) a2 A3 L):=ax ⟨HA2.o.mono (Nat.le_refl _) (by omega),HA4.o.mono (Nat.le_refl _) (by omega),HV.o.mono (Nat.le_refl _) (by omega),HR.o,HF.o⟩;have hbl:a2.facts.length≤20∧a2.atoms.length≤20:=by have:=hTB.o;omega
    have hqq:q+1≤p+100000:=by omega
    clear HR HF HA2 HA4 HV;clear qk7 qk11;(go_upto_region 10 with fail);have l7:=k7.lt;have l11:=k11.lt;have l2:=k2.lt;have l4:=k4.lt;refine wp_region_noPanic ?_;refine wp_region_held_drew (S:=(fun w'=>(∀ i,w'.cell? ⟨y7,i,none⟩=#[.slice F0 a0.facts.length F1,.slice G0 a0.atoms.length G1][i]?)∧(∀ i,w'.cell? ⟨y11,i,none⟩=#[.slice M0 a2.facts.length M1,.slice N0 a2.atoms.length N1][i]?))) (by kernel_rfl) (⟨k7.drew.cell,k11.drew.cell⟩) (fun aH=>?_);have hdr:=(Below.refl u1.heap.size u1).drew;replace k2:=k2.nz hdr;replace k4:=k4.nz hdr;replace k7:=k7.nz hdr;replace k11:=k11.nz hdr;replace HT:=ax (HT.o.go hdr);clear hdr;generalize u1.drew=V7 at *;refine tk2 0 rfl aH (h:=tk2 1 rfl aH (h:=tk2 2 rfl aH (h:=?_)));(try simp only[zz]);(replace qk2:=k2.z);refine rdc 3 rfl fun K hK=>?_;(try simp only[zz]);go_simp;refine hK.out _ _ (⟨((k7.far (p:=⟨w.heap.size,0,none⟩) (by simp only;omega) (.slice F0 a0.facts.length F1)).far (p:=⟨w.heap.size,1,none⟩) (by simp only;omega) (.slice G0 a0.atoms.length G1)).cell,((k11.far (p:=⟨w.heap.size,0,none⟩) (by simp only;omega) (.slice F0 a0.facts.length F1)).far (p:=⟨w.heap.size,1,none⟩) (by simp only;omega) (.slice G0 a0.atoms.length G1)).cell⟩) ?_;clear aH hK K;intro aH;(try simp only[zz]);have jb:=((k4.far (p:=⟨w.heap.size,0,none⟩) (by simp only;omega) (.slice F0 a0.facts.length F1)).far (p:=⟨w.heap.size,1,none⟩) (by simp only;omega) (.slice G0 a0.atoms.length G1));have ja:=((k2.set_ 0 (.slice F0 a0.facts.length F1)).set_ 1 (.slice G0 a0.atoms.length G1));have j7:=((k7.far (p:=⟨w.heap.size,0,none⟩) (by simp only;omega) (.slice F0 a0.facts.length F1)).far (p:=⟨w.heap.size,1,none⟩) (by simp only;omega) (.slice G0 a0.atoms.length G1));have j11:=((k11.far (p:=⟨w.heap.size,0,none⟩) (by simp only;omega) (.slice F0 a0.facts.length F1)).far (p:=⟨w.heap.size,1,none⟩) (by simp only;omega) (.slice G0 a0.atoms.length G1));have HT2:=ax (HT.o.st (n:=w.heap.size) (by omega) (by omega) (by omega) (.slice F0 a0.facts.length F1) (.slice G0 a0.atoms.length G1));clear HT k2 k4 k7 k11 qk2;generalize ((V7.setCell ⟨w.heap.size,0,none⟩ (.slice F0 a0.facts.length F1)).setCell ⟨w.heap.size,1,none⟩ (.slice G0 a0.atoms.length G1))=V8 at *;refine tk2 4 rfl aH (h:=?_);(try simp only[zz]);have qjb:=jb.cell;have rjb:=jb.frozen;have ljb:=jb.lt;refine rdc 5 rfl fun K hK=>?_;(try simp only[zz]);go_simp;refine hK.out _ _ (⟨((j7.far (p:=⟨w.heap.size+1,0,none⟩) (by simp only;omega) (.slice M0 a2.facts.length M1)).far (p:=⟨w.heap.size+1,1,none⟩) (by simp only;omega) (.slice N0 a2.atoms.length N1)).cell,((j11.far (p:=⟨w.heap.size+1,0,none⟩) (by simp only;omega) (.slice M0 a2.facts.length M1)).far (p:=⟨w.heap.size+1,1,none⟩) (by simp only;omega) (.slice N0 a2.atoms.length N1)).cell⟩) ?_;clear aH hK K;intro aH;(try simp only[zz]);refine dn1 ?_;have za:=((ja.far (p:=⟨w.heap.size+1,0,none⟩) (by simp only;omega) (.slice M0 a2.facts.length M1)).far (p:=⟨w.heap.size+1,1,none⟩) (by simp only;omega) (.slice N0 a2.atoms.length N1)).cell;have zb:=((jb.set_ 0 (.slice M0 a2.facts.length M1)).set_ 1 (.slice N0 a2.atoms.length N1)).cell;have HT3:=HT2.o.st (n:=w.heap.size+1) (by omega) (by omega) (by omega) (.slice M0 a2.facts.length M1) (.slice N0 a2.atoms.length N1);clear qjb rjb ljb j7 j11 aH;(go_wp2_with fail);refine bodyPost_ret (v:=.tuple #[.agg #[.slice F0 a0.facts.length F1,.slice G0 a0.atoms.length G1],.slice A3 (Cms.len L) d3,.agg #[.slice M0 a2.facts.length M1,.slice N0 a2.atoms.length N1]]) (by simp[results,Tryz.results78,go_sem,za,zb]) rfl ?_;exact ⟨_,_,a0,a2,A3,d3,L,(q+1),rfl,HT3.av.mono (by omega) (Nat.le_refl _),HT3.bv.mono (by omega) (Nat.le_refl _),(by have:=hTA.o;omega),hbl,HT3.cv.mono (by omega) (Nat.le_refl _),hTP.o.1,hTP.o.2,HT3.rd,hqq,HT3.fr⟩
end
section
open Go Go.RowKit Go.Proofs
theorem Fct.valid_ok {f:Fct} (h:f.valid=true):(0≤f.a∧f.a≤8)∧(0≤f.b∧f.b≤8):=by
 simpa[Fct.valid,jq] using h
end
section
open Go Go.RowKit Go.Proofs
attribute [local go_sem ↓] Go.wp_at_zero Go.wp_at_succ
attribute [local go_sem] Oper.semAt_some
end
section
open Go Go.RowKit Go.Proofs
attribute [local go_sem ↓] Go.wp_at_zero Go.wp_at_succ
def AsnC (w:World) (lo hi:Nat) (v:Value) (a:Asn):Prop:=
 ∃ A1 c1 A2 c2,v=.agg #[.slice A1 a.facts.length c1,.slice A2 a.atoms.length c2]∧FactsV w lo hi A1 a.facts∧AtomsV w lo hi A2 a.atoms∧a.atoms.length≤c2
theorem AsnC.V {w:World} {lo hi:Nat} {v:Value} {a:Asn} (h:AsnC w lo hi v a):AsnV w lo hi v a:=by
 obtain ⟨A1,c1,A2,c2,e,h1,h2,-⟩:=h;exact ⟨A1,c1,A2,c2,e,h1,h2⟩
theorem AsnC.bz {w w':World} {lo hi:Nat} {v:Value} {a:Asn} (h:AsnC w lo hi v a) (hb:Below w.heap.size w w'):AsnC w' lo hi v a:=by
 obtain ⟨A1,c1,A2,c2,e,h1,h2,h3⟩:=h;exact ⟨A1,c1,A2,c2,e,h1.bz hb,h2.bz hb,h3⟩
theorem own_cap {w:World} {base:Nat} {e:TypeId} {size n c:Nat} {A:Option Addr} {xs:List Value} (h:w.ownsRow base e size (.slice A n c) n xs):n≤c:=by
 rcases h.2 with ⟨e1,e2⟩|⟨g,cap,cur,e1,-,-,hn,-⟩
 ·omega
 ·injection e1 with e1 e2 e3;omega
theorem AsnO.C {w:World} {base:Nat} {v:Value} {a:Asn} (h:AsnO w base v a):AsnC w base w.heap.size v a:=by
 obtain ⟨fv,av,rfl,h1,h2⟩:=h;obtain ⟨A1,c1,rfl,f1⟩:=h1.rj;obtain ⟨A2,c2,rfl,f2⟩:=h2.rj;exact ⟨A1,c1,A2,c2,rfl,f1,f2,own_cap h2.1⟩
end
section
open Go Go.RowKit Go.Proofs
def Rdf (g q:Nat) (a b:World):Prop:=g<a.heap.size∧Fr g a b∧Rdr b g q
section
variable {g q:Nat} {a b c:World}
theorem Rdf.alloc (h:Rdf g q a b) (o:Obj):Rdf g q a (b.alloc o):=⟨h.1,h.2.1.alloc o,h.2.2.bz (bbox (Below.refl _ _) o)⟩
theorem Rdf.drew (h:Rdf g q a b):Rdf g q a b.drew:=⟨h.1,h.2.1.drew,h.2.2.bz (Below.refl _ _).drew⟩
theorem Rdf.set_ (h:Rdf g q a b) {p:Addr} (hp:False∨a.heap.size≤p.block) (u:Value):Rdf g q a (b.setCell p u):=by
 rcases hp with hp|hp
 ·exact hp.elim
 ·exact ⟨h.1,h.2.1.set_ (Or.inr hp) u,h.2.2.set_ (Nat.lt_of_lt_of_le h.1 hp) u⟩
theorem Rdf.goB {base:Nat} (h:Rdf g q a b) (k:Below base b c) (hb:a.heap.size≤base):Rdf g q a c:=⟨h.1,h.2.1.goB k hb,h.2.2.belowB k (Nat.lt_of_lt_of_le h.1 hb)⟩
theorem Rdf.pick {q':Nat} (h:Rdf g q a b) (hf:Fr g b c) (hR:Rdr c g q'):Rdf g q' a c:=⟨h.1,h.2.1.trans hf,hR⟩
end
theorem Cms.take_snoc:∀ {L:Cms} {j:Nat} {k a b:Int} {t:Fct} {i:Asn} {body els r:Cms},L.drop j=.cons k a b t i body els r→L.take (j+1)=(L.take j).app (.cons k a b t i body els .nil)
 | .nil,0,_,_,_,_,_,_,_,_,h=>by cases h
 | .nil,_+1,_,_,_,_,_,_,_,_,h=>by cases h
 | .cons ..,0,_,_,_,_,_,_,_,_,h=>by
  simp only[Cms.drop] at h;injection h with e1 e2 e3 e4 e5 e6 e7 e8;subst e1 e2 e3 e4 e5 e6 e7 e8;simp[Cms.take,Cms.app]
 | .cons k' a' b' t' i' body' els' r',j+1,_,_,_,_,_,_,_,_,h=>by
  simp only[Cms.drop] at h;have:=Cms.take_snoc h;simp only[Cms.take] at this ⊢;rw[this];rfl
section
variable {w:World} {g:Nat} {t:TypeId} {x0 x1 x2 x3 x4 x5 x6 x7 x8 x9 u v:Value}
theorem ten67 (h:Blk w g t #[x0,x1,x2,x3,x4,x5,x6,x7,x8,x9]):Blk ((w.setCell ⟨g,6,none⟩ u).setCell ⟨g,7,none⟩ v) g t #[x0,x1,x2,x3,x4,x5,u,v,x8,x9]:=by
 have h2:=(h.set_ 6 u).set_ 7 v;simp only[List.setIfInBounds_toArray,List.set_cons_zero,List.set_cons_succ] at h2;exact h2
theorem ten8 (h:Blk w g t #[x0,x1,x2,x3,x4,x5,x6,x7,x8,x9]):Blk (w.setCell ⟨g,8,none⟩ u) g t #[x0,x1,x2,x3,x4,x5,x6,x7,u,x9]:=by
 have h2:=h.set_ 8 u;simp only[List.setIfInBounds_toArray,List.set_cons_zero,List.set_cons_succ] at h2;exact h2
theorem ten9 (h:Blk w g t #[x0,x1,x2,x3,x4,x5,x6,x7,x8,x9]):Blk (w.setCell ⟨g,9,none⟩ u) g t #[x0,x1,x2,x3,x4,x5,x6,x7,x8,u]:=by
 have h2:=h.set_ 9 u;simp only[List.setIfInBounds_toArray,List.set_cons_zero,List.set_cons_succ] at h2;exact h2
end
theorem l8Copy_go:∀ (N:Nat) (L:Cms),L.sz<N→∀ (A:Option Addr) (c:Nat) (w:World) (lo hi:Nat),CmsV w lo hi A L→L.len≤1049600→L.small 1049600→
  Calls Tryz.prog 147 #[.slice A L.len c] w fun e w'=>∃ A' c',e=.returned (.slice A' L.len c')∧CpO w' w.heap.size (.slice A' L.len c') L∧Below w.heap.size w w':=by
 intro N
 induction N with
 | zero=>intro L h;omega
 | succ N IH=>
  intro L hsz A c w lo hi hV hlen hsm;replace IH:=ax IH;replace hV:=ax hV;replace hsm:=ax hsm;replace hsz:=ax hsz;obtain ⟨n,hn⟩:∃ n,n=L.len:=⟨_,rfl⟩;rw[←hn] at hlen ⊢;replace hn:=ax hn;(go_enter Tryz.func147,Tryz.ntmps147);(go_wp2_with fail)
  go_loopw [3,4] (fun s3 s4 wr=>∃ (j:Nat) (A5:Option Addr) (c5:Nat),j≤n∧s4=.int .i64 j∧s3=.slice A5 j c5∧aJ (CpO wr w.heap.size (.slice A5 j c5) (L.take j))∧aJ (Below w.heap.size w wr)) (fun _ s4 _=>n - (intOf s4).toNat)
  case atStart=>exact ⟨0,_,_,Nat.zero_le _,rfl,rfl,by cases L<;>exact CpO.empty w (Nat.le_refl _),bbox (Below.refl _ _) _⟩
  case round=>
   obtain ⟨j,A5,c5,hj,rfl,rfl,HC,hB⟩:=hrel;obtain ⟨wo,rfl⟩:∃ x,x=wr:=⟨_,rfl⟩;have hsz0:=hB.o.size;by_cases hlt:j<n
   ·have hpos:0<(L.drop j).len:=by rw[Cms.drop_len,←hn.o];omega
    obtain ⟨k,a,b,t,i,body,els,r,eL⟩:=Cms.cons_of_len hpos;obtain ⟨bl,o,rfl,-,-,hAt⟩:=(hV.o.bz hB.o) (by rw[←hn.o];omega);have hD:=hAt.drop j;have hS:=Cms.small_drop j hsm.o;have hZ:=Cms.sz_drop j L;rw[eL] at hD hS hZ;obtain ⟨⟨p0,p1,p2,p3,p4,p5⟩,⟨A6,c6,p6,g6⟩,⟨A7,c7,p7,g7⟩,⟨A8,c8,p8,g8⟩,⟨A9,c9,p9,g9⟩,-⟩:=hD;obtain ⟨s1,s2,s3,s4,s5,s6,-⟩:=hS;simp only[Cms.sz] at hZ;have hbs:body.sz<N:=by have:=hsz.o;omega
    have hes:els.sz<N:=by have:=hsz.o;omega
    have ha:AsnV wo lo hi (.agg #[.slice A6 i.facts.length c6,.slice A7 i.atoms.length c7]) i:=⟨_,_,_,_,rfl,⟨g6,s1⟩,⟨g7,s2⟩⟩;have hbl:bl<wo.heap.size:=block_lt_of_cell p0;replace ha:=ax ha;replace hbs:=ax hbs;replace hes:=ax hes;replace s3:=ax s3;replace s4:=ax s4;replace s5:=ax s5;replace s6:=ax s6;replace g8:=ax (show CmsV wo lo hi A8 body from g8);replace g9:=ax (show CmsV wo lo hi A9 els from g9);replace eL:=ax eL;clear hZ hpos hAt g6 g7 s1 s2;have k1:Blk (wo.alloc (.cells #[.int .i64 k,.int .i64 a,.int .i64 b,.bool t.eq,.int .i64 t.a,.int .i64 t.b,.slice A6 i.facts.length c6,.slice A7 i.atoms.length c7,.slice A8 body.len c8,.slice A9 els.len c9] tC)) wo.heap.size tC #[.int .i64 k,.int .i64 a,.int .i64 b,.bool t.eq,.int .i64 t.a,.int .i64 t.b,.slice A6 i.facts.length c6,.slice A7 i.atoms.length c7,.slice A8 body.len c8,.slice A9 els.len c9]:=Blk.new _ _ _;(go_wp2_with fail);refine (c_l3Copy _ i _ (ha.o.bz (bbox (Below.refl _ _) _))).mono ?_;rintro e w2 ⟨rI,rfl,hI,hB2⟩;obtain ⟨B1,d1,B2,d2,rfl,hI1,hI2⟩:=hI.rj;have k2:=k1.nz hB2;have z2:=hB2.size;simp only[World.size_alloc] at z2;have W2:aJ (Below wo.heap.size wo w2):=bgo (bbox (Below.refl _ _) _) hB2;have P1:=ax (hI1.1.x (X:=fun x=>wo.heap.size+1≤x∧x<w2.heap.size) fun x h1 h2=>⟨by simpa using h1,h2⟩);have P2:=ax (hI2.1.x (X:=fun x=>wo.heap.size+1≤x∧x<w2.heap.size) fun x h1 h2=>⟨by simpa using h1,h2⟩);have K2:=ax (ten67 (u:=.slice B1 i.facts.length d1) (v:=.slice B2 i.atoms.length d2) k2);clear hB2 hI hI1 hI2 k1 ha;(replace qk2:=k2.z);clear k2 p0 p1 p2 p3 p4 p5 p6 p7 p8 p9;(go_wp2_with fail);refine (IH.o body hbs.o A8 c8 _ lo hi (g8.o.bz ((W2.o.setCell (by simp) _).setCell (by simp) _)) s3.o s5.o).mono ?_;rintro e w3 ⟨AB,cB,rfl,hC3,hB3⟩;have z3:=hB3.size;simp only[World.size_setCell] at z3;have W3:aJ (Below wo.heap.size wo w3):=bgo ((W2.o.setCell (by simp) _).setCell (by simp) _) hB3;have k23:∀ x,wo.heap.size+1≤x→x<w2.heap.size→w3.heap[x]? = w2.heap[x]?:=fun x h1 h2=>(hB3.block x (by simpa using h2)).trans ((Below.heap_setCell _ _ _ x (by simp only;omega)).trans (Below.heap_setCell _ _ _ x (by simp only;omega)));have k3:=K2.o.nz hB3;have K3:=ax (ten8 (u:=.slice AB body.len cB) k3);have N3:=ax hC3.n.cp;simp only[World.size_setCell] at N3;replace P1:=ax (P1.o.keep fun x hx _=>k23 x hx.1 hx.2);replace P2:=ax (P2.o.keep fun x hx _=>k23 x hx.1 hx.2);clear hB3 hC3 K2 k23 qk2 W2 g8;(replace qk3:=k3.z);clear k3;(go_wp2_with fail);refine (IH.o els hes.o A9 c9 _ lo hi (g9.o.bz (W3.o.setCell (by simp) _)) s4.o s6.o).mono ?_;rintro e w4 ⟨AE,cE,rfl,hC4,hB4⟩;have z4:=hB4.size;simp only[World.size_setCell] at z4;have W4:aJ (Below wo.heap.size wo w4):=bgo (W3.o.setCell (by simp) _) hB4;have k34:∀ x,wo.heap.size+1≤x→x<w3.heap.size→w4.heap[x]? = w3.heap[x]?:=fun x h1 h2=>(hB4.block x (by simpa using h2)).trans (Below.heap_setCell _ _ _ x (by simp only;omega));have k4:=K3.o.nz hB4;have K4:=ax (ten9 (u:=.slice AE els.len cE) k4);have N4:=ax hC4.n.cp;simp only[World.size_setCell] at N4;replace P1:=ax (P1.o.keep fun x hx _=>k34 x hx.1 (by omega));replace P2:=ax (P2.o.keep fun x hx _=>k34 x hx.1 (by omega));replace N3:=ax (N3.o.keep fun x h1 h2 _=>k34 x (by omega) h2);clear hB4 hC4 K3 k34 qk3 W3 g9;(replace qk4:=k4.z);clear k4;have hlv:∀ g,(Value.slice A5 j c5).ownBlock=some g→g<wo.heap.size:=fun g hg=>(HC.o.n.own_lt g hg).2;replace hlv:=ax hlv;have htl:(L.take j).len=j:=Cms.take_len j L (by have:=hn.o;omega);obtain ⟨cs,ho0,hT0,-⟩:=HC.o;rw[htl] at ho0;have ho4:=ax (own_below ho0 W4.o);have hT4:=ax (hT0.keep (w':=w4) fun x _ h1 _ _=>W4.o.block x h1);clear ho0 hT0 HC;replace htl:=ax htl
    have kW:∀ x,x≠wo.heap.size→x<w4.heap.size→((w4.setCell ⟨wo.heap.size,9,none⟩ (.slice AE els.len cE)).alloc (.cells (tenL k a b t (.slice B1 i.facts.length d1) (.slice B2 i.atoms.length d2) (.slice AB body.len cB) (.slice AE els.len cE)).toArray tC)).heap[x]? = w4.heap[x]?:=fun x h1 h2=>
     ((bbox (Below.refl _ _) _).block x (by simpa using h2)).trans (Below.heap_setCell _ _ _ x h1)
    have ho5:((w4.setCell ⟨wo.heap.size,9,none⟩ (.slice AE els.len cE)).alloc (.cells (tenL k a b t (.slice B1 i.facts.length d1) (.slice B2 i.atoms.length d2) (.slice AB body.len cB) (.slice AE els.len cE)).toArray tC)).ownsRow w.heap.size tC 10 (.slice A5 j c5) j cs:=own_keep ho4.o fun g hg hl=>kW g (by have:=hlv.o g hg;omega) hl;replace kW:=ax kW;replace ho5:=ax ho5;(go_wp2_with (at_builtin;go_loud (refine appCX (base:=w.heap.size) (g0:=w4.heap.size) rfl _ _ rfl rfl ho5.o (tenL k a b t (.slice B1 i.facts.length d1) (.slice B2 i.atoms.length d2) (.slice AB body.len cB) (.slice AE els.len cE)) rfl (Blk.newE (by simp)) rfl rfl (tenOne _ _ _ _ _ _ _ _ _ _ _ _ _ _ _ _) (by omega) (by simp;omega) ?_);(intro A9' c9' w9 o9 g9 B9 v9;have o9:=ax o9;have g9:=ax g9;have v9:=ax v9;have B9:=ax B9)))
    have N9:CpO w9 w.heap.size (.slice A9' (j+1) c9') (L.take (j+1)):=by
     rw[Cms.take_snoc eL.o];have hk:∀ x,wo.heap.size+1≤x→x<w4.heap.size→_:=fun x h1 h2=>kW.o x (by omega) h2
     exact CpO.grow (m:=wo.heap.size+1) (m1:=w2.heap.size) (m2:=w3.heap.size) (m3:=w4.heap.size) ((hT4.o.keep fun x _ h1 _ h2=>kW.o x (by omega) h2).hi_ (by omega)) (fun g hg=>by have:=hlv.o g hg;omega) (by rw[htl.o];omega) z2 z3 z4 (by simp)
      (P1.o.keep fun x hx hl=>hk x hx.1 hl) (P2.o.keep fun x hx hl=>hk x hx.1 hl) (N3.o.keep fun x h1 _ hl=>hk x (by omega) hl) (N4.o.part.keep fun x hx hl=>hk x (by omega) hl) (by rw[htl.o];exact o9.o) g9.o v9.o B9.o.size
    have B10:Below w.heap.size w w9:=by
     have h1:Below w.heap.size w ((w4.setCell ⟨wo.heap.size,9,none⟩ (.slice AE els.len cE)).alloc (.cells (tenL k a b t (.slice B1 i.facts.length d1) (.slice B2 i.atoms.length d2) (.slice AB body.len cB) (.slice AE els.len cE)).toArray tC)):=bbox ((bgo hB.o W4.o).setCell (by simp only;omega) _) _;exact ⟨B9.o.os.trans h1.os,B9.o.tape.trans h1.tape,B9.o.output.trans h1.output,Nat.le_trans h1.size B9.o.size,fun x hx=>(B9.o.block x hx).trans (h1.block x hx)⟩
    go_round
    case rel=>exact ⟨j+1,A9',c9',by omega,by go_num,rfl,N9,B10⟩
    case measure=>simp only[intOf];omega
   ·have hjn:j=n:=by omega
    subst hjn;(go_wp2_with fail);go_ret;have hN:=HC.o;rw[hn.o,Cms.take_all] at hN;exact ⟨A5,c5,rfl,by rw[hn.o];exact hN,hB.o⟩
end
end Go.Proofs.YtjaohekkmlkinaaGreat
