/- Some states of an assertion; plain. -/
import Derived.Test.YtjaohekkmlkinaaGreatMSteSS
import Derived.IntWalk
import Derived.Deep.DeepCutAuto
set_option linter.unusedSimpArgs false
set_option linter.unusedVariables false
set_option maxRecDepth 100000
set_option maxHeartbeats 25600000
namespace Go.Proofs.YtjaohekkmlkinaaGreat
section
open Go Go.RowKit Go.Proofs
def pickS (a:Asn) (c:List Int) (m:Nat):List Ste:=match varF a c m true with
 | some s=>if holdsF s a then [s] else []
 | none=>[]
def caseM (a:Asn) (c:List Int) (k:Nat):List Ste:=(List.range k).flatMap (pickS a c)
def casesM (a:Asn) (L:List (List Int)):List Ste:=L.flatMap fun c=>caseM a c 4
def modelsV (a:Asn):List Ste:=casesM a ((casesV a).take 4)
theorem caseM_succ (a:Asn) (c:List Int) (k:Nat):caseM a c (k+1)=caseM a c k++pickS a c k:=by
 unfold caseM;rw[List.range_succ,List.flatMap_append];simp
theorem pickS_le (a:Asn) (c:List Int) (m:Nat):(pickS a c m).length≤1:=by
 unfold pickS;split
 ·split<;>simp
 ·simp
theorem caseM_le (a:Asn) (c:List Int):∀ k,(caseM a c k).length≤k
 | 0=>by simp[caseM]
 | k+1=>by
  rw[caseM_succ,List.length_append];have:=caseM_le a c k;have:=pickS_le a c k;omega
theorem casesM_le (a:Asn):∀ (L:List (List Int)),(casesM a L).length≤L.length * 4
 | []=>by simp[casesM]
 | c :: L=>by
  have h1:=casesM_le a L;have h2:=caseM_le a c 4;simp only[casesM,List.flatMap_cons,List.length_append,List.length_cons] at h1 ⊢;omega
theorem casesM_snoc (a:Asn) (L:List (List Int)) (c:List Int):casesM a (L++[c])=casesM a L++caseM a c 4:=by simp[casesM]
theorem pick_no {a:Asn} {c:List Int} {m:Nat} (h:(varF a c m true).isSome=false):pickS a c m=[]:=by
 unfold pickS
 cases e:varF a c m true with
 | none=>rfl
 | some s=>rw[e] at h;cases h
theorem pick_yes {a:Asn} {c:List Int} {m:Nat} {s:Ste} (h:varF a c m true=some s):pickS a c m=if holdsF s a then [s] else []:=by
 unfold pickS;rw[h]
theorem growF_len {vs:List Int} {mask:Nat} {last:Bool}:∀ (xs:List Atm) (n:Nat) (h h':List Int),growF vs mask last xs n h=some h'→h'.length=h.length
 | [],_,h,h',e=>by rw[growF] at e;rw[Option.some.inj e]
 | x :: xs,n,h,h',e=>by
  rw[growF] at e
  split at e
  ·exact growF_len xs n h h' e
  ·split at e
   ·exact growF_len xs (n+1) h h' e
   ·split at e
    ·cases e
    ·rename_i h2 e2;have:=growF_len xs (n+1) h2 h' e;rw[this];unfold growS at e2
     split at e2
     ·cases e2
     ·rw[←Option.some.inj e2];simp
theorem varF_len {a:Asn} {c:List Int} {m:Nat} {last:Bool} {s:Ste} (h:varF a c m last=some s):s.values.length=8∧s.heap.length=8:=by
 unfold varF at h
 cases e:growF (modV c) m last (filledL a.atoms c) 0 (modS a c).heap with
 | none=>rw[e] at h;cases h
 | some h'=>
  rw[e] at h;have h2:=growF_len _ _ _ _ e;have:s=⟨modV c,h'⟩:=(Option.some.inj h).symm;subst this;exact ⟨(modV_ok c).1,by rw[h2];show (heapS _ _ _).length=8;rw[heapS_len];rfl⟩
theorem casesM_len8 {a:Asn} {L:List (List Int)} {s:Ste} (h:s∈casesM a L):s.values.length=8∧s.heap.length=8:=by
 unfold casesM caseM at h;simp only[List.mem_flatMap] at h;obtain ⟨c,-,m,-,hm⟩:=h;unfold pickS at hm
 split at hm
 ·rename_i t e
  split at hm
  ·rw[List.mem_singleton] at hm;rw[hm];exact varF_len e
  ·cases hm
 ·cases hm
theorem tot_eight:∀ (ss:List Ste),(∀ s∈ss,s.values.length=8∧s.heap.length=8)→tot (rowsS ss)=ss.length * 16
 | [],_=>rfl
 | s :: ss,h=>by
  have e:rowsS (s :: ss)=s.values :: s.heap :: rowsS ss:=rfl;have h1:=h s List.mem_cons_self;rw[e,tot_cons,tot_cons,tot_eight ss fun t ht=>h t (List.mem_cons_of_mem _ ht),h1.1,h1.2,List.length_cons];omega
theorem modelsV_tot (a:Asn):tot (rowsS (modelsV a))≤16777216:=by
 unfold modelsV;rw[tot_eight _ fun s hs=>casesM_len8 hs];have h1:=casesM_le a ((casesV a).take 4);have h2:((casesV a).take 4).length≤4:=by rw[List.length_take];omega
 omega
end
section
open Go Go.RowKit Go.Proofs
attribute [local go_sem ↓] Go.wp_at_zero Go.wp_at_succ
attribute [local go_sem] Oper.semAt_some
structure KT (t:TypeId) (w w':World):Prop where
 os:w'.os=w.os
 tape:w'.tape=w.tape
 output:w'.output=w.output
 size:w.heap.size≤w'.heap.size
 keep:∀ (k:Nat) (o:Obj),w.heap[k]? = some o→(∀ cs,o≠.cells cs t (0,0))→w'.heap[k]? = some o
section
variable {t:TypeId} {w w' w1:World}
theorem KT.of (h:Below w.heap.size w w'):KT t w w':=⟨h.os,h.tape,h.output,h.size,fun k o hk _=>(h.block k (Array.getElem?_eq_some_iff.1 hk).1).trans hk⟩
theorem KT.trans (h:KT t w w1) (k:KT t w1 w'):KT t w w':=⟨k.os.trans h.os,k.tape.trans h.tape,k.output.trans h.output,Nat.le_trans h.size k.size,fun i o hi ho=>k.keep i o (h.keep i o hi ho) ho⟩
theorem KT.set (h:KT t w w1) {p:Addr} (hp:w.heap.size≤p.block) (u:Value):KT t w (w1.setCell p u):=
 ⟨h.os,h.tape,h.output,by have:=h.size;simpa using this,fun k o hk ho=>(Below.heap_setCell w1 p u k (by have:=(Array.getElem?_eq_some_iff.1 hk).1;omega)).trans (h.keep k o hk ho)⟩
theorem KT.app {v:Value} {base n m:Nat} {vs:List Value} (h:w.ownsRow base t m v n vs) (hg:w.grownBy w' v.ownBlock):KT t w w':=
 ⟨hg.os,hg.tape,hg.output,hg.size,fun k o hk ho=>(hg.block k (Array.getElem?_eq_some_iff.1 hk).1 (fun e=>by
  rcases h.2 with ⟨rfl,-⟩|⟨g,cap,cur,rfl,-,hh,-⟩
  ·cases e
  ·have e1:k=g:=by simpa[Value.ownBlock] using e
   subst e1;rw[hk] at hh
   exact ho cur (Option.some.inj hh))).trans hk⟩
theorem KT.blk (h:KT t w w') {g:Nat} {t':TypeId} {cs:Array Value} (hb:Blk w g t' cs) (ht:t'≠t):Blk w' g t' cs:=h.keep g _ hb fun c e=>by injection e with _ e2;exact ht e2
theorem KT.keeps (h:KT t w w'):KeepsOthers w w':=⟨h.size,fun k o hk ho=>h.keep k o hk fun cs e=>by subst e;cases ho⟩
theorem KT.kept {T1 T2:TypeId} {n₀:Nat} (h:KT t w w') (hb:Below n₀ w w') (h1:T1≠t) (h2:T2≠t):Kept T1 T2 n₀ w w':=⟨hb,fun g t' cs ht hk=>h.blk hk (by rcases ht with rfl|rfl;exact h1;exact h2)⟩
end
theorem slice_one' {v:Value} {xs:List Int} {w:World} {b:Nat} (h:IntsO w b v xs):v.oneCell'=true:=by obtain ⟨A,c,rfl,-⟩:=h.rj;rfl
theorem rw2 {w:World} {g:Nat} {s1 s2:Value} (h:Blk w g tSt #[s1,s2]):Rw w g (g+1) 2 (some ⟨g,0,none⟩) 1 [s1,s2]:=
 ⟨rfl,fun _=>⟨g,0,rfl,Nat.le_refl _,Nat.lt_succ_self _,fun j u hu=>by
  match j,hu with
  | 0,hu=>simp at hu;subst hu;exact h.cell 0
  | 1,hu=>simp at hu;subst hu;exact h.cell 1⟩⟩
section
variable {o:Oper} {a:Act} {K:Act→World→Prop} {Q:Exit→Act→World→Prop} {w w0:World} {base:Nat} {v:Value} {vs:List Value} {ss:List Ste}
theorem wp_appS2 (s x:Operand) (ho:o.op=.call { callee:=.builtin .append,args:=#[s,x],argTypes:=#[134,134] })
  (hs:a.eval s=v) (h0:S2O w0 base v vs ss) (hb0:Below w0.heap.size w0 w) (hbase:base≤w0.heap.size) {g:Nat} {s1 s2:Value} {t:Ste} (hy:StateO w w0.heap.size (.agg #[s1,s2]) t) (hg:Blk w g tSt #[s1,s2]) (hx:a.eval x=.slice (some ⟨g,0,none⟩) 1 1) (hl:ss.length+1≤1049600)
  (h:∀ A' c' w',S2O w' base (.slice A' (ss.length+1) c') (vs++[s1,s2]) (ss++[t])→w.grownBy w' v.ownBlock→Below base w w'→K (a.put o.dst (.slice A' (ss.length+1) c')) w'):o.wp Tryz.prog a w K Q:=by
 have hy':=hy;obtain ⟨_,_,e,n1,n2,dj⟩:=hy';injection e with e;injection e with e;injection e with e1 e2;injection e2 with e2 e3;subst e1 e2;refine wp_appL s x 134 ho Tryz.underlying134 infoSt2 rfl (by decide) (by decide) hs (own_below h0.row hb0) hx (rw2 hg) (by intro u hu;simp at hu;rcases hu with rfl|rfl;exact slice_one' n1;exact slice_one' n2) (by omega) (Nat.le_trans hbase hb0.size) ?_;intro v' w' h1 h2 h3;have hS:=h0.snoc hb0 hy hbase (by omega) h2 h1;obtain ⟨A',c',rfl⟩:=hS.form;simp only[List.length_append,List.length_cons,List.length_nil,Nat.zero_add] at hS ⊢;exact h A' c' w' hS h2 h3
theorem appS2 {ops:Array Oper} {rest:List Oper} (hgd:o.guard=none) (s x:Operand) (ho:o.op=.call { callee:=.builtin .append,args:=#[s,x],argTypes:=#[134,134] })
  (hs:a.eval s=v) (h0:S2O w0 base v vs ss) (hb0:Below w0.heap.size w0 w) (hbase:base≤w0.heap.size) {g:Nat} {s1 s2:Value} {t:Ste} (hy:StateO w w0.heap.size (.agg #[s1,s2]) t) (hg:Blk w g tSt #[s1,s2]) (hx:a.eval x=.slice (some ⟨g,0,none⟩) 1 1) (hl:ss.length+1≤1049600)
  (h:∀ A' c' w',S2O w' base (.slice A' (ss.length+1) c') (vs++[s1,s2]) (ss++[t])→w.grownBy w' v.ownBlock→Below base w w'→wpList Tryz.prog ops Q rest (a.put o.dst (.slice A' (ss.length+1) c')) w'):wpList Tryz.prog ops Q (o :: rest) a w:=by
 unfold wpList;rw[if_pos (show Region.wanted o (yielded ops a.tmps)=true by simp[Region.wanted,hgd])];exact Or.inl (wp_appS2 s x ho hs h0 hb0 hbase hy hg hx hl h)
end
end
section
open Go Go.RowKit Go.Proofs
attribute [local go_sem ↓] Go.wp_at_zero Go.wp_at_succ
theorem IntsO.at8 {w:World} {base G n c k:Nat} {fs:List Int} (h:IntsO w base (.slice (some ⟨G,0,none⟩) n c) fs) (hk:k<fs.length):w.cell? ⟨G,k,none⟩=some (.int .i64 (cl fs k))∧(∀ v:Int,IntsO (w.setCell ⟨G,k,none⟩ (.int .i64 v)) base (.slice (some ⟨G,0,none⟩) n c) (fs.set k v)):=by
 obtain ⟨g,cur,-,e,-,kc,hc,hs⟩:=h.open_ hk;injection e with e;injection e with e;subst e;refine ⟨?_,hs⟩;rw[kc.cell,hc];unfold cl;rw[Int.toNat_natCast,List.getElem?_eq_getElem hk];rfl
theorem IntsO.at8B {w:World} {base G n c k:Nat} {fs:List Int} (h:IntsO w base (.slice (some ⟨G,0,none⟩) n c) fs) (hk:k<fs.length):(∀ i,w.frozen? ⟨G,i,none⟩=false)∧G<w.heap.size∧base≤G∧∃ cs,Blk w G tI cs:=by
 obtain ⟨g,cur,-,e,hb,kc,hc,hs⟩:=h.open_ hk;injection e with e;injection e with e;subst e;exact ⟨kc.frozen,kc.lt,hb,_,kc⟩
theorem IntsO.frNe {g:Nat} {a b:World} {base:Nat} {v:Value} {xs:List Int} (h:IntsO a base v xs) (hf:Fr g a b) (hg:v.ownBlock≠some g):IntsO b base v xs:=by
 obtain ⟨⟨h1,h2⟩,h3⟩:=h;refine ⟨⟨h1,?_⟩,h3⟩;rcases h2 with h2|⟨k,cap,cur,hv,hk,hh,r⟩
 ·exact Or.inl h2
 ·exact Or.inr ⟨k,cap,cur,hv,hk,Blk.fr hh hf (fun e=>hg (by rw[hv,e];rfl)),r⟩
theorem c_l1V8 {lo hi:Nat} (A:Option Addr) (c:Nat) (vs:List Int) (t:Int) (w:World) (h:IntsV w lo hi A vs) (hl:vs.length=8) (h0:0≤t) (h8:t≤8):Calls Tryz.prog 211 #[.slice A 8 c,.int .i64 t] w fun e w'=>e=.returned (.int .i64 (tval vs t))∧w=w':=by
 have:=c_spec_l1Value A c vs t w h h0 (by rw[hl];exact h8)
 rwa [hl] at this
theorem c_spec_l5Model {lo hi lo2 hi2:Nat} (v:Value) (a:Asn) (S:Nat) (c:List Int) (B:Option Addr) (bc:Nat) (w:World) (h:AsnV w lo hi v a) (h':IntsV w lo2 hi2 B c) (hv:a.valid=true) (h0:S.testBit 0=true) (hS:∀ t∈mz a,S.testBit t.toNat=true) (hc:c∈cases a S) :
  Calls Tryz.prog 208 #[v,.slice B 9 bc] w fun e w'=>∃ r,e=.returned r∧StateO w' w.heap.size r (modS a c)∧Below w.heap.size w w':=by
 have hV:=ax h;have HI:=ax h';have HC:=ax (csd_of h0 hc);have HF:=ax (filled_ok hv h0 hS hc);have HOK:=ax (Asn.valid_ok hv);have HMV:=ax (modV_ok c);obtain ⟨A1,c1,A2,c2,rfl,-,h2⟩:=h;have H2:=ax h2;obtain ⟨pb,po,rfl,lpb⟩:=h'.blt (k:=0) (by rw[HC.o.len];omega);clear h2 hv h0 hS hc h';(go_enter Tryz.func208,Tryz.ntmps208);have k0:Blk ((w.alloc (.cells #[.slice A1 a.facts.length c1,.slice A2 a.atoms.length c2] tAs)).alloc (.cells #[.slice none 0 0,.slice none 0 0] tSt)) w.heap.size tAs #[.slice A1 a.facts.length c1,.slice A2 a.atoms.length c2]:=blks;have k2:Blk ((w.alloc (.cells #[.slice A1 a.facts.length c1,.slice A2 a.atoms.length c2] tAs)).alloc (.cells #[.slice none 0 0,.slice none 0 0] tSt)) (w.heap.size+1) tSt #[.slice none 0 0,.slice none 0 0]:=blks;have hB0:Below w.heap.size w ((w.alloc (.cells #[.slice A1 a.facts.length c1,.slice A2 a.atoms.length c2] tAs)).alloc (.cells #[.slice none 0 0,.slice none 0 0] tSt)):=bel;have hs0:w.heap.size+2≤((w.alloc (.cells #[.slice A1 a.facts.length c1,.slice A2 a.atoms.length c2] tAs)).alloc (.cells #[.slice none 0 0,.slice none 0 0] tSt)).heap.size:=by simp
 (go_wp2_with fail);generalize ((w.alloc (.cells #[.slice A1 a.facts.length c1,.slice A2 a.atoms.length c2] tAs)).alloc (.cells #[.slice none 0 0,.slice none 0 0] tSt))=W at k0 k2 hB0 hs0 ⊢;refine (c_l2Blank _).mono ?_;rintro e w1 ⟨r1,rfl,o1,hB1⟩;obtain ⟨fv,av,rfl,oV,oH,dj⟩:=o1;obtain ⟨X1,d1,rfl,-⟩:=oV.rj;obtain ⟨X2,d2,rfl,-⟩:=oH.rj;obtain ⟨x1,_,-,e1,hx1,-⟩:=oV.open_ (k:=0) (by simp[blankS]);obtain ⟨x2,_,-,e2,hx2,-⟩:=oH.open_ (k:=0) (by simp[blankS]);subst e1 e2;have ne12:x1≠x2:=fun e=>dj x1 rfl (by rw[e];rfl);have lx1:=(oV.1.lt x1 rfl).2;have lx2:=(oH.1.lt x2 rfl).2;have J1:=ax (oV.bz (bbox (Below.refl _ _) (.cells #[.slice (some ⟨x1,0,none⟩) 8 d1,.slice (some ⟨x2,0,none⟩) 8 d2] tSt)));have J2:=ax (oH.bz (bbox (Below.refl _ _) (.cells #[.slice (some ⟨x1,0,none⟩) 8 d1,.slice (some ⟨x2,0,none⟩) 8 d2] tSt)));have HB1:=ax (bbox (bgo hB0 hB1) (.cells #[.slice (some ⟨x1,0,none⟩) 8 d1,.slice (some ⟨x2,0,none⟩) 8 d2] tSt));replace k0:=(k0.nz hB1).alloc (.cells #[.slice (some ⟨x1,0,none⟩) 8 d1,.slice (some ⟨x2,0,none⟩) 8 d2] tSt);replace k2:=(k2.nz hB1).alloc (.cells #[.slice (some ⟨x1,0,none⟩) 8 d1,.slice (some ⟨x2,0,none⟩) 8 d2] tSt);have k5:Blk (w1.alloc (.cells #[.slice (some ⟨x1,0,none⟩) 8 d1,.slice (some ⟨x2,0,none⟩) 8 d2] tSt)) w1.heap.size tSt #[.slice (some ⟨x1,0,none⟩) 8 d1,.slice (some ⟨x2,0,none⟩) 8 d2]:=Blk.new _ _ _;have hz1:=hB1.size;have hzw:w1.heap.size≤(w1.alloc (.cells #[.slice (some ⟨x1,0,none⟩) 8 d1,.slice (some ⟨x2,0,none⟩) 8 d2] tSt)).heap.size:=by simp
 clear oV oH dj hB1 hB0;simp only[blankS,List.length_replicate];(go_wp2_with fail);obtain ⟨x5,hx5⟩:∃ x,x=w1.heap.size:=⟨_,rfl⟩;rw[←hx5] at k5 lx1 lx2 hz1 hzw ⊢;clear hx5;generalize (w1.alloc (.cells #[.slice (some ⟨x1,0,none⟩) 8 d1,.slice (some ⟨x2,0,none⟩) 8 d2] tSt))=W1 at k0 k2 k5 J1 J2 HB1 hzw ⊢;have HR1:aJ (IntsO W1 W.heap.size (.slice (some ⟨x1,0,none⟩) 8 d1) (modT c 1)):=by show IntsO _ _ _ _;rw[modT_start];exact J1.o
 have HR2:aJ (IntsO W1 W.heap.size (.slice (some ⟨x2,0,none⟩) 8 d2) blank8):=J2.o;clear J1 J2
 go_loopw [6,7] (fun nx i wr=>∃ n:Nat,n≤8∧i=.int .i64 ((n:Int)+1)∧nx=.int .i64 (rk c n:Int)∧aJ (IntsO wr W.heap.size (.slice (some ⟨x1,0,none⟩) 8 d1) (modT c (n+1)))∧aJ (Fr x1 W1 wr)) (fun _ i _=>9 - (intOf i).toNat)
 case atStart=>exact ⟨0,by omega,rfl,by rw[show ((0:Nat):Int)=0 from rfl,rk_zero];rfl,HR1.o,Fr.refl _ _⟩
 case round=>
  clear HR1;obtain ⟨n,hn,rfl,rfl,HRW,HFR⟩:=hrel;have y5:=k5.fr HFR.o (by omega);have q5:=y5.cell;have r5:=y5.frozen;by_cases hlt:n<8
  ·have hni:(n:Int)+1≤8:=by omega
   have hni9:(n:Int)+1<9:=by omega
   have hcl:=HI.o.bz (HB1.o.trans (HFR.o.bz (by omega) (by omega)));have qc:=hcl.cl (k:=n+1) (by rw[HC.o.len];omega)
   have hqx:c[n+1]'(by rw[HC.o.len];omega)=cl c ((n+1:Nat):Int):=by
    unfold Go.Proofs.YtjaohekkmlkinaaGreat.cl;rw[Int.toNat_natCast,List.getElem?_eq_getElem (by rw[HC.o.len];omega)];rfl
   rw[hqx] at qc;clear hqx hcl;have HLE:=ax (HC.o.le (n+1) (by omega));have HID:=ax (HC.o.idem (n+1) (by omega))
   have HROOT:aJ (cl c ((n+1:Nat):Int)=((n+1:Nat):Int)→mval c ((n+1:Nat):Int)=(rk c (n:Int):Int)+1∧rk c ((n+1:Nat):Int)=rk c (n:Int)+1):=fun h=>by
    have:=mval_root (c:=c) (t:=n+1) (by omega) (by omega) h;rw[show (((n+1:Nat):Int) - 1)=n from by omega] at this;exact ⟨by rw[this.1];rfl,this.2⟩
   have HSAME:aJ (cl c ((n+1:Nat):Int)≠((n+1:Nat):Int)→rk c ((n+1:Nat):Int)=rk c (n:Int)):=fun h=>by
    have:=rk_same (c:=c) (t:=n+1) (by omega) (by omega) h
    rwa [show (((n+1:Nat):Int) - 1)=n from by omega] at this
   have HNONE:aJ (cl c ((n+1:Nat):Int)≤0→modT c (n+1+1)=modT c (n+1)):=fun h=>modT_keep c (by omega) (by omega) (mval_none h);have HOLD:aJ (∀ r:Nat,cl c ((n+1:Nat):Int)=r→cl c (r:Int)=r→mval c (r:Int)=mval c ((n+1:Nat):Int)):=fun r h h'=>mval_old h h';obtain ⟨qx,hsx⟩:=HRW.o.at8 (k:=n) (by rw[modT_len];exact hlt);obtain ⟨rx,lx,-⟩:=HRW.o.at8B (k:=n) (by rw[modT_len];exact hlt)
   have HST:aJ (IntsO (wr.setCell ⟨x1,n,none⟩ (.int .i64 (mval c ((n+1:Nat):Int)))) W.heap.size (.slice (some ⟨x1,0,none⟩) 8 d1) (modT c (n+1+1))):=by
    have:=hsx (mval c ((n+1:Nat):Int))
    rwa [show (modT c (n+1)).set n (mval c ((n+1:Nat):Int))=modT c (n+1+1) from modT_set c (t:=n+1) (by omega) (by omega)] at this
   have HF2:aJ (∀ v,Fr x1 W1 (wr.setCell ⟨x1,n,none⟩ v)):=fun v=>HFR.o.set_ (p:=⟨x1,n,none⟩) (Or.inl rfl) v;have hrk:rk c (n:Int)≤8:=rk_le _ _;clear hsx;obtain ⟨x,hx⟩:∃ x,x=cl c ((n+1:Nat):Int):=⟨_,rfl⟩;rw[←hx] at qc HLE HID HROOT HSAME HNONE HOLD;generalize (rk c (n:Int))=R at HROOT HSAME hrk ⊢;generalize (cl (modT c (n+1)) (n:Int))=y at qx;clear hx;by_cases hroot:x=(n:Int)+1
   ·have hb:(x == (n:Int)+1)=true:=by simpa using hroot
    have e1:=HROOT.o (by omega);rw[e1.1] at HST;have HRK:=ax e1.2;clear HROOT HSAME HNONE HOLD HID HLE e1 HRW HFR;rw[hroot] at qc;have hp:0<(n:Int)+1:=by omega
    clear hroot hb;(go_wp2_with fail)
    go_round
    case rel=>exact ⟨n+1,by omega,by go_num,by rw[HRK.o];go_num,HST.o,HF2.o _⟩
    case measure=>simp[intOf];omega
   ·have hb:(x == (n:Int)+1)=false:=by simpa using hroot
    have HRK:=ax (HSAME.o (by omega));clear HSAME HROOT;by_cases hpos:0<x
    ·obtain ⟨r,rfl⟩:∃ r:Nat,x=(r:Int)+1:=⟨(x - 1).toNat,by omega⟩;have hle:=HLE.o.2;have hrn:r<n:=by omega
     have hid:=HID.o (by omega);have hold:=HOLD.o (r+1) (by omega) (by rw[show (((r+1:Nat):Int))=(r:Int)+1 from by omega];exact hid)
     have hcl:cl (modT c (n+1)) (r:Int)=mval c ((n+1:Nat):Int):=by
      rw[modT_cl c (by omega),if_pos (by omega)];exact hold
     have qv:=(HRW.o.at8 (k:=r) (by rw[modT_len];omega)).1;rw[hcl] at qv;have qv2:=(HST.o.at8 (k:=r) (by rw[modT_len];omega)).1;rw[show cl (modT c (n+1+1)) (r:Int)=mval c ((n+1:Nat):Int) from by rw[modT_cl c (by omega),if_pos (by omega)];exact hold] at qv2;have QV2:=ax qv2;clear qv2;have hr8:(r:Int)<8:=by omega
     have hn8:(n:Int)<8:=by omega
     have hrne:r≠n:=by omega
     have hn0:0≤(n:Int)+1:=by omega
     have hr0:0≤(r:Int)+1:=by omega
     have hrn1:(r:Int)+1<(n:Int)+1:=by omega
     have hn00:0≤(n:Int):=by omega
     have hr00:0≤(r:Int):=by omega
     have hwr:IntKind.i64.wrap (r:Int)=(r:Int):=IntWalk.i64_in _ (by omega);have hwn:IntKind.i64.wrap (n:Int)=(n:Int):=IntWalk.i64_in _ (by omega);generalize mval c ((n+1:Nat):Int)=m at HST qv QV2;clear hcl hold hid HOLD HID HLE HNONE hroot hle HRW;(go_wp2_with fail);refine wp_region_noPanic ?_;refine wp_region_held_drew (S:=(fun w'=>(∀ i,w'.cell? ⟨x5,i,none⟩=#[.slice (some ⟨x1,0,none⟩) 8 d1,.slice (some ⟨x2,0,none⟩) 8 d2][i]?)∧w'.cell? ⟨x1,r,none⟩=some (.int .i64 m))) (by kernel_rfl) (⟨y5.drew.cell,qv⟩) (fun aH=>?_);refine tk2 0 rfl aH (h:=tk2 1 rfl aH (h:=tk2 2 rfl aH (h:=?_)));(try simp only[zz]);refine tk2 3 rfl aH (h:=tk2 4 rfl aH (h:=tk2 5 rfl aH (h:=?_)));(try simp only[zz]);refine tk2 6 rfl aH (h:=tk2 7 rfl aH (h:=tk2 8 rfl aH (h:=?_)));(try simp only[zz]);refine tk2 9 rfl aH (h:=tk2 10 rfl aH (h:=?_));refine rdc 11 rfl fun K hK=>?_;(try simp only[zz]);go_simp;refine hK.out _ _ (⟨(y5.drew.far (p:=⟨x1,n,none⟩) (by simp only;omega) _).cell,QV2.o⟩) ?_;clear aH hK K;intro aH;(try simp only[zz]);refine dn1 ?_;clear hwr hwn;(go_wp2_with fail)
     go_round
     case rel=>exact ⟨n+1,by omega,by go_num,by rw[HRK.o],HST.o.bz (Below.refl _ _).drew,(HF2.o _).drew⟩
     case measure=>simp[intOf];omega
    ·have e:=HNONE.o (by omega);have HN:aJ (IntsO wr W.heap.size (.slice (some ⟨x1,0,none⟩) 8 d1) (modT c (n+1+1))):=by show IntsO _ _ _ _;rw[e];exact HRW.o
     clear e HNONE HOLD HID HLE hroot HRW;(go_wp2_with fail)
     go_round
     case rel=>exact ⟨n+1,by omega,by go_num,by rw[HRK.o],HN.o,HFR.o⟩
     case measure=>simp[intOf];omega
  ·obtain rfl:n=8:=by omega
   rw[show ((8:Nat):Int)=8 from rfl];have HRV:aJ (IntsO wr W.heap.size (.slice (some ⟨x1,0,none⟩) 8 d1) (modV c)):=by show IntsO _ _ _ _;rw[←modT_end];exact HRW.o
   have HRH:=ax (HR2.o.frNe HFR.o (by simp only[Value.ownBlock];intro e;injection e with e;omega));have HB3:aJ (Below w.heap.size w wr):=HB1.o.trans (HFR.o.bz (by omega) (by omega));replace k0:=k0.fr HFR.o (by omega);replace k2:=k2.fr HFR.o (by omega);have hz3:=HFR.o.size;clear HRW HFR HR2 HB1 k5;(replace qk0:=k0.z);(go_wp2_with fail);refine (c_filled9 A2 _ c2 bc a.atoms c _ (H2.o.bz HB3.o) (HI.o.bz HB3.o) HC.o.len HOK.o.2).mono ?_;rintro e w4 ⟨r4,rfl,o4,hB4⟩;obtain ⟨A4,c4,rfl,f4⟩:=o4.rj;have HLV:=ax f4;replace HB3:=ax (bgo HB3.o hB4);replace HRV:=ax (HRV.o.bz hB4);replace HRH:=ax (HRH.o.bz hB4);replace k2:=k2.nz hB4;replace y5:=y5.nz hB4;have hz4:=hB4.size;have hL:=f4.le;clear o4 f4 hB4 k0 qk0 q5 r5;obtain ⟨L,hLe⟩:∃ L,L=filledL a.atoms c:=⟨_,rfl⟩;have HLE:=ax hLe;rw[←hLe] at HLV HF hL ⊢;clear hLe;(go_wp2_with fail)
   go_loopw [10] (fun i wr=>∃ k:Nat,k≤L.length∧i=.int .i64 k∧aJ (IntsO wr W.heap.size (.slice (some ⟨x2,0,none⟩) 8 d2) (heapS (modV c) blank8 (L.take k)))∧aJ (Fr x2 w4 wr)) (fun i _=>L.length - (intOf i).toNat)
   case atStart=>exact ⟨0,Nat.zero_le _,rfl,HRH.o,Fr.refl _ _⟩
   case round=>
    clear HRH;obtain ⟨k,hk,rfl,HRW,HFR⟩:=hrel;have i5:=y5.fr HFR.o (by omega);have hzr:=HFR.o.size;by_cases hlt:k<L.length
    ·have hki:(k:Int)<(L.length:Int):=by omega
     have hlv:AtomsV wr _ _ A4 L:=⟨HLV.o.raw.fr HFR.o (Or.inl (by omega)),HLV.o.lim⟩;obtain ⟨b,o,rfl,g0,g1,g2⟩:=hlv.at hlt;have hbl:=block_lt_of_cell g0;have HXF:=ax (HF.o _ (List.getElem_mem hlt));have HST:=ax (heapS_take (modV c) blank8 L hlt)
     have hbx:b≠x2:=by
      obtain ⟨b',o',e,hlo,-⟩:=HLV.o.raw.2 (by omega);injection e with e;injection e with e;omega
     obtain ⟨x,hx⟩:∃ x,x=L[k]:=⟨_,rfl⟩;rw[←hx] at g0 g1 g2 HXF HST;have hxa:=HXF.o.1;have hxb:=HXF.o.2.1;obtain ⟨m,hm⟩:∃ m:Nat,tval (modV c) x.a=(m:Int)+1:=⟨(tval (modV c) x.a - 1).toNat,by have:=HXF.o.2.2.1;omega⟩;have hm8:m<8:=by have:=HXF.o.2.2.1;omega
     have hmi:(m:Int)<8:=by omega
     have hm0:0≤(m:Int):=by omega
     have hwm:IntKind.i64.wrap (m:Int)=(m:Int):=IntWalk.i64_in _ (by omega);have HM:=ax hm;rw[hm,show ((m:Int)+1 - 1).toNat=m from by omega] at HST;have HRV2:=ax (HRV.o.frNe HFR.o (by simp only[Value.ownBlock];intro e;injection e with e;omega));obtain ⟨qw,hset⟩:=HRW.o.at8 (k:=m) (by rw[heapS_len];exact hm8);obtain ⟨rw_,lw,-⟩:=HRW.o.at8B (k:=m) (by rw[heapS_len];exact hm8);have HSET:=ax (hset (tval (modV c) x.b));rw[←HST.o] at HSET;have HFN:=ax ((HFR.o.set_ (p:=⟨x2,m,none⟩) (Or.inl rfl) (.int .i64 (tval (modV c) x.b))).drew);clear hx hm HXF HRW HFR HST hset g0 hlv;(go_wp2_with fail);refine wp_region_noPanic ?_;refine wp_region_held_drew (S:=(fun w'=>(∀ i,w'.cell? ⟨x5,i,none⟩=#[.slice (some ⟨x1,0,none⟩) 8 d1,.slice (some ⟨x2,0,none⟩) 8 d2][i]?)∧w'.cell? ⟨b,o+k * 3+1,none⟩=some (.int .i64 x.a)∧w'.cell? ⟨b,o+k * 3+2,none⟩=some (.int .i64 x.b))) (by kernel_rfl) (⟨i5.drew.cell,g1,g2⟩) (fun aH=>?_);refine tk2 0 rfl aH (h:=tk2 1 rfl aH (h:=tk2 2 rfl aH (h:=?_)));(try simp only[zz]);refine tk2 3 rfl aH (h:=tk2 4 rfl aH (h:=tk2 5 rfl aH (h:=?_)));(try simp only[zz]);refine tk2 6 rfl aH (h:=tk2 7 rfl aH (h:=tk2 8 rfl aH (h:=?_)));(try simp only[zz]);refine tk2 11 rfl aH (h:=tk2 12 rfl aH (h:=tk2 13 rfl aH (h:=?_)));(try simp only[zz]);refine tk2 14 rfl aH (h:=tk2 15 rfl aH (h:=tk2 16 rfl aH (h:=?_)));(try simp only[zz]);refine tk2 17 rfl aH (h:=?_);refine rdc 9 rfl fun K hK=>?_;(try simp only[zz]);(go_simp;refine (c_l1V8 _ d1 (modV c) x.a _ (IntsV.bz (IntsO.readsI HRV2.o).2 (Below.refl _ _).drew) HMV.o.1 hxa.1 hxa.2).mono ?_;rintro e w6 ⟨rfl,rfl⟩;rw[HM.o]);refine hK.out _ _ (⟨i5.drew.cell,g1,g2⟩) ?_;clear aH hK K;intro aH;(try simp only[zz]);refine tk2 10 rfl aH (h:=?_);refine rdc 18 rfl fun K hK=>?_;(try simp only[zz]);(go_simp;refine (c_l1V8 _ d1 (modV c) x.b _ (IntsV.bz (IntsO.readsI HRV2.o).2 (Below.refl _ _).drew) HMV.o.1 hxb.1 hxb.2).mono ?_;rintro e w6 ⟨rfl,rfl⟩);refine hK.out _ _ (⟨i5.drew.cell,g1,g2⟩) ?_;clear aH hK K;intro aH;(try simp only[zz]);refine tk2 19 rfl aH (h:=?_);refine rdc 20 rfl fun K hK=>?_;(try simp only[zz]);go_simp;refine hK.out _ _ (⟨(i5.drew.far (p:=⟨x2,m,none⟩) (by simp only;omega) _).cell,(World.cell?_of_block (a:=⟨b,o+k * 3+1,none⟩) (Below.heap_setCell _ _ _ _ hbx)).trans g1,(World.cell?_of_block (a:=⟨b,o+k * 3+2,none⟩) (Below.heap_setCell _ _ _ _ hbx)).trans g2⟩) ?_;clear aH hK K;intro aH;(try simp only[zz]);refine dn1 ?_;clear qw rw_ lw hwm;(go_wp2_with fail)
     go_round
     case rel=>exact ⟨k+1,by omega,by go_num,HSET.o.bz (Below.refl _ _).drew,HFN.o⟩
     case measure=>simp[intOf];omega
    ·obtain rfl:k=L.length:=by omega
     rw[List.take_length] at HRW;have z2:=k2.fr HFR.o (by omega);have HRV3:=ax (HRV.o.frNe HFR.o (by simp only[Value.ownBlock];intro e;injection e with e;omega));have HB5:aJ (Below w.heap.size w wr):=HB3.o.trans (HFR.o.bz (by omega) (by omega));have q5:=i5.cell;have r5:=i5.frozen;have q2:=z2.cell;have r2:=z2.frozen;have l2c:=z2.lt;clear HFR;(go_wp2_with fail);refine bodyPost_ret (v:=.agg #[.slice (some ⟨x1,0,none⟩) 8 d1,.slice (some ⟨x2,0,none⟩) 8 d2]) (by simp[results,Tryz.results208,go_sem,q2,l2c]) rfl ⟨_,rfl,⟨_,_,rfl,?_,?_,?_⟩,?_⟩
     ·exact ((HRV3.o.set_ne (q:=⟨w.heap.size+1,0,none⟩) (by simp only[Value.ownBlock];intro e;injection e with e;omega) _).set_ne (q:=⟨w.heap.size+1,1,none⟩) (by simp only[Value.ownBlock];intro e;injection e with e;omega) _).bq (by omega)
     ·show IntsO _ _ _ (heapS (modV c) blank8 (filledL a.atoms c));rw[←HLE.o];exact ((HRW.o.set_ne (q:=⟨w.heap.size+1,0,none⟩) (by simp only[Value.ownBlock];intro e;injection e with e;omega) _).set_ne (q:=⟨w.heap.size+1,1,none⟩) (by simp only[Value.ownBlock];intro e;injection e with e;omega) _).bq (by omega)
     ·intro g e1 e2;simp only[Value.ownBlock,Option.some.injEq] at e1 e2;omega
     ·exact (HB5.o.setCell (p:=⟨w.heap.size+1,0,none⟩) (by simp only;omega) _).setCell (p:=⟨w.heap.size+1,1,none⟩) (by simp only;omega) _
theorem StateO.setR {w:World} {b:Nat} {v:Value} {s:Ste} {t:TypeId} (h:StateO w b v s) {g:Nat} {cs:Array Value} (k:Blk w g t cs) (ht:t≠tI) (v0 v1:Value):StateO ((w.setCell ⟨g,0,none⟩ v0).setCell ⟨g,1,none⟩ v1) b v s:=by
 obtain ⟨fv,av,e,h1,h2,h3⟩:=h;exact ⟨fv,av,e,(h1.setT k ht 0 _).setT (k.set_ 0 _) ht 1 _,(h2.setT k ht 0 _).setT (k.set_ 0 _) ht 1 _,h3⟩
theorem c_spec_l6Grow {lo hi lo2 hi2:Nat} (v:Value) (a:Asn) (S:Nat) (c:List Int) (B:Option Addr) (bc:Nat) (mask:Nat) (last:Bool) (w:World) (h:AsnV w lo hi v a) (h':IntsV w lo2 hi2 B c) (hv:a.valid=true) (h0:S.testBit 0=true) (hS:∀ t∈mz a,S.testBit t.toNat=true) (hc:c∈cases a S) (hm:mask<4) :
  Calls Tryz.prog 155 #[v,.slice B 9 bc,.int .i64 mask,.bool last] w fun e w'=>∃ r s,e=.returned (.tuple #[r,.bool (varF a c mask last).isSome])∧StateO w' w.heap.size r s∧((varF a c mask last).isSome=true→varF a c mask last=some s)∧Below w.heap.size w w':=by
 have hV:=ax h;have HI:=ax h';have HC:=ax (csd_of h0 hc);have HF:=ax (filled_ok hv h0 hS hc);have HG:=ax (grow_start hv h0 hS hc);have HOK:=ax (Asn.valid_ok hv);have HMV:=ax (modV_ok c);have HCS:=ax (fun (W:World) hA hI=>c_spec_l5Model (lo:=lo) (hi:=hi) (lo2:=lo2) (hi2:=hi2) v a S c B bc W hA hI hv h0 hS hc);obtain ⟨A1,c1,A2,c2,rfl,-,h2⟩:=h;have H2:=ax h2;obtain ⟨R,hR⟩:∃ R,R=varF a c mask last:=⟨_,rfl⟩;have HR:aJ (R=(growF (modV c) mask last (filledL a.atoms c) 0 (modS a c).heap).map fun h=>⟨modV c,h⟩):=ax hR;rw[←hR];clear h2 hv h0 hS hc hR h';(go_enter Tryz.func155,Tryz.ntmps155);have k0:Blk ((w.alloc (.cells #[.slice A1 a.facts.length c1,.slice A2 a.atoms.length c2] tAs)).alloc (.cells #[.slice none 0 0,.slice none 0 0] tSt)) w.heap.size tAs #[.slice A1 a.facts.length c1,.slice A2 a.atoms.length c2]:=blks;have k2:Blk ((w.alloc (.cells #[.slice A1 a.facts.length c1,.slice A2 a.atoms.length c2] tAs)).alloc (.cells #[.slice none 0 0,.slice none 0 0] tSt)) (w.heap.size+1) tSt #[.slice none 0 0,.slice none 0 0]:=blks;have hB0:Below w.heap.size w ((w.alloc (.cells #[.slice A1 a.facts.length c1,.slice A2 a.atoms.length c2] tAs)).alloc (.cells #[.slice none 0 0,.slice none 0 0] tSt)):=bel;have hs0:w.heap.size+2≤((w.alloc (.cells #[.slice A1 a.facts.length c1,.slice A2 a.atoms.length c2] tAs)).alloc (.cells #[.slice none 0 0,.slice none 0 0] tSt)).heap.size:=by simp
 (go_wp2_with fail);generalize ((w.alloc (.cells #[.slice A1 a.facts.length c1,.slice A2 a.atoms.length c2] tAs)).alloc (.cells #[.slice none 0 0,.slice none 0 0] tSt))=W at k0 k2 hB0 hs0 ⊢;refine (HCS.o _ (hV.o.bz hB0) (HI.o.bz hB0)).mono ?_;rintro e w1 ⟨r1,rfl,o1,hB1⟩;obtain ⟨fv,av,rfl,oV,oH,dj⟩:=o1;have oV8:IntsO w1 W.heap.size fv (modV c):=oV;obtain ⟨H0,hH0⟩:∃ H0,H0=(modS a c).heap:=⟨_,rfl⟩;rw[←hH0] at oH HR HG;obtain ⟨vs,hvs⟩:∃ vs,vs=modV c:=⟨_,rfl⟩;rw[←hvs] at oV8 HR HG HF HMV;have hz1:=hB1.size;have HB1:=ax (bgo hB0 hB1);replace k0:=k0.nz hB1;replace k2:=k2.nz hB1;have lV:=HMV.o.1;have lH:=HG.o.1;obtain ⟨V,d1,rfl,-⟩:=oV8.rj;obtain ⟨H,d2,rfl,-⟩:=oH.rj;rw[lV] at oV8 dj;rw[lH] at oH dj;have OV:=ax (oV8.bq (base':=w.heap.size) (by omega));have OH:=ax (oH.bq (base':=w.heap.size) (by omega));have DJ:=ax dj;clear oV oV8 oH dj hB1 hB0 hH0 HCS;obtain ⟨g,cur,-,rfl,hgb,kg0,-,-⟩:=OH.o.cell_ (k:=0) (by omega);have lg1:=kg0.lt;clear kg0;rw[lV,lH];have k3:Blk (w1.alloc (.cells #[.slice V 8 d1,.slice (some ⟨g,0,none⟩) 8 d2] tSt)) w1.heap.size tSt #[.slice V 8 d1,.slice (some ⟨g,0,none⟩) 8 d2]:=Blk.new _ _ _;have P1:=ax (OV.o.bz (bbox (Below.refl _ _) (.cells #[.slice V 8 d1,.slice (some ⟨g,0,none⟩) 8 d2] tSt)));have P2:=ax (OH.o.bz (bbox (Below.refl _ _) (.cells #[.slice V 8 d1,.slice (some ⟨g,0,none⟩) 8 d2] tSt)));replace k0:=k0.alloc (.cells #[.slice V 8 d1,.slice (some ⟨g,0,none⟩) 8 d2] tSt);replace k2:=k2.alloc (.cells #[.slice V 8 d1,.slice (some ⟨g,0,none⟩) 8 d2] tSt);have HB2:aJ (Below w.heap.size w (w1.alloc (.cells #[.slice V 8 d1,.slice (some ⟨g,0,none⟩) 8 d2] tSt))):=ax (bbox HB1.o _);have hz2:(w1.alloc (.cells #[.slice V 8 d1,.slice (some ⟨g,0,none⟩) 8 d2] tSt)).heap.size=w1.heap.size+1:=by simp
 obtain ⟨x3,hx3⟩:∃ x3,x3=w1.heap.size:=⟨_,rfl⟩;clear OV OH HB1;(replace qk0:=k0.z);(go_wp2_with fail);clear qk0;rw[←hx3] at k3 hz2 hz1 lg1 ⊢;clear hx3;generalize (w1.alloc (.cells #[.slice V 8 d1,.slice (some ⟨g,0,none⟩) 8 d2] tSt))=W2 at k0 k2 k3 P1 P2 HB2 hz2 ⊢;refine (c_filled9 A2 _ c2 bc a.atoms c _ (H2.o.bz HB2.o) (HI.o.bz HB2.o) HC.o.len HOK.o.2).mono ?_;rintro e w4 ⟨r4,rfl,o4,hB4⟩;obtain ⟨A4,c4,rfl,f4⟩:=o4.rj;have HLV:=ax f4;replace HB2:=ax (bgo HB2.o hB4);replace P1:=ax (P1.o.bz hB4);replace P2:=ax (P2.o.bz hB4);replace k2:=k2.nz hB4;replace k3:=k3.nz hB4;have hz4:=hB4.size;have hL:=f4.le;clear o4 f4 hB4 k0 H2 hV HC HOK HI;obtain ⟨L,hLe⟩:∃ L,L=filledL a.atoms c:=⟨_,rfl⟩;rw[←hLe] at HLV HF hL HR HG ⊢;clear hLe;(go_wp2_with fail)
 go_loopw [12,13] (fun ix i wr=>∃ (k n:Nat) (h:List Int),k≤L.length∧n≤k∧i=.int .i64 k∧ix=.int .i64 n∧aJ (R=(growF vs mask last (L.drop k) n h).map fun h=>⟨vs,h⟩)∧aJ (GrowI vs h (L.drop k))∧aJ (IntsO wr w.heap.size (.slice V 8 d1) vs)∧aJ (IntsO wr w.heap.size (.slice (some ⟨g,0,none⟩) 8 d2) h)∧Blk wr (w.heap.size+1) tSt #[.slice none 0 0,.slice none 0 0]∧Blk wr x3 tSt #[.slice V 8 d1,.slice (some ⟨g,0,none⟩) 8 d2]∧aJ (AtomsV wr W2.heap.size w4.heap.size A4 L)∧aJ (Below w.heap.size w wr)∧aJ (w4.heap.size≤wr.heap.size)) (fun _ i _=>L.length - (intOf i).toNat)
 case atStart=>exact ⟨0,0,H0,Nat.zero_le _,Nat.le_refl _,rfl,rfl,HR.o,HG.o,P1.o,P2.o,k2,k3,HLV.o,HB2.o,Nat.le_refl _⟩
 case round=>
  clear HR HG P1 P2 k2 k3 HLV HB2;obtain ⟨k,n,h,hk,hnk,rfl,rfl,HR,HG,P1,P2,k2,k3,HLV,HB,HZ⟩:=hrel;have hzr:=HZ.o;by_cases hlt:k<L.length
  ·have hki:(k:Int)<(L.length:Int):=by omega
   obtain ⟨b,o,e0,g0,g1,g2⟩:=HLV.o.at hlt;obtain ⟨b',o',e1,hb1,-,-⟩:=HLV.o.raw.form (by omega);subst e0;injection e1 with e1;injection e1 with e1 e2;subst e1 e2;have hbl:=block_lt_of_cell g0;simp only at hbl;have HXF:=ax (HF.o _ (List.getElem_mem hlt));have eD:=List.drop_eq_getElem_cons hlt;rw[eD] at HR HG;clear eD;obtain ⟨x,hx⟩:∃ x,x=L[k]:=⟨_,rfl⟩;rw[←hx] at g0 g1 g2 HXF HR HG;clear hx;by_cases hk2:x.kind=2
   case neg=>
    have HR2:aJ (R=(growF vs mask last (L.drop (k+1)) n h).map fun h=>⟨vs,h⟩):=ax (by rw[HR.o,growF_skip hk2]);have HG2:=ax HG.o.tail;have hkb:(x.kind != 2)=true:=by simpa using hk2
    clear HR HG hk2;(go_wp2_with fail)
    go_round
    case rel=>exact ⟨k+1,n,h,by omega,by omega,by go_num,rfl,HR2.o,HG2.o,P1.o,P2.o,k2,k3,HLV.o,HB.o,HZ.o⟩
    case measure=>simp[intOf];omega
   have hkb:(x.kind != 2)=false:=by simpa using hk2
   have hma:=mask_and mask n hm;cases hbit:mask.testBit n
   ·have hmz:bits .and .i64 ((mask:Int) / 2 ^ min n 64) 1=0:=by rw[hma,hbit];rfl
    have HR2:aJ (R=(growF vs mask last (L.drop (k+1)) (n+1) h).map fun h=>⟨vs,h⟩):=ax (by rw[HR.o,growF_off hk2 hbit]);have HG2:=ax HG.o.tail;clear HR HG hk2 hma hbit;(go_wp2_with fail)
    go_round
    case rel=>exact ⟨k+1,n+1,h,by omega,by omega,by go_num,by go_num,HR2.o,HG2.o,P1.o,P2.o,k2,k3,HLV.o,HB.o,HZ.o⟩
    case measure=>simp[intOf];omega
   have hmz:bits .and .i64 ((mask:Int) / 2 ^ min n 64) 1=1:=by rw[hma,hbit];rfl
   have HBIT:=ax hbit;have HK2:=ax hk2;clear hma hbit hk2;have hxa:=HXF.o.1;have hxb:=HXF.o.2.1;have hlh:=HG.o.1;have HV8:=ax HMV.o.1;have q3:=k3.cell;have lx3:=k3.lt;obtain ⟨fa,hfa⟩:∃ fa,fa=tval vs x.a:=⟨_,rfl⟩;obtain ⟨fb,hfb⟩:∃ fb,fb=tval vs x.b:=⟨_,rfl⟩;have E1:=ax hfa;have E2:=ax hfb;have hfa8:1≤fa∧fa≤8:=by rw[hfa];exact HXF.o.2.2.1
   have hfb8:0≤fb∧fb≤8:=by rw[hfb];exact HXF.o.2.2.2
   clear hfa hfb
   have hST:aJ (StateV wr 0 wr.heap.size (.agg #[.slice V 8 d1,.slice (some ⟨g,0,none⟩) 8 d2]) ⟨vs,h⟩):=by
    have i1:=P1.o.readsI.2;have i2:=P2.o.readsI.2;refine ax ⟨V,d1,some ⟨g,0,none⟩,d2,?_,i1.mono (Nat.zero_le _) (Nat.le_refl _),i2.mono (Nat.zero_le _) (Nat.le_refl _)⟩;rw[show (Ste.mk vs h).values.length=8 from HV8.o,show (Ste.mk vs h).heap.length=8 from hlh]
   (go_wp2_with fail);refine wp_region_noPanic ?_;refine wp_region_held_drew (S:=(fun w'=>(∀ i,w'.cell? ⟨x3,i,none⟩=#[.slice V 8 d1,.slice (some ⟨g,0,none⟩) 8 d2][i]?)∧w'.cell? ⟨b,o+k*3+2,none⟩=some (.int .i64 x.b))) (by kernel_rfl) (⟨k3.drew.cell,g2⟩) (fun aH=>?_);refine tk2 0 rfl aH (h:=tk2 1 rfl aH (h:=tk2 2 rfl aH (h:=?_)));(try simp only[zz]);refine tk2 3 rfl aH (h:=tk2 4 rfl aH (h:=tk2 5 rfl aH (h:=?_)));(try simp only[zz]);refine tk2 6 rfl aH (h:=tk2 7 rfl aH (h:=tk2 9 rfl aH (h:=?_)));refine rdc 8 rfl fun K hK=>?_;(try simp only[zz]);(go_simp;refine (c_l1V8 _ d1 vs x.b _ (P1.o.readsI.2.bz (Below.refl _ _).drew) HV8.o hxb.1 hxb.2).mono ?_;rintro e w6 ⟨rfl,rfl⟩;rw[←E2.o]);refine hK.out _ _ (⟨k3.drew.cell,g2⟩) ?_;clear aH hK K;intro aH;refine rdc 10 rfl fun K hK=>?_;(try simp only[zz]);(go_simp;refine (c_spec_l6Room _ ⟨vs,h⟩ fb last _ (hST.o.bz (Below.refl _ _).drew) hlh).mono ?_;rintro e w6 ⟨rfl,hB6⟩;replace hB6:Below wr.heap.size wr w6:=(Below.refl _ _).drew.trans hB6;have k3':=k3.nz hB6;have g2':=(hB6.cell (p:=⟨b,o+k*3+2,none⟩) hbl).trans g2);refine hK.out _ _ (⟨k3'.cell,g2'⟩) ?_;clear aH hK K;intro aH;refine rdc 11 rfl fun K hK=>?_;(try simp only[zz]);go_simp;refine hK.out _ _ (⟨k3'.cell,g2'⟩) ?_;clear aH hK K;intro aH;(try simp only[zz]);refine dn1 ?_;have hz6:=hB6.size;have M1:=ax (P1.o.bz hB6);have M2:=ax (P2.o.bz hB6);have m2:=k2.nz hB6;have m3:=k3.nz hB6;have g1':=(hB6.cell (p:=⟨b,o+k*3+1,none⟩) hbl).trans g1;have HLV6:=ax (HLV.o.bz hB6);have HB6:=ax (bgo HB.o hB6);clear hB6 P1 P2 k2 k3 k3' HLV HB hST q3 lx3 g0 g1 g2;have HRN:=ax (fun (e:roomF h (tval vs x.b) last=0)=>(show R=none from by rw[HR.o,growF_none HK2.o HBIT.o e];rfl));have HRS:=ax (fun (e:roomF h (tval vs x.b) last≠0)=>(show R=(growF vs mask last (L.drop (k+1)) (n+1) ((h.set (roomF h (tval vs x.b) last - 1).toNat (tval vs x.b)).set (tval vs x.a - 1).toNat (roomF h (tval vs x.b) last))).map fun h=>⟨vs,h⟩ from by rw[HR.o,growF_some HK2.o HBIT.o e]));have HGS:=ax (fun (e:roomF h (tval vs x.b) last≠0)=>(show GrowI vs ((h.set (roomF h (tval vs x.b) last - 1).toNat (tval vs x.b)).set (tval vs x.a - 1).toNat (roomF h (tval vs x.b) last)) (L.drop (k+1)) from by rw[grow_comm HG.o e];exact HG.o.step HMV.o.2 e));have HRF:=ax (fun (e:roomF h (tval vs x.b) last≠0)=>roomF_le e)
   have hneq:=ax (fun (e:roomF h (tval vs x.b) last≠0)=>(show tval vs x.a≠roomF h (tval vs x.b) last from fun e2=>by
    have h1:=HG.o.2 x List.mem_cons_self
    rw[e2,(roomF_free e).2.1] at h1;cases h1))
   rw[←E1.o,←E2.o] at HRS HGS hneq;rw[←E2.o] at HRN HRF;clear HR HG HBIT HK2;have hlh2:=ax hlh;clear hlh;by_cases hr0:roomF h fb last=0
   ·have hR0:=ax (HRN.o hr0);have hd:(roomF h fb last == 0)=true:=by simp[hr0]
    clear HRN HRS HGS HRF hneq;(replace qm2:=m2.cell;replace rm2:=m2.frozen;replace lm2:=m2.lt;replace qm3:=m3.z);(go_wp2_with fail);refine bodyPost_ret (v:=.tuple #[.agg #[.slice V 8 d1,.slice (some ⟨g,0,none⟩) 8 d2],.bool false]) (by simp[results,Tryz.results155,go_sem,qm2,lm2]) rfl ⟨.agg #[.slice V 8 d1,.slice (some ⟨g,0,none⟩) 8 d2],⟨vs,h⟩,?_,⟨.slice V 8 d1,.slice (some ⟨g,0,none⟩) 8 d2,rfl,?_,?_,?_⟩,?_,?_⟩
    ·rw[hR0.o];rfl
    ·exact (M1.o.setT m2 (by decide) 0 _).setT (m2.set_ 0 _) (by decide) 1 _
    ·exact (M2.o.setT m2 (by decide) 0 _).setT (m2.set_ 0 _) (by decide) 1 _
    ·exact DJ.o
    ·rw[hR0.o];exact fun h=>by cases h
    ·exact (HB6.o.setCell (p:=⟨w.heap.size+1,0,none⟩) (by simp only;omega) _).setCell (p:=⟨w.heap.size+1,1,none⟩) (by simp only;omega) _
   ·have hd:(roomF h fb last == 0)=false:=by simpa using hr0
    have hR2:=ax (HRS.o hr0);have hG2:=ax (HGS.o hr0);have hrr:=HRF.o hr0;have hne:=hneq.o hr0;clear HRN HRS HGS HRF hneq hr0;obtain ⟨rr,hrre⟩:∃ rr,rr=roomF h fb last:=⟨_,rfl⟩;rw[←hrre] at hR2 hG2 hrr hne hd ⊢;clear hrre;obtain ⟨m,rfl⟩:∃ m:Nat,fa=(m:Int)+1:=⟨(fa - 1).toNat,by omega⟩;obtain ⟨q,rfl⟩:∃ q:Nat,rr=(q:Int)+1:=⟨(rr - 1).toNat,by omega⟩;have hm8:m<8:=by omega
    have hq8:q<8:=by omega
    have hmi:(m:Int)<8:=by omega
    have hqi:(q:Int)<8:=by omega
    rw[show ((m:Int)+1 - 1).toNat=m by omega,show ((q:Int)+1 - 1).toNat=q by omega] at hR2 hG2;obtain ⟨c0,st0⟩:=M2.o.at8 (k:=q) (by have:=hlh2.o;omega);obtain ⟨fr0,lg0,-,cs,kg⟩:=M2.o.at8B (k:=q) (by have:=hlh2.o;omega);have N2:=ax (st0 fb);have hn2:=m2.ne_ kg (by decide);have hn3:=m3.ne_ kg (by decide);have hw1:IntKind.i64.wrap ((m:Int)+1 - 1)=(m:Int):=by rw[show (m:Int)+1 - 1=(m:Int) by omega];exact IntWalk.i64_in _ (by omega)
    have hw2:IntKind.i64.wrap ((q:Int)+1 - 1)=(q:Int):=by rw[show (q:Int)+1 - 1=(q:Int) by omega];exact IntWalk.i64_in _ (by omega)
    have hwm:IntKind.i64.wrap (m:Int)=(m:Int):=IntWalk.i64_in _ (by omega);have hwq:IntKind.i64.wrap (q:Int)=(q:Int):=IntWalk.i64_in _ (by omega);have hbg:b≠g:=by omega
    have q3:=m3.cell;have l3:=m3.lt;have hb6:=block_lt_of_cell g2';simp only at hb6;clear st0 kg;(go_upto_region 14 with fail);refine wp_region_noPanic ?_;refine wp_region_held_drew (S:=(fun w'=>(∀ i,w'.cell? ⟨x3,i,none⟩=#[.slice V 8 d1,.slice (some ⟨g,0,none⟩) 8 d2][i]?)∧w'.cell? ⟨b,o+k*3+2,none⟩=some (.int .i64 x.b))) (by kernel_rfl) (⟨m3.drew.cell,g2'⟩) (fun aH=>?_);refine tk2 0 rfl aH (h:=tk2 1 rfl aH (h:=tk2 2 rfl aH (h:=?_)));(try simp only[zz]);refine tk2 3 rfl aH (h:=tk2 4 rfl aH (h:=tk2 5 rfl aH (h:=?_)));(try simp only[zz]);refine tk2 6 rfl aH (h:=tk2 7 rfl aH (h:=tk2 8 rfl aH (h:=?_)));(try simp only[zz]);refine tk2 9 rfl aH (h:=tk2 10 rfl aH (h:=?_));refine rdc 11 rfl fun K hK=>?_;(try simp only[zz]);(go_simp;refine (c_l1V8 _ d1 vs x.b _ (M1.o.readsI.2.bz (Below.refl _ _).drew) HV8.o hxb.1 hxb.2).mono ?_;rintro e w7 ⟨rfl,rfl⟩;rw[←E2.o]);refine hK.out _ _ (⟨m3.drew.cell,g2'⟩) ?_;clear aH hK K;intro aH;(try simp only[zz]);refine tk2 12 rfl aH (h:=?_);refine rdc 13 rfl fun K hK=>?_;(try simp only[zz]);go_simp;refine hK.out _ _ (⟨(m3.drew.far (p:=⟨g,q,none⟩) hn3 _).cell,(World.cell?_of_block (a:=⟨b,o+k*3+2,none⟩) (Below.heap_setCell _ ⟨g,q,none⟩ _ b (by simp only;omega))).trans g2'⟩) ?_;clear aH hK K;intro aH;(try simp only[zz]);refine dn1 ?_;have N1:=ax ((M1.o.set_ne (q:=⟨g,q,none⟩) (fun e=>DJ.o _ e rfl) (.int .i64 fb)).bz (w':=(w6.setCell ⟨g,q,none⟩ (.int .i64 fb)).drew) (Below.refl _ _).drew);replace N2:=ax (N2.o.bz (w':=(w6.setCell ⟨g,q,none⟩ (.int .i64 fb)).drew) (Below.refl _ _).drew);have n2:=(m2.far (p:=⟨g,q,none⟩) hn2 (.int .i64 fb)).drew;have n3:=(m3.far (p:=⟨g,q,none⟩) hn3 (.int .i64 fb)).drew;have HLVN:=ax ((Rd.setb HLV6.o (p:=⟨g,q,none⟩) (Or.inl (by simp only;omega)) (.int .i64 fb):AtomsV _ _ _ _ _).bz (w':=(w6.setCell ⟨g,q,none⟩ (.int .i64 fb)).drew) (Below.refl _ _).drew);have HBN:=ax (HB6.o.setCell (p:=⟨g,q,none⟩) hgb (.int .i64 fb)).drew;have hzn:(w6.setCell ⟨g,q,none⟩ (.int .i64 fb)).drew.heap.size=w6.heap.size:=by simp
    have g1n:(w6.setCell ⟨g,q,none⟩ (.int .i64 fb)).drew.cell? ⟨b,o+k*3+1,none⟩=some (.int .i64 x.a):=(World.cell?_of_block (a:=⟨b,o+k*3+1,none⟩) (Below.heap_setCell _ ⟨g,q,none⟩ _ b (by simp only;omega))).trans g1';clear c0 fr0 lg0 q3 l3 M1 M2 m2 m3 HLV6 HB6 g1' g2';(go_upto_region 15 with fail);generalize (w6.setCell ⟨g,q,none⟩ (.int .i64 fb)).drew=W7 at N1 N2 n2 n3 HLVN HBN hzn g1n ⊢;obtain ⟨c1',st1⟩:=N2.o.at8 (k:=m) (by have:=hlh2.o;simp only[List.length_set];omega);obtain ⟨fr1,lg1',-,-⟩:=N2.o.at8B (k:=m) (by have:=hlh2.o;simp only[List.length_set];omega);have N3:=ax (st1 ((q:Int)+1));have q3:=n3.cell;have l3:=n3.lt;have hb7:b<W7.heap.size:=by omega
    clear st1;refine wp_region_noPanic ?_;refine wp_region_held_drew (S:=(fun w'=>(∀ i,w'.cell? ⟨x3,i,none⟩=#[.slice V 8 d1,.slice (some ⟨g,0,none⟩) 8 d2][i]?)∧w'.cell? ⟨b,o+k*3+1,none⟩=some (.int .i64 x.a))) (by kernel_rfl) (⟨n3.drew.cell,g1n⟩) (fun aH=>?_);refine tk2 0 rfl aH (h:=tk2 1 rfl aH (h:=tk2 2 rfl aH (h:=?_)));(try simp only[zz]);refine tk2 3 rfl aH (h:=tk2 4 rfl aH (h:=tk2 5 rfl aH (h:=?_)));(try simp only[zz]);refine tk2 6 rfl aH (h:=tk2 7 rfl aH (h:=tk2 8 rfl aH (h:=?_)));(try simp only[zz]);refine tk2 11 rfl aH (h:=?_);refine rdc 9 rfl fun K hK=>?_;(try simp only[zz]);(go_simp;refine (c_l1V8 _ d1 vs x.a _ (N1.o.readsI.2.bz (Below.refl _ _).drew) HV8.o hxa.1 hxa.2).mono ?_;rintro e w7 ⟨rfl,rfl⟩;rw[←E1.o]);refine hK.out _ _ (⟨n3.drew.cell,g1n⟩) ?_;clear aH hK K;intro aH;(try simp only[zz]);refine tk2 10 rfl aH (h:=tk2 12 rfl aH (h:=?_));refine rdc 13 rfl fun K hK=>?_;(try simp only[zz]);go_simp;refine hK.out _ _ (⟨(n3.drew.far (p:=⟨g,m,none⟩) hn3 _).cell,(World.cell?_of_block (a:=⟨b,o+k*3+1,none⟩) (Below.heap_setCell _ ⟨g,m,none⟩ _ b (by simp only;omega))).trans g1n⟩) ?_;clear aH hK K;intro aH;(try simp only[zz]);refine dn1 ?_;(go_wp2_with fail)
    go_round
    case rel=>exact ⟨k+1,n+1,_,by omega,by omega,by go_num,by go_num,hR2.o,hG2.o,(N1.o.set_ne (q:=⟨g,m,none⟩) (fun e=>DJ.o _ e rfl) _).bz (Below.refl _ _).drew,N3.o.bz (Below.refl _ _).drew,(n2.far (p:=⟨g,m,none⟩) hn2 _).drew,(n3.far (p:=⟨g,m,none⟩) hn3 _).drew,(Rd.setb HLVN.o (p:=⟨g,m,none⟩) (Or.inl (by simp only;omega)) _:AtomsV _ _ _ _ _).bz (Below.refl _ _).drew,(HBN.o.setCell (p:=⟨g,m,none⟩) hgb _).drew,by show _≤_;simp only[World.size_drew,World.size_setCell];omega⟩
    case measure=>simp[intOf];omega
  ·obtain rfl:k=L.length:=by omega
   have HR2:aJ (R=some ⟨vs,h⟩):=ax (by rw[HR.o,List.drop_length,growF];rfl);have hlh:=HG.o.1;have lv8:=HMV.o.1;(replace qk2:=k2.cell;replace rk2:=k2.frozen;replace lk2:=k2.lt;replace qk3:=k3.z);clear HR HG;(go_wp2_with fail);refine bodyPost_ret (v:=.tuple #[.agg #[.slice V 8 d1,.slice (some ⟨g,0,none⟩) 8 d2],.bool true]) (by simp[results,Tryz.results155,go_sem,qk2,lk2]) rfl ⟨.agg #[.slice V 8 d1,.slice (some ⟨g,0,none⟩) 8 d2],⟨vs,h⟩,?_,⟨.slice V 8 d1,.slice (some ⟨g,0,none⟩) 8 d2,rfl,?_,?_,?_⟩,?_,?_⟩
   ·rw[HR2.o];rfl
   ·exact (P1.o.setT k2 (by decide) 0 _).setT (k2.set_ 0 _) (by decide) 1 _
   ·exact (P2.o.setT k2 (by decide) 0 _).setT (k2.set_ 0 _) (by decide) 1 _
   ·exact DJ.o
   ·exact fun _=>HR2.o
   ·exact (HB.o.setCell (p:=⟨w.heap.size+1,0,none⟩) (by simp only;omega) _).setCell (p:=⟨w.heap.size+1,1,none⟩) (by simp only;omega) _
def outAt (a:Asn) (S n:Nat) (c:List Int) (xss:List (List Int)) (k:Nat):List (List Int):=xss++(List.range k).flatMap (seekAt a S n c)
section
variable {a:Asn} {S n:Nat} {c:List Int} {xss:List (List Int)} {k N:Nat}
theorem outAt_zero:outAt a S n c xss 0=xss:=by simp[outAt]
theorem outAt_succ:outAt a S n c xss (k+1)=outAt a S n c xss k++seekAt a S n c k:=by
 unfold outAt;rw[List.range_succ,List.flatMap_append];simp
theorem outAt_len (hk:k<N):(outAt a S n c xss k).length+(seekAt a S n c k).length≤xss.length+((List.range N).flatMap (seekAt a S n c)).length:=by
 obtain ⟨m,rfl⟩:∃ m,N=k+(m+1):=⟨N - k - 1,by omega⟩;unfold outAt;rw[List.range_add,List.range_succ_eq_map,List.map_cons,List.flatMap_append,List.flatMap_cons,Nat.add_zero];simp only[List.length_append];omega
end
theorem c_spec_l5Cases {a:Asn} {S lo hi lo2 hi2 base:Nat} {A1 A2:Option Addr} {d1 d2:Nat} (T:Option Addr) (tc:Nat) (hv:a.valid=true) (hhi:hi≤base) (hhi2:hi2≤base) :
  ∀ (n:Nat) (c:List Int) (B:Option Addr) (cc bI:Nat) (w:World) (vs:List Value) (xss:List (List Int)) (O:Option Addr) (oc:Nat),n≤8→c.length=9→(∀ j:Nat,j<9 - n→S.testBit j=true→0≤cl c j∧cl c j≤j)→(∀ j:Nat,j<9→cl c j≤8)→
   AsnV w lo hi (.agg #[.slice A1 a.facts.length d1,.slice A2 a.atoms.length d2]) a→BoolsV w lo2 hi2 T (zj S)→IntsO w bI (.slice B 9 cc) c→SSO w base (.slice O xss.length oc) vs xss→base≤w.heap.size→xss.length+(seek a S n c).length≤400000→
   Calls Tryz.prog 254 #[.slice O xss.length oc,.agg #[.slice A1 a.facts.length d1,.slice A2 a.atoms.length d2],.slice T 9 tc,.slice B 9 cc,.int .i64 ((9 - n:Nat):Int)] w fun e w'=>
    ∃ r vs',e=.returned r∧SSO w' base r vs' (xss++seek a S n c)∧KX w w'∧Below base w w':=by
 intro n
 induction n with
 | zero=>
  intro c B cc bI w vs xss O oc hn hc _ hc8 hA hT hI hSO hbw hlen;have HO:=ax (Asn.valid_ok hv);have hV:=ax hA;have HC:=ax hc;have HII:=ax hI;have HSO:=ax hSO;have HI:aJ (IntsV w bI w.heap.size B c):=hI.readsI.2
  have HCL:aJ (∀ x∈a.atoms,cl c x.a≤8):=fun x hx=>by
   have:=(HO.o.2 x hx).1;obtain ⟨t,et⟩:=Int.eq_ofNat_of_zero_le this.1;rw[et];exact hc8 t (by omega)
  obtain ⟨B1,e1,B2,e2,he,h1,h2⟩:=hA;injection he with he;injection he with he;injection he with he1 he2;injection he2 with he2 he3;injection he1 with he1 _ he4;injection he2 with he2 _ he5;subst he1 he4 he2 he5;have H1:=ax h1;have H2:=ax h2;have HLN:=ax hlen;clear h1 h2 hc hc8 hT hI he3 hSO hlen;(go_enter Tryz.func254,Tryz.ntmps254);(go_wp2_with fail);refine (c_fits9 A1 B d1 cc a.facts c _ (H1.o.bz bel) (HI.o.bz bel) HC.o HO.o.1).mono ?_;rintro e w1 ⟨rfl,rfl⟩;cases hf:fitsS c a.facts
  ·have E:=ax (seek_cut (a:=a) (S:=S) 0 (c:=c) (by rw[hf];rfl));clear hf;(go_wp2_with fail);go_ret;exact ⟨_,vs,rfl,by rw[E.o,List.append_nil];exact HSO.o.bz bel,KX.of bel,btoB (w:=w) bel hbw⟩
  have HF:=ax hf;clear hf;(go_wp2_with fail);refine (c_early9 A2 B d2 cc a.atoms c _ (H2.o.bz bel) (HI.o.bz bel) HC.o HO.o.2 HCL.o).mono ?_;rintro e w2 ⟨rfl,hB2⟩;have hB:Below w.heap.size w w2:=bgo (w:=w) bel hB2;have k0:Blk w2 w.heap.size tAs #[.slice A1 a.facts.length d1,.slice A2 a.atoms.length d2]:=Blk.nz blks hB2;have q0:=k0.cell;have l0:=k0.lt;clear hB2;cases he:earlyF c [] a.atoms
  ·have E:=ax (seek_cut (a:=a) (S:=S) 0 (c:=c) (by rw[HF.o,he];rfl));clear he;(go_wp2_with fail);go_ret;exact ⟨_,vs,rfl,by rw[E.o,List.append_nil];exact HSO.o.bz hB,KX.of hB,btoB hB hbw⟩
  have E0:=ax (seek_leaf (a:=a) (S:=S) (c:=c) (by rw[HF.o,he];rfl));clear he;(go_wp2_with fail);refine (c_filled9 A2 B d2 cc a.atoms c _ (H2.o.bz hB) (HI.o.bz hB) HC.o HO.o.2).mono ?_;rintro e w3 ⟨r3,rfl,o3,hB3⟩;obtain ⟨R3,e3,rfl,v3⟩:=o3.rj;have hBB:Below w.heap.size w w3:=bgo hB hB3;(go_wp2_with fail);refine (c_spec_l5Apart R3 e3 (filledL a.atoms c) _ v3).mono ?_;rintro e w4 ⟨rfl,hB4⟩;have hB5:Below w.heap.size w w4:=bgo hBB hB4;have hz:=hB5.size;clear o3 v3 hB3 hB4 hBB q0 l0 k0 hB;cases hap:apartF [] (filledL a.atoms c)
  ·have E:=ax (show seek a S 0 c=[] by rw[E0.o,hap];rfl);clear hap;(go_wp2_with fail);go_ret;exact ⟨_,vs,rfl,by rw[E.o,List.append_nil];exact HSO.o.bz hB5,KX.of hB5,btoB hB5 hbw⟩
  ·have E:=ax (show seek a S 0 c=[c] by rw[E0.o,hap];rfl);clear hap;have hl1:xss.length+1≤1049600:=by have:=HLN.o;rw[E.o] at this;simp at this;omega
   go_wp2_with (first
    | (at_builtin;refine appIL (ys:=c) (base:=w4.heap.size) rfl _ _ rfl (v:=.slice (some ⟨w4.heap.size,0,none⟩) 0 0) rfl (IntsO.empty w4 rfl) (by rw[HC.o];rfl) (HI.o.bz bel) (by rw[HC.o];simp) (by simp) ?_;intro A' c' w5 o5 hg5 hB6;rw[List.nil_append,HC.o] at o5 ⊢;have hB7:Below w.heap.size w w5:=Below.trans bel (hB6.mono hz);have o5l:=o5.bq hz)
    | (at_builtin;refine appSS (w0:=w) (xss:=xss) (vs:=vs) (base:=base) rfl _ _ rfl rfl HSO.o bel hbw (ys:=c) (IntsO.bz o5l bel) (Blk.new w5 tIS _) rfl hl1 ?_;intro A2' c2' w6 hS6 hg6 hB8))
   go_ret;exact ⟨_,_,rfl,by rw[E.o];simpa using hS6,KX.trans (KX.of (w:=w) bel) (KX.app (own_below HSO.o.row bel) hg6),Below.trans (btoB (w:=w) bel hbw) hB8⟩
 | succ n ih=>
  intro c B cc bI w vs xss O oc hn hc hcl hc8 hA hT hI hSO hbw hlen;have HO:=ax (Asn.valid_ok hv);have hV:=ax hA;have HC:=ax hc;have HTT:=ax hT;have HC8:=ax hc8;have HCL0:=ax hcl;have IH:=ax ih;have HLN:=ax hlen;have HSO:=ax hSO
  have HCL:aJ (∀ x∈a.atoms,cl c x.a≤8):=fun x hx=>by
   have:=(HO.o.2 x hx).1;obtain ⟨t,et⟩:=Int.eq_ofNat_of_zero_le this.1;rw[et];exact hc8 t (by omega)
  obtain ⟨B1,e1,B2,e2,he,h1,h2⟩:=hA;injection he with he;injection he with he;injection he with he1 he2;injection he2 with he2 he3;injection he1 with he1 _ he4;injection he2 with he2 _ he5;subst he1 he4 he2 he5;have H1:=ax h1;have H2:=ax h2;obtain ⟨tb,tz0,rfl,ltb⟩:=flags_addr hT;obtain ⟨pb,ob,rfl,lpb⟩:=hI.readsI.2.blt (k:=0) (by omega);have HII:=ax hI;have HI:aJ (IntsV w bI w.heap.size (some ⟨pb,ob,none⟩) c):=hI.readsI.2;obtain ⟨m,hm8⟩:∃ m,m=8 - n:=⟨_,rfl⟩;have E1:aJ (((9 - n:Nat):Int)=(m:Int)+1):=by show _=_;omega
  rw[show 9 - (n+1)=m from by omega] at HCL0 ⊢;have HM8:=ax hm8;have HN:=ax hn;have hmg:¬(8<(m:Int)):=by omega
  have hmi9:(m:Int)<9:=by omega
  clear h1 h2 hc hc8 hcl hT hI he3 ih hm8 hn hSO hlen;(go_enter Tryz.func254,Tryz.ntmps254);(go_wp2_with fail);refine (c_fits9 A1 _ d1 cc a.facts c _ (H1.o.bz bel) (HI.o.bz bel) HC.o HO.o.1).mono ?_;rintro e w1 ⟨rfl,rfl⟩;cases hf:fitsS c a.facts
  ·have E:=ax (seek_cut (a:=a) (S:=S) (n+1) (c:=c) (by rw[hf];rfl));clear hf;(go_wp2_with fail);go_ret;exact ⟨_,vs,rfl,by rw[E.o,List.append_nil];exact HSO.o.bz bel,KX.of bel,btoB (w:=w) bel hbw⟩
  have HF:=ax hf;clear hf;(go_wp2_with fail);refine (c_early9 A2 _ d2 cc a.atoms c _ (H2.o.bz bel) (HI.o.bz bel) HC.o HO.o.2 HCL.o).mono ?_;rintro e w2 ⟨rfl,hB2⟩;have hB:Below w.heap.size w w2:=bgo (w:=w) bel hB2;have k0:Blk w2 w.heap.size tAs #[.slice A1 a.facts.length d1,.slice A2 a.atoms.length d2]:=Blk.nz blks hB2;have q0:=k0.cell;have l0:=k0.lt;clear hB2;cases he:earlyF c [] a.atoms
  ·have E:=ax (seek_cut (a:=a) (S:=S) (n+1) (c:=c) (by rw[HF.o,he];rfl));clear he;(go_wp2_with fail);go_ret;exact ⟨_,vs,rfl,by rw[E.o,List.append_nil];exact HSO.o.bz hB,KX.of hB,btoB hB hbw⟩
  have E0:=ax (seek_step (a:=a) (S:=S) (n:=n) (c:=c) (by rw[HF.o,he];rfl));clear he;have qt:=flags_at (HTT.o.bz hB) (m:=m) (by omega);have hz0:=hB.size;cases ht:S.testBit m
  ·rw[ht] at qt;have E:aJ (seek a S (n+1) c=seek a S n c):=by show _=_;rw[E0.o,←HM8.o,ht];rfl
   have ih1:=IH.o c _ cc bI w2 vs xss O oc (by have:=HN.o;omega) HC.o (fun j hj hS=>by
    by_cases e:j=m
    ·subst e;rw[ht] at hS;cases hS
    ·exact HCL0.o j (by have:=HM8.o;have:=HN.o;omega) hS) HC8.o (hV.o.bz hB) (HTT.o.bz hB) (HII.o.bz hB) (HSO.o.bz hB) (by omega) (by rw[←E.o];exact HLN.o)
   rw[E1.o] at ih1;have IH1:=ax ih1;clear ih1 ht;(go_wp2_with fail);refine IH1.o.mono ?_;rintro e w3 ⟨r,vs3,rfl,h3,hK3,hB3⟩;have H3:=ax h3;have HK3:=ax hK3;clear h3 hK3;(go_wp2_with fail);go_ret;exact ⟨r,vs3,rfl,by rw[E.o];exact H3.o,KX.trans (KX.of hB) HK3.o,Below.trans (btoB hB hbw) hB3⟩
  ·rw[ht] at qt;have E:aJ (seek a S (n+1) c=(List.range (9 - n)).flatMap (seekAt a S n c)):=by show _=_;rw[E0.o,←HM8.o,ht];rfl
   clear ht;(go_wp2_with fail)
   go_loopw [0,11] (fun q i wr=>∃ (k:Nat) (O':Option Addr) (oc':Nat) (vs':List Value),k≤m+1∧i=.int .i64 k∧q=.slice O' (outAt a S n c xss k).length oc'∧aJ (SSO wr base (.slice O' (outAt a S n c xss k).length oc') vs' (outAt a S n c xss k))∧aJ (KX w wr)∧Blk wr w.heap.size tAs #[.slice A1 a.facts.length d1,.slice A2 a.atoms.length d2]∧Below base w wr) (fun _ i _=>9 - (intOf i).toNat)
   case atStart=>exact ⟨0,O,oc,vs,Nat.zero_le _,rfl,by rw[outAt_zero],by show SSO _ _ _ _ _;rw[outAt_zero];exact HSO.o.bz hB,KX.of hB,k0,btoB hB hbw⟩
   case round=>
    clear k0 hB q0 l0 qt hz0;obtain ⟨k,O',oc',vs',hk,rfl,rfl,HS,HK,k0,hB⟩:=hrel;have q0:=k0.cell;have l0:=k0.lt;have hz:=hB.size;have HIR:aJ (IntsV wr bI wr.heap.size (some ⟨pb,ob,none⟩) c):=(HK.o.ints HII.o).readsI.2;by_cases hlt:k≤m
    ·have hki:(k:Int)≤(m:Int):=by omega
     have hk9:(k:Int)<9:=by omega
     have hkc:=ints_cl HIR.o (m:=k) (by rw[HC.o];omega);have HNX:=ax (outAt_succ (a:=a) (S:=S) (n:=n) (c:=c) (xss:=xss) (k:=k));by_cases hskip:k<m∧cl c k≠k
     ·have HX:aJ (seekAt a S n c k=[]):=by show _=_;rw[seekAt,if_pos (by rw[←HM8.o];exact hskip)]
      have HX2:aJ (outAt a S n c xss (k+1)=outAt a S n c xss k):=by show _=_;rw[HNX.o,HX.o,List.append_nil]
      have hkm:(k:Int)<(m:Int):=by omega
      have hne:(cl c k != (k:Int))=true:=by simpa using hskip.2
      clear hskip hki hlt;(go_wp2_with fail)
      go_round
      case rel=>exact ⟨k+1,O',oc',vs',by omega,by go_num,by rw[HX2.o],by show SSO _ _ _ _ _;rw[HX2.o];exact HS.o,HK,k0,hB⟩
      case measure=>simp[intOf];omega
     ·have hsk2:k<m→(cl c k != (k:Int))=false:=fun h=>by
       cases Int.decEq (cl c k) k with
       | isTrue h=>simp[h]
       | isFalse h'=>exact absurd ⟨h,h'⟩ hskip
      have HX:aJ (seekAt a S n c k=seek a S n (c.set m k)):=by
       show _=_;rw[seekAt,←HM8.o,if_neg hskip]
      clear hskip;have hcs:(c.set m (k:Int)).length=9:=by simpa using HC.o
      have HCS:=ax hcs
      have hcl':∀ j:Nat,j<9 - n→S.testBit j=true→0≤cl (c.set m (k:Int)) j∧cl (c.set m (k:Int)) j≤j:=fun j hj hSj=>by
       have:=HM8.o;have:=HN.o;rw[cl_set HC.o (by omega) _ (by omega)]
       split
       ·omega
       ·exact HCL0.o j (by omega) hSj
      have HCL':=ax hcl'
      have hc8':∀ j:Nat,j<9→cl (c.set m (k:Int)) j≤8:=fun j hj=>by
       rw[cl_set HC.o (by omega) _ (by omega)]
       split
       ·omega
       ·exact HC8.o j hj
      have HC8':=ax hc8';clear hcl' hc8' hcs;obtain hkm|hkm:k<m∨k=m:=by omega
      case' inl=>have h1:(k:Int)<(m:Int):=by omega
      case' inl=>have h2:=hsk2 hkm
      case' inr=>have h1:¬(k:Int)<(m:Int):=by omega
      all_goals
       clear hkm hsk2;(go_wp2_with (at_builtin;refine appIL (ys:=c) (base:=wr.heap.size) rfl _ _ rfl (v:=.slice (some ⟨wr.heap.size,0,none⟩) 0 0) rfl (IntsO.empty wr rfl) (by rw[HC.o];rfl) (HIR.o.bz bel) (by rw[HC.o];simp) (by simp) ?_;intro A' c' w5 o5 hg5 hB6;rw[List.nil_append,HC.o] at o5 ⊢;obtain ⟨g,cur,-,rfl,hgb,kg,hcm,hset⟩:=o5.open_ (k:=m) (by rw[HC.o];omega);have qg:=(kg.cell m).trans hcm;have rg:=kg.frozen;have lg:=kg.lt;have HSET:=ax (hset k);have k5:=Blk.bz (g:=w.heap.size) (w:=wr.alloc (.cells #[] tI)) (k0.alloc _) hB6 l0;have hB5:Below wr.heap.size wr w5:=Below.trans bel hB6;have k6:=k5.far (p:=⟨g,m,none⟩) (by simp only;omega) (.int .i64 k);have q6:=k6.cell;clear hset o5 kg hcm q0 hg5));have hW:Below wr.heap.size wr (w5.setCell ⟨g,m,none⟩ (.int .i64 k)):=hB5.setCell (p:=⟨g,m,none⟩) hgb _;have hzW:=hW.size;have hB7:Below base w (w5.setCell ⟨g,m,none⟩ (.int .i64 k)):=Below.trans hB (btoB hW (by omega));have HK7:aJ (KX w (w5.setCell ⟨g,m,none⟩ (.int .i64 k))):=KX.trans HK.o (KX.of hW)
       have hll:(outAt a S n c xss k).length+(seek a S n (c.set m (k:Int))).length≤400000:=by
        have h1:=HLN.o;have h2:=outAt_len (a:=a) (S:=S) (n:=n) (c:=c) (xss:=xss) (k:=k) (N:=9 - n) (by have:=HM8.o;have:=HN.o;omega);rw[E.o] at h1;rw[HX.o] at h2;omega
       have ih1:=IH.o (c.set m (k:Int)) _ c' wr.heap.size _ vs' (outAt a S n c xss k) O' oc' (by have:=HN.o;omega) HCS.o HCL'.o HC8'.o (hV.o.keepB hB7 hhi) (HTT.o.keepB hB7 hhi2) HSET.o (HS.o.bz hW) (by omega) hll;rw[E1.o] at ih1;refine ih1.mono ?_;clear ih1 q6 k5 qg rg hll;rintro e w8 ⟨r,vs8,rfl,h8,hK8,hB8⟩;obtain ⟨O8,d8,rfl⟩:=h8.form;have HE:outAt a S n c xss k++seek a S n (c.set m (k:Int))=outAt a S n c xss (k+1):=by rw[HNX.o,HX.o]
       rw[HE] at h8 ⊢;have H8:=ax h8;have k8:=hK8.blk k6 (by decide);have HK8:=ax (KX.trans HK7.o hK8);have hBn:=Below.trans hB7 hB8;clear h8 hB8 hK8 k6 hB7 hB5 hB6 hW HE;(go_wp2_with fail)
       go_round
       case rel=>exact ⟨k+1,O8,d8,vs8,by omega,by go_num,rfl,H8,HK8,k8,hBn⟩
       case measure=>simp[intOf];omega
    ·obtain rfl:k=m+1:=by omega
     have E2:aJ (xss++seek a S (n+1) c=outAt a S n c xss (m+1)):=by show _=_;rw[E.o,show 9 - n=m+1 from by have:=HM8.o;have:=HN.o;omega];rfl
     (go_wp2_with fail);go_ret;exact ⟨_,vs',rfl,by rw[E2.o];exact HS.o,HK.o,hB⟩
theorem c_spec_l5All {a:Asn} {S lo hi lo2 hi2:Nat} {A1 A2:Option Addr} {d1 d2:Nat} (T:Option Addr) (tc:Nat) (w:World) (hv:a.valid=true) (h:AsnV w lo hi (.agg #[.slice A1 a.facts.length d1,.slice A2 a.atoms.length d2]) a) (hT:BoolsV w lo2 hi2 T (zj S)) (hhi:hi≤w.heap.size) (hhi2:hi2≤w.heap.size) (hlen:(seek a S 8 opened).length≤400000) :
  Calls Tryz.prog 207 #[.agg #[.slice A1 a.facts.length d1,.slice A2 a.atoms.length d2],.slice T 9 tc] w fun e w'=>∃ r,e=.returned r∧IntSSO w' w.heap.size r (seek a S 8 opened)∧Below w.heap.size w w':=by
 have hV:=ax h;have HTT:=ax hT;have HLN:=ax hlen;have HOP:=ax openedB;have HVV:=ax hv;clear h hT hlen hv;(go_enter Tryz.func207,Tryz.ntmps207);have k0:=Blk.new w tAs #[.slice A1 a.facts.length d1,.slice A2 a.atoms.length d2];(go_wp2_with fail);refine wp_region_noPanic ?_;refine wp_region_held_drew (S:=(fun w'=>∀ i,w'.cell? ⟨w.heap.size,i,none⟩=#[.slice A1 a.facts.length d1,.slice A2 a.atoms.length d2][i]?)) (by kernel_rfl) (Blk.cell blks) (fun aH=>?_);refine tk2 1 rfl aH (h:=tk2 2 rfl aH (h:=?_));(try simp only[zz]);obtain ⟨X,hX⟩:∃ X,X=(w.alloc (.cells #[.slice A1 a.facts.length d1,.slice A2 a.atoms.length d2] tAs)).drew:=⟨_,rfl⟩;have hBX:Below w.heap.size w X:=by rw[hX];exact bel
 have kX:Blk X w.heap.size tAs #[.slice A1 a.facts.length d1,.slice A2 a.atoms.length d2]:=by rw[hX];exact blks
 rw[←hX] at aH ⊢;clear hX k0;have hzX:=hBX.size;refine rdd 0 3 rfl rfl (fun K hK=>?_) fun K hK=>?_
 ·go_simp;refine hK.out _ _ (Blk.cell blks) ?_;clear aH hK K;intro aH;refine rdc 3 rfl fun K hK=>?_;(try simp only[zz]);(go_simp;refine (c_spec_l5Open _).mono ?_;rintro e w4 ⟨r4,rfl,o4,hB4⟩;obtain ⟨Cb,cc,rfl,-⟩:=o4.rj;have hB:=bgo (w:=w) bel hB4;have o0:=((SSO.empty X rfl).bz hB4).bq (base':=w.heap.size) (by omega);have hz4:=hB.size;replace kX:=Blk.nz (g:=w.heap.size) blks hB4);refine hK.out _ _ (Blk.cell blks) ?_;clear aH hK K;intro aH;refine rdc 4 rfl fun K hK=>?_;(try simp only[zz]);(go_simp;refine (c_spec_l5Cases (base:=w.heap.size) T tc HVV.o hhi hhi2 8 opened Cb cc _ _ [] [] _ _ (by omega) rfl (HOP.o.2 _) HOP.o.1 (hV.o.bz bel) (HTT.o.bz bel) o4 o0 hz4 (by simpa using HLN.o)).mono ?_;rintro e w5 ⟨r5,vs5,rfl,o5,hK5,hB5⟩;replace kX:=hK5.blk kX (by decide);have hBB:=Below.trans (btoB hB (Nat.le_refl _)) hB5);refine hK.out _ _ (Blk.cell blks) ?_;clear aH hK K;intro aH;(try simp only[zz]);refine tk2 5 rfl aH (h:=?_);(try simp only[zz]);refine dn1 ?_;(go_wp2_with fail);go_ret;exact ⟨r5,rfl,⟨vs5,by simpa using o5⟩,hBB⟩
 ·go_simp;refine (c_spec_l5Open _).mono ?_;rintro e w4 ⟨r4,rfl,o4,hB4⟩;obtain ⟨Cb,cc,rfl,-⟩:=o4.rj;have hB:=bgo (w:=w) bel hB4;have hz4:=hB.size;replace kX:=Blk.nz (g:=w.heap.size) blks hB4;refine hK.out _ _ (Blk.cell blks) ?_;clear aH hK K;intro aH;refine rdc 0 rfl fun K hK=>?_;(try simp only[zz]);(go_simp;have o0:=(SSO.empty w4 rfl).bq (base':=w.heap.size) (by omega);have o4':=IntsO.bz o4 (w':=w4.alloc (.cells #[] tIS)) bel);refine hK.out _ _ (Blk.cell blks) ?_;clear aH hK K;intro aH;refine rdc 4 rfl fun K hK=>?_;(try simp only[zz]);(go_simp;refine (c_spec_l5Cases (base:=w.heap.size) T tc HVV.o hhi hhi2 8 opened Cb cc _ _ [] [] _ _ (by omega) rfl (HOP.o.2 _) HOP.o.1 (hV.o.bz bel) (HTT.o.bz bel) o4' o0 (by simp;omega) (by simpa using HLN.o)).mono ?_;rintro e w5 ⟨r5,vs5,rfl,o5,hK5,hB5⟩;replace kX:=hK5.blk (kX.alloc _) (by decide);have hBB:=Below.trans (btoB (w:=w) bel (Nat.le_refl _)) hB5);refine hK.out _ _ (Blk.cell blks) ?_;clear aH hK K;intro aH;(try simp only[zz]);refine tk2 5 rfl aH (h:=?_);(try simp only[zz]);refine dn1 ?_;(go_wp2_with fail);go_ret;exact ⟨r5,rfl,⟨vs5,by simpa using o5⟩,hBB⟩
theorem c_spec_CasesOf {lo hi:Nat} (v:Value) (a:Asn) (w:World) (h:AsnV w lo hi v a) (hhi:hi≤w.heap.size) :
  Calls Tryz.prog 154 #[v] w fun e w'=>∃ r,e=.returned r∧IntSSR w' w.heap.size r (casesV a)∧Below w.heap.size w w':=by
 have hV:=ax h;obtain ⟨A1,c1,A2,c2,rfl,-,-⟩:=h;(go_enter Tryz.func154,Tryz.ntmps154);(go_wp2_with fail);refine (vz _ a _ (hV.o.bz bel)).mono ?_;rintro e w1 ⟨rfl,hB1⟩;have k0:Blk w1 w.heap.size tAs #[.slice A1 a.facts.length c1,.slice A2 a.atoms.length c2]:=Blk.nz blks hB1;have hB:Below w.heap.size w w1:=bgo (w:=w) bel hB1;clear hB1;have q0:=k0.cell;have l0:=k0.lt;have HTOT:=ax (casesV_tot a);cases hv:a.valid
 ·have E:aJ (casesV a=[]):=by show _=_;unfold casesV;rw[hv];rfl
  (go_wp2_with fail);go_ret;exact ⟨_,rfl,⟨⟨[],by rw[E.o];exact (SSO.empty w1 rfl).bq (by omega)⟩,HTOT.o⟩,bel⟩
 ·have E:aJ (casesV a=cases a (caseS a 0)):=by show _=_;unfold casesV;rw[if_pos hv]
  have HV:=ax hv;have HT:=ax (termsL_ok hv);have HS:=ax (seek_terms hv)
  have HLN:aJ ((seek a (tset (mz a)) 8 opened).length≤400000):=by
   show _≤_;rw[HS.o];exact Nat.le_trans (cases_len a _) (by omega)
  clear hv;(go_wp2_with fail);refine wp_region_noPanic ?_;refine wp_region_held_drew (S:=(fun w'=>∀ i,w'.cell? ⟨w.heap.size,i,none⟩=#[.slice A1 a.facts.length c1,.slice A2 a.atoms.length c2][i]?)) (by kernel_rfl) (Blk.cell blks) (fun aH=>?_);refine tk2 0 rfl aH (h:=tk2 1 rfl aH (h:=?_));refine rdc 2 rfl fun K hK=>?_;(try simp only[zz]);(go_simp;refine (c_spec_l3Terms _ a _ (hV.o.bz bel) HT.o).mono ?_;rintro e w3 ⟨r3,rfl,o3,hB3⟩;obtain ⟨Tb,ct,rfl,fT⟩:=o3.rj;rw[zjB];have hB':=bgo (w:=w) bel hB3;have hz3:=hB'.size;replace k0:=Blk.nz (g:=w.heap.size) blks hB3);refine hK.out _ _ (Blk.cell blks) ?_;clear aH hK K;intro aH;refine rdc 3 rfl fun K hK=>?_;(try simp only[zz]);(go_simp;refine (c_spec_l5All Tb ct _ HV.o (hV.o.bz bel) fT (by omega) (Nat.le_refl _) HLN.o).mono ?_;rintro e w5 ⟨r5,rfl,o5,hB5⟩;have hB6:=bgo (w:=w) bel hB5;replace k0:=Blk.nz (g:=w.heap.size) blks hB5);refine hK.out _ _ (Blk.cell blks) ?_;clear aH hK K;intro aH;(try simp only[zz]);refine tk2 4 rfl aH (h:=?_);(try simp only[zz]);refine dn1 ?_;(go_wp2_with fail);go_ret;refine ⟨r5,rfl,⟨?_,HTOT.o⟩,hB6⟩;rw[E.o,←HS.o];exact o5.bq hz3
end
section
open Go Go.RowKit Go.Proofs
theorem IntsV.litU {w:World} {x:Nat} {cs:Array Value} {xs:List Int} (hk:Blk w x tI cs) (hcs:cs=(encI xs).toArray) (hl:xs.length≤100):IntsV w x (x+1) (some ⟨x,0,none⟩) xs:=
 ⟨⟨by simp[encI],fun _=>⟨x,0,rfl,Nat.le_refl _,Nat.lt_succ_self _,fun j u hu=>by rw[Nat.zero_add,hk.cell,hcs];simpa using hu⟩⟩,by unfold Lim;omega⟩
theorem c_spec_UsedCells {lo hi:Nat} (v:Value) (s:Ste) (w:World) (h:StateV w lo hi v s) (hs:s.valid=true):Calls Tryz.prog 163 #[v] w fun e w'=>∃ r,e=.returned r∧IntsO w' w.heap.size r (usedL s.heap 8)∧Below w.heap.size w w':=by
 have hV:=ax h;obtain ⟨A1,c1,A2,c2,rfl,-,-⟩:=h;have h8:=ax (Ste.valid_len hs).2;have HS:=ax hs;clear hs;(go_enter Tryz.func163,Tryz.ntmps163);have k0:Blk ((w.alloc (.cells #[.slice A1 s.values.length c1,.slice A2 s.heap.length c2] tSt)).alloc (.cells #[] tI)) w.heap.size tSt #[.slice A1 s.values.length c1,.slice A2 s.heap.length c2]:=blks;have hB:Below w.heap.size w ((w.alloc (.cells #[.slice A1 s.values.length c1,.slice A2 s.heap.length c2] tSt)).alloc (.cells #[] tI)):=bel;have hO:IntsO ((w.alloc (.cells #[.slice A1 s.values.length c1,.slice A2 s.heap.length c2] tSt)).alloc (.cells #[] tI)) w.heap.size (.slice (some ⟨w.heap.size+1,0,none⟩) 0 0) []:=(IntsO.empty _ (by simp)).bq (Nat.le_succ _);(go_wp2_with fail)
 go_loopw [3,4] (fun u i wr=>∃ (k:Nat) (A:Option Addr) (c:Nat),k≤8∧i=.int .i64 ((k:Int)+1)∧u=.slice A (usedL s.heap k).length c∧IntsO wr w.heap.size (.slice A (usedL s.heap k).length c) (usedL s.heap k)∧Blk wr w.heap.size tSt #[.slice A1 s.values.length c1,.slice A2 s.heap.length c2]∧aJ (Below w.heap.size w wr)) (fun _ i _=>10 - (intOf i).toNat)
 case atStart=>exact ⟨0,some ⟨w.heap.size+1,0,none⟩,0,by omega,rfl,rfl,hO,k0,hB⟩
 case round=>
  clear k0 hB hO;obtain ⟨k,A,c,hk,rfl,rfl,hO,k0,HB⟩:=hrel;have HO:=ax hO;have hsz:=HB.o.size;have HL:=ax (usedL_le s.heap k);clear hO;(replace qk0:=k0.z);by_cases hlt:k<8
  ·have hki:(k:Int)+1≤8:=by omega
   (go_wp2_with fail);refine (c_spec_StateValid _ s _ (hV.o.bz HB.o)).mono ?_;rintro e w2 ⟨rfl,hB2⟩;rw[HS.o];have hB3:aJ (Below w.heap.size w w2):=bgo HB.o hB2;have HO2:=ax (HO.o.bz hB2);replace k0:=k0.nz hB2;clear hB2 HO qk0;(replace qk0:=k0.z);(go_wp2_with fail);refine (c_spec_l2Has _ s ((k:Int)+1) _ (hV.o.bz hB3.o) h8.o).mono ?_;rintro e w3 ⟨rfl,hB4⟩;have hB5:aJ (Below w.heap.size w w3):=bgo hB3.o hB4;have HO3:=ax (HO2.o.bz hB4);have hsz2:=hB5.o.size;replace k0:=k0.nz hB4;have HSS:=ax (usedL_step s.heap k);clear hB4 HO2 qk0;cases ha:allocB s.heap ((k:Int)+1)
   ·have E2:aJ (usedL s.heap (k+1)=usedL s.heap k):=by show _=_;rw[HSS.o,show ((k+1:Nat):Int)=(k:Int)+1 from by omega,ha];simp
    clear ha;(go_wp2_with fail)
    go_round
    case rel=>exact ⟨k+1,A,c,by omega,by go_num,by rw[E2.o],by rw[E2.o];exact HO3.o,k0,hB5.o⟩
    case measure=>simp[intOf];omega
   ·have E2:aJ (usedL s.heap (k+1)=usedL s.heap k++[(k:Int)+1]):=by show _=_;rw[HSS.o,show ((k+1:Nat):Int)=(k:Int)+1 from by omega,ha];simp
    clear ha;(go_wp2_with (at_builtin;refine appIL (ys:=[(k:Int)+1]) (base:=w.heap.size) rfl _ _ rfl rfl (HO3.o.bz bel) rfl (IntsV.litU (Blk.newE rfl) rfl (by simp)) (by have:=HL.o;simp;omega) (by simp;omega) ?_;intro A4 d4 w4 o4 hg4 hB4;have ks4:=Blk.zm (hg:=hg4) (k0.alloc _) (HO3.o.bz (bbox (Below.refl _ _) _)).1 (by decide);clear hg4));have hBB:Below w.heap.size w w4:=((hB5.o.alloc hsz2 _).trans hB4)
    go_round
    case rel=>exact ⟨k+1,A4,d4,by omega,by go_num,by rw[E2.o];simp,by rw[E2.o];exact o4,ks4,hBB⟩
    case measure=>simp[intOf];omega
  ·obtain rfl:k=8:=by omega
   (go_wp2_with fail);go_ret;exact ⟨_,rfl,HO.o,HB.o⟩
end
section
open Go Go.RowKit Go.Proofs
attribute [local go_sem ↓] Go.wp_at_zero Go.wp_at_succ
theorem bits_zeroB {seen:List Int} (h:∀ c∈seen,addrB c=true):(bitsOf seen).testBit 0=false:=by
 rw[testBit_bitsOf (fun y hy=>by have:=addrB_iff.1 (h y hy);omega)];simp only[decide_eq_false_iff_not];intro hm;have:=addrB_iff.1 (h _ hm);omega
theorem c_spec_l4Holds {lo hi lo' hi':Nat} (v v':Value) (s:Ste) (a:Asn) (w:World) (h:StateV w lo hi v s) (h':AsnV w lo' hi' v' a) (hs:s.valid=true) (ha:a.valid=true) :
  Calls Tryz.prog 96 #[v,v'] w fun e w'=>e=.returned (.bool (holdsF s a))∧Below w.heap.size w w':=by
 have hV:=ax h;have hV':=ax h';obtain ⟨A1,c1,A2,c2,rfl,-,-⟩:=h;obtain ⟨A3,c3,A4,c4,rfl,-,-⟩:=h';have HS:=ax hs;have HA:=ax ha;clear hs ha;(go_enter Tryz.func96,Tryz.ntmps96);have k0:Blk ((w.alloc (.cells #[.slice A1 s.values.length c1,.slice A2 s.heap.length c2] tSt)).alloc (.cells #[.slice A3 a.facts.length c3,.slice A4 a.atoms.length c4] 37)) w.heap.size tSt #[.slice A1 s.values.length c1,.slice A2 s.heap.length c2]:=blks;(go_wp2_with fail);refine (c_spec_l4Part _ _ s a _ (hV.o.bz bel) (hV'.o.bz bel) HS.o HA.o).mono ?_;rintro e w1 ⟨r,rfl,hO,hB1⟩;have HB:=ax (bgo (w:=w) bel hB1);replace k0:=k0.nz hB1;(replace qk0:=k0.z);clear hB1
 cases hp:partOf s a with
 | none=>
  have E:aJ (holdsF s a=false):=by show _=_;unfold holdsF;rw[hp];rfl
  clear hp hO;simp only[Option.isSome_none];(go_wp2_with fail);refine wp_region_noPanic ?_;refine wp_region_held_drew (S:=(fun w'=>∀ i,w'.cell? ⟨w.heap.size,i,none⟩=#[.slice A1 s.values.length c1,.slice A2 s.heap.length c2][i]?)) (by kernel_rfl) (Blk.cell blks) (fun aH=>?_);refine tk2 0 rfl aH (h:=tk2 1 rfl aH (h:=?_));(try simp only[zz]);refine tku 2 rfl aH ?_;(try simp only[zz]);refine tku 3 rfl aH ?_;(try simp only[zz]);refine tku 4 rfl aH ?_;(try simp only[zz]);refine tku 5 rfl aH ?_;(try simp only[zz]);refine tku 6 rfl aH ?_;(try simp only[zz]);refine tku 7 rfl aH ?_;(try simp only[zz]);refine tku 8 rfl aH ?_;(try simp only[zz]);refine tk2 9 rfl aH (h:=tk2 10 rfl aH (h:=?_));(try simp only[zz]);refine dn1 ?_;(go_wp2_with fail);go_ret;exact ⟨zjD E.o.symm,bgo HB.o (Below.refl _ w1).drew⟩
 | some seen=>
  have HLEN:=ax (holds_len hp);have HZ:=ax (bits_zeroB (partOf_addr hp));have hO2:=hO seen hp;obtain ⟨B,d,rfl,hR⟩:=hO2.rj;have HR:=ax hR;clear hp hO hO2 hR;simp only[Option.isSome_some];(go_wp2_with fail);refine wp_region_noPanic ?_;refine wp_region_held_drew (S:=(fun w'=>∀ i,w'.cell? ⟨w.heap.size,i,none⟩=#[.slice A1 s.values.length c1,.slice A2 s.heap.length c2][i]?)) (by kernel_rfl) (Blk.cell blks) (fun aH=>?_);refine tk2 0 rfl aH (h:=tk2 1 rfl aH (h:=tk2 2 rfl aH (h:=?_)));(try simp only[zz]);refine tk2 5 rfl aH (h:=?_);refine rdc 3 rfl fun K hK=>?_;(try simp only[zz]);(go_simp;refine (c_spec_l3List B d (zj (bitsOf seen)) _ (HR.o.bz bel) (by rw[zjB];omega)).mono ?_;rintro e w2 ⟨r2,rfl,o2,hB2⟩;have k2:=k0.drew.nz hB2;have HB2:=ax (bgo (bgo HB.o (Below.refl _ w1).drew) hB2));refine hK.out _ _ (k2.cell) ?_;clear aH hK K;intro aH;(try simp only[zz]);rw[idxL_flagsOf _ HZ.o] at o2;obtain ⟨L,hL⟩:∃ L,L=cellsL (bitsOf seen) 8:=⟨_,rfl⟩;rw[←hL] at o2 HLEN;obtain ⟨B2,d2,rfl,-⟩:=o2.rj;clear o2 hL hB2;refine tk2 4 rfl aH (h:=?_);refine rdc 6 rfl fun K hK=>?_;(try simp only[zz]);(go_simp;refine (c_spec_UsedCells _ s _ (hV.o.bz HB2.o) HS.o).mono ?_;rintro e w3 ⟨r3,rfl,o3,hB3⟩;have k3:=k2.nz hB3;have HB3:=ax (bgo HB2.o hB3));refine hK.out _ _ (k3.cell) ?_;clear aH hK K;intro aH;(try simp only[zz]);obtain ⟨U,hU⟩:∃ U,U=usedL s.heap 8:=⟨_,rfl⟩;rw[←hU] at o3 HLEN;obtain ⟨B3,d3,rfl,-⟩:=o3.rj;clear o3 hU hB3;refine tk2 7 rfl aH (h:=tk2 8 rfl aH (h:=tk2 9 rfl aH (h:=?_)));(try simp only[zz]);refine tk2 10 rfl aH (h:=?_);(try simp only[zz]);refine dn1 ?_
  have HE:aJ (holdsF s a=((L.length:Int) == (U.length:Int))):=by
   show _=_;rw[HLEN.o,Bool.eq_iff_iff,decide_eq_true_eq,beq_iff_eq];omega
  (go_wp2_with fail);go_ret;exact ⟨zjD HE.o.symm,HB3.o⟩
theorem c_spec_Holds {lo hi lo' hi':Nat} (v v':Value) (s:Ste) (a:Asn) (w:World) (h:StateV w lo hi v s) (h':AsnV w lo' hi' v' a) :
  Calls Tryz.prog 94 #[v,v'] w fun e w'=>e=.returned (.bool (holdsF s a))∧Below w.heap.size w w':=by
 have hV:=ax h;have hV':=ax h';obtain ⟨A1,c1,A2,c2,rfl,-,-⟩:=h;obtain ⟨A3,c3,A4,c4,rfl,-,-⟩:=h'
 have HN:aJ (s.valid=false∨a.valid=false→holdsF s a=false):=by
  intro hn;unfold holdsF partOf;rcases hn with hn|hn<;>rw[hn]<;>simp
 (go_enter Tryz.func94,Tryz.ntmps94);have k0:Blk ((w.alloc (.cells #[.slice A1 s.values.length c1,.slice A2 s.heap.length c2] tSt)).alloc (.cells #[.slice A3 a.facts.length c3,.slice A4 a.atoms.length c4] 37)) w.heap.size tSt #[.slice A1 s.values.length c1,.slice A2 s.heap.length c2]:=blks;have k1:Blk ((w.alloc (.cells #[.slice A1 s.values.length c1,.slice A2 s.heap.length c2] tSt)).alloc (.cells #[.slice A3 a.facts.length c3,.slice A4 a.atoms.length c4] 37)) (w.heap.size+1) 37 #[.slice A3 a.facts.length c3,.slice A4 a.atoms.length c4]:=blks;(go_wp2_with fail);refine (c_spec_StateValid _ s _ (hV.o.bz bel)).mono ?_;rintro e w1 ⟨rfl,hB1⟩;have hB:=bgo (w:=w) bel hB1;(replace k0:=k0.nz hB1;replace qk0:=k0.z;replace k1:=k1.nz hB1;replace qk1:=k1.z);clear hB1;cases hs:s.valid
 ·have E:=ax (HN.o (Or.inl hs));clear hs;(go_wp2_with fail);go_ret;exact ⟨zjD E.o.symm,hB⟩
 have HS:=ax hs;clear hs;(go_wp2_with fail);refine (vz _ a _ (hV'.o.bz hB)).mono ?_;rintro e w2 ⟨rfl,hB2⟩;(replace hB:=bgo hB hB2;replace k0:=k0.nz hB2;replace qk0:=k0.z;replace k1:=k1.nz hB2;replace qk1:=k1.z);clear hB2;cases ha:a.valid
 ·have E:=ax (HN.o (Or.inr ha));clear ha;(go_wp2_with fail);go_ret;exact ⟨zjD E.o.symm,hB⟩
 have HA:=ax ha;clear ha;(go_wp2_with fail);refine (c_spec_l4Holds _ _ s a _ (hV.o.bz hB) (hV'.o.bz hB) HS.o HA.o).mono ?_;rintro e w3 ⟨rfl,hB3⟩;have hB4:=bgo hB hB3;clear hB3 k0 k1 qk0 qk1;(go_wp2_with fail);go_ret;exact ⟨rfl,hB4⟩
theorem growF_cells {vs:List Int} {mask:Nat} {last:Bool} (hv:vs.all valB=true):∀ (xs:List Atm) (n:Nat) (h h':List Int),h.all cellB=true→growF vs mask last xs n h=some h'→h'.all cellB=true
 | [],_,h,h',h1,e=>by rw[growF] at e;rw[←Option.some.inj e];exact h1
 | x :: xs,n,h,h',h1,e=>by
  rw[growF] at e
  split at e
  ·exact growF_cells hv xs n h h' h1 e
  ·split at e
   ·exact growF_cells hv xs (n+1) h h' h1 e
   ·split at e
    ·cases e
    ·rename_i h2 e2;refine growF_cells hv xs (n+1) h2 h' ?_ e;unfold growS at e2
     split at e2
     ·cases e2
     ·rename_i h0;rw[←Option.some.inj e2,List.all_eq_true];have hr:=roomF_le h0;have ht:=tval_le hv x.b;intro y hy;rcases List.mem_or_eq_of_mem_set hy with hy|rfl
      ·rcases List.mem_or_eq_of_mem_set hy with hy|rfl
       ·exact List.all_eq_true.1 h1 y hy
       ·simp[cellB,valB];omega
      ·simp[cellB,valB];omega
theorem varF_valid {a:Asn} {c:List Int} {m:Nat} {last:Bool} {s:Ste} (h:varF a c m last=some s):s.valid=true:=by
 have hl:=varF_len h;unfold varF at h
 cases e:growF (modV c) m last (filledL a.atoms c) 0 (modS a c).heap with
 | none=>rw[e] at h;cases h
 | some h'=>
  rw[e] at h;have:s=⟨modV c,h'⟩:=(Option.some.inj h).symm;subst this;have h2:=growF_cells (modV_ok c).2 _ _ _ _ (heapS_cells (modV_ok c).2 _ _ (by decide)) e;exact Ste.valid_iff.2 ⟨hl.1,hl.2,List.all_eq_true.1 (modV_ok c).2,List.all_eq_true.1 h2⟩
section
variable {t:TypeId} {w w':World}
theorem KT.own (h:KT t w w') {base size n:Nat} {e:TypeId} {v:Value} {xs:List Value} (ho:w.ownsRow base e size v n xs) (hne:e≠t):w'.ownsRow base e size v n xs:=by
 obtain ⟨h1,h2⟩:=ho;refine ⟨h1,?_⟩;rcases h2 with h2|⟨k,cap,cur,hv,hg,hh,r⟩
 ·exact Or.inl h2
 ·exact Or.inr ⟨k,cap,cur,hv,hg,h.blk (g:=k) hh hne,r⟩
theorem KT.sso (h:KT t w w') {base:Nat} {v:Value} {vs:List Value} {xss:List (List Int)} (ho:SSO w base v vs xss) (h1:tIS≠t) (h2:tI≠t):SSO w' base v vs xss:=
 ⟨h.own ho.row h1,ho.lim,ho.len,fun k a b=>⟨h.own (ho.at_ k a b).1 h2,(ho.at_ k a b).2⟩,ho.apart⟩
end
theorem c_spec_ModelsOf {lo hi:Nat} (v:Value) (a:Asn) (w:World) (h:AsnV w lo hi v a) (hhi:hi≤w.heap.size) :
  Calls Tryz.prog 90 #[v] w fun e w'=>∃ r,e=.returned r∧StesR w' w.heap.size r (modelsV a)∧Below w.heap.size w w':=by
 have hV:=ax h;obtain ⟨A1,c1,A2,c2,rfl,-,-⟩:=h;(go_enter Tryz.func90,Tryz.ntmps90);have k0:Blk ((w.alloc (.cells #[.slice A1 a.facts.length c1,.slice A2 a.atoms.length c2] tAs)).alloc (.cells #[] tSt)) w.heap.size tAs #[.slice A1 a.facts.length c1,.slice A2 a.atoms.length c2]:=blks;have hB0:Below w.heap.size w ((w.alloc (.cells #[.slice A1 a.facts.length c1,.slice A2 a.atoms.length c2] tAs)).alloc (.cells #[] tSt)):=bel;have hs0:w.heap.size+2=((w.alloc (.cells #[.slice A1 a.facts.length c1,.slice A2 a.atoms.length c2] tAs)).alloc (.cells #[] tSt)).heap.size:=by simp
 have hS0:S2O ((w.alloc (.cells #[.slice A1 a.facts.length c1,.slice A2 a.atoms.length c2] tAs)).alloc (.cells #[] tSt)) (w.heap.size+1) (.slice (some ⟨w.heap.size+1,0,none⟩) 0 0) [] []:=S2O.empty _ (by simp);(go_wp2_with fail);generalize ((w.alloc (.cells #[.slice A1 a.facts.length c1,.slice A2 a.atoms.length c2] tAs)).alloc (.cells #[] tSt))=W at k0 hB0 hs0 hS0 ⊢;refine (c_spec_CasesOf _ a _ (hV.o.bz hB0) (by omega)).mono ?_;rintro e w1 ⟨r,rfl,hC,hB1⟩;obtain ⟨⟨cs,hSS⟩,-⟩:=hC;obtain ⟨A3,n3,rfl⟩:=hSS.form;have hz1:=hB1.size;have HB1:=ax (bgo hB0 hB1);replace k0:=k0.nz hB1;have HS0:=ax ((hS0.bz hB1).bq (base':=w.heap.size) (by omega));have HSS:=ax hSS;have hCl:(casesV a).length≤1049600:=by have:=hSS.lim;rwa [hSS.len] at this
 have hcl:cs.length=(casesV a).length:=hSS.len;clear hSS hB1 hB0 hS0;obtain ⟨C,hCe⟩:∃ C,C=casesV a:=⟨_,rfl⟩;have HMV:aJ (modelsV a=casesM a (C.take 4)):=ax (by rw[hCe];rfl)
 have HMEM:aJ (∀ X∈C,a.valid=true∧X∈cases a (caseS a 0)):=ax (by
  rw[hCe];unfold casesV;intro X hX
  split at hX
  ·rename_i hv;exact ⟨hv,hX⟩
  ·cases hX)
 rw[←hCe] at HSS hCl hcl ⊢;clear hCe;(go_wp2_with fail)
 go_loopg [3,5] 10 (fun gh s3 s5 wr=>∃ (i:Nat) (vs:List Value) (A:Option Addr) (d:Nat),i≤C.length∧i≤4∧10≤gh+i∧s5=.int .i64 i∧s3=.slice A (casesM a (C.take i)).length d∧aJ (S2O wr w.heap.size (.slice A (casesM a (C.take i)).length d) vs (casesM a (C.take i)))∧Blk wr w.heap.size tAs #[.slice A1 a.facts.length c1,.slice A2 a.atoms.length c2]∧aJ (KT tSt w1 wr)∧aJ (Below w.heap.size w wr))
 case atStart=>exact ⟨0,[],some ⟨w.heap.size+1,0,none⟩,0,Nat.zero_le _,by omega,by omega,rfl,rfl,HS0.o,k0,KT.of (Below.refl _ _),HB1.o⟩
 case round=>
  clear k0 HS0 HB1;obtain ⟨i,vs,A,d,hiC,hi4,hgi,rfl,rfl,HS,k0,HK,HB⟩:=hrel;obtain ⟨G0,hG0⟩:∃ G0,G0=gk:=⟨_,rfl⟩;by_cases hlt:i<C.length
  ·have hii:(i:Int)<(C.length:Int):=by omega
   by_cases hlt4:i<4
   ·have hi4i:(i:Int)<4:=by omega
    obtain ⟨hav,hXm⟩:=HMEM.o _ (List.getElem_mem hlt);have HAV:=ax hav;have ETK:aJ (casesM a (C.take (i+1))=casesM a (C.take i)++caseM a C[i] 4):=ax (by rw[List.take_succ_eq_append_getElem hlt,casesM_snoc]);have hle:=casesM_le a (C.take i);have hle2:(C.take i).length≤4:=by rw[List.length_take];omega
    have HX9:=ax (cases_nine _ hXm);have HAT:=ax (fun (W:World) (hk:KT tSt w1 W)=>(hk.sso HSS.o (by decide) (by decide)).at (k:=i) hlt (by omega));have HIN:=ax (fun (W:World) (hk:KT tSt w1 W)=>(hk.sso HSS.o (by decide) (by decide)).at_ i (by omega) hlt);obtain ⟨X,hX⟩:∃ X,X=C[i]:=⟨_,rfl⟩;rw[←hX] at hXm ETK HX9;have HX:=ax hX;have HXM:=ax hXm;obtain ⟨S0,hS0⟩:∃ S0,S0=casesM a (C.take i):=⟨_,rfl⟩;rw[←hS0] at HS hle ETK ⊢;clear hX hS0 hav hXm;(go_wp2_with fail)
    go_loopg [3,6] 5 (fun gh s3 s6 wr=>∃ (k:Nat) (vs:List Value) (A:Option Addr) (d:Nat),k≤4∧5≤gh+k∧s6=.int .i64 k∧s3=.slice A (S0++caseM a X k).length d∧aJ (S2O wr w.heap.size (.slice A (S0++caseM a X k).length d) vs (S0++caseM a X k))∧Blk wr w.heap.size tAs #[.slice A1 a.facts.length c1,.slice A2 a.atoms.length c2]∧aJ (KT tSt w1 wr)∧aJ (Below w.heap.size w wr))
    case atStart=>exact ⟨0,vs,A,d,Nat.zero_le _,by omega,rfl,by simp[caseM],by show S2O _ _ _ _ _;simpa[caseM] using HS.o,k0,HK.o,HB.o⟩
    case round=>
     clear k0 HS HK HB;obtain ⟨k,vs,A,d,hk,hgk,rfl,rfl,HS,k0,HK,HB⟩:=hrel;have hzr:=HB.o.size;by_cases hlk:k<4
     ·have hki:(k:Int)<4:=by omega
      obtain ⟨b,o,B,bc,rfl,lb,g0,hvs⟩:=HAT.o wr HK.o;have hin:=HIN.o wr HK.o;rw[hvs] at hin;rw[←HX.o] at g0 hin;rw[HX9.o] at g0 hin;have HI:=ax hin.readsI.2;clear hvs hin;have hcall:=ax (fun (W':World) hA hI=>c_spec_l6Grow (lo:=lo) (hi:=hi) (lo2:=w1.heap.size - w1.heap.size+W.heap.size) (hi2:=wr.heap.size) (.agg #[.slice A1 a.facts.length c1,.slice A2 a.atoms.length c2]) a (caseS a 0) X B bc k true W' hA hI HAV.o (caseS_zero a 0) (caseS_terms HAV.o 0) HXM.o hlk);rw[show w1.heap.size - w1.heap.size+W.heap.size=W.heap.size by omega] at hcall;have lk0:=k0.lt;have hlen:(S0++caseM a X k).length+1≤1049600:=by have:=caseM_le a X k;rw[List.length_append];omega
      obtain ⟨SK,hSK⟩:∃ SK,SK=S0++caseM a X k:=⟨_,rfl⟩;rw[←hSK] at HS hlen ⊢;have HSK:=ax hSK;clear hSK;(go_upto_region 9 with fail)
      go_cut [7,8] (fun s7 s8 wc=>∃ (x:Nat) (F:Option Addr) (e1:Nat) (G:Option Addr) (e2:Nat) (t:Ste),s7=.pointer (some ⟨x,0,none⟩)∧s8=.bool (varF a X k true).isSome∧aJ (StateO wc wr.heap.size (.agg #[.slice F t.values.length e1,.slice G t.heap.length e2]) t)∧Blk wc x tSt #[.slice F t.values.length e1,.slice G t.heap.length e2]∧aJ ((varF a X k true).isSome=true→varF a X k true=some t)∧aJ (Below wr.heap.size wr wc))
      case first=>
       (go_wp2_with fail);refine wp_region_noPanic ?_;refine wp_region_held_drew (S:=(fun w'=>(∀ i,w'.cell? ⟨w.heap.size,i,none⟩=#[.slice A1 a.facts.length c1,.slice A2 a.atoms.length c2][i]?)∧w'.cell? ⟨b,o+i,none⟩=some (.slice B 9 bc))) (by kernel_rfl) (⟨Blk.cell blks,g0⟩) (fun aH=>?_);refine tk2 0 rfl aH (h:=tk2 1 rfl aH (h:=tk2 2 rfl aH (h:=?_)));(try simp only[zz]);refine tk2 3 rfl aH (h:=tk2 4 rfl aH (h:=tk2 5 rfl aH (h:=?_)));(try simp only[zz]);refine rdd 6 10 rfl rfl (fun K hK=>?_) fun K hK=>?_
       ·skip;(try simp only[zz]);go_simp;refine (hcall.o _ (hV.o.bz HB.o.drew) (HI.o.bz (Below.refl _ _).drew)).mono ?_;rintro e w6 ⟨r6,t6,rfl,o6,ht6,hB6⟩;have hb6:Below wr.heap.size wr w6:=(Below.refl _ _).drew.trans hB6;have k6:=k0.nz hb6;have g6':=(hb6.cell (p:=⟨b,o+i,none⟩) lb).trans g0;obtain ⟨fv,av,rfl,n1,n2,dj⟩:=o6;obtain ⟨F,e1,rfl,-⟩:=n1.rj;obtain ⟨G,e2,rfl,-⟩:=n2.rj;have HO6:aJ (StateO w6 wr.heap.size (.agg #[.slice F t6.values.length e1,.slice G t6.heap.length e2]) t6):=ax ⟨_,_,rfl,n1,n2,dj⟩;refine hK.out _ _ ⟨k6.cell,g6'⟩ ?_;clear aH hK K;intro aH;have l6:=k6.lt;have hb6l:=block_lt_of_cell g6';simp only at hb6l;have HT6:=ax ht6;clear n1 n2 dj hB6 ht6;refine tk2 7 rfl aH (h:=tk2 8 rfl aH (h:=tk2 9 rfl aH (h:=?_)));refine rdc 10 rfl fun K hK=>?_;(try simp only[zz]);go_simp;refine hK.out _ _ (⟨Blk.cell blks,((show Below w6.heap.size w6 _ from bel).cell (p:=⟨b,o+i,none⟩) hb6l).trans g6'⟩) ?_;clear aH hK K;intro aH;refine rdc 11 rfl fun K hK=>?_;(try simp only[zz]);go_simp;refine hK.out _ _ (⟨Blk.cell blks,((show Below w6.heap.size w6 _ from bel).cell (p:=⟨b,o+i,none⟩) hb6l).trans g6'⟩) ?_;clear aH hK K;intro aH;refine rdc 12 rfl fun K hK=>?_;(try simp only[zz]);go_simp;refine hK.out _ _ (⟨Blk.cell blks,((show Below w6.heap.size w6 _ from bel).cell (p:=⟨b,o+i,none⟩) hb6l).trans g6'⟩) ?_;clear aH hK K;intro aH;(try simp only[zz]);refine dn1 ?_;(go_wp2_with fail);go_meet
        case rel=>exact ⟨w6.heap.size,F,e1,G,e2,t6,rfl,rfl,ax (HO6.o.bz (bbox (Below.refl _ _) _)),Blk.new _ _ _,HT6,ax (bbox hb6 _)⟩
       ·skip;(try simp only[zz]);go_simp;refine hK.out _ _ ⟨Blk.cell blks,((show Below wr.heap.size wr _ from bel).cell (p:=⟨b,o+i,none⟩) lb).trans g0⟩ ?_;clear aH hK K;intro aH;refine rdc 6 rfl fun K hK=>?_;(try simp only[zz]);(go_simp;refine (hcall.o _ (hV.o.bz (bgo HB.o (show Below wr.heap.size wr _ from bel))) (HI.o.bz bel)).mono ?_;rintro e w6 ⟨r6,t6,rfl,o6,ht6,hB6⟩;have hb6:=bgo (w:=wr) bel hB6;have k6:=k0.nz hb6;have g6':=(hb6.cell (p:=⟨b,o+i,none⟩) lb).trans g0;have kb6:=Blk.nz (g:=wr.heap.size) (t:=tSt) (cs:=#[.slice none 0 0,.slice none 0 0]) (Blk.drew (Blk.newE rfl)) hB6;obtain ⟨fv,av,rfl,n1,n2,dj⟩:=o6;obtain ⟨F,e1,rfl,-⟩:=n1.rj;obtain ⟨G,e2,rfl,-⟩:=n2.rj;have HO6:aJ (StateO w6 wr.heap.size (.agg #[.slice F t6.values.length e1,.slice G t6.heap.length e2]) t6):=ax (StateO.bq ⟨_,_,rfl,n1,n2,dj⟩ (by simp));have HT6:=ax ht6;clear n1 n2 dj hB6 ht6);refine hK.out _ _ (⟨k6.cell,g6'⟩) ?_;clear aH hK K;intro aH;(try simp only[zz]);have l6:=k6.lt;have qb:=kb6.cell;have rb:=kb6.frozen;have lb6:=kb6.lt;refine tk2 7 rfl aH (h:=tk2 8 rfl aH (h:=tk2 9 rfl aH (h:=?_)));refine rdc 11 rfl fun K hK=>?_;(try simp only[zz]);go_simp;refine hK.out _ _ (⟨Blk.cell blks,((show Below wr.heap.size w6 _ from bel).cell (p:=⟨b,o+i,none⟩) lb).trans g6'⟩) ?_;clear aH hK K;intro aH;refine rdc 12 rfl fun K hK=>?_;(try simp only[zz]);go_simp;refine hK.out _ _ (⟨Blk.cell blks,((show Below wr.heap.size w6 _ from bel).cell (p:=⟨b,o+i,none⟩) lb).trans g6'⟩) ?_;clear aH hK K;intro aH;(try simp only[zz]);refine dn1 ?_;(go_wp2_with fail);go_meet
        case rel=>
         refine ⟨wr.heap.size,F,e1,G,e2,t6,rfl,rfl,ax (HO6.o.setR kb6 (by decide) _ _),?_,HT6,ax ((hb6.setCell (Nat.le_refl _) _).setCell (Nat.le_refl _) _)⟩;have:=(kb6.set_ 0 (.slice F t6.values.length e1)).set_ 1 (.slice G t6.heap.length e2);simpa using this
      case rest=>
       obtain ⟨x,F,e1,G,e2,t,rfl,rfl,HO,kS,HT,HW⟩:=hcut;have k0x:=k0.nz HW.o;have HBx:=ax (bgo HB.o HW.o);have HSx:=ax (HS.o.bz HW.o);have HKx:=ax (HK.o.trans (KT.of HW.o));have HSUC:=ax (caseM_succ a X k);cases hok:(varF a X k true).isSome
       ·have HN:aJ (S0++caseM a X (k+1)=SK):=ax (by rw[HSUC.o,pick_no hok,List.append_nil,HSK.o]);clear hok HT HSUC HO;(go_wp2_with fail)
        go_roundg (gk - 1)
        case rel=>exact ⟨k+1,vs,A,d,by omega,by omega,by go_num,by rw[HN.o],by rw[HN.o];exact HSx.o,k0x,HKx.o,HBx.o⟩
        case measure=>omega
       have HTS:=ax (HT.o hok);have HT2:=ax (pick_yes (HT.o hok));have HTV:=ax (varF_valid (HT.o hok));clear hok HT;have q0:=k0x.cell;have l0:=k0x.lt;have qS:=kS.cell;have lS:=kS.lt;(go_wp2_with fail);refine (c_spec_l4Holds _ _ t a _ HO.o.rj (hV.o.bz HBx.o) HTV.o HAV.o).mono ?_;rintro e w4 ⟨rfl,hB4⟩;have HO4:=ax (HO.o.bz hB4);have kS4:=kS.nz hB4;have k04:=k0x.nz hB4;have HB4:=ax (bgo HBx.o hB4);have HW4:=ax (bgo HW.o hB4);have HS4:=ax (HSx.o.bz hB4);have HK4:=ax (HKx.o.trans (KT.of hB4));clear hB4 HO kS k0x HBx HW HSx HKx q0 l0 qS lS;cases hh:holdsF t a
       ·have HN:aJ (S0++caseM a X (k+1)=SK):=ax (by rw[HSUC.o,HT2.o,hh,HSK.o];simp);clear hh HT2 HSUC HO4;(go_wp2_with fail)
        go_roundg (gk - 1)
        case rel=>exact ⟨k+1,vs,A,d,by omega,by omega,by go_num,by rw[HN.o],by rw[HN.o];exact HS4.o,k04,HK4.o,HB4.o⟩
        case measure=>omega
       have HN2:aJ (S0++caseM a X (k+1)=SK++[t]):=ax (by rw[HSUC.o,HT2.o,hh,if_pos rfl,HSK.o,List.append_assoc]);clear hh HT2 HSUC;have hw4:w.heap.size≤w4.heap.size:=HB4.o.size;have qS:=kS4.cell;have lS:=kS4.lt;(go_wp2_with (at_builtin;refine appS2 (w0:=wr) (base:=w.heap.size) rfl _ _ rfl rfl HS.o (bbox HW4.o _) hzr (StateO.bz HO4.o (bbox (Below.refl _ _) _)) (Blk.new w4 tSt _) rfl hlen ?_;intro A' c' w6 hS6 hg6 hB6;have hrow:=own_below HS4.o.row (bbox (Below.refl _ w4) (.cells #[.slice F t.values.length e1,.slice G t.heap.length e2] tSt));have k06:=(KT.app hrow hg6).blk (k04.alloc _) (by decide);have HK6:=ax (HK4.o.trans (KT.trans (KT.of (t:=tSt) (bbox (Below.refl _ w4) (.cells #[.slice F t.values.length e1,.slice G t.heap.length e2] tSt))) (KT.app hrow hg6)));have HB6:=ax (HB4.o.trans (((Below.refl w.heap.size w4).alloc hw4 _).trans hB6));have HS6:=ax hS6;clear hg6 hB6 hrow hS6))
       go_roundg (gk - 1)
       case rel=>exact ⟨k+1,_,A',c',by omega,by omega,by go_num,by rw[HN2.o];simp,by rw[HN2.o];show S2O _ _ _ _ _;simpa using HS6.o,k06,HK6.o,HB6.o⟩
       case measure=>omega
     ·obtain rfl:k=4:=by omega
      go_wp2_with fail
      go_roundg (G0 - 1)
      case rel=>exact ⟨i+1,vs,A,d,by omega,by omega,by omega,by go_num,by rw[ETK.o],by rw[ETK.o];exact HS.o,k0,HK.o,HB.o⟩
      case measure=>omega
   ·obtain rfl:i=4:=by omega
    (go_wp2_with fail);go_ret;exact ⟨_,rfl,⟨⟨vs,by rw[HMV.o];exact HS.o⟩,modelsV_tot a⟩,HB.o⟩
  ·obtain rfl:i=C.length:=by omega
   have hi4':=hi4;rw[List.take_length] at HS;have HMV2:aJ (modelsV a=casesM a C):=ax (by rw[HMV.o,List.take_of_length_le hi4']);rw[List.take_length];(go_wp2_with fail);go_ret;exact ⟨_,rfl,⟨⟨vs,by rw[HMV2.o];exact HS.o⟩,modelsV_tot a⟩,HB.o⟩
end
section
open Go Go.RowKit Go.Proofs
theorem StateO.fr {w w':World} {g base:Nat} {v:Value} {s:Ste} (h:StateO w base v s) (hf:Fr g w w') (hg:g<base):StateO w' base v s:=by
 obtain ⟨fv,av,e,h1,h2,h3⟩:=h;exact ⟨fv,av,e,h1.fr hf hg,h2.fr hf hg,h3⟩
theorem c_l2Draw (g p:Nat) (w:World) (h:Rdr w g p) (hp:p≤999900) :
  Calls Tryz.prog 92 #[.pointer (some ⟨g,0,none⟩)] w fun e w'=>∃ r s q,e=.returned r∧StateO w' w.heap.size r s∧s.valid=true∧Rdr w' g q∧q≤p+40∧Fr g w w':=by
 have H:=ax h;have hlt:=h.lt;clear h;(go_enter Tryz.func92,Tryz.ntmps92);have kr:Blk (w.alloc (.cells #[.slice none 0 0,.slice none 0 0] tSt)) w.heap.size tSt #[.slice none 0 0,.slice none 0 0]:=blks;(go_wp2_with fail);refine (c_l2Blank _).mono ?_;rintro e w1 ⟨r1,rfl,o1,hB1⟩;have hsz1:=hB1.size;rw[World.size_alloc] at hsz1;have hB:=bgo (w:=w) bel hB1;replace kr:=kr.nz hB1;replace o1:=o1.bq (base':=w.heap.size) (by simp);obtain ⟨fv,av,rfl,ov,oh,dj⟩:=o1;obtain ⟨A,c,rfl,-⟩:=ov.rj;obtain ⟨B,d,rfl,-⟩:=oh.rj;simp only[blankS,List.length_replicate] at dj ov oh ⊢;have DJ:=ax dj;clear dj;have kx:Blk (w1.alloc (.cells #[.slice A 8 c,.slice B 8 d] tSt)) w1.heap.size tSt #[.slice A 8 c,.slice B 8 d]:=Blk.new _ _ _;have HF1:aJ (Fr g w (w1.alloc (.cells #[.slice A 8 c,.slice B 8 d] tSt))):=(Fr.ofBelow hB).alloc _;have HR1:aJ (Rdr (w1.alloc (.cells #[.slice A 8 c,.slice B 8 d] tSt)) g p):=(H.o.bz hB).bz (bbox (Below.refl _ _) _);have ov1:=ov.bz (bbox (Below.refl _ _) (.cells #[.slice A 8 c,.slice B 8 d] tSt));have oh1:=oh.bz (bbox (Below.refl _ _) (.cells #[.slice A 8 c,.slice B 8 d] tSt));replace kr:=kr.alloc (.cells #[.slice A 8 c,.slice B 8 d] tSt);have lr:=kr.lt;clear hB1 hB ov oh H;(go_wp2_with fail)
 go_loopw [4] (fun i wr=>∃ (k:Nat) (vs:List Int) (q:Nat),k≤8∧i=.int .i64 k∧aJ (vs.length=8∧vs.all valB=true)∧IntsO wr w.heap.size (.slice A 8 c) vs∧IntsO wr w.heap.size (.slice B 8 d) (List.replicate 8 (-1))∧Blk wr w.heap.size tSt #[.slice none 0 0,.slice none 0 0]∧Blk wr w1.heap.size tSt #[.slice A 8 c,.slice B 8 d]∧aJ (Rdr wr g q)∧q≤p+k∧aJ (Fr g w wr)) (fun i _=>8 - (intOf i).toNat)
 case atStart=>exact ⟨0,List.replicate 8 0,p,by omega,rfl,⟨by simp,by decide⟩,ov1,oh1,kr,kx,HR1.o,by omega,HF1.o⟩
 case round=>
  clear kr kx HF1 HR1 ov1 oh1;obtain ⟨k,vs,q,hk,rfl,HV,hO,hP,kr,kx,HR,hq,HF⟩:=hrel;have HO:=ax hO;have HP:=ax hP;have hsz:=HF.o.size;have lx:=kx.lt;clear hO hP;by_cases hlt8:k<8
  ·have hki:(k:Int)<8:=by omega
   obtain ⟨gv,cur0,-,hA,hgv,-,-,-⟩:=HO.o.cell_ (k:=k) (by have:=HV.o.1;omega);subst hA;(go_wp2_with fail);refine wp_region_noPanic ?_;refine wp_region_held_drew (S:=(fun w'=>∀ i,w'.cell? ⟨w1.heap.size,i,none⟩=#[.slice (some ⟨gv,0,none⟩) 8 c,.slice B 8 d][i]?)) (by kernel_rfl) (Blk.cell blks) (fun aH=>?_);refine tk2 0 rfl aH (h:=tk2 1 rfl aH (h:=tk2 2 rfl aH (h:=?_)));(try simp only[zz]);refine tk2 3 rfl aH (h:=?_);refine rdc 4 rfl fun K hK=>?_;(try simp only[zz]);go_simp;refine hK.out _ _ (Blk.cell blks) ?_;clear aH hK K;intro aH;refine rdc 5 rfl fun K hK=>?_;(try simp only[zz]);(go_simp;refine (c_numL g q [1,2,0,3,4,1,5] _ _ _ _ (HR.o.bz bel) (by omega) blks (by rfl) (by first|(have:=HR.o.lt;omega)|(have:=HR.o.lt;simp;omega)) (by rfl) (by decide) (by decide)).mono ?_;rintro e w4 ⟨m,hm,rfl,hR,hF⟩;have kx4:=Blk.fr (a:=wr.drew.alloc (.cells #[.int .i64 1,.int .i64 2,.int .i64 0,.int .i64 3,.int .i64 4,.int .i64 1,.int .i64 5] tI)) blks hF (show w1.heap.size≠g by omega);have kr4:Blk w4 w.heap.size tSt #[.slice none 0 0,.slice none 0 0]:=Blk.fr (a:=wr.drew.alloc (.cells #[.int .i64 1,.int .i64 2,.int .i64 0,.int .i64 3,.int .i64 4,.int .i64 1,.int .i64 5] tI)) blks hF (by omega);have HO4:=ax ((HO.o.bz (w':=wr.drew.alloc (.cells #[.int .i64 1,.int .i64 2,.int .i64 0,.int .i64 3,.int .i64 4,.int .i64 1,.int .i64 5] tI)) bel).fr hF hlt);have HP4:=ax ((HP.o.bz (w':=wr.drew.alloc (.cells #[.int .i64 1,.int .i64 2,.int .i64 0,.int .i64 3,.int .i64 4,.int .i64 1,.int .i64 5] tI)) bel).fr hF hlt);have HR4:=ax hR;have HF4:=ax ((HF.o.drew.alloc _).trans hF);have HM:=ax ((by decide:∀ m∈[(1:Int),2,0,3,4,1,5],valB m=true) m hm);clear hR hF hm);refine hK.out _ _ (kx4.cell) ?_;clear aH hK K;intro aH;(try simp only[zz]);obtain ⟨gv2,cur,-,hA2,hgv2,kv,hcm,hset⟩:=HO4.o.cell_ (k:=k) (by have:=HV.o.1;omega);injection hA2 with hA2;injection hA2 with hA2;subst hA2;have HSET:=ax (hset m);have qv:=(kv.cell k).trans hcm;have rv:=kv.frozen;have hgx:gv≠w1.heap.size:=Blk.ne_ kv kx4 (by decide);have hgr:gv≠w.heap.size:=Blk.ne_ kv kr4 (by decide);clear hset hcm;refine tk2 6 rfl aH (h:=?_);refine rdc 7 rfl fun K hK=>?_;(try simp only[zz]);go_simp;refine hK.out _ _ (Blk.cell blks) ?_;clear aH hK K;intro aH;(try simp only[zz]);refine dn1 ?_;(go_wp2_with fail)
   go_round
   case rel=>exact ⟨k+1,vs.set k m,q+1,by omega,by go_num,⟨by simpa using HV.o.1,by
     rw[List.all_eq_true];intro x hx;rcases List.mem_or_eq_of_mem_set hx with h|h
     ·exact List.all_eq_true.1 HV.o.2 x h
     ·rw[h];exact HM.o⟩,HSET.o,HP4.o.set_ne (q:=⟨gv,k,none⟩) (fun e=>DJ.o gv rfl e) _,kr4.far (by simp only;omega) _,kx4.far (by simp only;omega) _,HR4.o.set_ (by simp only;omega) _,by omega,HF4.o.set_ (Or.inr (by simp only;omega)) _⟩
   case measure=>simp[intOf];omega
  ·obtain rfl:k=8:=by omega
   (go_wp2_with fail);refine (c_numL g q [3,4,2,5,1,0,8] _ _ _ _ (HR.o.bz bel) (by omega) blks (by rfl) (by have:=HR.o.lt;omega) (by rfl) (by decide) (by decide)).mono ?_;rintro e w2 ⟨m,hm,rfl,hR,hF⟩;replace kr:=(kr.alloc (.cells #[.int .i64 3,.int .i64 4,.int .i64 2,.int .i64 5,.int .i64 1,.int .i64 0,.int .i64 8] tI)).fr hF (by omega);replace kx:=(kx.alloc (.cells #[.int .i64 3,.int .i64 4,.int .i64 2,.int .i64 5,.int .i64 1,.int .i64 0,.int .i64 8] tI)).fr hF (by omega);have HF2:aJ (Fr g w w2):=(HF.o.alloc _).trans hF;have hO2:=(HO.o.bz (bbox (Below.refl _ _) (.cells #[.int .i64 3,.int .i64 4,.int .i64 2,.int .i64 5,.int .i64 1,.int .i64 0,.int .i64 8] tI))).fr hF hlt;have hP2:=(HP.o.bz (bbox (Below.refl _ _) (.cells #[.int .i64 3,.int .i64 4,.int .i64 2,.int .i64 5,.int .i64 1,.int .i64 0,.int .i64 8] tI))).fr hF hlt;obtain ⟨k1,rfl⟩:=Int.eq_ofNat_of_zero_le ((by decide:∀ m∈[(3:Int),4,2,5,1,0,8],0≤m) m hm);have hk8:k1≤8:=by have:=(by decide:∀ m∈[(3:Int),4,2,5,1,0,8],m≤8) _ hm;omega
   have HR2:=ax hR;clear hm hR hF HF HR HO HP lx;(go_wp2_with fail)
   go_loopw [5] (fun i wx=>∃ (k:Nat) (hs:List Int) (q':Nat),i=.int .i64 k∧k≤8∧aJ (hs.length=8∧hs.all cellB=true)∧IntsO wx w.heap.size (.slice A 8 c) vs∧IntsO wx w.heap.size (.slice B 8 d) hs∧Blk wx w.heap.size tSt #[.slice none 0 0,.slice none 0 0]∧Blk wx w1.heap.size tSt #[.slice A 8 c,.slice B 8 d]∧aJ (Rdr wx g q')∧q'+2 * k≤p+30∧aJ (Fr g w wx)) (fun i _=>(intOf i).toNat)
   case atStart=>exact ⟨k1,List.replicate 8 (-1),q+1,rfl,hk8,⟨by simp,by decide⟩,hO2,hP2,kr,kx,HR2.o,by omega,HF2.o⟩
   case round=>
    clear kr kx HF2 HR2 hO2 hP2 hk8;obtain ⟨k,hs,q',rfl,hk,HH,hO,hP,kr,kx,HR,hq',HF⟩:=hrel;have HO:=ax hO;have HP:=ax hP;have hsz:=HF.o.size;have lx:=kx.lt;have lr:=kr.lt;clear hO hP;by_cases hk0:0<k
    ·have hki:(0:Int)<(k:Int):=by omega
     obtain ⟨gv,cur0,-,hA,hgv,-,-,-⟩:=HP.o.cell_ (k:=0) (by have:=HH.o.1;omega);subst hA;(go_wp2_with fail);refine wp_region_noPanic ?_;refine wp_region_held_drew (S:=(fun w'=>∀ i,w'.cell? ⟨w1.heap.size,i,none⟩=#[.slice A 8 c,.slice (some ⟨gv,0,none⟩) 8 d][i]?)) (by kernel_rfl) (Blk.cell blks) (fun aH=>?_);refine tk2 0 rfl aH (h:=tk2 1 rfl aH (h:=tk2 2 rfl aH (h:=?_)));(try simp only[zz]);refine tk2 4 rfl aH (h:=?_);(try simp only[zz])
     refine wpAnyH_par [3,5,6] #[true,true,true,true,true,true,true,false,false] 3 (by kernel_rfl) aH
      (fun a0 D a w'=>Fr g wr w'∧(∃ qq,Rdr w' g qq∧qq≤q'+(dn D 3).toNat+(dn D 6).toNat)∧∃ v28 v30 v31,a=(((a0.put (some 28) v28).put (some 30) v30).put (some 31) v31)∧
       (dn D 3=true→∃ m:Nat,(m=0∨(m:Int)<8)∧v28=.int .i64 (m:Int))∧
       (dn D 5=true→∃ x,v30=.slice (some ⟨x,0,none⟩) 6 6∧g<x∧Blk w' x tI #[.int .i64 0,.int .i64 2,.int .i64 3,.int .i64 1,.int .i64 4,.int .i64 5])∧
       (dn D 6=true→∃ m,m∈[(0:Int),2,3,1,4,5]∧v31=.int .i64 m)) ?start ?steps ?fin
     case start=>
      refine ⟨(Fr.refl g wr).drew,⟨q',HR.o.bz bel,by omega⟩,u28,u30,u31,rfl,?_,?_,?_⟩
      all_goals exact fun h=>absurd h (by decide)
     case steps=>
      refine ParSteps.cons rfl (fun D a w' hu hd hI hS K' hK G hG=>?_) (ParSteps.cons rfl (fun D a w' hu hd hI hS K' hK G hG=>?_) (ParSteps.cons rfl (fun D a w' hu hd hI hS K' hK G hG=>?_) (ParSteps.nil)))
      ·obtain ⟨hF,⟨qq,hR,hqq⟩,v28,v30,v31,ha,h3,h5,h6⟩:=hI;rw[ha] at hG;clear ha a;replace hqq:=ax hqq;replace hR:=ax hR;replace hF:=ax hF;replace hS:=ax hS;replace h3:=ax h3;replace h5:=ax h5;replace h6:=ax h6;refine hG ?_;clear hG;(try simp only[zz]);go_simp;refine (c_pick g qq 8 _ hR.o (by have:=hqq.o;have:=Bool.toNat_le (dn D 3);have:=Bool.toNat_le (dn D 6);omega)).mono ?_;rintro e w2 ⟨m,rfl,hmb,hR2,hF2⟩;have hF3:=hF.o.trans hF2;exact hK.out _ _ (fun i=>(kx.fr hF3 (by omega)).cell i) ⟨hF3,⟨qq+1,hR2,(by have z:=hqq.o;rw[dn_un hu] at z;rw[dn_self hu,dn_ne (show 3≠6 by decide)];simp only[Bool.toNat_true,Bool.toNat_false] at z ⊢;omega)⟩,(.int .i64 (m:Int)),v30,v31,rfl,fun _=>⟨m,hmb,rfl⟩,dn_keep (by decide) h5.o (fun ⟨x,e,hx,hb⟩=>⟨x,e,hx,hb.fr hF2 (by omega)⟩),dn_keep (by decide) h6.o id⟩
      ·obtain ⟨hF,⟨qq,hR,hqq⟩,v28,v30,v31,ha,h3,h5,h6⟩:=hI;rw[ha] at hG;clear ha a;replace hqq:=ax hqq;replace hR:=ax hR;replace hF:=ax hF;replace hS:=ax hS;replace h3:=ax h3;replace h5:=ax h5;replace h6:=ax h6;refine hG ?_;clear hG;(try simp only[zz]);go_simp;have hF3:=hF.o.alloc (.cells #[.int .i64 0,.int .i64 2,.int .i64 3,.int .i64 1,.int .i64 4,.int .i64 5] tI);exact hK.out _ _ (fun i=>(kx.fr hF3 (by omega)).cell i) ⟨hF3,⟨qq,hR.o.bz bel,(by rw[dn_ne (show 5≠3 by decide),dn_ne (show 5≠6 by decide)];exact hqq.o)⟩,v28,(.slice (some ⟨w'.heap.size,0,none⟩) 6 6),v31,rfl,dn_keep (by decide) h3.o id,fun _=>⟨w'.heap.size,rfl,hR.o.lt,Blk.new _ _ _⟩,dn_keep (by decide) h6.o id⟩
      ·obtain ⟨hF,⟨qq,hR,hqq⟩,v28,v30,v31,ha,h3,h5,h6⟩:=hI;rw[ha] at hG;clear ha a;replace hqq:=ax hqq;replace hR:=ax hR;replace hF:=ax hF;replace hS:=ax hS;replace h3:=ax h3;replace h5:=ax h5;replace h6:=ax h6;have d5:dn D 5=true:=hd ⟨5,.data⟩ (by simp) (by decide);obtain ⟨x,rfl,hx,hb⟩:=h5.o d5;clear h5 hd;refine hG ?_;clear hG;(try simp only[zz]);go_simp;refine (c_numL g qq [(0:Int),2,3,1,4,5] x 6 _ _ hR.o (by have:=hqq.o;have:=Bool.toNat_le (dn D 3);have:=Bool.toNat_le (dn D 6);omega) hb (by rfl) hx (by rfl) (by decide) (by decide)).mono ?_;rintro e w2 ⟨m,hm,rfl,hR2,hF2⟩;have hF3:=hF.o.trans hF2;exact hK.out _ _ (fun i=>(kx.fr hF3 (by omega)).cell i) ⟨hF3,⟨qq+1,hR2,(by have z:=hqq.o;rw[dn_un hu] at z;rw[dn_self hu,dn_ne (show 6≠3 by decide)];simp only[Bool.toNat_true,Bool.toNat_false] at z ⊢;omega)⟩,v28,(.slice (some ⟨x,0,none⟩) 6 6),(.int .i64 m),rfl,dn_keep (by decide) h3.o id,fun _=>⟨x,rfl,hx,hb.fr hF2 (by omega)⟩,fun _=>⟨m,hm,rfl⟩⟩
     case fin=>
      rintro a w4 aH ⟨hF,⟨qq,hR,hqq⟩,v28,v30,v31,rfl,h3,h5,h6⟩;obtain ⟨m3,hm3,rfl⟩:=h3 (by decide);obtain ⟨m6,hm6,rfl⟩:=h6 (by decide);replace hqq:qq≤q'+2:=hqq;clear h5;(try simp only[zz]);have kx4:=kx.fr hF (show w1.heap.size≠g by omega);have kr4:=kr.fr hF (show w.heap.size≠g by omega);have HO4:=ax (HO.o.fr hF hlt);have HP4:=ax (HP.o.fr hF hlt);have HR4:=ax hR;have HF4:=ax (HF.o.trans hF);have HM:=ax ((by decide:∀ m∈[(0:Int),2,3,1,4,5],cellB m=true) m6 hm6);have hm8:m3<8:=by omega
      have hm8i:(m3:Int)<8:=by omega
      clear hF hR hm6 hm3 kx kr;obtain ⟨gv2,cur,-,hA2,hgv2,kv,hcm,hset⟩:=HP4.o.cell_ (k:=m3) (by have:=HH.o.1;omega);injection hA2 with hA2;injection hA2 with hA2;subst hA2;have HSET:=ax (hset m6);have qv:=(kv.cell m3).trans hcm;have rv:=kv.frozen;have hgx:gv≠w1.heap.size:=Blk.ne_ kv kx4 (by decide);have hgr:gv≠w.heap.size:=Blk.ne_ kv kr4 (by decide);clear hset hcm;refine tk2 7 rfl aH (h:=?_);refine rdc 8 rfl fun K hK=>?_;(try simp only[zz]);go_simp;refine hK.out _ _ (Blk.cell blks) ?_;clear aH hK K;intro aH;(try simp only[zz]);refine dn1 ?_;(go_wp2_with fail)
      go_round
      case rel=>exact ⟨k - 1,hs.set m3 m6,qq,by go_num,by omega,⟨by simpa using HH.o.1,by
        rw[List.all_eq_true];intro x hx;rcases List.mem_or_eq_of_mem_set hx with h|h
        ·exact List.all_eq_true.1 HH.o.2 x h
        ·rw[h];exact HM.o⟩,HO4.o.set_ne (q:=⟨gv,m3,none⟩) (fun e=>DJ.o gv e rfl) _,HSET.o,kr4.far (by simp only;omega) _,kx4.far (by simp only;omega) _,HR4.o.set_ (by simp only;omega) _,by omega,HF4.o.set_ (Or.inr (by simp only;omega)) _⟩
      case measure=>simp[intOf];omega
    ·obtain rfl:k=0:=by omega
     (replace qkr:=kr.cell;replace rkr:=kr.frozen;replace lkr:=kr.lt;replace qkx:=kx.z);have hne:w.heap.size≠w1.heap.size:=by omega
     have HVAL:aJ ((⟨vs,hs⟩:Ste).valid=true):=by
      show _=_;simp only[Ste.valid,Bool.and_eq_true,decide_eq_true_eq];exact ⟨⟨HV.o.1,HH.o.1⟩,HV.o.2,HH.o.2⟩
     have hvl:=HV.o.1;have hhl:=HH.o.1;(go_wp2_with fail);refine bodyPost_ret (v:=.agg #[.slice A 8 c,.slice B 8 d]) (by simp[results,Tryz.results92,go_sem,qkr]) rfl ⟨_,⟨vs,hs⟩,q',rfl,⟨_,_,rfl,?_,?_,DJ.o⟩,HVAL.o,?_,by omega,?_⟩
     ·exact (HO.o.setT kr (by decide) 0 _).setT (kr.set_ 0 _) (by decide) 1 _
     ·exact (HP.o.setT kr (by decide) 0 _).setT (kr.set_ 0 _) (by decide) 1 _
     ·exact (HR.o.set_ (by simp only;omega) _).set_ (by simp only;omega) _
     ·exact (HF.o.set_ (Or.inr (by simp only;omega)) _).set_ (Or.inr (by simp only;omega)) _
end
section
open Go Go.RowKit Go.Proofs
attribute [local go_sem ↓] Go.wp_at_zero Go.wp_at_succ
theorem AsnV.fru {w w':World} {lo hi g:Nat} {v:Value} {a:Asn} (h:AsnV w lo hi v a) (hf:Fr g w w') (hg:hi≤g) (_:hi≤w.heap.size):AsnV w' lo hi v a:=by
 obtain ⟨A1,c1,A2,c2,e,h1,h2⟩:=h;exact ⟨A1,c1,A2,c2,e,Rd.fr h1 hf (.inr hg),Rd.fr h2 hf (.inr hg)⟩
theorem CmsV.fru {w w':World} {lo hi g:Nat} {A:Option Addr} {L:Cms} (h:CmsV w lo hi A L) (hf:Fr g w w') (hg:hi≤g) (hh:hi≤w.heap.size):CmsV w' lo hi A L:=h.keep fun b p q=>hf.block b (by omega) (by omega)
theorem StesV.fr0 {w w':World} {lo hi g:Nat} {A:Option Addr} {ss:List Ste} (h:StesV w lo hi A ss) (hf:Fr g w w') (hg:g<lo):StesV w' lo hi A ss:=by
 obtain ⟨vs,h1,h2⟩:=h;exact ⟨vs,Rd.fr h1 hf (.inl hg),fun k a b=>by obtain ⟨B,c,e,h3⟩:=h2 k a b;exact ⟨B,c,e,Rd.fr h3 hf (.inl hg)⟩⟩
structure QuaP (g:Nat) (w u:World) (lo:Nat) (r:Value) (s:Ste) (r1:Value) (a:Asn) (r2:Value) (b:Asn) (A:Option Addr) (L:Cms):Prop where
 sv:StateV u lo u.heap.size r s
 tri:TriP g w u lo r1 a r2 b A L
theorem QuaP.st {g:Nat} {w u:World} {lo:Nat} {r:Value} {s:Ste} {r1:Value} {a:Asn} {r2:Value} {b:Asn} {A:Option Addr} {L:Cms} (h:QuaP g w u lo r s r1 a r2 b A L) {n:Nat} (hn:w.heap.size≤n) (hl:n<lo) (x y:Value):QuaP g w ((u.setCell ⟨n,0,none⟩ x).setCell ⟨n,1,none⟩ y) lo r s r1 a r2 b A L:=by
 have hs:((u.setCell ⟨n,0,none⟩ x).setCell ⟨n,1,none⟩ y).heap.size=u.heap.size:=by simp
 refine ⟨?_,h.tri.st hn hl x y⟩;rw[hs];obtain ⟨A1,c1,A2,c2,e,h1,h2⟩:=h.sv;exact ⟨A1,c1,A2,c2,e,Rd.setb (Rd.setb h1 (p:=⟨n,0,none⟩) (.inl hl) x) (p:=⟨n,1,none⟩) (.inl hl) y,Rd.setb (Rd.setb h2 (p:=⟨n,0,none⟩) (.inl hl) x) (p:=⟨n,1,none⟩) (.inl hl) y⟩
theorem c_DrawTry (A:Option Addr) (n c:Nat) (w:World) (h:BytesR w A n c) :
  Calls Tryz.prog 28 #[.slice A n c] w fun e w'=>∃ rs r1 r2 s a b A' c' L,e=.returned (.tuple #[rs,r1,.slice A' (Cms.len L) c',r2])∧StateV w' w.heap.size w'.heap.size rs s∧AsnV w' w.heap.size w'.heap.size r1 a∧AsnV w' w.heap.size w'.heap.size r2 b∧CmsV w' w.heap.size w'.heap.size A' L∧L.len+L.cost≤1000∧Below w.heap.size w w':=by
 have HBy:aJ (∀ W,Below w.heap.size w W→BytesR W A n c):=ax fun W hW=>by
  obtain ⟨bs,h1,h2,h3⟩:=h;exact ⟨bs,h1,(h2.bz hW).mono (Nat.le_refl _) hW.size,h3⟩
 clear h;(go_enter Tryz.func28,Tryz.ntmps28);(go_upto_region 1 with fail);refine bx3 (w:=w) (F:=Code.wp _ _ _ _) ?_;rintro W k2 k3 k5 hB hz;(go_wp2_with fail);refine (c_DrawVerify A n c _ (HBy.o W hB)).mono ?_;rintro e w1 ⟨r1,r2,a,b,A1,c1,L,rfl,ha,hb,-,-,hV,-,hLS,hq⟩;have hz1:=hq.size;replace k2:=k2.nz hq;replace k3:=k3.nz hq;replace k5:=k5.nz hq;obtain ⟨F0,F1,G0,G1,e1,-,-,-⟩:=id ha;obtain ⟨M0,M1,N0,N1,e2,-,-⟩:=id hb;subst e1 e2;have hbx:=bbox (bbox (Below.refl _ w1) (.cells #[.slice F0 a.facts.length F1,.slice G0 a.atoms.length G1] tAs)) (.cells #[.slice M0 b.facts.length M1,.slice N0 b.atoms.length N1] tAs);obtain ⟨k6,k8⟩:=blk2 w1 tAs tAs #[.slice F0 a.facts.length F1,.slice G0 a.atoms.length G1] #[.slice M0 b.facts.length M1,.slice N0 b.atoms.length N1];have HA:=ax (ha.V.bz hbx);have HB:=ax (hb.bz hbx);have HV:=ax (hV.bz hbx);have HW:=ax (bgo (bgo hB hq) hbx);replace k2:=k2.nz hbx;replace k3:=k3.nz hbx;replace k5:=k5.nz hbx;have hzb:w1.heap.size+2≤((w1.alloc (.cells #[.slice F0 a.facts.length F1,.slice G0 a.atoms.length G1] tAs)).alloc (.cells #[.slice M0 b.facts.length M1,.slice N0 b.atoms.length N1] tAs)).heap.size:=by simp
 clear ha hb hV hq hbx hB;(go_upto_region 2 with fail);generalize ((w1.alloc (.cells #[.slice F0 a.facts.length F1,.slice G0 a.atoms.length G1] _)).alloc (.cells #[.slice M0 b.facts.length M1,.slice N0 b.atoms.length N1] _))=V at *;obtain ⟨y6,hyy⟩:∃ y,y=w1.heap.size:=⟨_,rfl⟩;rw[←hyy] at k6 k8 hzb hz1 HA HB HV ⊢;clear hyy;(go_wp2_with fail);refine (c_l18Open A n c _ (HBy.o V HW.o)).mono ?_;rintro e w2 ⟨g,rfl,hg,hR,hq⟩;have hz2:=hq.size;have lg:=hR.lt;have HF:aJ (Fr g w w2):=ax ((Fr.ofBelow HW.o).go hq);have HR:=ax hR;replace k2:=k2.nz hq;replace k3:=k3.nz hq;replace k5:=k5.nz hq;replace k6:=k6.nz hq;replace k8:=k8.nz hq;replace HA:=ax (HA.o.bz hq);replace HB:=ax (HB.o.bz hq);replace HV:=ax (HV.o.bz hq);clear hR hq HW HBy;(replace qk6:=k6.z);(go_wp2_with fail);refine (c_spec_ModelsOf _ a _ HA.o (by omega)).mono ?_;rintro e w3 ⟨r,rfl,o,hq⟩;obtain ⟨A3,c3,rfl⟩:=o.I.form;obtain ⟨ss,hss⟩:∃ ss,ss=modelsV a:=⟨_,rfl⟩;rw[←hss] at o ⊢;have HM:aJ (StesV w3 w2.heap.size w3.heap.size A3 ss):=ax o.I.rj;have hz3:=hq.size;have hl3:=o.I.len.1;replace HF:=ax (HF.o.go hq);replace HR:=ax (HR.o.bz hq);replace k2:=k2.nz hq;replace k3:=k3.nz hq;replace k5:=k5.nz hq;replace k6:=k6.nz hq;replace k8:=k8.nz hq;replace HA:=ax (HA.o.bz hq);replace HB:=ax (HB.o.bz hq);replace HV:=ax (HV.o.bz hq);clear hq o hss qk6;obtain ⟨z3,hz3e⟩:∃ z,z=w3.heap.size:=⟨_,rfl⟩;rw[←hz3e] at HM;have hz3l:z3≤w3.heap.size:=Nat.le_of_eq hz3e;clear hz3e;by_cases h0:ss.length=0
 case' pos=>
  rw[h0];obtain ⟨q,hq1,HQ⟩:∃ q,q≤1∧aJ (Rdr w3 g q):=⟨0,by omega,HR⟩;clear HR;have HR:=HQ;clear HQ;obtain ⟨W4,rfl⟩:∃ z,z=w3:=⟨_,rfl⟩;(go_upto_region 6 with fail)
 case' neg=>
  have h0':(0:Int)<(ss.length:Int):=by omega
  (go_wp2_with fail);refine (c_pick g 0 _ _ HR.o (by omega)).mono ?_;rintro e W4 ⟨m,rfl,hm,hR,hf⟩;have hz4:=hf.size;replace k2:=k2.fr hf (by omega);replace k3:=k3.fr hf (by omega);replace k5:=k5.fr hf (by omega);replace k6:=k6.fr hf (by omega);replace k8:=k8.fr hf (by omega);replace HA:=ax (HA.o.fru hf (by omega) (by omega));replace HB:=ax (HB.o.fru hf (by omega) (by omega));replace HV:=ax (HV.o.fru hf (by omega) (by omega));replace HM:=ax (HM.o.fr0 hf (by omega));replace HF:=ax (HF.o.trans hf);clear HR;have HR:=ax hR;clear hR hf;by_cases hm0:m=0
  case' pos=>
   subst hm0;obtain ⟨q,hq1,HQ⟩:∃ q,q≤1∧aJ (Rdr W4 g q):=⟨1,by omega,HR⟩;clear HR;have HR:=HQ;clear HQ;(go_upto_region 6 with fail)
  case' neg=>
   have hm1:(0:Int)<(m:Int):=by omega
   clear hm;obtain ⟨mb,mo,-,-,-,-,rfl,-⟩:=HM.o.at (k:=0) (by omega);(go_wp2_with fail);(replace qk6:=k6.z;replace qk8:=k8.z);refine wp_region_noPanic ?_;refine wp_region_held_drew (S:=(fun w'=>(∀ i,w'.cell? ⟨y6,i,none⟩=#[.slice F0 a.facts.length F1,.slice G0 a.atoms.length G1][i]?)∧(∀ i,w'.cell? ⟨y6+1,i,none⟩=#[.slice M0 b.facts.length M1,.slice N0 b.atoms.length N1][i]?))) (by kernel_rfl) (⟨k6.drew.cell,k8.drew.cell⟩) (fun aH=>?_);have hdr:=(Below.refl W4.heap.size W4).drew;replace k2:=k2.nz hdr;replace k3:=k3.nz hdr;replace k5:=k5.nz hdr;replace k6:=k6.nz hdr;replace k8:=k8.nz hdr;replace HA:=ax (HA.o.bz hdr);replace HB:=ax (HB.o.bz hdr);replace HV:=ax (HV.o.bz hdr);replace HM:=ax (HM.o.bz hdr);replace HR:=ax (HR.o.bz hdr);replace HF:=ax (HF.o.go hdr);have hzd:=hdr.size;clear hdr;generalize W4.drew=V1 at *;refine tk2 0 rfl aH (h:=tk2 1 rfl aH (h:=tk2 2 rfl aH (h:=?_)));(try simp only[zz]);refine tk2 3 rfl aH (h:=tk2 7 rfl aH (h:=tk2 8 rfl aH (h:=?_)));(try simp only[zz]);refine tk2 9 rfl aH (h:=?_);refine rdc 4 rfl fun K hK=>?_;(try simp only[zz]);(go_simp;refine (c_pick g _ _ _ HR.o (by omega)).mono ?_;rintro e u8 ⟨m5,rfl,hm5,hR5,hf⟩;have hz8:=hf.size;replace k2:=k2.fr hf (by omega);replace k3:=k3.fr hf (by omega);replace k5:=k5.fr hf (by omega);replace k6:=k6.fr hf (by omega);replace k8:=k8.fr hf (by omega);replace HA:=ax (HA.o.fru hf (by omega) (by omega));replace HB:=ax (HB.o.fru hf (by omega) (by omega));replace HV:=ax (HV.o.fru hf (by omega) (by omega));replace HM:=ax (HM.o.fr0 hf (by omega));replace HF:=ax (HF.o.trans hf);clear hR5 hf);refine hK.out _ _ (⟨k6.cell,k8.cell⟩) ?_;clear aH hK K;intro aH;(try simp only[zz]);have hk5:m5<ss.length:=by omega
   obtain ⟨mb',mo',P1,p1,P2,p2,e5,hbl,q1,q2,i1,i2⟩:=HM.o.at (k:=m5) hk5;simp only[Option.some.injEq,Addr.mk.injEq,and_true] at e5;obtain ⟨rfl,rfl⟩:=e5;have hk5i:(m5:Int)<(ss.length:Int):=by omega
   refine rdc 5 rfl fun K hK=>?_;(try simp only[zz]);go_simp;refine hK.out _ _ (⟨k6.cell,k8.cell⟩) ?_;clear aH hK K;intro aH;refine rdc 6 rfl fun K hK=>?_;(try simp only[zz]);go_simp;refine hK.out _ _ (⟨k6.cell,k8.cell⟩) ?_;clear aH hK K;intro aH;(try simp only[zz]);obtain ⟨s,hse⟩:∃ s,s=ss[m5]:=⟨_,rfl⟩;rw[←hse] at q1 q2 i1 i2;(try rw[←hse]);clear hse;have HQ:aJ (QuaP g w u8 (w.heap.size+1+1+1) (.agg #[.slice P1 s.values.length p1,.slice P2 s.heap.length p2]) s (.agg #[.slice F0 a.facts.length F1,.slice G0 a.atoms.length G1]) a (.agg #[.slice M0 b.facts.length M1,.slice N0 b.atoms.length N1]) b A1 L):=ax ⟨⟨_,_,_,_,rfl,i1.mono (by omega) (by omega),i2.mono (by omega) (by omega)⟩,HA.o.mono (by omega) (by omega),HB.o.mono (by omega) (by omega),HV.o.mono (by omega) (by omega),HF.o⟩;clear q1 q2 i1 i2 hm5 hk5 hk5i;clear HA HB HV HR HF HM;(replace qk2:=k2.z;replace qk3:=k3.z;replace qk5:=k5.z);refine rdc 10 rfl fun K hK=>?_;(try simp only[zz]);go_simp;refine hK.out _ _ (⟨((k6.far (p:=⟨w.heap.size,0,none⟩) (by simp only;omega) (.slice P1 s.values.length p1)).far (p:=⟨w.heap.size,1,none⟩) (by simp only;omega) (.slice P2 s.heap.length p2)).cell,((k8.far (p:=⟨w.heap.size,0,none⟩) (by simp only;omega) (.slice P1 s.values.length p1)).far (p:=⟨w.heap.size,1,none⟩) (by simp only;omega) (.slice P2 s.heap.length p2)).cell⟩) ?_;clear aH hK K;intro aH;(try simp only[zz]);have j2:=((k2.set_ 0 (.slice P1 s.values.length p1)).set_ 1 (.slice P2 s.heap.length p2));have j3:=((k3.far (p:=⟨w.heap.size,0,none⟩) (by simp only;omega) (.slice P1 s.values.length p1)).far (p:=⟨w.heap.size,1,none⟩) (by simp only;omega) (.slice P2 s.heap.length p2));have j5:=((k5.far (p:=⟨w.heap.size,0,none⟩) (by simp only;omega) (.slice P1 s.values.length p1)).far (p:=⟨w.heap.size,1,none⟩) (by simp only;omega) (.slice P2 s.heap.length p2));have j6:=((k6.far (p:=⟨w.heap.size,0,none⟩) (by simp only;omega) (.slice P1 s.values.length p1)).far (p:=⟨w.heap.size,1,none⟩) (by simp only;omega) (.slice P2 s.heap.length p2));have j8:=((k8.far (p:=⟨w.heap.size,0,none⟩) (by simp only;omega) (.slice P1 s.values.length p1)).far (p:=⟨w.heap.size,1,none⟩) (by simp only;omega) (.slice P2 s.heap.length p2));have HQ2:=ax (HQ.o.st (n:=w.heap.size) (by omega) (by omega) (.slice P1 s.values.length p1) (.slice P2 s.heap.length p2));clear HQ k2 k3 k5 k6 k8 qk2 qk3 qk5;generalize ((u8.setCell ⟨w.heap.size,0,none⟩ (.slice P1 s.values.length p1)).setCell ⟨w.heap.size,1,none⟩ (.slice P2 s.heap.length p2))=U1 at *;(replace qj2:=j2.z;replace qj3:=j3.z;replace qj5:=j5.z);refine rdc 11 rfl fun K hK=>?_;(try simp only[zz]);go_simp;refine hK.out _ _ (⟨((j6.far (p:=⟨w.heap.size+1,0,none⟩) (by simp only;omega) (.slice F0 a.facts.length F1)).far (p:=⟨w.heap.size+1,1,none⟩) (by simp only;omega) (.slice G0 a.atoms.length G1)).cell,((j8.far (p:=⟨w.heap.size+1,0,none⟩) (by simp only;omega) (.slice F0 a.facts.length F1)).far (p:=⟨w.heap.size+1,1,none⟩) (by simp only;omega) (.slice G0 a.atoms.length G1)).cell⟩) ?_;clear aH hK K;intro aH;(try simp only[zz]);have i2:=((j2.far (p:=⟨w.heap.size+1,0,none⟩) (by simp only;omega) (.slice F0 a.facts.length F1)).far (p:=⟨w.heap.size+1,1,none⟩) (by simp only;omega) (.slice G0 a.atoms.length G1));have i3:=((j3.set_ 0 (.slice F0 a.facts.length F1)).set_ 1 (.slice G0 a.atoms.length G1));have i5:=((j5.far (p:=⟨w.heap.size+1,0,none⟩) (by simp only;omega) (.slice F0 a.facts.length F1)).far (p:=⟨w.heap.size+1,1,none⟩) (by simp only;omega) (.slice G0 a.atoms.length G1));have i6:=((j6.far (p:=⟨w.heap.size+1,0,none⟩) (by simp only;omega) (.slice F0 a.facts.length F1)).far (p:=⟨w.heap.size+1,1,none⟩) (by simp only;omega) (.slice G0 a.atoms.length G1));have i8:=((j8.far (p:=⟨w.heap.size+1,0,none⟩) (by simp only;omega) (.slice F0 a.facts.length F1)).far (p:=⟨w.heap.size+1,1,none⟩) (by simp only;omega) (.slice G0 a.atoms.length G1));have HQ3:=ax (HQ2.o.st (n:=w.heap.size+1) (by omega) (by omega) (.slice F0 a.facts.length F1) (.slice G0 a.atoms.length G1));clear HQ2 j2 j3 j5 j6 j8 qj2 qj3 qj5;generalize ((U1.setCell ⟨w.heap.size+1,0,none⟩ (.slice F0 a.facts.length F1)).setCell ⟨w.heap.size+1,1,none⟩ (.slice G0 a.atoms.length G1))=U2 at *;refine tk2 12 rfl aH (h:=?_);(try simp only[zz]);(replace qi5:=i5.z);refine rdc 13 rfl fun K hK=>?_;(try simp only[zz]);go_simp;refine hK.out _ _ (⟨((i6.far (p:=⟨w.heap.size+1+1,0,none⟩) (by simp only;omega) (.slice M0 b.facts.length M1)).far (p:=⟨w.heap.size+1+1,1,none⟩) (by simp only;omega) (.slice N0 b.atoms.length N1)).cell,((i8.far (p:=⟨w.heap.size+1+1,0,none⟩) (by simp only;omega) (.slice M0 b.facts.length M1)).far (p:=⟨w.heap.size+1+1,1,none⟩) (by simp only;omega) (.slice N0 b.atoms.length N1)).cell⟩) ?_;clear aH hK K;intro aH;(try simp only[zz]);refine dn1 ?_;have z2:=((i2.far (p:=⟨w.heap.size+1+1,0,none⟩) (by simp only;omega) (.slice M0 b.facts.length M1)).far (p:=⟨w.heap.size+1+1,1,none⟩) (by simp only;omega) (.slice N0 b.atoms.length N1)).cell;have z3:=((i3.far (p:=⟨w.heap.size+1+1,0,none⟩) (by simp only;omega) (.slice M0 b.facts.length M1)).far (p:=⟨w.heap.size+1+1,1,none⟩) (by simp only;omega) (.slice N0 b.atoms.length N1)).cell;have z5:=((i5.set_ 0 (.slice M0 b.facts.length M1)).set_ 1 (.slice N0 b.atoms.length N1)).cell;have HQ4:=HQ3.o.st (n:=w.heap.size+1+1) (by omega) (by omega) (.slice M0 b.facts.length M1) (.slice N0 b.atoms.length N1);clear i2 i3 i5 i6 i8 qi5 aH HQ3;(go_wp2_with fail);refine bodyPost_ret (v:=.tuple #[.agg #[.slice P1 s.values.length p1,.slice P2 s.heap.length p2],.agg #[.slice F0 a.facts.length F1,.slice G0 a.atoms.length G1],.slice A1 (Cms.len L) c1,.agg #[.slice M0 b.facts.length M1,.slice N0 b.atoms.length N1]]) (by simp[results,Tryz.results28,go_sem,z2,z3,z5]) rfl ?_;exact ⟨_,_,_,s,a,b,A1,c1,L,rfl,HQ4.sv.mono (by omega) (Nat.le_refl _),HQ4.tri.av.mono (by omega) (Nat.le_refl _),HQ4.tri.bv.mono (by omega) (Nat.le_refl _),HQ4.tri.cv.mono (by omega) (Nat.le_refl _),hLS,HQ4.tri.fr.bz (by omega) (Nat.le_refl _)⟩
 all_goals
  (go_wp2_with fail);(replace qk6:=k6.z;replace qk8:=k8.z);refine wp_region_noPanic ?_;refine wp_region_held_drew (S:=(fun w'=>(∀ i,w'.cell? ⟨y6,i,none⟩=#[.slice F0 a.facts.length F1,.slice G0 a.atoms.length G1][i]?)∧(∀ i,w'.cell? ⟨y6+1,i,none⟩=#[.slice M0 b.facts.length M1,.slice N0 b.atoms.length N1][i]?))) (by kernel_rfl) (⟨k6.drew.cell,k8.drew.cell⟩) (fun aH=>?_);have hdr:=(Below.refl W4.heap.size W4).drew;replace k2:=k2.nz hdr;replace k3:=k3.nz hdr;replace k5:=k5.nz hdr;replace k6:=k6.nz hdr;replace k8:=k8.nz hdr;replace HA:=ax (HA.o.bz hdr);replace HB:=ax (HB.o.bz hdr);replace HV:=ax (HV.o.bz hdr);replace HM:=ax (HM.o.bz hdr);replace HR:=ax (HR.o.bz hdr);replace HF:=ax (HF.o.go hdr);have hzd:=hdr.size;clear hdr;generalize W4.drew=V1 at *;refine tk2 0 rfl aH (h:=tk2 2 rfl aH (h:=tk2 3 rfl aH (h:=?_)));(try simp only[zz]);refine tk2 4 rfl aH (h:=?_);refine rdc 1 rfl fun K hK=>?_;(try simp only[zz]);(go_simp;refine (c_l2Draw g _ _ HR.o (by omega)).mono ?_;rintro e u8 ⟨r8,s,q8,rfl,o8,-,hR8,hq8,hf⟩;have hz8:=hf.size;replace k2:=k2.fr hf (by omega);replace k3:=k3.fr hf (by omega);replace k5:=k5.fr hf (by omega);replace k6:=k6.fr hf (by omega);replace k8:=k8.fr hf (by omega);replace HA:=ax (HA.o.fru hf (by omega) (by omega));replace HB:=ax (HB.o.fru hf (by omega) (by omega));replace HV:=ax (HV.o.fru hf (by omega) (by omega));replace HF:=ax (HF.o.trans hf);have HO:=ax o8.rj;clear hR8 hf o8);refine hK.out _ _ (⟨k6.cell,k8.cell⟩) ?_;clear aH hK K;intro aH;(try simp only[zz]);obtain ⟨P1,p1,P2,p2,e8,i1,i2⟩:=HO.o;subst e8;have HQ:aJ (QuaP g w u8 (w.heap.size+1+1+1) (.agg #[.slice P1 s.values.length p1,.slice P2 s.heap.length p2]) s (.agg #[.slice F0 a.facts.length F1,.slice G0 a.atoms.length G1]) a (.agg #[.slice M0 b.facts.length M1,.slice N0 b.atoms.length N1]) b A1 L):=ax ⟨⟨_,_,_,_,rfl,i1.mono (by omega) (by omega),i2.mono (by omega) (by omega)⟩,HA.o.mono (by omega) (by omega),HB.o.mono (by omega) (by omega),HV.o.mono (by omega) (by omega),HF.o⟩;clear i1 i2 HO;clear HA HB HV HR HF HM;(replace qk2:=k2.z;replace qk3:=k3.z;replace qk5:=k5.z);refine rdc 5 rfl fun K hK=>?_;(try simp only[zz]);go_simp;refine hK.out _ _ (⟨((k6.far (p:=⟨w.heap.size,0,none⟩) (by simp only;omega) (.slice P1 s.values.length p1)).far (p:=⟨w.heap.size,1,none⟩) (by simp only;omega) (.slice P2 s.heap.length p2)).cell,((k8.far (p:=⟨w.heap.size,0,none⟩) (by simp only;omega) (.slice P1 s.values.length p1)).far (p:=⟨w.heap.size,1,none⟩) (by simp only;omega) (.slice P2 s.heap.length p2)).cell⟩) ?_;clear aH hK K;intro aH;(try simp only[zz]);have j2:=((k2.set_ 0 (.slice P1 s.values.length p1)).set_ 1 (.slice P2 s.heap.length p2));have j3:=((k3.far (p:=⟨w.heap.size,0,none⟩) (by simp only;omega) (.slice P1 s.values.length p1)).far (p:=⟨w.heap.size,1,none⟩) (by simp only;omega) (.slice P2 s.heap.length p2));have j5:=((k5.far (p:=⟨w.heap.size,0,none⟩) (by simp only;omega) (.slice P1 s.values.length p1)).far (p:=⟨w.heap.size,1,none⟩) (by simp only;omega) (.slice P2 s.heap.length p2));have j6:=((k6.far (p:=⟨w.heap.size,0,none⟩) (by simp only;omega) (.slice P1 s.values.length p1)).far (p:=⟨w.heap.size,1,none⟩) (by simp only;omega) (.slice P2 s.heap.length p2));have j8:=((k8.far (p:=⟨w.heap.size,0,none⟩) (by simp only;omega) (.slice P1 s.values.length p1)).far (p:=⟨w.heap.size,1,none⟩) (by simp only;omega) (.slice P2 s.heap.length p2));have HQ2:=ax (HQ.o.st (n:=w.heap.size) (by omega) (by omega) (.slice P1 s.values.length p1) (.slice P2 s.heap.length p2));clear HQ k2 k3 k5 k6 k8 qk2 qk3 qk5;generalize ((u8.setCell ⟨w.heap.size,0,none⟩ (.slice P1 s.values.length p1)).setCell ⟨w.heap.size,1,none⟩ (.slice P2 s.heap.length p2))=U1 at *;(replace qj2:=j2.z;replace qj3:=j3.z;replace qj5:=j5.z);refine rdc 6 rfl fun K hK=>?_;(try simp only[zz]);go_simp;refine hK.out _ _ (⟨((j6.far (p:=⟨w.heap.size+1,0,none⟩) (by simp only;omega) (.slice F0 a.facts.length F1)).far (p:=⟨w.heap.size+1,1,none⟩) (by simp only;omega) (.slice G0 a.atoms.length G1)).cell,((j8.far (p:=⟨w.heap.size+1,0,none⟩) (by simp only;omega) (.slice F0 a.facts.length F1)).far (p:=⟨w.heap.size+1,1,none⟩) (by simp only;omega) (.slice G0 a.atoms.length G1)).cell⟩) ?_;clear aH hK K;intro aH;(try simp only[zz]);have i2:=((j2.far (p:=⟨w.heap.size+1,0,none⟩) (by simp only;omega) (.slice F0 a.facts.length F1)).far (p:=⟨w.heap.size+1,1,none⟩) (by simp only;omega) (.slice G0 a.atoms.length G1));have i3:=((j3.set_ 0 (.slice F0 a.facts.length F1)).set_ 1 (.slice G0 a.atoms.length G1));have i5:=((j5.far (p:=⟨w.heap.size+1,0,none⟩) (by simp only;omega) (.slice F0 a.facts.length F1)).far (p:=⟨w.heap.size+1,1,none⟩) (by simp only;omega) (.slice G0 a.atoms.length G1));have i6:=((j6.far (p:=⟨w.heap.size+1,0,none⟩) (by simp only;omega) (.slice F0 a.facts.length F1)).far (p:=⟨w.heap.size+1,1,none⟩) (by simp only;omega) (.slice G0 a.atoms.length G1));have i8:=((j8.far (p:=⟨w.heap.size+1,0,none⟩) (by simp only;omega) (.slice F0 a.facts.length F1)).far (p:=⟨w.heap.size+1,1,none⟩) (by simp only;omega) (.slice G0 a.atoms.length G1));have HQ3:=ax (HQ2.o.st (n:=w.heap.size+1) (by omega) (by omega) (.slice F0 a.facts.length F1) (.slice G0 a.atoms.length G1));clear HQ2 j2 j3 j5 j6 j8 qj2 qj3 qj5;generalize ((U1.setCell ⟨w.heap.size+1,0,none⟩ (.slice F0 a.facts.length F1)).setCell ⟨w.heap.size+1,1,none⟩ (.slice G0 a.atoms.length G1))=U2 at *;refine tk2 7 rfl aH (h:=?_);(try simp only[zz]);(replace qi5:=i5.z);refine rdc 8 rfl fun K hK=>?_;(try simp only[zz]);go_simp;refine hK.out _ _ (⟨((i6.far (p:=⟨w.heap.size+1+1,0,none⟩) (by simp only;omega) (.slice M0 b.facts.length M1)).far (p:=⟨w.heap.size+1+1,1,none⟩) (by simp only;omega) (.slice N0 b.atoms.length N1)).cell,((i8.far (p:=⟨w.heap.size+1+1,0,none⟩) (by simp only;omega) (.slice M0 b.facts.length M1)).far (p:=⟨w.heap.size+1+1,1,none⟩) (by simp only;omega) (.slice N0 b.atoms.length N1)).cell⟩) ?_;clear aH hK K;intro aH;(try simp only[zz]);refine dn1 ?_
  have z2:=((i2.far (p:=⟨w.heap.size+1+1,0,none⟩) (by simp only;omega) (.slice M0 b.facts.length M1)).far (p:=⟨w.heap.size+1+1,1,none⟩) (by simp only;omega) (.slice N0 b.atoms.length N1)).cell;have z3:=((i3.far (p:=⟨w.heap.size+1+1,0,none⟩) (by simp only;omega) (.slice M0 b.facts.length M1)).far (p:=⟨w.heap.size+1+1,1,none⟩) (by simp only;omega) (.slice N0 b.atoms.length N1)).cell;have z5:=((i5.set_ 0 (.slice M0 b.facts.length M1)).set_ 1 (.slice N0 b.atoms.length N1)).cell;have HQ4:=HQ3.o.st (n:=w.heap.size+1+1) (by omega) (by omega) (.slice M0 b.facts.length M1) (.slice N0 b.atoms.length N1);clear i2 i3 i5 i6 i8 qi5 aH HQ3;(go_wp2_with fail);refine bodyPost_ret (v:=.tuple #[.agg #[.slice P1 s.values.length p1,.slice P2 s.heap.length p2],.agg #[.slice F0 a.facts.length F1,.slice G0 a.atoms.length G1],.slice A1 (Cms.len L) c1,.agg #[.slice M0 b.facts.length M1,.slice N0 b.atoms.length N1]]) (by simp[results,Tryz.results28,go_sem,z2,z3,z5]) rfl ?_;exact ⟨_,_,_,s,a,b,A1,c1,L,rfl,HQ4.sv.mono (by omega) (Nat.le_refl _),HQ4.tri.av.mono (by omega) (Nat.le_refl _),HQ4.tri.bv.mono (by omega) (Nat.le_refl _),HQ4.tri.cv.mono (by omega) (Nat.le_refl _),hLS,HQ4.tri.fr.bz (by omega) (Nat.le_refl _)⟩
end
section
open Go Go.RowKit Go.Proofs
abbrev tM:Nat:=139
def Mach (w:World) (B g:Nat) (s:Ste) (f:Nat):Prop:=B≤g∧∃ fv hv,Blk w g tM #[fv,hv,.int .i64 (f:Int)]∧StateO w B (.agg #[fv,hv]) s
theorem Mach.bz {w w':World} {B g f:Nat} {s:Ste} (h:Mach w B g s f) (hb:Below w.heap.size w w'):Mach w' B g s f:=by
 obtain ⟨h1,fv,hv,k,o⟩:=h;exact ⟨h1,fv,hv,k.nz hb,o.bz hb⟩
theorem Mach.lt {w:World} {B g f:Nat} {s:Ste} (h:Mach w B g s f):g<w.heap.size:=by
 obtain ⟨h1,fv,hv,k,o⟩:=h;exact k.lt
theorem Mach.form {w:World} {B g f:Nat} {s:Ste} (h:Mach w B g s f):∃ F e1 G e2,B≤g∧Blk w g tM #[.slice F s.values.length e1,.slice G s.heap.length e2,.int .i64 (f:Int)]∧IntsO w B (.slice F s.values.length e1) s.values∧IntsO w B (.slice G s.heap.length e2) s.heap∧(∀ x,(Value.slice F s.values.length e1).ownBlock=some x→(Value.slice G s.heap.length e2).ownBlock≠some x):=by
 obtain ⟨h1,fv,hv,k,fv',hv',e,o1,o2,dj⟩:=h;injection e with e;injection e with e;injection e with ea eb;injection eb with eb;subst ea eb;obtain ⟨F,e1,rfl,-⟩:=o1.rj;obtain ⟨G,e2,rfl,-⟩:=o2.rj;exact ⟨F,e1,G,e2,h1,k,o1,o2,dj⟩
structure Rf (B:Nat) (w w':World):Prop where
 bz:Below B w w'
 size:w.heap.size≤w'.heap.size
 boxes:∀ k cs,Blk w k tC cs→Blk w' k tC cs
section
variable {B:Nat} {w a b:World}
theorem Rf.of (h:Below w.heap.size w a) (hB:B≤w.heap.size):Rf B w a:=⟨btoB h hB,h.size,fun _ _ k=>k.nz h⟩
theorem Rf.trans (h:Rf B w a) (h2:Rf B a b):Rf B w b:=⟨h.bz.trans h2.bz,Nat.le_trans h.size h2.size,fun k cs hk=>h2.boxes k cs (h.boxes k cs hk)⟩
theorem Rf.go (h:Rf B w a) (h2:Below a.heap.size a b) (hB:B≤w.heap.size):Rf B w b:=h.trans (Rf.of h2 (Nat.le_trans hB h.size))
theorem Rf.drew (h:Rf B w a):Rf B w a.drew:=⟨h.bz.drew,h.size,fun k cs hk=>(h.boxes k cs hk).drew⟩
theorem Rf.alloc (h:Rf B w a) (hB:B≤w.heap.size) (o:Obj):Rf B w (a.alloc o):=h.go (bbox (Below.refl _ _) o) hB
theorem Rf.set (h:Rf B w a) {p:Addr} {t:TypeId} {cs:Array Value} (hk:Blk a p.block t cs) (ht:t≠tC) (hp:B≤p.block) (u:Value):Rf B w (a.setCell p u):=
 ⟨h.bz.setCell hp u,by simpa using h.size,fun k cs' hk'=>(h.boxes k cs' hk').far (p:=p) ((h.boxes k cs' hk').ne_ hk (Ne.symm ht)) u⟩
end
theorem c_impl_TestHolds {lo hi:Nat} (v:Value) (s:Ste) (t:Fct) (w:World) (h:StateV w lo hi v s) (hs:s.valid=true) (ht:t.valid=true):Calls Tryz.prog 260 #[v,t.val] w fun e w'=>e=.returned (.bool (t.holds s.values))∧Below w.heap.size w w':=by
 have hV:=ax h;obtain ⟨A1,c1,A2,c2,rfl,h1,-⟩:=h;have HS:=ax hs;have HT:=ax ht;have h8:=ax (Ste.valid_len hs).1;have hv1:jq t.a=true∧jq t.b=true:=by simpa[Fct.valid] using ht
 have ha:=ax (zjA.1 hv1.1);have hb:=ax (zjA.1 hv1.2);have H1:=ax h1;clear hs ht hv1 h1;obtain ⟨x,hx⟩:∃ x,x=tval s.values t.a:=⟨_,rfl⟩;obtain ⟨y,hy⟩:∃ x,x=tval s.values t.b:=⟨_,rfl⟩;have HR:aJ (t.holds s.values=((x == y) == t.eq)):=by show _=_;rw[Fct.holds,←hx,←hy];rfl
 replace hx:=ax hx;replace hy:=ax hy;(go_enter Tryz.func260,Tryz.ntmps260);(go_wp2_with fail);refine (c_impl_StateValid _ s _ (hV.o.bz bel)).mono ?_;rintro e w1 ⟨rfl,hB1⟩;rw[HS.o];have hB:=bgo (w:=w) bel hB1;have k0:Blk w1 w.heap.size 61 #[.slice A1 s.values.length c1,.slice A2 s.heap.length c2]:=Blk.nz blks hB1;have k1:Blk w1 (w.heap.size+1) 41 #[.bool t.eq,.int .i64 t.a,.int .i64 t.b]:=Blk.nz blks hB1;(replace qk0:=k0.z;replace qk1:=k1.cell;replace rk1:=k1.frozen;replace lk1:=k1.lt);clear hB1;(go_wp2_with fail);refine (c_impl_FactValid t _).mono ?_;rintro e w2 ⟨rfl,hB2⟩;rw[HT.o];(replace hB:=bgo hB hB2;replace k0:=k0.nz hB2;replace qk0:=k0.z;replace k1:=k1.nz hB2;replace qk1:=k1.cell;replace rk1:=k1.frozen;replace lk1:=k1.lt);clear hB2;(go_wp2_with fail);refine wp_region_noPanic ?_;refine wp_region_held_drew (S:=(fun w'=>(∀ j,w'.cell? ⟨w.heap.size,j,none⟩=#[Value.slice A1 s.values.length c1,.slice A2 s.heap.length c2][j]?)∧(∀ j,w'.cell? ⟨w.heap.size+1,j,none⟩=#[Value.bool t.eq,.int .i64 t.a,.int .i64 t.b][j]?))) (by kernel_rfl) (⟨k0.cell,k1.cell⟩) (fun aH=>?_);refine tk2 0 rfl aH (h:=tk2 1 rfl aH (h:=tk2 2 rfl aH (h:=?_)));(try simp only[zz]);refine tk2 3 rfl aH (h:=tk2 5 rfl aH (h:=tk2 6 rfl aH (h:=?_)));(try simp only[zz]);refine tk2 7 rfl aH (h:=tk2 8 rfl aH (h:=tk2 11 rfl aH (h:=?_)));(try simp only[zz]);refine tk2 12 rfl aH (h:=?_);refine rdc 4 rfl fun K hK=>?_;(try simp only[zz]);(go_simp;refine (c_impl_termValue A1 c1 s.values t.a _ (H1.o.bz (hB.drew)) ha.o.1 (by rw[h8.o];exact ha.o.2)).mono ?_;rintro e w3 ⟨rfl,rfl⟩;rw[←hx.o]);refine hK.out _ _ (⟨k0.cell,k1.cell⟩) ?_;clear aH hK K;intro aH;refine rdc 9 rfl fun K hK=>?_;(try simp only[zz]);(go_simp;refine (c_impl_termValue A1 c1 s.values t.b _ (H1.o.bz (hB.drew)) hb.o.1 (by rw[h8.o];exact hb.o.2)).mono ?_;rintro e w3 ⟨rfl,rfl⟩;rw[←hy.o]);refine hK.out _ _ (⟨k0.cell,k1.cell⟩) ?_;clear aH hK K;intro aH;(try simp only[zz]);refine tk2 10 rfl aH (h:=tk2 13 rfl aH (h:=tk2 14 rfl aH (h:=?_)));(try simp only[zz]);refine dn1 ?_;(go_wp2_with fail);go_ret;exact ⟨zjD HR.o.symm,hB.drew⟩
theorem c_impl_AllocX {lo hi:Nat} (v:Value) (s:Ste) (w:World) (h:StateV w lo hi v s) (hs:s.valid=true) :
  Calls Tryz.prog 282 #[v] w fun e w'=>((freeK s.heap=none∧e=.returned (.tuple #[.agg #[.slice none 0 0,.slice none 0 0],.int .i64 0,.bool false]))∨(∃ (k:Nat) (r:Value),freeK s.heap=some k∧e=.returned (.tuple #[r,.int .i64 ((k:Int)+1),.bool true])∧StateO w' w.heap.size r ⟨s.values,s.heap.set k 0⟩))∧Below w.heap.size w w':=by
 have hV:=ax h;obtain ⟨A1,c1,A2,c2,rfl,-,-⟩:=h;have HS:=ax hs;have H8:=ax (Ste.valid_len hs);clear hs;(go_enter Tryz.func282,Tryz.ntmps282);obtain ⟨k0,k1⟩:=blk2 w tSt tSt #[.slice A1 s.values.length c1,.slice A2 s.heap.length c2] #[.slice none 0 0,.slice none 0 0];(go_wp2_with fail);refine (c_impl_StateValid _ s _ (hV.o.bz bel)).mono ?_;rintro e w1 ⟨rfl,hB1⟩;rw[HS.o];have hB:=bgo (w:=w) bel hB1;(replace k0:=k0.nz hB1;replace qk0:=k0.z;replace k1:=k1.nz hB1;replace qk1:=k1.cell;replace rk1:=k1.frozen;replace lk1:=k1.lt);clear hB1;(go_wp2_with fail)
 go_loopw [5] (fun i wr=>∃ k:Nat,k≤8∧i=.int .i64 ((k:Int)+1)∧aJ (∀ j:Nat,j<k→allocB s.heap ((j:Int)+1)=true)∧Blk wr w.heap.size tSt #[.slice A1 s.values.length c1,.slice A2 s.heap.length c2]∧Blk wr (w.heap.size+1) tSt #[.slice none 0 0,.slice none 0 0]∧aJ (Below w.heap.size w wr)) (fun i _=>10 - (intOf i).toNat)
 case atStart=>exact ⟨0,by omega,rfl,ax (fun j hj=>by omega),k0,k1,hB⟩
 case round=>
  clear k0 k1 hB qk0 qk1 rk1 lk1;obtain ⟨k,hk,rfl,HALL,k0,k1,HB⟩:=hrel;(replace qk0:=k0.z;replace qk1:=k1.cell;replace rk1:=k1.frozen;replace lk1:=k1.lt);have hsz:=HB.o.size;by_cases hlt:k<8
  ·have hki:(k:Int)+1≤8:=by omega
   (go_wp2_with fail);refine (c_impl_allocated _ s _ _ (hV.o.bz HB.o) H8.o.2).mono ?_;rintro e w2 ⟨rfl,hB2⟩;have hB3:Below w.heap.size w w2:=bgo HB.o hB2;(replace k0:=k0.nz hB2;replace qk0:=k0.z;replace k1:=k1.nz hB2;replace qk1:=k1.cell;replace rk1:=k1.frozen;replace lk1:=k1.lt);clear hB2;cases ha:allocB s.heap ((k:Int)+1)
   ·have HF:=ax (freeK_some hlt ha HALL.o);clear ha HALL;(go_wp2_with fail);refine (c_impl_copyState _ s _ (hV.o.bz hB3)).mono ?_;rintro e w4 ⟨r,rfl,o,hB4⟩;have hz:=hB3.size;(replace hB3:=bgo hB3 hB4;replace k0:=k0.nz hB4;replace qk0:=k0.z;replace k1:=k1.nz hB4;replace qk1:=k1.cell;replace rk1:=k1.frozen;replace lk1:=k1.lt);clear hB4;obtain ⟨fv,av,rfl,o1,o2,dj⟩:=o;obtain ⟨F,e1,rfl,-⟩:=o1.rj;obtain ⟨G,e2,rfl,-⟩:=o2.rj;have hnl:(k:Int)<(s.heap.length:Int):=by have:=H8.o.2;omega
    obtain ⟨g,cur,-,rfl,hg,kg,hc,hset⟩:=(o2.bq (base':=w.heap.size) hz).cell_ (k:=k) (by omega);have q:=kg.cell k;rw[hc] at q;obtain ⟨y,hy⟩:∃ y,y=s.heap[k]'(by omega):=⟨_,rfl⟩;rw[←hy] at q;have f:=kg.frozen k;have hgl:=kg.lt;have HSET:=ax (hset 0);have O1:=ax (o1.bq (base':=w.heap.size) hz);have HD:=ax dj;have hne:w.heap.size+1≠g:=k1.ne_ kg (by decide);clear hset o1 o2 dj hc hy;(go_wp2_with fail);have k6:=k1.far (p:=⟨g,k,none⟩) hne (.int .i64 0);refine bodyPost_ret (v:=.tuple #[.agg #[.slice F s.values.length e1,.slice (some ⟨g,0,none⟩) s.heap.length e2],.int .i64 ((k:Int)+1),.bool true]) (by simp[results,Tryz.results282,go_sem,qk1,lk1]) rfl ⟨Or.inr ⟨k,_,HF.o,rfl,⟨_,_,rfl,?_,?_,HD.o⟩⟩,?_⟩
    ·exact (((O1.o.set_ne (q:=⟨g,k,none⟩) (fun e=>HD.o g e rfl) (.int .i64 0)).setT k6 (by decide) 0 _).setT (k6.set_ 0 _) (by decide) 1 _).bz (bbox (Below.refl _ _) _)
    ·exact ((HSET.o.setT k6 (by decide) 0 _).setT (k6.set_ 0 _) (by decide) 1 _).bz (bbox (Below.refl _ _) _)
    ·exact bbox (((hB3.setCell (p:=⟨g,k,none⟩) hg _).setCell (p:=⟨w.heap.size+1,0,none⟩) (by simp only;omega) _).setCell (p:=⟨w.heap.size+1,1,none⟩) (by simp only;omega) _) _
   ·have HA2:aJ (∀ j:Nat,j<k+1→allocB s.heap ((j:Int)+1)=true):=fun j hj=>by
     rcases Nat.lt_or_ge j k with h|h
     ·exact HALL.o j h
     ·obtain rfl:j=k:=by omega
      exact ha
    clear ha HALL;(go_wp2_with fail)
    go_round
    case rel=>exact ⟨k+1,by omega,by go_num,HA2,k0,k1,hB3⟩
    case measure=>simp[intOf];omega
  ·obtain rfl:k=8:=by omega
   have hB:=HB.o;have HF:=ax (freeK_none HALL.o);clear HALL;(go_wp2_with fail);refine bodyPost_ret (v:=.tuple #[.agg #[.slice none 0 0,.slice none 0 0],.int .i64 0,.bool false]) (by simp[results,Tryz.results282,go_sem,qk1]) rfl ⟨Or.inl ⟨HF.o,rfl⟩,bel⟩
theorem c_impl_pay_no (w:World) (B g:Nat) (s:Ste) (h:Mach w B g s 0):Calls Tryz.prog 259 #[.pointer (some ⟨g,0,none⟩)] w fun e w'=>e=.returned (.bool false)∧w=w':=by
 obtain ⟨F,e1,G,e2,hBg,k,-,-,-⟩:=h.form;have q:=k.cell 2;(go_enter Tryz.func259,Tryz.ntmps259);(go_wp2_with fail);go_ret;exact ⟨rfl,rfl⟩
theorem c_impl_pay_yes (w:World) (B g:Nat) (s:Ste) (f:Nat) (h:Mach w B g s (f+1)) (hf:f≤200):Calls Tryz.prog 259 #[.pointer (some ⟨g,0,none⟩)] w fun e w'=>e=.returned (.bool true)∧Mach w' B g s f∧Rf B w w':=by
 obtain ⟨F,e1,G,e2,hBg,k,o1,o2,dj⟩:=h.form;have q:w.cell? ⟨g,2,none⟩=some (.int .i64 ((f:Int)+1)):=k.cell 2;have r:=k.frozen 2;have lt:=k.lt;replace k:=ax k;replace o1:=ax o1;replace o2:=ax o2;replace dj:=ax dj;clear h;(go_enter Tryz.func259,Tryz.ntmps259);(go_wp2_with fail);go_ret;refine ⟨rfl,⟨hBg,_,_,k.o.set_ 2 _,_,_,rfl,o1.o.setT k.o (by decide) 2 _,o2.o.setT k.o (by decide) 2 _,dj.o⟩,(Rf.of (Below.refl _ _) (by omega)).set (p:=⟨g,2,none⟩) k.o (by decide) hBg _⟩
end
end Go.Proofs.YtjaohekkmlkinaaGreat
