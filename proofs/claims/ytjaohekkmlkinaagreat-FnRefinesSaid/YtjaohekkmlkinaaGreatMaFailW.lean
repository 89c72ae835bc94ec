/- Contracts: impl's match of a case. -/
import Derived.Test.YtjaohekkmlkinaaGreatMaMatchC
set_option linter.unusedSimpArgs false
set_option linter.unusedVariables false
set_option maxRecDepth 100000
set_option maxHeartbeats 25600000
namespace Go.Proofs.YtjaohekkmlkinaaGreat
section
open Go Go.RowKit Go.Proofs
attribute [local go_sem ↓] Go.wp_at_zero Go.wp_at_succ
theorem useOne_eq (xs:List Atm) (u:List Bool) (x:Atm):useOne xs u x=if x.kind=1 then cellF xs u x else chainF xs x.b (xs.length+1) u x.a:=rfl
theorem cm_new (V:Value) (n:Nat) : #[V,.bool false,.bool false,.bool false,.bool false,.bool false,.bool false,.int .i64 0]=cmU V (List.replicate n false):=by
 have h:∀ j,ub (List.replicate n false) j=false:=by
  intro j;unfold ub;rw[List.getElem?_replicate]
  split<;>rfl
 unfold cmU cmC;simp only[h];simp[List.count_replicate]
theorem matchF_drop (xs:List Atm) (u:List Bool) (goal:List Atm) (k:Nat) (hk:k<goal.length):matchF xs u (goal.drop k)=(useOne xs u goal[k]).bind fun u'=>matchF xs u' (goal.drop (k+1)):=by
 rw[List.drop_eq_getElem_cons hk];rfl
theorem matchF_end (xs:List Atm) (u:List Bool) (goal:List Atm):matchF xs u (goal.drop goal.length)=some u:=by rw[List.drop_length];rfl
section
variable {ops:Array Oper} {rest:List Oper} {o:Oper} {a:Act} {Q:Exit→Act→World→Prop} {w:World} {base:Nat} {v:Value} {vs:List Value}
theorem appOwn (hgd:o.guard=none) (s x:Operand) (ho:o.op=.call { callee:=.builtin .append,args:=#[s,x],argTypes:=#[195,195] })
  (hs:a.eval s=v) (h0:w.ownsRow base tIS 1 v vs.length vs) (hbase:base≤w.heap.size) {g:Nat} {A:Option Addr} {n c:Nat} (hg:Blk w g tIS #[.slice A n c]) (hx:a.eval x=.slice (some ⟨g,0,none⟩) 1 1) (hl:vs.length+1≤1049600)
  (h:∀ A' c' w',w'.ownsRow base tIS 1 (.slice A' (vs.length+1) c') (vs.length+1) (vs++[.slice A n c])→w.grownBy w' v.ownBlock→Below base w w'→wpList Tryz.prog ops Q rest (a.put o.dst (.slice A' (vs.length+1) c')) w'):wpList Tryz.prog ops Q (o :: rest) a w:=by
 refine wpList_appL hgd s x 195 ho Tryz.underlying195 infoIS rfl (by decide) (by decide) hs h0 hx (rwS hg) (by intro u hu;simp at hu;subst hu;rfl) (by omega) hbase ?_;intro v' w' h1 h2 h3;obtain ⟨A',c',rfl,-⟩:=own_reads (by simpa using h1:w'.ownsRow base tIS 1 v' (vs++[Value.slice A n c]).length (vs++[Value.slice A n c])) (by simp[Lim];omega);simp only[List.length_append,List.length_cons,List.length_nil,Nat.zero_add] at h1 ⊢;exact h A' c' w' h1 h2 h3
end
theorem AtomsO.readsU {w:World} {base hi n c:Nat} {A:Option Addr} {xs:List Atm} (h:AtomsO w base (.slice A n c) xs) (hu:Und (.slice A n c) hi):AtomsV w base hi A xs:=by
 obtain ⟨A',c',e,h1⟩:=h.rj;injection e with e1 e2 e3;subst e1;refine ⟨⟨h1.raw.1,fun hn=>?_⟩,h1.lim⟩;obtain ⟨b,o,e,h2,-,h4⟩:=h1.raw.2 hn;subst e;exact ⟨b,o,rfl,h2,hu b rfl,h4⟩
theorem own_blk_ne {w:World} {base size n g:Nat} {e t:TypeId} {v:Value} {xs:List Value} {cs:Array Value} (h:w.ownsRow base e size v n xs) (hk:Blk w g t cs) (ht:t≠e):v.ownBlock≠some g:=by
 intro hg;rcases h.2 with ⟨rfl,-⟩|⟨k,cap,cur,rfl,-,hh,-⟩
 ·cases hg
 ·have e1:k=g:=by simpa[Value.ownBlock] using hg
  subst e1;exact (Blk.ne_ (g:=k) hk hh ht) rfl
theorem c_impl_matchCase {lo hi lo' hi':Nat} (v v':Value) (a b:Asn) (c:List Int) (w:World) (h:AsnV w lo hi v a) (h':AsnV w lo' hi' v' b) (ha:a.valid=true) (hb:b.valid=true) (hc:c.length=9) :
  Calls Tryz.prog 153 #[v,v',.agg (case9 c)] w fun e w'=>∃ r,e=.returned (.tuple #[r,.bool (entB a b c)])∧Below w.heap.size w w':=by
 have HA:=ax (Asn.valid_ok ha);have HBV:=ax (Asn.valid_ok hb);have HC:=ax hc
 have hal:a.atoms.length≤6:=by
  simp only[Asn.valid,Bool.and_eq_true,decide_eq_true_eq] at ha;exact ha.2.1
 have hbl:b.atoms.length≤6:=by
  simp only[Asn.valid,Bool.and_eq_true,decide_eq_true_eq] at hb;exact hb.2.1
 obtain ⟨A1,c1,A2,c2,rfl,h1,h2⟩:=h;obtain ⟨A3,c3,A4,c4,rfl,h3,h4⟩:=h';have H2:=ax h2;have H3:=ax h3;have H4:=ax h4;have HE:aJ (entB a b c=(b.facts.all (Fct.fits c)&&matchB (filledL a.atoms c) (filledL b.atoms c))):=rfl;clear h1 h2 h3 h4 ha hb hc;(go_enter Tryz.func153,Tryz.ntmps153);obtain ⟨k0,k1,k2⟩:=blk3 w tAs tAs tTc #[.slice A1 a.facts.length c1,.slice A2 a.atoms.length c2] #[.slice A3 b.facts.length c3,.slice A4 b.atoms.length c4] (case9 c);(go_wp2_with fail);refine (c_impl_factsHold A3 c3 b.facts c (w.heap.size+1+1) _ (H3.o.bz bel) (k2.case HC.o) HC.o HBV.o.1).mono ?_;rintro e w1 ⟨rfl,hB1⟩;have hB:Below w.heap.size w w1:=bgo (w:=w) bel hB1;replace k0:=k0.nz hB1;replace k1:=k1.nz hB1;replace k2:=k2.nz hB1;(replace qk0:=k0.z;replace qk1:=k1.z;replace qk2:=k2.z);clear hB1;cases hf:b.facts.all (Fct.fits c)
 ·have E:aJ (entB a b c=false):=by show _=_;rw[HE.o,hf];rfl
  clear hf;(go_wp2_with fail);go_ret2;exact ⟨_,by rw[E.o];rfl,hB⟩
 ·have E:aJ (entB a b c=matchB (filledL a.atoms c) (filledL b.atoms c)):=by show _=_;rw[HE.o,hf];rfl
  clear hf;(go_wp2_with fail);refine (c_impl_filled A2 c2 a.atoms c (w.heap.size+1+1) _ (H2.o.bz hB) (k2.case HC.o) HC.o HA.o.2).mono ?_;rintro e w2 ⟨r2,rfl,o2,hB2⟩;obtain ⟨X,xc,rfl,xV⟩:=o2.rj;have hxl:=filledL_len a.atoms c;obtain ⟨xs,hxs⟩:∃ xs,xs=filledL a.atoms c:=⟨_,rfl⟩;have HXS:=ax hxs;rw[←hxs] at o2 xV hxl ⊢;have XV:=ax xV;have hBB:=bgo hB hB2;replace k0:=k0.nz hB2;replace k1:=k1.nz hB2;replace k2:=k2.nz hB2;(replace qk0:=k0.z;replace qk1:=k1.z;replace qk2:=k2.z);have HUX:aJ (Und (.slice X xs.length xc) w2.heap.size):=fun h hh=>(o2.1.lt h hh).2;have hz1:=hB.size;have hz2:=hBB.size;have o2l:=o2.bq (base':=w.heap.size) hz1;clear hB2 hB xV hxs o2;(go_wp2_with fail);refine (c_impl_filled A4 c4 b.atoms c (w.heap.size+1+1) _ (H4.o.bz bel) (Blk.case (c:=c) blks HC.o) HC.o HBV.o.2).mono ?_;rintro e w3 ⟨r3,rfl,o3,hB3⟩;have km0:Blk w3 w2.heap.size tMt #[.slice X xs.length xc,.bool false,.bool false,.bool false,.bool false,.bool false,.bool false,.int .i64 0]:=Blk.nz blks hB3;have km:Blk w3 w2.heap.size tMt (cmU (.slice X xs.length xc) (List.replicate xs.length false)):=by rw[←cm_new];exact km0
  obtain ⟨G,gc,rfl,-⟩:=o3.rj;have hgl:=filledL_len b.atoms c;obtain ⟨goal,hgo⟩:∃ goal,goal=filledL b.atoms c:=⟨_,rfl⟩;have HGO:=ax hgo;rw[←hgo] at o3 hgl ⊢;have HXO:aJ (AtomsO w3 w.heap.size (.slice X xs.length xc) xs):=(o2l.bz (w':=w2.alloc (.cells #[.slice X xs.length xc,.bool false,.bool false,.bool false,.bool false,.bool false,.bool false,.int .i64 0] tMt)) bel).bz hB3;have HG:aJ (AtomsO w3 (w2.heap.size+1) (.slice G goal.length gc) goal):=o3.bq (by simp);have HB3:aJ (Below w.heap.size w w3):=bgo (w:=w) bel hB3;have E2:aJ (entB a b c=matchB xs goal):=by show _=_;rw[E.o,HXS.o,HGO.o]
  clear hB3 km0 o3 o2l hgo hBB k0 k1 k2 qk0 qk1 qk2 XV;obtain ⟨g,hge⟩:∃ g,g=w2.heap.size:=⟨_,rfl⟩;rw[←hge] at km HG HUX hz2 ⊢;clear hge;(go_wp2_with fail)
  go_loopw [9,26] (fun s9 s26 wr=>∃ (k:Nat) (u:List Bool) (U:Option Addr) (uc:Nat) (vs:List Value),k≤goal.length∧s26=.int .i64 k∧s9=.slice U vs.length uc∧vs.length=k∧aJ (matchF xs (List.replicate xs.length false) goal=matchF xs u (goal.drop k))∧aJ (u.length=xs.length)∧aJ (wr.ownsRow w.heap.size tIS 1 (.slice U vs.length uc) vs.length vs)∧Blk wr g tMt (cmU (.slice X xs.length xc) u)∧aJ (AtomsO wr (g+1) (.slice G goal.length gc) goal)∧aJ (AtomsO wr w.heap.size (.slice X xs.length xc) xs)∧aJ (Below w.heap.size w wr)) (fun _ i _=>goal.length - (intOf i).toNat)
  case atStart=>exact ⟨0,List.replicate xs.length false,none,0,[],Nat.zero_le _,rfl,rfl,rfl,rfl,by show _=_;simp,World.ownsRow_nil _ _ _ _,km,HG,HXO,HB3⟩
  case round=>
   clear km HG HXO HB3;obtain ⟨k,u,U,uc,vs,hk,rfl,rfl,hvk,HM,HL,HO,km,HG,HXO,HB⟩:=hrel;have hzr:=HB.o.size;have lm:=km.lt;by_cases hlt:k<goal.length
   ·obtain ⟨G',gc',eG,gV⟩:=HG.o.rj;injection eG with eG1 eG2 eG3;subst eG1;clear eG2 eG3;obtain ⟨gb,go_,rfl,lgb⟩:=gV.blt hlt;obtain ⟨g0,g1,g2⟩:=gV.cl hlt;have HMD:=ax (matchF_drop xs u goal k hlt);obtain ⟨x,hx⟩:∃ x,x=goal[k]:=⟨_,rfl⟩;rw[←hx] at g0 g1 g2 HMD;have HXV:aJ (AtomsV wr w.heap.size g X xs):=HXO.o.readsU HUX.o;clear hx gV;cases hkd:(x.kind == 1)
    case' false=>have e0:useOne xs u x=chainF xs x.b (xs.length+1) u x.a:=by rw[useOne_eq,if_neg (by simpa using hkd)]
    case' true=>have e0:useOne xs u x=cellF xs u x:=by rw[useOne_eq,if_pos (by simpa using hkd)]
    all_goals have HE0:=ax e0
    all_goals clear e0
    case' false=>
     (go_wp2_with fail);refine (c_impl_useChain X xc xs u x g _ (HXV.o.bz bel) (Nat.le_refl _) (km.alloc _) (by omega) HL.o).mono ?_;rintro e w4 ⟨r,ys,rfl,oy,hM,hu⟩
    case' true=>
     (go_wp2_with fail);refine (c_impl_useCell X xc xs u x g _ (HXV.o.bz bel) (Nat.le_refl _) (km.alloc _) (by omega) HL.o).mono ?_;rintro e w4 ⟨r,ys,rfl,oy,hM,hu⟩
    all_goals
     rw[←HE0.o] at hu ⊢;obtain ⟨R,rc,rfl,-⟩:=oy.rj;have HU1:=ax hu;have HO4:aJ (w4.ownsRow w.heap.size tIS 1 (.slice U vs.length uc) vs.length vs):=own_mk (own_below (w':=wr.alloc (.cells #[.int .i64 x.kind,.int .i64 x.a,.int .i64 x.b] tA)) HO.o bel) hM fun h e1 e2=>own_blk_ne HO.o km (by decide) (by rw[e1,e2]);have HG4:aJ (AtomsO w4 (g+1) (.slice (some ⟨gb,go_,none⟩) goal.length gc) goal):=(HG.o.bz (w':=wr.alloc (.cells #[.int .i64 x.kind,.int .i64 x.a,.int .i64 x.b] tA)) bel).mk hM fun h e1 e2=>by have:=(HG.o.1.lt h e1).1;omega
     have HX4:aJ (AtomsO w4 w.heap.size (.slice X xs.length xc) xs):=(HXO.o.bz (w':=wr.alloc (.cells #[.int .i64 x.kind,.int .i64 x.a,.int .i64 x.b] tA)) bel).mk hM fun h e1 e2=>by have:=HUX.o h e1;omega
     have HB4:aJ (Below w.heap.size w w4):=(bbox HB.o _).trans (hM.bz (lo:=w.heap.size) (fun h e=>by omega) (by simp;omega));have hz4:=HB4.o.size;clear hu hM oy HO HG HXO HB km HXV g0 g1 g2;cases hres:useOne xs u x
     ·have E3:aJ (entB a b c=false):=by show _=_;rw[E2.o];unfold matchB;rw[HM.o,HMD.o,hres];rfl
      clear hres;simp only[Option.isSome_none];(go_wp2_with fail);go_ret2;exact ⟨_,by rw[E3.o];rfl,HB4.o⟩
     ·rename_i u';have km4:=HU1.o u' hres;have lm4:=km4.lt;have HMS:aJ (matchF xs (List.replicate xs.length false) goal=matchF xs u' (goal.drop (k+1))):=by show _=_;rw[HM.o,HMD.o,hres];rfl
      have HL':aJ (u'.length=xs.length):=by show _=_;rw[useOne_len hres];exact HL.o
      clear hres;simp only[Option.isSome_some];have hvl:vs.length+1≤1049600:=by omega
      go_wp2_with (at_builtin;refine appOwn (v:=.slice U vs.length uc) (base:=w.heap.size) rfl _ _ rfl rfl (own_below HO4.o bel) (by simp;omega) (Blk.new w4 tIS _) rfl hvl ?_;intro A' c' w5 o5 hg5 hB5;have oo:=own_below (w':=w4.alloc (.cells #[.slice R ys.length rc] tIS)) HO4.o bel;have km5:=Blk.zm (g:=g) (hg:=hg5) (km4.alloc _) oo (by decide);have HG5:aJ (AtomsO w5 (g+1) (.slice (some ⟨gb,go_,none⟩) goal.length gc) goal):=⟨own_grownO (own_below (w':=w4.alloc (.cells #[.slice R ys.length rc] tIS)) HG4.o.1 bel) oo hg5 (by decide),HG4.o.2⟩;have HX5:aJ (AtomsO w5 w.heap.size (.slice X xs.length xc) xs):=⟨own_grownO (own_below (w':=w4.alloc (.cells #[.slice R ys.length rc] tIS)) HX4.o.1 bel) oo hg5 (by decide),HX4.o.2⟩;have HB5:aJ (Below w.heap.size w w5):=(bbox HB4.o _).trans hB5;have HO5:=ax o5;clear o5 oo hB5 hg5)
      go_round
      case rel=>exact ⟨k+1,u',A',c',vs++[.slice R ys.length rc],by omega,by go_num,by simp<;>omega,by simp;omega,HMS,HL',by show World.ownsRow _ _ _ _ _ _ _;simpa using HO5.o,km5,HG5,HX5,HB5⟩
      case measure=>simp[intOf];omega
   ·obtain rfl:k=goal.length:=by omega
    have E3:aJ (entB a b c=u.all id):=by show _=_;rw[E2.o];unfold matchB;rw[HM.o,matchF_end]
    have q0:wr.cell? ⟨g,0,none⟩=some (.slice X xs.length xc):=km.cell 0;have q7:wr.cell? ⟨g,7,none⟩=some (.int .i64 ((u.count true:Nat):Int)):=km.cell 7;by_cases hcc:u.count true=xs.length
    ·have E4:aJ (entB a b c=true):=by show _=_;rw[E3.o];exact count_all.1 (by rw[hcc,HL.o])
     rw[hcc] at q7;clear hcc km;(go_wp2_with fail);go_ret2;exact ⟨_,by rw[E4.o];rfl,HB.o⟩
    ·have E4:aJ (entB a b c=false):=by
      show _=_;rw[E3.o];cases hall:u.all id
      ·rfl
      ·exact absurd (by rw[count_all.2 hall];exact HL.o) hcc
     obtain ⟨cnt,hcn⟩:∃ n,n=u.count true:=⟨_,rfl⟩;rw[←hcn] at q7 hcc;have hne:((cnt:Int) != (xs.length:Int))=true:=by simp;omega
     clear hcc hcn km;(go_wp2_with fail);go_ret2;exact ⟨_,by rw[E4.o];rfl,HB.o⟩
theorem chainG_ne {xs:List Atm} {b:Int} {n:Nat} {used:List Bool} {c:Int} (h:c≠b):chainG xs b n used c=chainF xs b n used c:=by unfold chainG;rw[if_neg h]
theorem made6 (n:Nat) (h:n≤6):madeCells #[.bool false] (n * 1)=Array.replicate n (.bool false):=by
 obtain rfl|rfl|rfl|rfl|rfl|rfl|rfl:n=0∨n=1∨n=2∨n=3∨n=4∨n=5∨n=6:=by omega
 all_goals kernel_rfl
theorem mkBn (n:Nat) (h:n≤6) (w:World):(Instr.makeSlice 124 (.int .i64 (n:Int)) (.int .i64 (n:Int))).run Tryz.prog w=.ok (.slice (some ⟨w.heap.size,0,none⟩) n n) (w.alloc (.cells (Array.replicate n (.bool false)) tB)):=
 (mkB n (by simp[Lim];omega) w).trans (by rw[made6 n h])
theorem BoolsO.made {w:World} {n:Nat} (h:n≤6):BoolsO (w.alloc (.cells (Array.replicate n (.bool false)) tB)) w.heap.size (.slice (some ⟨w.heap.size,0,none⟩) n n) (List.replicate n false):=
 ⟨by simpa using own_of_blk (n:=n) (cap:=n) (size:=1) (L:=encB (List.replicate n false)) (Blk.new w tB (Array.replicate n (.bool false))) (Nat.le_refl _) (by simp[encB]) (by intro j hj;simp[encB,List.getElem?_replicate,Array.getElem?_replicate]) (Nat.le_refl _) (Nat.le_trans h (by decide)) (by simp),by simp[Lim];omega⟩
theorem all_step (u:List Bool) (j:Nat) (hj:j<u.length):(u.drop j).all id=(u[j]&&(u.drop (j+1)).all id):=by
 rw[List.drop_eq_getElem_cons hj];rfl
theorem c_spec_l6Match {lo hi lo' hi':Nat} (A B:Option Addr) (d e:Nat) (xs goal:List Atm) (w:World) (h:AtomsV w lo hi A xs) (h':AtomsV w lo' hi' B goal) (hhi:hi≤w.heap.size) (hhi':hi'≤w.heap.size) (hl6:xs.length≤6) (hg:∀ x∈goal,x.kind=1∨(x.kind=2∧x.a≠x.b)) :
  Calls Tryz.prog 281 #[.slice A xs.length d,.slice B goal.length e] w fun e w'=>e=.returned (.bool (matchB xs goal))∧Below w.heap.size w w':=by
 have hl:=h.le;have hl':=h'.le;have H:=ax h;have H':=ax h';have HG:=ax hg;have HM0:=ax (BoolsO.made (w:=w) hl6);have hmk:=mkBn xs.length hl6;clear h h' hg;(go_enter Tryz.func281,Tryz.ntmps281);go_wp2;clear hmk
 go_loopw [6] (fun i wr=>∃ (k:Nat) (u:List Bool),k≤goal.length∧i=.int .i64 k∧aJ (matchF xs (List.replicate xs.length false) goal=matchF xs u (goal.drop k))∧aJ (u.length=xs.length)∧aJ (BoolsO wr w.heap.size (.slice (some ⟨w.heap.size,0,none⟩) xs.length xs.length) u)∧aJ (Below w.heap.size w wr)) (fun i _=>goal.length - (intOf i).toNat)
 case atStart=>exact ⟨0,List.replicate xs.length false,Nat.zero_le _,rfl,rfl,by show _=_;simp,HM0.o,(show Below _ _ _ from bel)⟩
 case round=>
  obtain ⟨k,u,hk,rfl,HM,HL,HU,HB⟩:=hrel;have hzr:=HB.o.size;have HA:aJ (AtomsV wr lo hi A xs):=H.o.bz HB.o;have HGV:aJ (AtomsV wr lo' hi' B goal):=H'.o.bz HB.o;by_cases hlt:k<goal.length
  ·obtain ⟨gb,go_,rfl,lgb⟩:=HGV.o.blt hlt;obtain ⟨g0,g1,g2⟩:=HGV.o.cl hlt;have HMD:=ax (matchF_drop xs u goal k hlt);have hkind:=HG.o _ (List.getElem_mem hlt);have HX:=ax (fun (w':World) (hv:AtomsV w' lo' hi' (some ⟨gb,go_,none⟩) goal)=>hv.cl hlt);obtain ⟨x,hx⟩:∃ x,x=goal[k]:=⟨_,rfl⟩;rw[←hx] at g0 g1 g2 HMD hkind HX;clear hx;rcases hkind with h1|⟨h2,hne⟩
   ·have f1:(x.kind == 2)=false:=by rw[h1];rfl
    have HE0:aJ (useOne xs u x=cellF xs u x):=by show _=_;rw[useOne_eq,if_pos h1]
    clear h1;obtain ⟨BB,cB,eB,hBV⟩:=HU.o.rj;injection eB with eB1 eB2 eB3;subst eB1;clear eB2 eB3;(go_wp2_with fail);refine (c_spec_l6Find A (some ⟨w.heap.size,0,none⟩) d xs.length xs u x.a _ HA.o hBV HL.o).mono ?_;rintro e w1 ⟨rfl,rfl⟩;clear hBV;cases hf:findU xs u x.a
    ·have E:aJ (useOne xs u x=none):=by show _=_;rw[HE0.o];unfold cellF;rw[hf];rfl
     have E3:aJ (matchB xs goal=false):=by show _=_;unfold matchB;rw[HM.o,HMD.o,E.o];rfl
     clear hf;simp only[fndI];(go_wp2_with fail);(go_quiet (fail));(go_wp2_with fail);go_ret;exact ⟨zjD (by rw[E3.o]),HB.o.trans (btoB (w:=wr) bel hzr)⟩
    ·rename_i j;obtain ⟨hjl,hfr⟩:=findU_some hf;have hfu:=freeAt_used hfr;obtain ⟨yb,yo,rfl,lyb⟩:=HA.o.blt hjl;obtain ⟨y0,y1,y2⟩:=HA.o.cl hjl;rw[freeAt_of hjl HL.o,Bool.and_eq_true,decide_eq_true_eq] at hfr;have E:aJ (useOne xs u x=if xs[j]=x then some (u.set j true) else none):=by show _=_;rw[HE0.o];unfold cellF;rw[hf];simp only[Option.bind_some,List.getElem?_eq_getElem hjl,Option.getD_some]
     obtain ⟨y,hy⟩:∃ y,y=xs[j]:=⟨_,rfl⟩;rw[←hy] at y0 y1 y2 E hfr;have hya:=hfr.1;have hjx:(j:Int)<(xs.length:Int):=by omega
     have hj0:¬(j:Int)<0:=by omega
     have hkx:(k:Int)<(goal.length:Int):=by omega
     have HFU:=ax hfu;clear hf hy hfr hfu;rw[hya] at y1;simp only[fndI];by_cases e1:y.kind=x.kind
     ·by_cases e3:y.b=x.b
      ·have E2:aJ (useOne xs u x=some (u.set j true)):=by
        show _=_;rw[E.o,if_pos];cases y;cases x;simp_all
       have HMS:aJ (matchF xs (List.replicate xs.length false) goal=matchF xs (u.set j true) (goal.drop (k+1))):=by show _=_;rw[HM.o,HMD.o,E2.o];rfl
       rw[e1] at y0;rw[e3] at y2;clear e1 e3 hya;(go_wp2_with fail);(go_quiet (fail));obtain ⟨V,hV⟩:∃ V,V=wr.drewN nq:=⟨_,rfl⟩;have hWV:Below wr.heap.size wr V:=by rw[hV];exact bel
       rw[←hV];clear hV y0 y1 y2 g0 g1 g2;obtain ⟨g,cur,-,hgg,hgb,kg,hcm,hset⟩:=(HU.o.bz hWV).open_ (k:=j) HFU.o.1;injection hgg with hgg;injection hgg with hgg;subst hgg;have qg:V.cell? ⟨w.heap.size,j,none⟩=some (.bool false):=(kg.cell j).trans (hcm.trans (by rw[(List.getElem?_eq_some_iff.1 HFU.o.2).2]));have rg:=kg.frozen;have HSET:=ax (hset true);have HBV2:aJ (Below w.heap.size w V):=HB.o.trans (btoB hWV hzr);clear kg hcm hset;(go_wp2_with fail)
       go_round
       case rel=>exact ⟨k+1,u.set j true,by omega,by go_num,HMS,by show _=_;rw[List.length_set];exact HL.o,HSET.o,HBV2.o.setCell (p:=⟨w.heap.size,j,none⟩) (Nat.le_refl _) _⟩
       case measure=>simp[intOf];omega
      ·have e3':(y.b == x.b)=false:=by simpa using e3
       have E2:aJ (useOne xs u x=none):=by show _=_;rw[E.o,if_neg (fun e=>e3 (by rw[e]))]
       have E3:aJ (matchB xs goal=false):=by show _=_;unfold matchB;rw[HM.o,HMD.o,E2.o];rfl
       rw[e1] at y0;clear e1 e3 hya;(go_wp2_with fail);(go_quiet (fail));(go_wp2_with fail);go_ret;exact ⟨zjD (by rw[E3.o]),HB.o.trans (btoB (w:=wr) bel hzr)⟩
     ·have e1':(y.kind == x.kind)=false:=by simpa using e1
      have E2:aJ (useOne xs u x=none):=by show _=_;rw[E.o,if_neg (fun e=>e1 (by rw[e]))]
      have E3:aJ (matchB xs goal=false):=by show _=_;unfold matchB;rw[HM.o,HMD.o,E2.o];rfl
      clear e1 hya;(go_wp2_with fail);(go_quiet (fail));(go_wp2_with fail);go_ret;exact ⟨zjD (by rw[E3.o]),HB.o.trans (btoB (w:=wr) bel hzr)⟩
   ·have f1:(x.kind == 2)=true:=by rw[h2];rfl
    have HE0:aJ (useOne xs u x=chainG xs x.b (xs.length+1) u x.a):=by show _=_;rw[useOne_eq,if_neg (by omega),chainG_ne hne]
    clear h2 hne;(go_wp2_with fail);refine wp_region_noPanic ?_;refine wp_region_held_drew (S:=(fun w'=>w'.cell? ⟨gb,go_+k * 3+1,none⟩=some (.int .i64 x.a)∧w'.cell? ⟨gb,go_+k * 3+2,none⟩=some (.int .i64 x.b))) (by kernel_rfl) (⟨g1,g2⟩) (fun aH=>?_);refine tk2 0 rfl aH (h:=tk2 1 rfl aH (h:=tk2 2 rfl aH (h:=?_)));(try simp only[zz]);refine tk2 3 rfl aH (h:=tk2 4 rfl aH (h:=tk2 5 rfl aH (h:=?_)));(try simp only[zz]);refine tk2 6 rfl aH (h:=tk2 7 rfl aH (h:=tk2 8 rfl aH (h:=?_)));(try simp only[zz]);refine tk2 9 rfl aH (h:=tk2 10 rfl aH (h:=tk2 11 rfl aH (h:=?_)));refine rdc 12 rfl fun K hK=>?_;(try simp only[zz]);(go_simp;refine (c_spec_l6Chain A (some ⟨w.heap.size,0,none⟩) d xs.length xs u x.a x.b _ (HA.o.bz bel) (HU.o.bz bel) HL.o hhi (by simpa using hzr)).mono ?_;rintro e2 w2 ⟨rfl,hu,hM⟩;have hB2:Below w.heap.size w w2:=Below.trans (Below.trans HB.o (btoB (w:=wr) bel hzr)) (hM.bz (lo:=w.heap.size) (fun h e=>by cases e;exact Nat.le_refl _) (by simpa using hzr));have hG2:=HX.o w2 (H'.o.bz hB2));refine hK.out _ _ (⟨hG2.2.1,hG2.2.2⟩) ?_;clear aH hK K;intro aH;(try simp only[zz]);refine tk2 13 rfl aH (h:=?_);(try simp only[zz]);refine dn1 ?_;have HB2:=ax hB2;have HUU:=ax hu;rw[←HE0.o] at HUU ⊢;clear hB2 hu hM hG2 g0 g1 g2;cases hres:useOne xs u x
    ·have E3:aJ (matchB xs goal=false):=by show _=_;unfold matchB;rw[HM.o,HMD.o,hres];rfl
     clear hres;simp only[Option.isSome_none];(go_wp2_with fail);go_ret;exact ⟨zjD (by rw[E3.o]),HB2.o⟩
    ·rename_i u';have HR:=ax (HUU.o u' hres);have HMS:aJ (matchF xs (List.replicate xs.length false) goal=matchF xs u' (goal.drop (k+1))):=by show _=_;rw[HM.o,HMD.o,hres];rfl
     clear hres;simp only[Option.isSome_some];(go_wp2_with fail)
     go_round
     case rel=>exact ⟨k+1,u',by omega,by go_num,HMS,HR.o.2,HR.o.1,HB2⟩
     case measure=>simp[intOf];omega
  ·obtain rfl:k=goal.length:=by omega
   have E3:aJ (matchB xs goal=u.all id):=by show _=_;unfold matchB;rw[HM.o,matchF_end]
   obtain ⟨BB,cB,eB,hBV⟩:=HU.o.rj;injection eB with eB1 eB2 eB3;subst eB1;clear eB2 eB3;have HBV:=ax hBV;clear hBV;(go_wp2_with fail)
   go_loopw [8] (fun i w2=>∃ j:Nat,j≤xs.length∧i=.int .i64 j∧w2=wr∧aJ (u.all id=(u.drop j).all id)) (fun i _=>xs.length - (intOf i).toNat)
   case atStart=>exact ⟨0,Nat.zero_le _,rfl,rfl,rfl⟩
   case round=>
    obtain ⟨j,hj,rfl,rfl,HJ⟩:=hrel;by_cases hjl:j<xs.length
    ·have hju:j<u.length:=by rw[HL.o];exact hjl
     have qu:=HBV.o.cl (k:=j) hju;rw[Nat.zero_add] at qu;have HS:=ax (all_step u j hju);have hjx:(j:Int)<(xs.length:Int):=by omega
     cases huj:u[j]
     ·have E4:aJ (matchB xs goal=false):=by show _=_;rw[E3.o,HJ.o,HS.o,huj];rfl
      rw[huj] at qu;clear huj;(go_wp2_with fail);go_ret;exact ⟨zjD (by rw[E4.o]),HB.o⟩
     ·have HJ2:aJ (u.all id=(u.drop (j+1)).all id):=by show _=_;rw[HJ.o,HS.o,huj];rfl
      rw[huj] at qu;clear huj;(go_wp2_with fail)
      go_round
      case rel=>exact ⟨j+1,by omega,by go_num,trivial,HJ2⟩
      case measure=>simp[intOf];omega
    ·obtain rfl:j=xs.length:=by omega
     have E4:aJ (matchB xs goal=true):=by show _=_;rw[E3.o,HJ.o,←HL.o,List.drop_length];rfl
     (go_wp2_with fail);go_ret;exact ⟨zjD (by rw[E4.o]),HB.o⟩
end
section
open Go Go.RowKit Go.Proofs
attribute [local go_sem ↓] Go.wp_at_zero Go.wp_at_succ
attribute [local go_sem] Oper.semAt_some
def failF (a b:Asn):Option (List Int):=(cases a (caseS a (tset (mz b)))).find? fun c=>!entB a b c
theorem find_pre {L p:List (List Int)} {x:List Int} {f:List Int→Bool} (h:(p++[x]) <+: L) (hp:∀ y∈p,f y=false) (hx:f x=true):L.find? f=some x:=by
 obtain ⟨zs,rfl⟩:=h;rw[List.append_assoc,List.find?_append];have h0:p.find? f=none:=by rw[List.find?_eq_none];intro y hy;simp[hp y hy]
 rw[h0];simp[hx]
theorem c_impl_failingCase {lo hi lo' hi':Nat} (v v':Value) (a b:Asn) (w:World) (h:AsnV w lo hi v a) (h':AsnV w lo' hi' v' b) (hhi:hi≤w.heap.size) (hhi':hi'≤w.heap.size) (ha:a.valid=true) (hb:b.valid=true) :
  Calls Tryz.prog 89 #[v,v'] w fun e w'=>e=.returned (.tuple #[.agg (case9 ((failF a b).getD zeros)),.bool (failF a b).isSome])∧Below w.heap.size w w':=by
 have hV:=ax h;have hV':=ax h';obtain ⟨A1,c1,A2,c2,rfl,-,-⟩:=h;obtain ⟨A3,c3,A4,c4,rfl,-,-⟩:=h';have HVA:=ax ha;have HVB:=ax hb;have hT5:tset (mz b)<512:=tset_lt (mz b);have HT5:=ax hT5;clear ha hb hT5;refine (callsIn_wide (n:=3)).1 ?_;(refine callsIn_of_wp_marks Tryz.func89 rfl trivial ?_ rfl;simp only[Tryz.ntmps89,List.size_toArray,List.length_cons,List.length_nil,Nat.reduceAdd,Nat.reduceSub,Array.replicate_succ,Array.replicate_zero,List.push_toArray,List.append_toArray,List.nil_append,List.cons_append])
 gi_wp2_with fail
 refine wpIn_wide.2 ?_;refine wp_region_noPanic ?_;refine wp_region_held_drew (S:=(fun w'=>(∀ i,w'.cell? ⟨w.heap.size,i,none⟩=#[.slice A1 a.facts.length c1,.slice A2 a.atoms.length c2][i]?)∧(∀ i,w'.cell? ⟨w.heap.size+1,i,none⟩=#[.slice A3 b.facts.length c3,.slice A4 b.atoms.length c4][i]?))) (by kernel_rfl) (⟨Blk.cell blks,Blk.cell blks⟩) (fun aH=>?_);refine tk2 0 rfl aH (h:=tk2 1 rfl aH (h:=?_));refine rdc 2 rfl fun K hK=>?_;(try simp only[zz]);(go_simp;refine (c_impl_termsIn _ b _ (hV'.o.bz bel)).mono ?_;rintro e w1 ⟨rfl,hB1⟩;have k0:Blk w1 w.heap.size tAs #[.slice A1 a.facts.length c1,.slice A2 a.atoms.length c2]:=Blk.nz blks hB1;have k1:Blk w1 (w.heap.size+1) tAs #[.slice A3 b.facts.length c3,.slice A4 b.atoms.length c4]:=Blk.nz blks hB1;have kR0:Blk w1 (w.heap.size+1+1) tTc #[.int .i64 0,.int .i64 0,.int .i64 0,.int .i64 0,.int .i64 0,.int .i64 0,.int .i64 0,.int .i64 0,.int .i64 0]:=Blk.nz blks hB1;have kO:Blk w1 (w.heap.size+1+1+1) 4 #[.bool false]:=Blk.nz blks hB1;have hB:=bgo (w:=w) bel hB1);refine hK.out _ _ (⟨k0.cell,k1.cell⟩) ?_;clear aH hK K;intro aH;refine rdc 3 rfl fun K hK=>?_;(try simp only[zz]);(go_simp;refine (c_impl_possibleCases A1 A2 c1 c2 a (tset (mz b)) _ (hV.o.bz bel) HT5.o).mono ?_;rintro e w2 ⟨gA,gT,rfl,hA,hT,kA,kT,hB2⟩;replace k0:=k0.nz hB2;replace k1:=k1.nz hB2;replace kR0:=kR0.nz hB2;replace kO:=kO.nz hB2;have hz1:=hB.size;replace hB:=bgo hB hB2);refine hK.out _ _ (⟨k0.cell,k1.cell⟩) ?_;clear aH hK K;intro aH;(try simp only[zz]);refine dn1 ?_;have kR:Blk w2 (w.heap.size+1+1) tTc (case9 zeros):=kR0;have hzO:=kO.lt;have hz:=hB.size;have hAw:=hV.o.bz hB;clear kR0 hB2 hB1
 gi_wp2_with fail
 refine wp_rangeT (gf:=201) (lb:=#[.pointer (some ⟨gA,0,none⟩),.pointer (some ⟨gT,0,none⟩)]) rfl (enters_of Tryz.func201 (by kernel_rfl) rfl)
  (c_seq (n₀:=w.heap.size) w2 HVA.o HT5.o hAw hhi (by omega) kA kT) (fun h k=>h.trans k) (Kept.putl (by omega)) (Below.refl _ _) (fun _=>rfl)
  (fun pre W=>aJ (∀ y∈pre,entB a b y.1=true)∧Blk W (w.heap.size+1+1) tTc (case9 zeros)∧Blk W (w.heap.size+1+1+1) 4 #[.bool false]∧Blk W w.heap.size tAs #[.slice A1 a.facts.length c1,.slice A2 a.atoms.length c2]∧Blk W (w.heap.size+1) tAs #[.slice A3 b.facts.length c3,.slice A4 b.atoms.length c4]∧Below w.heap.size w W)
  (fun c pre W=>∃ p x,c=.ret∧pre=p++[x]∧aJ (∀ y∈p,entB a b y.1=true)∧aJ (entB a b x.1=false)∧Blk W (w.heap.size+1+1) tTc (case9 x.1)∧Blk W (w.heap.size+1+1+1) 4 #[.bool true]∧Below w.heap.size w W)
  (fun s X Y row hs hg hr=>by
   obtain ⟨e1,k1,k2,k3,k4,k5⟩:=hs
   exact ⟨e1,k1.turn hg hr (Or.inr (by omega)),k2.turn hg hr (Or.inr (by omega)),k3.turn hg hr (Or.inr (by omega)),k4.turn hg hr (Or.inr (by omega)),Below.turn k5 hg hr (by omega) k5.size⟩)
  (fun c s X Y row hs hg hr=>by
   obtain ⟨p,x,e1,e2,e3,e4,k1,k2,k3⟩:=hs
   exact ⟨p,x,e1,e2,e3,e4,k1.turn hg hr (Or.inr (by omega)),k2.turn hg hr (Or.inr (by omega)),Below.turn k3 hg hr (by omega) k3.size⟩)
  ⟨fun y hy=>absurd hy (by simp),kR,kO,k0,k1,hB⟩ ?round ?done ?stop
 case round=>
  rintro l pre x W hl ⟨HP,kR,kO,k0,k1,hB⟩ -;have hwz:=hB.size
  gi_wp2
  refine ⟨(KeepsOthers.alloc _ _).from _,Kept.alloc (by omega) _,fun o o' ho hc=>?_⟩;have kX:=(Blk.new W tTc (case9 x.1)).putl o' ho hc;have lO:=kO.lt;replace kR:=(kR.alloc (.cells (case9 x.1) tTc)).putl o' ho hc;replace kO:=(kO.alloc (.cells (case9 x.1) tTc)).putl o' ho hc;replace k0:=(k0.alloc (.cells (case9 x.1) tTc)).putl o' ho hc;replace k1:=(k1.alloc (.cells (case9 x.1) tTc)).putl o' ho hc;have hB':=(bbox hB (.cells (case9 x.1) tTc)).trans (Kept.put (T1:=tTc) (T2:=tAs) (n₀:=w.heap.size) o' (by omega) ho hc).bz;clear ho;obtain ⟨V,hVe⟩:∃ V,V=(W.alloc (.cells (case9 x.1) tTc)).putObj l o':=⟨_,rfl⟩;rw[←hVe] at kX kR kO k0 k1 hB' ⊢;clear hVe hB;obtain ⟨p0,p1,p2,p3,p4,p5,p6,p7,p8⟩:=case9_cells kX;have q0:=k0.cell;have q1:=k1.cell;have hxl:=ax x.len
  gi_wp2_with fail
  refine ⟨trivial,(CallsIn.inRound l (callsIn_wide.2 (c_impl_matchCase _ _ a b x.1 _ (hV.o.bz hB') (hV'.o.bz hB') HVA.o HVB.o hxl.o))).mono ?_⟩;rintro e w3 ⟨r,rfl,hB3⟩;replace kX:=kX.nz hB3;replace kR:=kR.nz hB3;replace kO:=kO.nz hB3;replace k0:=k0.nz hB3;replace k1:=k1.nz hB3;have hBV:=bgo hB' hB3;have hz3:=hBV.size;have hzV:=hB'.size;have hKV:Kept tTc tAs w.heap.size V w3:=Kept.nz hB3 hzV;have hKF:KeepsOthers V w3:=(KX.of hB3).keeps;clear q0 q1 p0 p1 p2 p3 p4 p5 p6 p7 p8 hB3;cases he:entB a b x.1
  ·have HE:=ax he;clear he;obtain ⟨p0,p1,p2,p3,p4,p5,p6,p7,p8⟩:=case9_cells kX;obtain ⟨q0,q1,q2,q3,q4,q5,q6,q7,q8⟩:=case9_cells kR;have rR:=kR.frozen;have qO:=kO.cell 0;have rO:=kO.frozen
   gi_wp2
   refine ⟨(hKF.trans (keeps9.trans (KeepsOthers.setCell _ _ _))).from _,pre,x,rfl,rfl,HP,HE,?_,?_,?_⟩
   ·exact (Blk.nine kR).far (p:=⟨w.heap.size+1+1+1,0,none⟩) (by simp) _
   ·exact (kO.nineFar (by omega)).set_ 0 (.bool true)
   ·exact (below9 hBV (by omega)).setCell (p:=⟨w.heap.size+1+1+1,0,none⟩) (by simp only;omega) _
  ·have HE:aJ (∀ y∈pre++[x],entB a b y.1=true):=fun y hy=>by
    rcases List.mem_append.1 hy with hy|hy
    ·exact HP.o y hy
    ·rw[List.mem_singleton.1 hy];exact he
   clear he
   gi_wp2
   exact ⟨hKF.from _,hKV,HE,kR,kO,k0,k1,hBV⟩
 case done=>
  rintro D ys W hD hS ⟨HP,kR,kO,k0,k1,hB⟩ hK
  have E:aJ (failF a b=none):=by
   show _=_;unfold failF;rw[←hS,List.find?_eq_none];intro y hy;obtain ⟨z,hz,rfl⟩:=List.mem_map.1 hy;simp[HP.o z hz]
  clear hS k0 k1;obtain ⟨q0,q1,q2,q3,q4,q5,q6,q7,q8⟩:=case9_cells kR;have rR:=kR.frozen;have qO:=kO.cell 0;have rO:=kO.frozen;have lO:=kO.lt;have lR:=kR.lt
  gi_wp2
  have zR:=(Blk.nine (v0:=.int .i64 0) (v1:=.int .i64 0) (v2:=.int .i64 0) (v3:=.int .i64 0) (v4:=.int .i64 0) (v5:=.int .i64 0) (v6:=.int .i64 0) (v7:=.int .i64 0) (v8:=.int .i64 0) kR).far (p:=⟨w.heap.size+1+1+1,0,none⟩) (by simp) (.bool false);have zO:=(kO.nineFar (g:=w.heap.size+1+1) (v0:=.int .i64 0) (v1:=.int .i64 0) (v2:=.int .i64 0) (v3:=.int .i64 0) (v4:=.int .i64 0) (v5:=.int .i64 0) (v6:=.int .i64 0) (v7:=.int .i64 0) (v8:=.int .i64 0) (by omega)).set_ 0 (.bool false);have zB:=(below9 (g:=w.heap.size+1+1) (v0:=.int .i64 0) (v1:=.int .i64 0) (v2:=.int .i64 0) (v3:=.int .i64 0) (v4:=.int .i64 0) (v5:=.int .i64 0) (v6:=.int .i64 0) (v7:=.int .i64 0) (v8:=.int .i64 0) hB (by omega)).setCell (p:=⟨w.heap.size+1+1+1,0,none⟩) (by simp only;omega) (.bool false);have zK:=((keeps9 (w:=W) (g:=w.heap.size+1+1) (v0:=.int .i64 0) (v1:=.int .i64 0) (v2:=.int .i64 0) (v3:=.int .i64 0) (v4:=.int .i64 0) (v5:=.int .i64 0) (v6:=.int .i64 0) (v7:=.int .i64 0) (v8:=.int .i64 0)).trans (KeepsOthers.setCell _ ⟨w.heap.size+1+1+1,0,none⟩ (.bool false))).same D _ hK rfl;obtain ⟨V,hVe⟩:∃ V,V=((set9 W (w.heap.size+1+1) (.int .i64 0) (.int .i64 0) (.int .i64 0) (.int .i64 0) (.int .i64 0) (.int .i64 0) (.int .i64 0) (.int .i64 0) (.int .i64 0)).setCell ⟨w.heap.size+1+1+1,0,none⟩ (.bool false)):=⟨_,rfl⟩;rw[←hVe] at zR zO zB zK ⊢;refine ⟨by simp,.inl ⟨_,_,rfl,run_takeDeferred zK,?_⟩⟩;have yR:Blk _ _ _ (case9 zeros):=zR.putl (.deferred none) zK rfl;have yO:=zO.putl (.deferred none) zK rfl;obtain ⟨p0,p1,p2,p3,p4,p5,p6,p7,p8⟩:=case9_cells yR;have pO:=yO.cell 0;refine ⟨.tuple #[.agg (case9 zeros),.bool false],?_,by rw[E.o];rfl,zB.trans (belowK_b (w:=w) (Nat.le_refl _) V D _ _ (by omega) zK rfl rfl)⟩;simp[results,Tryz.f89,go_sem,p0,p1,p2,p3,p4,p5,p6,p7,p8,pO]
 case stop=>
  rintro D c pre W hD hS ⟨p,x,rfl,rfl,HP,HE,kR,kO,hB⟩ hK
  have E:aJ (failF a b=some x.1):=by
   show _=_;unfold failF;rw[List.map_append,List.map_cons,List.map_nil] at hS;refine find_pre hS (fun y hy=>?_) (by simp[HE.o]);obtain ⟨z,hz,rfl⟩:=List.mem_map.1 hy;simp[HP.o z hz]
  clear hS;obtain ⟨q0,q1,q2,q3,q4,q5,q6,q7,q8⟩:=case9_cells kR;have qO:=kO.cell 0;have lO:=kO.lt;have lR:=kR.lt
  gi_wp2
  refine ⟨by simp,.inl ⟨_,_,rfl,run_takeDeferred hK,?_⟩⟩;have yR:=kR.putl (.deferred none) hK rfl;have yO:=kO.putl (.deferred none) hK rfl;obtain ⟨p0,p1,p2,p3,p4,p5,p6,p7,p8⟩:=case9_cells yR;have pO:=yO.cell 0;refine ⟨.tuple #[.agg (case9 x.1),.bool true],?_,by rw[E.o];rfl,hB.trans (belowK_b (w:=w) (Nat.le_refl _) W D _ _ (by omega) hK rfl rfl)⟩;simp[results,Tryz.f89,go_sem,p0,p1,p2,p3,p4,p5,p6,p7,p8,pO]
end
end Go.Proofs.YtjaohekkmlkinaaGreat
