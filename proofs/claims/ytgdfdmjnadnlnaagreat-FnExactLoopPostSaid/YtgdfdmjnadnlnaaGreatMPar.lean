/- Contracts: the spec's match of a case. -/
import Derived.Test.YtgdfdmjnadnlnaaGreatMMatchM
import Derived.Deep.DeepCutAuto
import Derived.Deep.RegionHeld
set_option linter.unusedSimpArgs false
set_option linter.unusedVariables false
set_option maxRecDepth 100000
set_option maxHeartbeats 25600000
namespace Go.Proofs.YtgdfdmjnadnlnaaGreat
section
open Go Go.RowKit Go.Proofs
attribute [local go_sem ↓] Go.wp_at_zero Go.wp_at_succ
theorem chainG_ne {xs:List Atm} {b:Int} {n:Nat} {used:List Bool} {c:Int} (h:c≠b):chainG xs b n used c=chainF xs b n used c:=by unfold chainG;rw[if_neg h]
theorem made6 (n:Nat) (h:n≤6):madeCells #[.bool false] (n * 1)=Array.replicate n (.bool false):=by
 obtain rfl|rfl|rfl|rfl|rfl|rfl|rfl:n=0∨n=1∨n=2∨n=3∨n=4∨n=5∨n=6:=by omega
 all_goals kernel_rfl
theorem mkBn (n:Nat) (h:n≤6) (w:World):(Instr.makeSlice 116 (.int .i64 (n:Int)) (.int .i64 (n:Int))).run Tryz.prog w=.ok (.slice (some ⟨w.heap.size,0,none⟩) n n) (w.alloc (.cells (Array.replicate n (.bool false)) tB)):=
 (mkB n (by simp[Lim];omega) w).trans (by rw[made6 n h])
theorem BoolsO.made {w:World} {n:Nat} (h:n≤6):BoolsO (w.alloc (.cells (Array.replicate n (.bool false)) tB)) w.heap.size (.slice (some ⟨w.heap.size,0,none⟩) n n) (List.replicate n false):=
 ⟨by simpa using own_of_blk (n:=n) (cap:=n) (size:=1) (L:=encB (List.replicate n false)) (Blk.new w tB (Array.replicate n (.bool false))) (Nat.le_refl _) (by simp[encB]) (by intro j hj;simp[encB,List.getElem?_replicate,Array.getElem?_replicate]) (Nat.le_refl _) (Nat.le_trans h (by decide)) (by simp),by simp[Lim];omega⟩
theorem all_step (u:List Bool) (j:Nat) (hj:j<u.length):(u.drop j).all id=(u[j]&&(u.drop (j+1)).all id):=by
 rw[List.drop_eq_getElem_cons hj];rfl
theorem c_spec_l6Match {lo hi lo' hi':Nat} (A B:Option Addr) (d e:Nat) (xs goal:List Atm) (w:World) (h:AtomsV w lo hi A xs) (h':AtomsV w lo' hi' B goal) (hhi:hi≤w.heap.size) (hhi':hi'≤w.heap.size) (hl6:xs.length≤6) (hg:∀ x∈goal,x.kind=1∨(x.kind=2∧x.a≠x.b)) :
  Calls Tryz.prog 266 #[.slice A xs.length d,.slice B goal.length e] w fun e w'=>e=.returned (.bool (matchB xs goal))∧Below w.heap.size w w':=by
 have hl:=h.le;have hl':=h'.le;have H:=ax h;have H':=ax h';have HG:=ax hg;have HM0:=ax (BoolsO.made (w:=w) hl6);have hmk:=mkBn xs.length hl6;clear h h' hg;(go_enter Tryz.func266,Tryz.ntmps266);go_wp2;clear hmk
 go_loopw [6] (fun i wr=>∃ (k:Nat) (u:List Bool),k≤goal.length∧i=.int .i64 k∧aJ (matchF xs (List.replicate xs.length false) goal=matchF xs u (goal.drop k))∧aJ (u.length=xs.length)∧aJ (BoolsO wr w.heap.size (.slice (some ⟨w.heap.size,0,none⟩) xs.length xs.length) u)∧aJ (Below w.heap.size w wr)) (fun i _=>goal.length - (intOf i).toNat)
 case atStart=>exact ⟨0,List.replicate xs.length false,Nat.zero_le _,rfl,rfl,by show _=_;simp,HM0.o,(show Below _ _ _ from bel)⟩
 case round=>
  obtain ⟨k,u,hk,rfl,HM,HL,HU,HB⟩:=hrel;have hzr:=HB.o.size;have HA:aJ (AtomsV wr lo hi A xs):=H.o.bz HB.o;have HGV:aJ (AtomsV wr lo' hi' B goal):=H'.o.bz HB.o;by_cases hlt:k<goal.length
  ·obtain ⟨gb,go_,rfl,lgb⟩:=HGV.o.blt hlt;obtain ⟨g0,g1,g2⟩:=HGV.o.cl hlt;have HMD:=ax (matchF_drop xs u goal k hlt);have hkind:=HG.o _ (List.getElem_mem hlt);have HX:=ax (fun (w':World) (hv:AtomsV w' lo' hi' (some ⟨gb,go_,none⟩) goal)=>hv.cl hlt);obtain ⟨x,hx⟩:∃ x,x=goal[k]:=⟨_,rfl⟩;rw[←hx] at g0 g1 g2 HMD hkind HX;clear hx;rcases hkind with h1|⟨h2,hne⟩
   ·have f1:(x.kind == 2)=false:=by rw[h1];rfl
    have HE0:aJ (useOne xs u x=cellF xs u x):=by show _=_;rw[useOne_eq,if_pos h1]
    clear h1;obtain ⟨BB,cB,eB,hBV⟩:=HU.o.rj;injection eB with eB1 eB2 eB3;subst eB1;clear eB2 eB3;(go_wp2_with fail);refine (c_spec_l6Find A (some ⟨w.heap.size,0,none⟩) d xs.length xs u x.a _ HA.o hBV HL.o).mono ?_;rintro e w1 ⟨rfl,rfl⟩;clear hBV;cases hf:findU xs u x.a
    ·have E:aJ (useOne xs u x=none):=by show _=_;rw[HE0.o];unfold cellF;rw[hf];rfl
     have E3:aJ (matchB xs goal=false):=by show _=_;unfold matchB;rw[HM.o,HMD.o,E.o];rfl
     clear hf;simp only[fndI];(go_wp2_with fail);(go_quiet (fail));(go_wp2_with fail);go_ret;exact ⟨zjD (by rw[E3.o]),HB.o.trans (btoB (w:=wr) bel hzr)⟩
    ·rename_i j;obtain ⟨hjl,hfr⟩:=findU_some hf;have hfu:=freeAt_used hfr;obtain ⟨yb,yo,rfl,lyb⟩:=HA.o.blt hjl;obtain ⟨y0,y1,y2⟩:=HA.o.cl hjl;rw[freeAt_of hjl HL.o,Bool.and_eq_true,decide_eq_true_eq] at hfr;have E:aJ (useOne xs u x=if xs[j]=x then some (u.set j true) else none):=by show _=_;rw[HE0.o];unfold cellF;rw[hf];simp only[Option.bind_some,List.getElem?_eq_getElem hjl,Option.getD_some]
     obtain ⟨y,hy⟩:∃ y,y=xs[j]:=⟨_,rfl⟩;rw[←hy] at y0 y1 y2 E hfr;have hya:=hfr.1;have hjx:(j:Int)<(xs.length:Int):=by omega
     have hj0:¬(j:Int)<0:=by omega
     have hkx:(k:Int)<(goal.length:Int):=by omega
     have HFU:=ax hfu;clear hf hy hfr hfu;rw[hya] at y1;simp only[fndI];by_cases e1:y.kind=x.kind
     ·by_cases e3:y.b=x.b
      ·have E2:aJ (useOne xs u x=some (u.set j true)):=by
        show _=_;rw[E.o,if_pos];cases y;cases x;simp_all
       have HMS:aJ (matchF xs (List.replicate xs.length false) goal=matchF xs (u.set j true) (goal.drop (k+1))):=by show _=_;rw[HM.o,HMD.o,E2.o];rfl
       rw[e1] at y0;rw[e3] at y2;clear e1 e3 hya;(go_wp2_with fail);(go_quiet (fail));obtain ⟨V,hV⟩:∃ V,V=wr.drewN nq:=⟨_,rfl⟩;have hWV:Below wr.heap.size wr V:=by rw[hV];exact bel
       rw[←hV];clear hV y0 y1 y2 g0 g1 g2;obtain ⟨g,cur,-,hgg,hgb,kg,hcm,hset⟩:=(HU.o.bz hWV).open_ (k:=j) HFU.o.1;injection hgg with hgg;injection hgg with hgg;subst hgg;have qg:V.cell? ⟨w.heap.size,j,none⟩=some (.bool false):=(kg.cell j).trans (hcm.trans (by rw[(List.getElem?_eq_some_iff.1 HFU.o.2).2]));have rg:=kg.frozen;have HSET:=ax (hset true);have HBV2:aJ (Below w.heap.size w V):=HB.o.trans (btoB hWV hzr);clear kg hcm hset;(go_wp2_with fail)
       go_round
       case rel=>exact ⟨k+1,u.set j true,by omega,by go_num,HMS,by show _=_;rw[List.length_set];exact HL.o,HSET.o,HBV2.o.setCell (p:=⟨w.heap.size,j,none⟩) (Nat.le_refl _) _⟩
       case measure=>simp[intOf];omega
      ·have e3':(y.b == x.b)=false:=by simpa using e3
       have E2:aJ (useOne xs u x=none):=by show _=_;rw[E.o,if_neg (fun e=>e3 (by rw[e]))]
       have E3:aJ (matchB xs goal=false):=by show _=_;unfold matchB;rw[HM.o,HMD.o,E2.o];rfl
       rw[e1] at y0;clear e1 e3 hya;(go_wp2_with fail);(go_quiet (fail));(go_wp2_with fail);go_ret;exact ⟨zjD (by rw[E3.o]),HB.o.trans (btoB (w:=wr) bel hzr)⟩
     ·have e1':(y.kind == x.kind)=false:=by simpa using e1
      have E2:aJ (useOne xs u x=none):=by show _=_;rw[E.o,if_neg (fun e=>e1 (by rw[e]))]
      have E3:aJ (matchB xs goal=false):=by show _=_;unfold matchB;rw[HM.o,HMD.o,E2.o];rfl
      clear e1 hya;(go_wp2_with fail);(go_quiet (fail));(go_wp2_with fail);go_ret;exact ⟨zjD (by rw[E3.o]),HB.o.trans (btoB (w:=wr) bel hzr)⟩
   ·have f1:(x.kind == 2)=true:=by rw[h2];rfl
    have HE0:aJ (useOne xs u x=chainG xs x.b (xs.length+1) u x.a):=by show _=_;rw[useOne_eq,if_neg (by omega),chainG_ne hne]
    clear h2 hne;(go_wp2_with fail);refine wp_region_noPanic ?_;refine wp_region_held_drew (S:=(fun w'=>w'.cell? ⟨gb,go_+k * 3+1,none⟩=some (.int .i64 x.a)∧w'.cell? ⟨gb,go_+k * 3+2,none⟩=some (.int .i64 x.b))) (by kernel_rfl) (⟨g1,g2⟩) (fun aH=>?_);refine tk2 0 rfl aH (h:=tk2 1 rfl aH (h:=tk2 2 rfl aH (h:=?_)));(try simp only[zz]);refine tk2 3 rfl aH (h:=tk2 4 rfl aH (h:=tk2 5 rfl aH (h:=?_)));(try simp only[zz]);refine tk2 6 rfl aH (h:=tk2 7 rfl aH (h:=tk2 8 rfl aH (h:=?_)));(try simp only[zz]);refine tk2 9 rfl aH (h:=tk2 10 rfl aH (h:=tk2 11 rfl aH (h:=?_)));refine rdc 12 rfl fun K hK=>?_;(try simp only[zz]);(go_simp;refine (c_spec_l6Chain A (some ⟨w.heap.size,0,none⟩) d xs.length xs u x.a x.b _ (HA.o.bz bel) (HU.o.bz bel) HL.o hhi (by simpa using hzr)).mono ?_;rintro e2 w2 ⟨rfl,hu,hM⟩;have hB2:Below w.heap.size w w2:=Below.trans (Below.trans HB.o (btoB (w:=wr) bel hzr)) (hM.bz (lo:=w.heap.size) (fun h e=>by cases e;exact Nat.le_refl _) (by simpa using hzr));have hG2:=HX.o w2 (H'.o.bz hB2));refine hK.out _ _ (⟨hG2.2.1,hG2.2.2⟩) ?_;clear aH hK K;intro aH;(try simp only[zz]);refine tk2 13 rfl aH (h:=?_);(try simp only[zz]);refine dn1 ?_;have HB2:=ax hB2;have HUU:=ax hu;rw[←HE0.o] at HUU ⊢;clear hB2 hu hM hG2 g0 g1 g2;cases hres:useOne xs u x
    ·have E3:aJ (matchB xs goal=false):=by show _=_;unfold matchB;rw[HM.o,HMD.o,hres];rfl
     clear hres;simp only[Option.isSome_none];(go_wp2_with fail);go_ret;exact ⟨zjD (by rw[E3.o]),HB2.o⟩
    ·rename_i u';have HR:=ax (HUU.o u' hres);have HMS:aJ (matchF xs (List.replicate xs.length false) goal=matchF xs u' (goal.drop (k+1))):=by show _=_;rw[HM.o,HMD.o,hres];rfl
     clear hres;simp only[Option.isSome_some];(go_wp2_with fail)
     go_round
     case rel=>exact ⟨k+1,u',by omega,by go_num,HMS,HR.o.2,HR.o.1,HB2⟩
     case measure=>simp[intOf];omega
  ·obtain rfl:k=goal.length:=by omega
   have E3:aJ (matchB xs goal=u.all id):=by show _=_;unfold matchB;rw[HM.o,matchF_end]
   obtain ⟨BB,cB,eB,hBV⟩:=HU.o.rj;injection eB with eB1 eB2 eB3;subst eB1;clear eB2 eB3;have HBV:=ax hBV;clear hBV;(go_wp2_with fail)
   go_loopw [8] (fun i w2=>∃ j:Nat,j≤xs.length∧i=.int .i64 j∧w2=wr∧aJ (u.all id=(u.drop j).all id)) (fun i _=>xs.length - (intOf i).toNat)
   case atStart=>exact ⟨0,Nat.zero_le _,rfl,rfl,rfl⟩
   case round=>
    obtain ⟨j,hj,rfl,rfl,HJ⟩:=hrel;by_cases hjl:j<xs.length
    ·have hju:j<u.length:=by rw[HL.o];exact hjl
     have qu:=HBV.o.cl (k:=j) hju;rw[Nat.zero_add] at qu;have HS:=ax (all_step u j hju);have hjx:(j:Int)<(xs.length:Int):=by omega
     cases huj:u[j]
     ·have E4:aJ (matchB xs goal=false):=by show _=_;rw[E3.o,HJ.o,HS.o,huj];rfl
      rw[huj] at qu;clear huj;(go_wp2_with fail);go_ret;exact ⟨zjD (by rw[E4.o]),HB.o⟩
     ·have HJ2:aJ (u.all id=(u.drop (j+1)).all id):=by show _=_;rw[HJ.o,HS.o,huj];rfl
      rw[huj] at qu;clear huj;(go_wp2_with fail)
      go_round
      case rel=>exact ⟨j+1,by omega,by go_num,trivial,HJ2⟩
      case measure=>simp[intOf];omega
    ·obtain rfl:j=xs.length:=by omega
     have E4:aJ (matchB xs goal=true):=by show _=_;rw[E3.o,HJ.o,←HL.o,List.drop_length];rfl
     (go_wp2_with fail);go_ret;exact ⟨zjD (by rw[E4.o]),HB.o⟩
end
section
open Go Go.RowKit Go.Proofs
attribute [local go_sem ↓] Go.wp_at_zero Go.wp_at_succ
attribute [local go_sem] Oper.semAt_some
def failF (a b:Asn):Option (List Int):=(cases a (caseS a (tset (mz b)))).find? fun c=>!entB a b c
theorem find_pre {L p:List (List Int)} {x:List Int} {f:List Int→Bool} (h:(p++[x]) <+: L) (hp:∀ y∈p,f y=false) (hx:f x=true):L.find? f=some x:=by
 obtain ⟨zs,rfl⟩:=h;rw[List.append_assoc,List.find?_append];have h0:p.find? f=none:=by rw[List.find?_eq_none];intro y hy;simp[hp y hy]
 rw[h0];simp[hx]
theorem c_impl_failingCase {lo hi lo' hi':Nat} (v v':Value) (a b:Asn) (w:World) (h:AsnV w lo hi v a) (h':AsnV w lo' hi' v' b) (hhi:hi≤w.heap.size) (hhi':hi'≤w.heap.size) (ha:a.valid=true) (hb:b.valid=true) :
  Calls Tryz.prog 116 #[v,v'] w fun e w'=>e=.returned (.tuple #[.agg (case9 ((failF a b).getD zeros)),.bool (failF a b).isSome])∧Below w.heap.size w w':=by
 have hV:=ax h;have hV':=ax h';obtain ⟨A1,c1,A2,c2,rfl,-,-⟩:=h;obtain ⟨A3,c3,A4,c4,rfl,-,-⟩:=h';have HVA:=ax ha;have HVB:=ax hb;have hT5:tset (mz b)<512:=tset_lt (mz b);have HT5:=ax hT5;clear ha hb hT5;refine (callsIn_wide (n:=3)).1 ?_;(refine callsIn_of_wp_marks Tryz.func116 rfl trivial ?_ rfl;simp only[Tryz.ntmps116,List.size_toArray,List.length_cons,List.length_nil,Nat.reduceAdd,Nat.reduceSub,Array.replicate_succ,Array.replicate_zero,List.push_toArray,List.append_toArray,List.nil_append,List.cons_append])
 gi_wp2_with fail
 refine wpIn_wide.2 ?_;refine wp_region_noPanic ?_;refine wp_region_held_drew (S:=(fun w'=>(∀ i,w'.cell? ⟨w.heap.size,i,none⟩=#[.slice A1 a.facts.length c1,.slice A2 a.atoms.length c2][i]?)∧(∀ i,w'.cell? ⟨w.heap.size+1,i,none⟩=#[.slice A3 b.facts.length c3,.slice A4 b.atoms.length c4][i]?))) (by kernel_rfl) (⟨Blk.cell blks,Blk.cell blks⟩) (fun aH=>?_);refine tk2 0 rfl aH (h:=tk2 1 rfl aH (h:=?_));refine rdc 2 rfl fun K hK=>?_;(try simp only[zz]);(go_simp;refine (c_impl_termsIn _ b _ (hV'.o.bz bel)).mono ?_;rintro e w1 ⟨rfl,hB1⟩;have k0:Blk w1 w.heap.size tAs #[.slice A1 a.facts.length c1,.slice A2 a.atoms.length c2]:=Blk.nz blks hB1;have k1:Blk w1 (w.heap.size+1) tAs #[.slice A3 b.facts.length c3,.slice A4 b.atoms.length c4]:=Blk.nz blks hB1;have kR0:Blk w1 (w.heap.size+1+1) tTc #[.int .i64 0,.int .i64 0,.int .i64 0,.int .i64 0,.int .i64 0,.int .i64 0,.int .i64 0,.int .i64 0,.int .i64 0]:=Blk.nz blks hB1;have kO:Blk w1 (w.heap.size+1+1+1) 4 #[.bool false]:=Blk.nz blks hB1;have hB:=bgo (w:=w) bel hB1);refine hK.out _ _ (⟨k0.cell,k1.cell⟩) ?_;clear aH hK K;intro aH;refine rdc 3 rfl fun K hK=>?_;(try simp only[zz]);(go_simp;refine (c_impl_possibleCases A1 A2 c1 c2 a (tset (mz b)) _ (hV.o.bz bel) HT5.o).mono ?_;rintro e w2 ⟨gA,gT,rfl,hA,hT,kA,kT,hB2⟩;replace k0:=k0.nz hB2;replace k1:=k1.nz hB2;replace kR0:=kR0.nz hB2;replace kO:=kO.nz hB2;have hz1:=hB.size;replace hB:=bgo hB hB2);refine hK.out _ _ (⟨k0.cell,k1.cell⟩) ?_;clear aH hK K;intro aH;(try simp only[zz]);refine dn1 ?_;have kR:Blk w2 (w.heap.size+1+1) tTc (case9 zeros):=kR0;have hzO:=kO.lt;have hz:=hB.size;have hAw:=hV.o.bz hB;clear kR0 hB2 hB1
 gi_wp2_with fail
 refine wp_rangeT (gf:=219) (lb:=#[.pointer (some ⟨gA,0,none⟩),.pointer (some ⟨gT,0,none⟩)]) rfl (enters_of Tryz.func219 (by kernel_rfl) rfl)
  (c_seq (n₀:=w.heap.size) w2 HVA.o HT5.o hAw hhi (by omega) kA kT) (fun h k=>h.trans k) (Kept.putl (by omega)) (Below.refl _ _) (fun _=>rfl)
  (fun pre W=>aJ (∀ y∈pre,entB a b y.1=true)∧Blk W (w.heap.size+1+1) tTc (case9 zeros)∧Blk W (w.heap.size+1+1+1) 4 #[.bool false]∧Blk W w.heap.size tAs #[.slice A1 a.facts.length c1,.slice A2 a.atoms.length c2]∧Blk W (w.heap.size+1) tAs #[.slice A3 b.facts.length c3,.slice A4 b.atoms.length c4]∧Below w.heap.size w W)
  (fun c pre W=>∃ p x,c=.ret∧pre=p++[x]∧aJ (∀ y∈p,entB a b y.1=true)∧aJ (entB a b x.1=false)∧Blk W (w.heap.size+1+1) tTc (case9 x.1)∧Blk W (w.heap.size+1+1+1) 4 #[.bool true]∧Below w.heap.size w W)
  (fun s X Y row hs hg hr=>by
   obtain ⟨e1,k1,k2,k3,k4,k5⟩:=hs
   exact ⟨e1,k1.turn hg hr (Or.inr (by omega)),k2.turn hg hr (Or.inr (by omega)),k3.turn hg hr (Or.inr (by omega)),k4.turn hg hr (Or.inr (by omega)),Below.turn k5 hg hr (by omega) k5.size⟩)
  (fun c s X Y row hs hg hr=>by
   obtain ⟨p,x,e1,e2,e3,e4,k1,k2,k3⟩:=hs
   exact ⟨p,x,e1,e2,e3,e4,k1.turn hg hr (Or.inr (by omega)),k2.turn hg hr (Or.inr (by omega)),Below.turn k3 hg hr (by omega) k3.size⟩)
  ⟨fun y hy=>absurd hy (by simp),kR,kO,k0,k1,hB⟩ ?round ?done ?stop
 case round=>
  rintro l pre x W hl ⟨HP,kR,kO,k0,k1,hB⟩ -;have hwz:=hB.size
  gi_wp2
  refine ⟨(KeepsOthers.alloc _ _).from _,Kept.alloc (by omega) _,fun o o' ho hc=>?_⟩;have kX:=(Blk.new W tTc (case9 x.1)).putl o' ho hc;have lO:=kO.lt;replace kR:=(kR.alloc (.cells (case9 x.1) tTc)).putl o' ho hc;replace kO:=(kO.alloc (.cells (case9 x.1) tTc)).putl o' ho hc;replace k0:=(k0.alloc (.cells (case9 x.1) tTc)).putl o' ho hc;replace k1:=(k1.alloc (.cells (case9 x.1) tTc)).putl o' ho hc;have hB':=(bbox hB (.cells (case9 x.1) tTc)).trans (Kept.put (T1:=tTc) (T2:=tAs) (n₀:=w.heap.size) o' (by omega) ho hc).bz;clear ho;obtain ⟨V,hVe⟩:∃ V,V=(W.alloc (.cells (case9 x.1) tTc)).putObj l o':=⟨_,rfl⟩;rw[←hVe] at kX kR kO k0 k1 hB' ⊢;clear hVe hB;obtain ⟨p0,p1,p2,p3,p4,p5,p6,p7,p8⟩:=case9_cells kX;have q0:=k0.cell;have q1:=k1.cell;have hxl:=ax x.len
  gi_wp2_with fail
  refine ⟨trivial,(CallsIn.inRound l (callsIn_wide.2 (c_impl_matchCase _ _ a b x.1 _ (hV.o.bz hB') (hV'.o.bz hB') HVA.o HVB.o hxl.o))).mono ?_⟩;rintro e w3 ⟨r,rfl,hB3⟩;replace kX:=kX.nz hB3;replace kR:=kR.nz hB3;replace kO:=kO.nz hB3;replace k0:=k0.nz hB3;replace k1:=k1.nz hB3;have hBV:=bgo hB' hB3;have hz3:=hBV.size;have hzV:=hB'.size;have hKV:Kept tTc tAs w.heap.size V w3:=Kept.nz hB3 hzV;have hKF:KeepsOthers V w3:=(KX.of hB3).keeps;clear q0 q1 p0 p1 p2 p3 p4 p5 p6 p7 p8 hB3;cases he:entB a b x.1
  ·have HE:=ax he;clear he;obtain ⟨p0,p1,p2,p3,p4,p5,p6,p7,p8⟩:=case9_cells kX;obtain ⟨q0,q1,q2,q3,q4,q5,q6,q7,q8⟩:=case9_cells kR;have rR:=kR.frozen;have qO:=kO.cell 0;have rO:=kO.frozen
   gi_wp2
   refine ⟨(hKF.trans (keeps9.trans (KeepsOthers.setCell _ _ _))).from _,pre,x,rfl,rfl,HP,HE,?_,?_,?_⟩
   ·exact (Blk.nine kR).far (p:=⟨w.heap.size+1+1+1,0,none⟩) (by simp) _
   ·exact (kO.nineFar (by omega)).set_ 0 (.bool true)
   ·exact (below9 hBV (by omega)).setCell (p:=⟨w.heap.size+1+1+1,0,none⟩) (by simp only;omega) _
  ·have HE:aJ (∀ y∈pre++[x],entB a b y.1=true):=fun y hy=>by
    rcases List.mem_append.1 hy with hy|hy
    ·exact HP.o y hy
    ·rw[List.mem_singleton.1 hy];exact he
   clear he
   gi_wp2
   exact ⟨hKF.from _,hKV,HE,kR,kO,k0,k1,hBV⟩
 case done=>
  rintro D ys W hD hS ⟨HP,kR,kO,k0,k1,hB⟩ hK
  have E:aJ (failF a b=none):=by
   show _=_;unfold failF;rw[←hS,List.find?_eq_none];intro y hy;obtain ⟨z,hz,rfl⟩:=List.mem_map.1 hy;simp[HP.o z hz]
  clear hS k0 k1;obtain ⟨q0,q1,q2,q3,q4,q5,q6,q7,q8⟩:=case9_cells kR;have rR:=kR.frozen;have qO:=kO.cell 0;have rO:=kO.frozen;have lO:=kO.lt;have lR:=kR.lt
  gi_wp2
  have zR:=(Blk.nine (v0:=.int .i64 0) (v1:=.int .i64 0) (v2:=.int .i64 0) (v3:=.int .i64 0) (v4:=.int .i64 0) (v5:=.int .i64 0) (v6:=.int .i64 0) (v7:=.int .i64 0) (v8:=.int .i64 0) kR).far (p:=⟨w.heap.size+1+1+1,0,none⟩) (by simp) (.bool false);have zO:=(kO.nineFar (g:=w.heap.size+1+1) (v0:=.int .i64 0) (v1:=.int .i64 0) (v2:=.int .i64 0) (v3:=.int .i64 0) (v4:=.int .i64 0) (v5:=.int .i64 0) (v6:=.int .i64 0) (v7:=.int .i64 0) (v8:=.int .i64 0) (by omega)).set_ 0 (.bool false);have zB:=(below9 (g:=w.heap.size+1+1) (v0:=.int .i64 0) (v1:=.int .i64 0) (v2:=.int .i64 0) (v3:=.int .i64 0) (v4:=.int .i64 0) (v5:=.int .i64 0) (v6:=.int .i64 0) (v7:=.int .i64 0) (v8:=.int .i64 0) hB (by omega)).setCell (p:=⟨w.heap.size+1+1+1,0,none⟩) (by simp only;omega) (.bool false);have zK:=((keeps9 (w:=W) (g:=w.heap.size+1+1) (v0:=.int .i64 0) (v1:=.int .i64 0) (v2:=.int .i64 0) (v3:=.int .i64 0) (v4:=.int .i64 0) (v5:=.int .i64 0) (v6:=.int .i64 0) (v7:=.int .i64 0) (v8:=.int .i64 0)).trans (KeepsOthers.setCell _ ⟨w.heap.size+1+1+1,0,none⟩ (.bool false))).same D _ hK rfl;obtain ⟨V,hVe⟩:∃ V,V=((set9 W (w.heap.size+1+1) (.int .i64 0) (.int .i64 0) (.int .i64 0) (.int .i64 0) (.int .i64 0) (.int .i64 0) (.int .i64 0) (.int .i64 0) (.int .i64 0)).setCell ⟨w.heap.size+1+1+1,0,none⟩ (.bool false)):=⟨_,rfl⟩;rw[←hVe] at zR zO zB zK ⊢;refine ⟨by simp,.inl ⟨_,_,rfl,run_takeDeferred zK,?_⟩⟩;have yR:Blk _ _ _ (case9 zeros):=zR.putl (.deferred none) zK rfl;have yO:=zO.putl (.deferred none) zK rfl;obtain ⟨p0,p1,p2,p3,p4,p5,p6,p7,p8⟩:=case9_cells yR;have pO:=yO.cell 0;refine ⟨.tuple #[.agg (case9 zeros),.bool false],?_,by rw[E.o];rfl,zB.trans (belowK_b (w:=w) (Nat.le_refl _) V D _ _ (by omega) zK rfl rfl)⟩;simp[results,Tryz.f116,go_sem,p0,p1,p2,p3,p4,p5,p6,p7,p8,pO]
 case stop=>
  rintro D c pre W hD hS ⟨p,x,rfl,rfl,HP,HE,kR,kO,hB⟩ hK
  have E:aJ (failF a b=some x.1):=by
   show _=_;unfold failF;rw[List.map_append,List.map_cons,List.map_nil] at hS;refine find_pre hS (fun y hy=>?_) (by simp[HE.o]);obtain ⟨z,hz,rfl⟩:=List.mem_map.1 hy;simp[HP.o z hz]
  clear hS;obtain ⟨q0,q1,q2,q3,q4,q5,q6,q7,q8⟩:=case9_cells kR;have qO:=kO.cell 0;have lO:=kO.lt;have lR:=kR.lt
  gi_wp2
  refine ⟨by simp,.inl ⟨_,_,rfl,run_takeDeferred hK,?_⟩⟩;have yR:=kR.putl (.deferred none) hK rfl;have yO:=kO.putl (.deferred none) hK rfl;obtain ⟨p0,p1,p2,p3,p4,p5,p6,p7,p8⟩:=case9_cells yR;have pO:=yO.cell 0;refine ⟨.tuple #[.agg (case9 x.1),.bool true],?_,by rw[E.o];rfl,hB.trans (belowK_b (w:=w) (Nat.le_refl _) W D _ _ (by omega) hK rfl rfl)⟩;simp[results,Tryz.f116,go_sem,p0,p1,p2,p3,p4,p5,p6,p7,p8,pO]
end
section
open Go Go.RowKit Go.Proofs
attribute [local go_sem ↓] Go.wp_at_zero Go.wp_at_succ
def caseB (a b:Asn) (c:List Int):Bool:=fitsS c b.facts&&matchB (filledL a.atoms c) (filledL b.atoms c)
theorem filled_goal {b:Asn} (hb:b.valid=true) (c:List Int):∀ x∈filledL b.atoms c,x.kind=1∨(x.kind=2∧x.a≠x.b):=by
 intro x hx;unfold filledL at hx;obtain ⟨y,hy,rfl⟩:=List.mem_map.1 hx;obtain ⟨hy1,hy2⟩:=List.mem_filter.1 hy
 have hv:y.valid=true:=by
  simp only[Asn.valid,Bool.and_eq_true,List.all_eq_true] at hb;exact hb.2.2 y hy1
 simp only[Atm.valid,Bool.and_eq_true,decide_eq_true_eq] at hv;rcases hv.1.1 with h|h
 ·exact Or.inl h
 ·refine Or.inr ⟨h,fun e=>?_⟩;unfold Atm.fill at hy2;rw[h] at hy2;simp only[Atm.cls] at e;simp[e] at hy2
theorem c_spec_l6Case {lo hi lo' hi' lo2 hi2:Nat} (v v':Value) (B:Option Addr) (cc:Nat) (a b:Asn) (c:List Int) (w:World) (h:AsnV w lo hi v a) (h':AsnV w lo' hi' v' b) (hi_:IntsV w lo2 hi2 B c) (ha:a.valid=true) (hb:b.valid=true) (hc:c.length=9) :
  Calls Tryz.prog 245 #[v,v',.slice B 9 cc] w fun e w'=>e=.returned (.bool (caseB a b c))∧Below w.heap.size w w':=by
 have HA:=ax (Asn.valid_ok ha);have HBV:=ax (Asn.valid_ok hb);have HC:=ax hc;have HI:=ax hi_;have HGO:=ax (filled_goal hb c);have hal:=(zjC ha).2;obtain ⟨A1,c1,A2,c2,rfl,h1,h2⟩:=h;obtain ⟨A3,c3,A4,c4,rfl,h3,h4⟩:=h';have H2:=ax h2;have H3:=ax h3;have H4:=ax h4;have HXL:=ax (filledL_len a.atoms c);have HE:aJ (caseB a b c=(fitsS c b.facts&&matchB (filledL a.atoms c) (filledL b.atoms c))):=rfl;clear h1 h2 h3 h4 ha hb hc hi_;(go_enter Tryz.func245,Tryz.ntmps245);have k0:Blk ((w.alloc (.cells #[.slice A1 a.facts.length c1,.slice A2 a.atoms.length c2] tAs)).alloc (.cells #[.slice A3 b.facts.length c3,.slice A4 b.atoms.length c4] tAs)) w.heap.size tAs #[.slice A1 a.facts.length c1,.slice A2 a.atoms.length c2]:=blks;have k1:Blk ((w.alloc (.cells #[.slice A1 a.facts.length c1,.slice A2 a.atoms.length c2] tAs)).alloc (.cells #[.slice A3 b.facts.length c3,.slice A4 b.atoms.length c4] tAs)) (w.heap.size+1) tAs #[.slice A3 b.facts.length c3,.slice A4 b.atoms.length c4]:=blks;(go_wp2_with fail);cases hf:fitsS c b.facts
 ·have E:aJ (caseB a b c=false):=by show _=_;rw[HE.o,hf];rfl
  have HF:=ax hf;clear hf;refine wp_region_noPanic ?_;refine wp_region_held_drew (S:=(fun w'=>(∀ i,w'.cell? ⟨w.heap.size,i,none⟩=#[.slice A1 a.facts.length c1,.slice A2 a.atoms.length c2][i]?)∧(∀ i,w'.cell? ⟨w.heap.size+1,i,none⟩=#[.slice A3 b.facts.length c3,.slice A4 b.atoms.length c4][i]?))) (by kernel_rfl) (⟨Blk.cell blks,Blk.cell blks⟩) (fun aH=>?_);refine tk2 0 rfl aH (h:=tk2 1 rfl aH (h:=tk2 2 rfl aH (h:=?_)));refine rdc 3 rfl fun K hK=>?_;(try simp only[zz]);(go_simp;refine (c_fits9 A3 B c3 cc b.facts c _ (H3.o.bz bel) (HI.o.bz bel) HC.o HBV.o.1).mono ?_;rintro e w1 ⟨rfl,rfl⟩;rw[HF.o]);refine hK.out _ _ (⟨Blk.cell blks,Blk.cell blks⟩) ?_;clear aH hK K;intro aH;(try simp only[zz]);refine tk2 4 rfl aH (h:=?_);(try simp only[zz]);refine tku 5 rfl aH ?_;(try simp only[zz]);refine tku 6 rfl aH ?_;(try simp only[zz]);refine tku 7 rfl aH ?_;(try simp only[zz]);refine tku 8 rfl aH ?_;(try simp only[zz]);refine tku 9 rfl aH ?_;(try simp only[zz]);refine tku 10 rfl aH ?_;(try simp only[zz]);refine tku 11 rfl aH ?_;(try simp only[zz]);refine tku 12 rfl aH ?_;(try simp only[zz]);refine tku 13 rfl aH ?_;(try simp only[zz]);refine tk2 14 rfl aH (h:=tk2 15 rfl aH (h:=?_));(try simp only[zz]);refine dn1 ?_;(go_wp2_with fail);go_ret;exact ⟨zjD (by rw[E.o]),bel⟩
 ·have E:aJ (caseB a b c=matchB (filledL a.atoms c) (filledL b.atoms c)):=by show _=_;rw[HE.o,hf];rfl
  have HF:=ax hf;clear hf;refine wp_region_noPanic ?_;refine wp_region_held_drew (S:=(fun w'=>(∀ i,w'.cell? ⟨w.heap.size,i,none⟩=#[.slice A1 a.facts.length c1,.slice A2 a.atoms.length c2][i]?)∧(∀ i,w'.cell? ⟨w.heap.size+1,i,none⟩=#[.slice A3 b.facts.length c3,.slice A4 b.atoms.length c4][i]?))) (by kernel_rfl) (⟨Blk.cell blks,Blk.cell blks⟩) (fun aH=>?_);refine tk2 0 rfl aH (h:=tk2 1 rfl aH (h:=tk2 2 rfl aH (h:=?_)));refine rdc 3 rfl fun K hK=>?_;(try simp only[zz]);(go_simp;refine (c_fits9 A3 B c3 cc b.facts c _ (H3.o.bz bel) (HI.o.bz bel) HC.o HBV.o.1).mono ?_;rintro e w1 ⟨rfl,rfl⟩;rw[HF.o]);refine hK.out _ _ (⟨Blk.cell blks,Blk.cell blks⟩) ?_;clear aH hK K;intro aH;(try simp only[zz]);refine tk2 4 rfl aH (h:=tk2 5 rfl aH (h:=tk2 6 rfl aH (h:=?_)));(try simp only[zz]);refine tk2 7 rfl aH (h:=tk2 9 rfl aH (h:=tk2 10 rfl aH (h:=?_)));(try simp only[zz]);refine tk2 11 rfl aH (h:=?_);refine rdc 8 rfl fun K hK=>?_;(try simp only[zz]);(go_simp;refine (c_filled9 A2 B c2 cc a.atoms c _ (H2.o.bz bel) (HI.o.bz bel) HC.o HA.o.2).mono ?_;rintro e w2 ⟨r2,rfl,o2,hB2⟩;obtain ⟨X2,x2,rfl,v2⟩:=o2.rj;have hBx:=bgo (w:=w) bel hB2;replace k0:=Blk.nz (g:=w.heap.size) blks hB2;replace k1:=Blk.nz (g:=w.heap.size+1) blks hB2);refine hK.out _ _ (⟨Blk.cell blks,Blk.cell blks⟩) ?_;clear aH hK K;intro aH;refine rdc 12 rfl fun K hK=>?_;(try simp only[zz]);(go_simp;refine (c_filled9 A4 B c4 cc b.atoms c _ (H4.o.bz bel) (HI.o.bz bel) HC.o HBV.o.2).mono ?_;rintro e w3 ⟨r3,rfl,o3,hB3⟩;obtain ⟨X3,x3,rfl,v3⟩:=o3.rj;have hz3:=hB3.size;have hBy:=bgo (w:=w) hBx hB3;have v2':=v2.bz hB3;replace k0:=Blk.nz (g:=w.heap.size) blks hB3;replace k1:=Blk.nz (g:=w.heap.size+1) blks hB3);refine hK.out _ _ (⟨Blk.cell blks,Blk.cell blks⟩) ?_;clear aH hK K;intro aH;refine rdc 13 rfl fun K hK=>?_;(try simp only[zz]);(go_simp;refine (c_spec_l6Match X2 X3 x2 x3 (filledL a.atoms c) (filledL b.atoms c) _ (AtomsV.bz v2' bel) (AtomsV.bz v3 bel) (by first|omega|(simp;omega)) (by first|exact Nat.le_refl _|(simp)) (by have:=HXL.o;omega) HGO.o).mono ?_;rintro e w4 ⟨rfl,hB4⟩;have hBz:=bgo (w:=w) hBy hB4;replace k0:=Blk.nz (g:=w.heap.size) blks hB4;replace k1:=Blk.nz (g:=w.heap.size+1) blks hB4);refine hK.out _ _ (⟨Blk.cell blks,Blk.cell blks⟩) ?_;clear aH hK K;intro aH;(try simp only[zz]);refine tk2 14 rfl aH (h:=tk2 15 rfl aH (h:=?_));(try simp only[zz]);refine dn1 ?_;(go_wp2_with fail);go_ret;exact ⟨zjD (by rw[E.o]),hBz⟩
end
section
open Go
theorem caseB_ent {a b:Asn} (hb:b.valid=true) {c:List Int} (hc:c∈cases a (caseS a (tset (mz b)))):caseB a b c=entB a b c:=by
 have hok:=Asn.valid_ok hb
 have hpos:∀ t∈mz b,0≤t∧t≤8→0≤cl c t:=by
  intro t ht h8;obtain ⟨n,rfl⟩:=Int.eq_ofNat_of_zero_le h8.1;refine ((CaseT.pos (a:=a) ⟨c,hc⟩ n (by omega)).1 ?_).1;rw[caseS_bit]
  have:(tset (mz b)).testBit n=true:=by
   rw[tset_bit];simp only[decide_eq_true_eq];exact ⟨termsL_ok hb _ ht,ht⟩
  simp[this]
 unfold caseB entB
 congr 1
 unfold fitsS
 have e:∀ f∈b.facts,(!(decide (0≤cl c f.a)&&decide (0≤cl c f.b) && !f.fits c))=f.fits c:=by
  intro f hf;have h1:=hok.1 f hf;have ht:=termsL_facts hf;rw[decide_eq_true (hpos _ ht.1 h1.1),decide_eq_true (hpos _ ht.2 h1.2)];simp
 rw[Bool.eq_iff_iff,List.all_eq_true,List.all_eq_true];constructor
 ·intro h f hf;rw[←e f hf];exact h f hf
 ·intro h f hf;rw[e f hf];exact h f hf
theorem head_filter {α:Type} (p:α→Bool) (l:List α):(l.filter p).head? = l.find? p:=by
 induction l with
 | nil=>rfl
 | cons x xs ih=>cases h:p x<;>simp[List.filter_cons,List.find?_cons,h,ih]
theorem failF_eq {a b:Asn} (hb:b.valid=true):((cases a (caseS a (tset (mz b)))).filter fun c=>!caseB a b c).head? = failF a b:=by
 rw[head_filter];unfold failF
 have:∀ (l:List (List Int)),(∀ c∈l,caseB a b c=entB a b c)→(l.find? fun c=>!caseB a b c)=l.find? fun c=>!entB a b c:=by
  intro l
  induction l with
  | nil=>intro _;rfl
  | cons x xs ih=>
   intro h;rw[List.find?_cons,List.find?_cons,h x List.mem_cons_self,ih fun y hy=>h y (List.mem_cons_of_mem _ hy)]
 exact this _ fun c hc=>caseB_ent hb hc
end
section
open Go Go.RowKit Go.Proofs
attribute [local go_sem ↓] Go.wp_at_zero Go.wp_at_succ
theorem c_spec_l6Both {lo hi lo' hi':Nat} (v v':Value) (a b:Asn) (w:World) (h:AsnV w lo hi v a) (h':AsnV w lo' hi' v' b) (hn1:a.facts.length+b.facts.length≤1049600) (hn2:a.atoms.length+b.atoms.length≤1049600) (ht:∀ t∈mz (starA a b),jq t=true) :
  Calls Tryz.prog 194 #[v,v'] w fun e w'=>∃ r,e=.returned r∧BoolsO w' w.heap.size r (zj (tset (mz (starA a b))))∧Below w.heap.size w w':=by
 obtain ⟨A1,c1,A2,c2,rfl,h1,h2⟩:=h;obtain ⟨A3,c3,A4,c4,rfl,h3,h4⟩:=h';(go_enter Tryz.func194,Tryz.ntmps194);have HTT:=ax ht;clear ht;have hB:Below w.heap.size w ((w.alloc (.cells #[.slice A1 a.facts.length c1,.slice A2 a.atoms.length c2] 36)).alloc (.cells #[.slice A3 b.facts.length c3,.slice A4 b.atoms.length c4] 36)):=bel;have k0:Blk ((w.alloc (.cells #[.slice A1 a.facts.length c1,.slice A2 a.atoms.length c2] 36)).alloc (.cells #[.slice A3 b.facts.length c3,.slice A4 b.atoms.length c4] 36)) w.heap.size tAs #[.slice A1 a.facts.length c1,.slice A2 a.atoms.length c2]:=blks;have k1:Blk ((w.alloc (.cells #[.slice A1 a.facts.length c1,.slice A2 a.atoms.length c2] 36)).alloc (.cells #[.slice A3 b.facts.length c3,.slice A4 b.atoms.length c4] 36)) (w.heap.size+1) tAs #[.slice A3 b.facts.length c3,.slice A4 b.atoms.length c4]:=blks;(go_wp2_with fail);have hz:=k1.lt;generalize ((w.alloc (.cells #[.slice A1 a.facts.length c1,.slice A2 a.atoms.length c2] 36)).alloc (.cells #[.slice A3 b.facts.length c3,.slice A4 b.atoms.length c4] 36))=W at k0 k1 hB hz ⊢;have tok3:True:=trivial;have tok6:True:=trivial;have tok10:True:=trivial;have tok13:True:=trivial;have tok15:True:=trivial
 go_region_held3 (fun w'=>(∀ i,w'.cell? ⟨w.heap.size,i,none⟩=#[.slice A1 a.facts.length c1,.slice A2 a.atoms.length c2][i]?)∧(∀ i,w'.cell? ⟨w.heap.size+1,i,none⟩=#[.slice A3 b.facts.length c3,.slice A4 b.atoms.length c4][i]?))
  (exact ⟨Blk.cell blks,Blk.cell blks⟩)
  (first
   | (have _t:=tok3;clear _t tok3;refine stepFL (xs:=[]) rfl _ _ rfl rfl (FactsO.ofBlk (base:=w.heap.size) blks (by first|omega|(simp;omega))) rfl (h1.bz bel) (by first|omega|(simp;omega)) (by first|omega|(simp;omega)) ?_;intro F1 e1 w1 hO1 hg1 hB1;have hBw1:Below w.heap.size w w1:=Below.trans bel hB1;simp only[List.nil_append] at hO1;have m10:=Blk.zm (g:=w.heap.size) (hg:=hg1) blks (FactsO.ofBlk (base:=w.heap.size) blks (by first|omega|(simp;omega))).1 (by decide);have m11:=Blk.zm (g:=w.heap.size+1) (hg:=hg1) blks (FactsO.ofBlk (base:=w.heap.size) blks (by first|omega|(simp;omega))).1 (by decide);have lt1:=m11.lt;(try (have za:Blk w1 (W.heap.size+1) tA #[]:=?zz;case zz=>(refine Blk.zm (hg:=hg1) ?_ (FactsO.ofBlk (base:=w.heap.size) blks (by first|omega|(simp;omega))).1 (by decide);(repeat (first|(with_reducible assumption)|(with_reducible exact Blk.new _ _ _)|((with_reducible apply Blk.far);(case hp=>(first|exact Nat.le_refl _|(simp;done)|(simp;omega)|(simp only;omega)|omega)))|(with_reducible apply Blk.set_)|((with_reducible refine Blk.newE ?_);(simp;done))|(with_reducible apply Blk.alloc)|(with_reducible apply Blk.drew)|(with_reducible apply Blk.drewN)));done)));(try (have za:Blk w1 W.heap.size tA #[]:=?zz;case zz=>(refine Blk.zm (hg:=hg1) ?_ (FactsO.ofBlk (base:=w.heap.size) blks (by first|omega|(simp;omega))).1 (by decide);(repeat (first|(with_reducible assumption)|(with_reducible exact Blk.new _ _ _)|((with_reducible apply Blk.far);(case hp=>(first|exact Nat.le_refl _|(simp;done)|(simp;omega)|(simp only;omega)|omega)))|(with_reducible apply Blk.set_)|((with_reducible refine Blk.newE ?_);(simp;done))|(with_reducible apply Blk.alloc)|(with_reducible apply Blk.drew)|(with_reducible apply Blk.drewN)));done))))
   | (have _t:=tok6;clear _t tok6;refine stepFL (xs:=a.facts) rfl _ _ rfl rfl (FactsO.bz (w:=w1) hO1 bel) rfl (h3.bz bel) (by first|omega|(simp;omega)) (by first|omega|(simp;omega)) ?_;intro F2 e2 w2 hO2 hg2 hB2;have hBw2:Below w.heap.size w w2:=Below.trans bel hB2;have m20:=Blk.zm (g:=w.heap.size) (hg:=hg2) blks (FactsO.bz (w:=w1) hO1 bel).1 (by decide);have m21:=Blk.zm (g:=w.heap.size+1) (hg:=hg2) blks (FactsO.bz (w:=w1) hO1 bel).1 (by decide);have lt2:=m21.lt;(try (have zb:Blk w2 w1.heap.size tA #[]:=?zz;case zz=>(refine Blk.zm (hg:=hg2) ?_ (FactsO.bz (w:=w1) hO1 bel).1 (by decide);(repeat (first|(with_reducible assumption)|(with_reducible exact Blk.new _ _ _)|((with_reducible apply Blk.far);(case hp=>(first|exact Nat.le_refl _|(simp;done)|(simp;omega)|(simp only;omega)|omega)))|(with_reducible apply Blk.set_)|((with_reducible refine Blk.newE ?_);(simp;done))|(with_reducible apply Blk.alloc)|(with_reducible apply Blk.drew)|(with_reducible apply Blk.drewN)));done)));(try (have zb:=Blk.zm (hg:=hg2) (Blk.nz za bel) (FactsO.bz (w:=w1) hO1 bel).1 (by decide))))
   | (have _t:=tok10;clear _t tok10;refine stepAL (xs:=[]) rfl _ _ rfl rfl (AtomsO.ofBlk (base:=w.heap.size) blks (by first|omega|(simp;omega))) rfl (h2.bz bel) (by first|omega|(simp;omega)) (by first|omega|(simp;omega)) ?_;intro F3 e3 w3 hO3 hg3 hB3;have hBw3:Below w.heap.size w w3:=Below.trans bel hB3;simp only[List.nil_append] at hO3;have m30:=Blk.zm (g:=w.heap.size) (hg:=hg3) blks (AtomsO.ofBlk (base:=w.heap.size) blks (by first|omega|(simp;omega))).1 (by decide);have m31:=Blk.zm (g:=w.heap.size+1) (hg:=hg3) blks (AtomsO.ofBlk (base:=w.heap.size) blks (by first|omega|(simp;omega))).1 (by decide);have lt3:=m31.lt;have hP3:=FactsO.grownA (FactsO.bz (w:=w2) hO2 bel) (AtomsO.ofBlk (base:=w.heap.size) blks (by first|omega|(simp;omega))) hg3)
   | (have _t:=tok13;clear _t tok13;refine stepAL (xs:=a.atoms) rfl _ _ rfl rfl (AtomsO.bz (w:=w3) hO3 bel) rfl (h4.bz bel) (by first|omega|(simp;omega)) (by first|omega|(simp;omega)) ?_;intro F4 e4 w4 hO4 hg4 hB4;have hBw4:Below w.heap.size w w4:=Below.trans bel hB4;have m40:=Blk.zm (g:=w.heap.size) (hg:=hg4) blks (AtomsO.bz (w:=w3) hO3 bel).1 (by decide);have m41:=Blk.zm (g:=w.heap.size+1) (hg:=hg4) blks (AtomsO.bz (w:=w3) hO3 bel).1 (by decide);have lt4:=m41.lt;have hP4:=FactsO.grownA (FactsO.bz (w:=w3) hP3 bel) (AtomsO.bz (w:=w3) hO3 bel) hg4)
   | (have _t:=tok15;clear _t tok15;go_at_call 77;have hS:AsnO w4 w.heap.size (.agg #[.slice F2 (a.facts.length+b.facts.length) e2,.slice F4 (a.atoms.length+b.atoms.length) e4]) (starA a b):=(⟨_,_,rfl,(by first|exact hP4|(rw[←List.length_append];exact hP4)),(by first|exact hO4|(rw[←List.length_append];exact hO4))⟩);refine (c_spec_l3Terms _ (starA a b) w4 hS.rj HTT.o).mono ?_;rintro e w5 ⟨r5,rfl,o5,hB5⟩;have hBw5:Below w.heap.size w w5:=bgo hBw4 hB5;have m50:=m40.nz hB5;have m51:=m41.nz hB5;have lt5:=m51.lt;have hz5:=hBw4.size))
 all_goals
  (go_wp2_with fail);go_ret;exact ⟨r5,rfl,o5.bq hz5,hBw5⟩
def seekF (a b:Asn) (S n:Nat) (c:List Int):List (List Int):=(seek a S n c).filter fun d=>!caseB a b d
def seekFAt (a b:Asn) (S n:Nat) (c:List Int) (k:Nat):List (List Int):=if k<8 - n∧cl c k≠k then [] else seekF a b S n (c.set (8 - n) k)
theorem seekF_cut {a b:Asn} {S:Nat} (n:Nat) {c:List Int} (h:(fitsS c a.facts&&earlyF c [] a.atoms)=false):seekF a b S n c=[]:=by
 unfold seekF;rw[seek_cut n h];rfl
theorem seekF_leaf {a b:Asn} {S:Nat} {c:List Int} (h:(fitsS c a.facts&&earlyF c [] a.atoms)=true):seekF a b S 0 c=if apartF [] (filledL a.atoms c) then (if caseB a b c then [] else [c]) else []:=by
 unfold seekF;rw[seek_leaf h];cases apartF [] (filledL a.atoms c)<;>cases e:caseB a b c<;>simp[e]
theorem seekF_step {a b:Asn} {S n:Nat} {c:List Int} (h:(fitsS c a.facts&&earlyF c [] a.atoms)=true):seekF a b S (n+1) c=if S.testBit (8 - n) then (List.range (9 - n)).flatMap (seekFAt a b S n c) else seekF a b S n c:=by
 unfold seekF;rw[seek_step h]
 split
 ·rw[List.filter_flatMap];apply flatMap_congr';intro k _;unfold seekAt seekFAt seekF
  split<;>rfl
 ·rfl
theorem c_spec_l6Seek {a b:Asn} {S lo hi lo2 hi2 lo3 hi3:Nat} {A1 A2 A3 A4:Option Addr} {d1 d2 d3 d4:Nat} (T:Option Addr) (tc:Nat) (hv:a.valid=true) (hvb:b.valid=true) :
  ∀ (n:Nat) (c:List Int) (B:Option Addr) (cc lo' hi':Nat) (w:World),n≤8→c.length=9→(∀ j:Nat,j<9 - n→S.testBit j=true→0≤cl c j∧cl c j≤j)→(∀ j:Nat,j<9→cl c j≤8)→
   AsnV w lo hi (.agg #[.slice A1 a.facts.length d1,.slice A2 a.atoms.length d2]) a→AsnV w lo3 hi3 (.agg #[.slice A3 b.facts.length d3,.slice A4 b.atoms.length d4]) b→BoolsV w lo2 hi2 T (zj S)→IntsV w lo' hi' B c→
   Calls Tryz.prog 193 #[.agg #[.slice A1 a.facts.length d1,.slice A2 a.atoms.length d2],.agg #[.slice A3 b.facts.length d3,.slice A4 b.atoms.length d4],.slice T 9 tc,.slice B 9 cc,.int .i64 ((9 - n:Nat):Int)] w fun e w'=>
    ∃ r,e=.returned (.tuple #[r,.bool (!(seekF a b S n c).isEmpty)])∧IntsO w' w.heap.size r (firstI (seekF a b S n c))∧Below w.heap.size w w':=by
 intro n
 induction n with
 | zero=>
  intro c B cc lo' hi' w hn hc _ hc8 hA hAb hT hI;have HO0:=ax hv;have HO:=ax (Asn.valid_ok hv);have hV:=ax hA;have hVb:=ax hAb;have HVB:=ax hvb;have HC:=ax hc;have HI:=ax hI
  have HCL:aJ (∀ x∈a.atoms,cl c x.a≤8):=fun x hx=>by
   have:=(HO.o.2 x hx).1;obtain ⟨t,et⟩:=Int.eq_ofNat_of_zero_le this.1;rw[et];exact hc8 t (by omega)
  obtain ⟨B1,e1,B2,e2,he,h1,h2⟩:=hA;injection he with he;injection he with he;injection he with he1 he2;injection he2 with he2 he3;injection he1 with he1 _ he4;injection he2 with he2 _ he5;subst he1 he4 he2 he5;have H1:=ax h1;have H2:=ax h2;have hvl:=zjC hv;clear h1 h2 hc hc8 hT hI he3 hAb;(go_enter Tryz.func193,Tryz.ntmps193);(go_wp2_with fail);refine (c_fits9 A1 B d1 cc a.facts c _ (H1.o.bz bel) (HI.o.bz bel) HC.o HO.o.1).mono ?_;rintro e w1 ⟨rfl,rfl⟩;cases hf:fitsS c a.facts
  ·have E:=ax (seekF_cut (a:=a) (b:=b) (S:=S) 0 (c:=c) (by rw[hf];rfl));clear hf;(go_wp2_with fail);go_ret2;exact ⟨_,by rw[E.o];rfl,by rw[E.o];exact IntsO.bq (IntsO.empty _ (by first|rfl|simp)) (by first|omega|simp),bel⟩
  have HF:=ax hf;clear hf;(go_wp2_with fail);refine (c_early9 A2 B d2 cc a.atoms c _ (H2.o.bz bel) (HI.o.bz bel) HC.o HO.o.2 HCL.o).mono ?_;rintro e w2 ⟨rfl,hB2⟩;have hB:Below w.heap.size w w2:=bgo (w:=w) bel hB2;have k0:Blk w2 w.heap.size tAs #[.slice A1 a.facts.length d1,.slice A2 a.atoms.length d2]:=Blk.nz blks hB2;have kb:Blk w2 (w.heap.size+1) tAs #[.slice A3 b.facts.length d3,.slice A4 b.atoms.length d4]:=Blk.nz blks hB2;have q0:=k0.cell;have l0:=k0.lt;have qb:=kb.cell;have lb:=kb.lt;clear hB2;cases he:earlyF c [] a.atoms
  ·have E:=ax (seekF_cut (a:=a) (b:=b) (S:=S) 0 (c:=c) (by rw[HF.o,he];rfl));clear he;(go_wp2_with fail);go_ret2;exact ⟨_,by rw[E.o];rfl,by rw[E.o];exact IntsO.bq (IntsO.empty _ rfl) (by omega),bel⟩
  have E0:=ax (seekF_leaf (a:=a) (b:=b) (S:=S) (c:=c) (by rw[HF.o,he];rfl));clear he;(go_wp2_with fail);refine (c_filled9 A2 B d2 cc a.atoms c _ (H2.o.bz hB) (HI.o.bz hB) HC.o HO.o.2).mono ?_;rintro e w3 ⟨r3,rfl,o3,hB3⟩;obtain ⟨R3,e3,rfl,v3⟩:=o3.rj;have hBB:Below w.heap.size w w3:=bgo hB hB3;(go_wp2_with fail);refine (c_spec_l5Apart R3 e3 (filledL a.atoms c) _ v3).mono ?_;rintro e w4 ⟨rfl,hB4⟩;have hB5:Below w.heap.size w w4:=bgo hBB hB4;have hz:=hB5.size;replace k0:=(k0.nz hB3).nz hB4;replace kb:=(kb.nz hB3).nz hB4;(replace qk0:=k0.z;replace qkb:=kb.z);clear o3 v3 hB3 hB4 hBB q0 l0 qb lb hB;cases hap:apartF [] (filledL a.atoms c)
  ·have E:=ax (show seekF a b S 0 c=[] by rw[E0.o,hap];rfl);clear hap;(go_wp2_with fail);go_ret2;exact ⟨_,by rw[E.o];rfl,by rw[E.o];exact IntsO.bq (IntsO.empty _ rfl) (by omega),bel⟩
  have E1:=ax (show seekF a b S 0 c=if caseB a b c then [] else [c] by rw[E0.o,hap];cases caseB a b c<;>rfl);clear hap;(go_wp2_with fail);refine (c_spec_l6Case _ _ B cc a b c _ (hV.o.bz hB5) (hVb.o.bz hB5) (HI.o.bz hB5) HO0.o HVB.o HC.o).mono ?_;rintro e w5 ⟨rfl,hB6⟩;have hB7:Below w.heap.size w w5:=bgo hB5 hB6;replace hz:=hB7.size;clear hB6 hB5 k0 kb qk0 qkb;cases hcb:caseB a b c
  ·have E:=ax (show seekF a b S 0 c=[c] by rw[E1.o,hcb];rfl);clear hcb;(go_wp2_with (at_builtin;refine appIL (ys:=c) rfl _ _ rfl (v:=.slice (some ⟨w5.heap.size,0,none⟩) 0 0) rfl (IntsO.empty w5 rfl) (by rw[HC.o];rfl) (HI.o.bz bel) (by rw[HC.o];simp) (by simp) ?_;intro A' c' w6 o6 hg6 hB8;rw[List.nil_append,HC.o]));go_ret2;exact ⟨_,by rw[E.o];rfl,by rw[E.o];rw[List.nil_append,HC.o] at o6;exact o6.bq hz,Below.trans bel (hB8.mono hz)⟩
  ·have E:=ax (show seekF a b S 0 c=[] by rw[E1.o,hcb];rfl);clear hcb;(go_wp2_with fail);go_ret2;exact ⟨_,by rw[E.o];rfl,by rw[E.o];exact IntsO.bq (IntsO.empty _ rfl) (by omega),bel⟩
 | succ n ih=>
  intro c B cc lo' hi' w hn hc hcl hc8 hA hAb hT hI;have HO0:=ax hv;have HO:=ax (Asn.valid_ok hv);have hV:=ax hA;have hVb:=ax hAb;have HVB:=ax hvb;have HC:=ax hc;have HI:=ax hI;have HTT:=ax hT;have HC8:=ax hc8;have HCL0:=ax hcl;have IH:=ax ih
  have HCL:aJ (∀ x∈a.atoms,cl c x.a≤8):=fun x hx=>by
   have:=(HO.o.2 x hx).1;obtain ⟨t,et⟩:=Int.eq_ofNat_of_zero_le this.1;rw[et];exact hc8 t (by omega)
  obtain ⟨B1,e1,B2,e2,he,h1,h2⟩:=hA;injection he with he;injection he with he;injection he with he1 he2;injection he2 with he2 he3;injection he1 with he1 _ he4;injection he2 with he2 _ he5;subst he1 he4 he2 he5;have H1:=ax h1;have H2:=ax h2;obtain ⟨tb,tz0,rfl,ltb⟩:=flags_addr hT;obtain ⟨pb,ob,rfl,lpb⟩:=hI.blt (k:=0) (by omega);obtain ⟨m,hm8⟩:∃ m,m=8 - n:=⟨_,rfl⟩;have E1:aJ (((9 - n:Nat):Int)=(m:Int)+1):=by show _=_;omega
  rw[show 9 - (n+1)=m from by omega] at HCL0 ⊢;have HM8:=ax hm8;have HN:=ax hn;have hmg:¬(8<(m:Int)):=by omega
  have hmi9:(m:Int)<9:=by omega
  clear h1 h2 hc hc8 hcl hT hI he3 ih hm8 hn hAb;(go_enter Tryz.func193,Tryz.ntmps193);(go_wp2_with fail);refine (c_fits9 A1 _ d1 cc a.facts c _ (H1.o.bz bel) (HI.o.bz bel) HC.o HO.o.1).mono ?_;rintro e w1 ⟨rfl,rfl⟩;cases hf:fitsS c a.facts
  ·have E:=ax (seekF_cut (a:=a) (b:=b) (S:=S) (n+1) (c:=c) (by rw[hf];rfl));clear hf;(go_wp2_with fail);go_ret2;exact ⟨_,by rw[E.o];rfl,by rw[E.o];exact IntsO.bq (IntsO.empty _ (by first|rfl|simp)) (by first|omega|simp),bel⟩
  have HF:=ax hf;clear hf;(go_wp2_with fail);refine (c_early9 A2 _ d2 cc a.atoms c _ (H2.o.bz bel) (HI.o.bz bel) HC.o HO.o.2 HCL.o).mono ?_;rintro e w2 ⟨rfl,hB2⟩;have hB:Below w.heap.size w w2:=bgo (w:=w) bel hB2;have k0:Blk w2 w.heap.size tAs #[.slice A1 a.facts.length d1,.slice A2 a.atoms.length d2]:=Blk.nz blks hB2;have kb:Blk w2 (w.heap.size+1) tAs #[.slice A3 b.facts.length d3,.slice A4 b.atoms.length d4]:=Blk.nz blks hB2;have q0:=k0.cell;have l0:=k0.lt;have qb:=kb.cell;have lb:=kb.lt;clear hB2;cases he:earlyF c [] a.atoms
  ·have E:=ax (seekF_cut (a:=a) (b:=b) (S:=S) (n+1) (c:=c) (by rw[HF.o,he];rfl));clear he;(go_wp2_with fail);go_ret2;exact ⟨_,by rw[E.o];rfl,by rw[E.o];exact IntsO.bq (IntsO.empty _ rfl) (by omega),bel⟩
  have E0:=ax (seekF_step (a:=a) (b:=b) (S:=S) (n:=n) (c:=c) (by rw[HF.o,he];rfl));clear he;have qt:=flags_at (HTT.o.bz hB) (m:=m) (by omega);cases ht:S.testBit m
  ·rw[ht] at qt;have E:aJ (seekF a b S (n+1) c=seekF a b S n c):=by show _=_;rw[E0.o,←HM8.o,ht];rfl
   have ih1:=IH.o c _ cc _ _ w2 (by have:=HN.o;omega) HC.o (fun j hj hS=>by
    by_cases e:j=m
    ·subst e;rw[ht] at hS;cases hS
    ·exact HCL0.o j (by have:=HM8.o;have:=HN.o;omega) hS) HC8.o (hV.o.bz hB) (hVb.o.bz hB) (HTT.o.bz hB) (HI.o.bz hB)
   rw[E1.o] at ih1;have IH1:=ax ih1;clear ih1 ht;(go_wp2_with fail);refine IH1.o.mono ?_;rintro e w3 ⟨r,rfl,o3,hB3⟩;have O3:=ax o3;have hz:=hB.size;clear o3;(go_wp2_with fail);go_ret2;exact ⟨r,by rw[E.o];rfl,by rw[E.o];exact O3.o.bq hz,bgo hB hB3⟩
  ·rw[ht] at qt;have E:aJ (seekF a b S (n+1) c=(List.range (9 - n)).flatMap (seekFAt a b S n c)):=by show _=_;rw[E0.o,←HM8.o,ht];rfl
   clear ht;(go_wp2_with fail)
   go_loopw [12] (fun i wr=>∃ k:Nat,k≤m+1∧i=.int .i64 k∧aJ ((List.range k).flatMap (seekFAt a b S n c)=[])∧Blk wr w.heap.size tAs #[.slice A1 a.facts.length d1,.slice A2 a.atoms.length d2]∧Blk wr (w.heap.size+1) tAs #[.slice A3 b.facts.length d3,.slice A4 b.atoms.length d4]∧Below w.heap.size w wr) (fun i _=>9 - (intOf i).toNat)
   case atStart=>exact ⟨0,Nat.zero_le _,rfl,rfl,k0,kb,hB⟩
   case round=>
    clear k0 kb hB q0 l0 qb lb qt;obtain ⟨k,hk,rfl,HP,k0,kb,hB⟩:=hrel;have q0:=k0.cell;have l0:=k0.lt;have qb:=kb.cell;have lb:=kb.lt;have hz:=hB.size;by_cases hlt:k≤m
    ·have hki:(k:Int)≤(m:Int):=by omega
     have hk9:(k:Int)<9:=by omega
     have hkc:=ints_cl (HI.o.bz hB) (m:=k) (by rw[HC.o];omega);have HNX:aJ ((List.range (k+1)).flatMap (seekFAt a b S n c)=seekFAt a b S n c k):=by show _=_;rw[List.range_succ,List.flatMap_append,HP.o];simp
     by_cases hskip:k<m∧cl c k≠k
     ·have HX:aJ (seekFAt a b S n c k=[]):=by show _=_;rw[seekFAt,if_pos (by rw[←HM8.o];exact hskip)]
      have hkm:(k:Int)<(m:Int):=by omega
      have hne:(cl c k != (k:Int))=true:=by simpa using hskip.2
      clear hskip hki hlt;(go_wp2_with fail)
      go_round
      case rel=>exact ⟨k+1,by omega,by go_num,by show _=_;rw[HNX.o,HX.o],k0,kb,hB⟩
      case measure=>simp[intOf];omega
     ·have hsk2:k<m→(cl c k != (k:Int))=false:=fun h=>by
       cases Int.decEq (cl c k) k with
       | isTrue h=>simp[h]
       | isFalse h'=>exact absurd ⟨h,h'⟩ hskip
      have HX:aJ (seekFAt a b S n c k=seekF a b S n (c.set m k)):=by
       show _=_;rw[seekFAt,←HM8.o,if_neg hskip]
      clear hskip;have hcs:(c.set m (k:Int)).length=9:=by simpa using HC.o
      have HCS:=ax hcs
      have hcl':∀ j:Nat,j<9 - n→S.testBit j=true→0≤cl (c.set m (k:Int)) j∧cl (c.set m (k:Int)) j≤j:=fun j hj hSj=>by
       have:=HM8.o;have:=HN.o;rw[cl_set HC.o (by omega) _ (by omega)]
       split
       ·omega
       ·exact HCL0.o j (by omega) hSj
      have HCL':=ax hcl'
      have hc8':∀ j:Nat,j<9→cl (c.set m (k:Int)) j≤8:=fun j hj=>by
       rw[cl_set HC.o (by omega) _ (by omega)]
       split
       ·omega
       ·exact HC8.o j hj
      have HC8':=ax hc8';clear hcl' hc8' hcs;obtain hkm|hkm:k<m∨k=m:=by omega
      case' inl=>have h1:(k:Int)<(m:Int):=by omega
      case' inl=>have h2:=hsk2 hkm
      case' inr=>have h1:¬(k:Int)<(m:Int):=by omega
      all_goals
       clear hkm hsk2;(go_wp2_with (at_builtin;refine appIL (ys:=c) (base:=wr.heap.size) rfl _ _ rfl (v:=.slice (some ⟨wr.heap.size,0,none⟩) 0 0) rfl (IntsO.empty wr rfl) (by rw[HC.o];rfl) (HI.o.bz bel) (by rw[HC.o];simp) (by simp) ?_;intro A' c' w5 o5 hg5 hB6;rw[List.nil_append,HC.o] at o5 ⊢;obtain ⟨g,cur,-,rfl,hgb,kg,hcm,hset⟩:=o5.open_ (k:=m) (by rw[HC.o];omega);have qg:=(kg.cell m).trans hcm;have rg:=kg.frozen;have lg:=kg.lt;have HSET:=ax (hset k);have k5:=Blk.bz (g:=w.heap.size) (w:=wr.alloc (.cells #[] tI)) (k0.alloc _) hB6 l0;have hB5:Below w.heap.size w w5:=Below.trans bel (hB6.mono (by omega));have k6:=k5.far (p:=⟨g,m,none⟩) (by simp only;omega) (.int .i64 k);have kb5:=Blk.bz (g:=w.heap.size+1) (w:=wr.alloc (.cells #[] tI)) (kb.alloc _) hB6 lb;have kb6:=kb5.far (p:=⟨g,m,none⟩) (by simp only;omega) (.int .i64 k);have qb6:=kb6.cell;have q6:=k6.cell;clear hset o5 kg hcm q0 qb hg5));have hB7:Below w.heap.size w (w5.setCell ⟨g,m,none⟩ (.int .i64 k)):=hB5.setCell (p:=⟨g,m,none⟩) (by simp only;omega) _;have hz7:=hB7.size;have v7:=HSET.o.readsI.2;have ih1:=IH.o (c.set m (k:Int)) _ c' _ _ _ (by have:=HN.o;omega) HCS.o HCL'.o HC8'.o (hV.o.bz hB7) (hVb.o.bz hB7) (HTT.o.bz hB7) v7;rw[E1.o] at ih1;refine ih1.mono ?_;clear ih1 v7 q6 k5 qg rg qb6 kb5;rintro e w8 ⟨r,rfl,o8,hB8⟩;have O8:=ax o8;have k8:=k6.nz hB8;have kb8:=kb6.nz hB8;have hBn:=bgo hB7 hB8;clear o8 hB8 k6 kb6 hB7 hB5 hB6;cases hem:(seekF a b S n (c.set m (k:Int))).isEmpty
       ·have hne:seekFAt a b S n c k≠[]:=by rw[HX.o];intro h;rw[h] at hem;cases hem
        obtain ⟨y,y1,y2⟩:=flatMap_first (N:=9 - n) (by have:=HM8.o;have:=HN.o;omega) HP.o hne;rw[HX.o] at y1
        have E2:aJ ((seekF a b S (n+1) c).isEmpty=false∧firstI (seekF a b S (n+1) c)=firstI (seekF a b S n (c.set m (k:Int)))):=by
         refine ⟨?_,?_⟩
         ·rw[E.o]
          cases h:(List.range (9 - n)).flatMap (seekFAt a b S n c) with
          | nil=>rw[h] at y2;cases y2
          | cons _ _=>rfl
         ·unfold firstI;rw[E.o,y1,y2]
        clear hem hne y1 y2;(go_wp2_with fail);go_ret2;exact ⟨r,by rw[E2.o.1];rfl,by rw[E2.o.2];exact O8.o.bq hz7,hBn⟩
       ·have HX2:aJ (seekFAt a b S n c k=[]):=by show _=_;rw[HX.o];simpa using hem
        clear hem;(go_wp2_with fail)
        go_round
        case rel=>exact ⟨k+1,by omega,by go_num,by show _=_;rw[HNX.o,HX2.o],k8,kb8,hBn⟩
        case measure=>simp[intOf];omega
    ·obtain rfl:k=m+1:=by omega
     have E2:aJ (seekF a b S (n+1) c=[]):=by show _=_;rw[E.o,show 9 - n=m+1 from by have:=HM8.o;have:=HN.o;omega];exact HP.o
     (go_wp2_with fail);go_ret2;exact ⟨_,by rw[E2.o];rfl,by rw[E2.o];exact IntsO.bq (IntsO.empty _ rfl) (by omega),bel⟩
def entF (a b:Asn):Bool:=a.valid&&b.valid && !(failF a b).isSome
theorem termsL_star (a b:Asn) (t:Int):t∈mz (starA a b)↔t∈mz a∨t∈mz b:=by
 simp only[mz,starA,List.flatMap_append,List.mem_append];constructor
 ·rintro ((h|h)|(h|h))<;>simp[h]
 ·rintro ((h|h)|(h|h))<;>simp[h]
theorem seekF_fail {a b:Asn} (ha:a.valid=true) (hb:b.valid=true):(!(seekF a b (tset (mz (starA a b))) 8 opened).isEmpty)=(failF a b).isSome∧firstI (seekF a b (tset (mz (starA a b))) 8 opened)=(failF a b).getD []:=by
 have e:seek a (tset (mz (starA a b))) 8 opened=cases a (caseS a (tset (mz b))):=by
  refine seek_caseS ha _ _ fun j h1 h2=>?_;rw[caseS_bit,tset_bit,tset_bit];have hj:¬j=0:=by omega
  rw[decide_eq_false hj,Bool.or_false,←Bool.decide_or,decide_eq_decide,termsL_star];constructor
  ·rintro ⟨g,h|h⟩
   ·exact Or.inl ⟨g,h⟩
   ·exact Or.inr ⟨g,h⟩
  ·rintro (⟨g,h⟩|⟨g,h⟩)
   ·exact ⟨g,Or.inl h⟩
   ·exact ⟨g,Or.inr h⟩
 unfold seekF firstI;rw[e,←failF_eq hb];cases (cases a (caseS a (tset (mz b)))).filter fun d=>!caseB a b d<;>exact ⟨rfl,rfl⟩
theorem termsL_star_ok {a b:Asn} (ha:a.valid=true) (hb:b.valid=true):∀ t∈mz (starA a b),jq t=true:=by
 intro t ht;rcases (termsL_star a b t).1 ht with h|h
 ·exact termsL_ok ha t h
 ·exact termsL_ok hb t h
theorem c_spec_l6Fails {lo hi lo' hi':Nat} (v v':Value) (a b:Asn) (w:World) (h:AsnV w lo hi v a) (h':AsnV w lo' hi' v' b) (ha:a.valid=true) (hb:b.valid=true) :
  Calls Tryz.prog 131 #[v,v'] w fun e w'=>∃ r,e=.returned (.tuple #[r,.bool (failF a b).isSome])∧IntsO w' w.heap.size r ((failF a b).getD [])∧Below w.heap.size w w':=by
 have hV:=ax h;have hV':=ax h';have HA:=ax ha;have HB:=ax hb;have HT:=ax (termsL_star_ok ha hb);have HS:=ax (seekF_fail ha hb);have HOP:=ax openedB;have HLA:=ax (zjC ha);have HLB:=ax (zjC hb);obtain ⟨A1,c1,A2,c2,rfl,-,-⟩:=h;obtain ⟨A3,c3,A4,c4,rfl,-,-⟩:=h';clear ha hb;(go_enter Tryz.func131,Tryz.ntmps131);have k0:Blk ((w.alloc (.cells #[.slice A1 a.facts.length c1,.slice A2 a.atoms.length c2] tAs)).alloc (.cells #[.slice A3 b.facts.length c3,.slice A4 b.atoms.length c4] tAs)) w.heap.size tAs #[.slice A1 a.facts.length c1,.slice A2 a.atoms.length c2]:=blks;have k1:Blk ((w.alloc (.cells #[.slice A1 a.facts.length c1,.slice A2 a.atoms.length c2] tAs)).alloc (.cells #[.slice A3 b.facts.length c3,.slice A4 b.atoms.length c4] tAs)) (w.heap.size+1) tAs #[.slice A3 b.facts.length c3,.slice A4 b.atoms.length c4]:=blks;(go_wp2_with fail);refine wp_region_noPanic ?_;refine wp_region_held_drew (S:=(fun w'=>(∀ i,w'.cell? ⟨w.heap.size,i,none⟩=#[.slice A1 a.facts.length c1,.slice A2 a.atoms.length c2][i]?)∧(∀ i,w'.cell? ⟨w.heap.size+1,i,none⟩=#[.slice A3 b.facts.length c3,.slice A4 b.atoms.length c4][i]?))) (by kernel_rfl) (⟨Blk.cell blks,Blk.cell blks⟩) (fun aH=>?_);refine tk2 0 rfl aH (h:=tk2 1 rfl aH (h:=tk2 2 rfl aH (h:=?_)));(try simp only[zz]);refine tk2 3 rfl aH (h:=?_);refine rdc 4 rfl fun K hK=>?_;(try simp only[zz]);(go_simp;refine (c_spec_l6Both _ _ a b _ (hV.o.bz bel) (hV'.o.bz bel) (by have:=HLA.o;have:=HLB.o;omega) (by have:=HLA.o;have:=HLB.o;omega) HT.o).mono ?_;rintro e w3 ⟨r3,rfl,o3,hB3⟩;obtain ⟨Tb,ct,rfl,fT⟩:=o3.rj;rw[zjB];have hB:=bgo (w:=w) bel hB3;replace k0:=Blk.nz (g:=w.heap.size) blks hB3;replace k1:=Blk.nz (g:=w.heap.size+1) blks hB3;clear o3);refine hK.out _ _ (⟨Blk.cell blks,Blk.cell blks⟩) ?_;clear aH hK K;intro aH;refine rdc 5 rfl fun K hK=>?_;(try simp only[zz]);(go_simp;refine (c_spec_l5Open _).mono ?_;rintro e w4 ⟨r4,rfl,o4,hB4⟩;obtain ⟨Cb,cc,rfl,fC⟩:=o4.rj;have hB2:=bgo (w:=w) bel hB4;have fT4:=fT.bz hB4;replace k0:=Blk.nz (g:=w.heap.size) blks hB4;replace k1:=Blk.nz (g:=w.heap.size+1) blks hB4;clear o4);refine hK.out _ _ (⟨Blk.cell blks,Blk.cell blks⟩) ?_;clear aH hK K;intro aH;refine rdc 6 rfl fun K hK=>?_;(try simp only[zz]);(go_simp;refine (c_spec_l6Seek Tb ct HA.o HB.o 8 opened Cb cc _ _ _ (by omega) rfl (HOP.o.2 _) HOP.o.1 (hV.o.bz bel) (hV'.o.bz bel) (fT4.bz bel) (fC.bz bel)).mono ?_;rintro e w5 ⟨r5,rfl,o5,hB5⟩;have hz5:=hB2.size;have hB6:=bgo (w:=w) bel hB5;replace k0:=Blk.nz (g:=w.heap.size) blks hB5;replace k1:=Blk.nz (g:=w.heap.size+1) blks hB5);refine hK.out _ _ (⟨Blk.cell blks,Blk.cell blks⟩) ?_;clear aH hK K;intro aH;(try simp only[zz]);refine tk2 7 rfl aH (h:=tk2 8 rfl aH (h:=tk2 9 rfl aH (h:=?_)));(try simp only[zz]);refine tk2 10 rfl aH (h:=?_);(try simp only[zz]);refine dn1 ?_;have O5:=ax o5;clear o5 fC fT fT4 hB5 hB4 hB3;(go_wp2_with fail);go_ret2;exact ⟨r5,by rw[←HS.o.1];rfl,by rw[←HS.o.2];exact O5.o.bq (by first|exact hz5|(simp;exact hz5)),bel⟩
theorem c_spec_Entails {lo hi lo' hi':Nat} (v v':Value) (a b:Asn) (w:World) (h:AsnV w lo hi v a) (h':AsnV w lo' hi' v' b) :
  Calls Tryz.prog 78 #[v,v'] w fun e w'=>e=.returned (.bool (entF a b))∧Below w.heap.size w w':=by
 have hV:=ax h;have hV':=ax h';obtain ⟨A1,c1,A2,c2,rfl,-,-⟩:=h;obtain ⟨A3,c3,A4,c4,rfl,-,-⟩:=h';(go_enter Tryz.func78,Tryz.ntmps78);have k0:Blk ((w.alloc (.cells #[.slice A1 a.facts.length c1,.slice A2 a.atoms.length c2] tAs)).alloc (.cells #[.slice A3 b.facts.length c3,.slice A4 b.atoms.length c4] tAs)) w.heap.size tAs #[.slice A1 a.facts.length c1,.slice A2 a.atoms.length c2]:=blks;have k1:Blk ((w.alloc (.cells #[.slice A1 a.facts.length c1,.slice A2 a.atoms.length c2] tAs)).alloc (.cells #[.slice A3 b.facts.length c3,.slice A4 b.atoms.length c4] tAs)) (w.heap.size+1) tAs #[.slice A3 b.facts.length c3,.slice A4 b.atoms.length c4]:=blks;(go_wp2_with fail);refine (vz _ a _ (hV.o.bz bel)).mono ?_;rintro e w1 ⟨rfl,hB1⟩;have hB:Below w.heap.size w w1:=bgo (w:=w) bel hB1;replace k0:=k0.nz hB1;replace k1:=k1.nz hB1;(replace qk0:=k0.z;replace qk1:=k1.z);clear hB1;cases ha:a.valid
 ·have E:aJ (entF a b=false):=by show _=_;simp[entF,ha]
  clear ha;(go_wp2_with fail);go_ret;exact ⟨zjD E.o.symm,hB⟩
 ·have HA:=ax ha;clear ha;(go_wp2_with fail);refine (vz _ b _ (hV'.o.bz hB)).mono ?_;rintro e w2 ⟨rfl,hB2⟩;replace hB:=bgo hB hB2;replace k0:=k0.nz hB2;replace k1:=k1.nz hB2;(replace qk0:=k0.z;replace qk1:=k1.z);clear hB2;cases hb:b.valid
  ·have E:aJ (entF a b=false):=by show _=_;simp[entF,hb]
   clear hb;(go_wp2_with fail);go_ret;exact ⟨zjD E.o.symm,hB⟩
  ·have HB:=ax hb;have E:aJ (entF a b=(failF a b).isNone):=by show _=_;rw[entF,HA.o,hb];cases failF a b<;>rfl
   clear hb;(go_wp2_with fail);refine (c_spec_l6Fails _ _ a b _ (hV.o.bz hB) (hV'.o.bz hB) HA.o HB.o).mono ?_;rintro e w3 ⟨r,rfl,-,hB3⟩;replace hB:=bgo hB hB3;clear hB3 k0 k1 qk0 qk1;(go_wp2_with fail);go_ret;exact ⟨zjD E.o.symm,hB⟩
theorem c_impl_Entails {lo hi lo' hi':Nat} (v v':Value) (a b:Asn) (w:World) (h:AsnV w lo hi v a) (h':AsnV w lo' hi' v' b) (hhi:hi≤w.heap.size) (hhi':hi'≤w.heap.size) :
  Calls Tryz.prog 54 #[v,v'] w fun e w'=>e=.returned (.bool (entF a b))∧Below w.heap.size w w':=by
 have hV:=ax h;have hV':=ax h';obtain ⟨A1,c1,A2,c2,rfl,-,-⟩:=h;obtain ⟨A3,c3,A4,c4,rfl,-,-⟩:=h';(go_enter Tryz.func54,Tryz.ntmps54);have k0:Blk ((w.alloc (.cells #[.slice A1 a.facts.length c1,.slice A2 a.atoms.length c2] tAs)).alloc (.cells #[.slice A3 b.facts.length c3,.slice A4 b.atoms.length c4] tAs)) w.heap.size tAs #[.slice A1 a.facts.length c1,.slice A2 a.atoms.length c2]:=blks;have k1:Blk ((w.alloc (.cells #[.slice A1 a.facts.length c1,.slice A2 a.atoms.length c2] tAs)).alloc (.cells #[.slice A3 b.facts.length c3,.slice A4 b.atoms.length c4] tAs)) (w.heap.size+1) tAs #[.slice A3 b.facts.length c3,.slice A4 b.atoms.length c4]:=blks;(go_wp2_with fail);refine (jz _ a _ (hV.o.bz bel)).mono ?_;rintro e w1 ⟨rfl,hB1⟩;have hB:Below w.heap.size w w1:=bgo (w:=w) bel hB1;replace k0:=k0.nz hB1;replace k1:=k1.nz hB1;(replace qk0:=k0.z;replace qk1:=k1.z);clear hB1;cases ha:a.valid
 ·have E:aJ (entF a b=false):=by show _=_;simp[entF,ha]
  clear ha;(go_wp2_with fail);go_ret;exact ⟨zjD E.o.symm,hB⟩
 ·have HA:=ax ha;clear ha;(go_wp2_with fail);refine (jz _ b _ (hV'.o.bz hB)).mono ?_;rintro e w2 ⟨rfl,hB2⟩;replace hB:=bgo hB hB2;replace k0:=k0.nz hB2;replace k1:=k1.nz hB2;(replace qk0:=k0.z;replace qk1:=k1.z);clear hB2;cases hb:b.valid
  ·have E:aJ (entF a b=false):=by show _=_;simp[entF,hb]
   clear hb;(go_wp2_with fail);go_ret;exact ⟨zjD E.o.symm,hB⟩
  ·have HB:=ax hb;have hz:=hB.size;have E:aJ (entF a b=(failF a b).isNone):=by show _=_;rw[entF,HA.o,hb];cases failF a b<;>rfl
   clear hb;(go_wp2_with fail);refine (c_impl_failingCase _ _ a b _ (hV.o.bz hB) (hV'.o.bz hB) (by omega) (by omega) HA.o HB.o).mono ?_;rintro e w3 ⟨rfl,hB3⟩;replace hB:=bgo hB hB3;clear hB3 k0 k1 qk0 qk1;(go_wp2_with fail);go_ret;exact ⟨zjD E.o.symm,bel⟩
end
section
open Go Go.RowKit
def maskA (m:Nat):Nat→List Atm→List Atm
 | _,[]=>[]
 | i,x :: xs=>if m.testBit i then x :: maskA m (i+1) xs else maskA m (i+1) xs
def pickA (a:Asn) (m:Nat):Asn:=⟨[],maskA m 0 a.atoms⟩
def seekM (p:Nat→Bool):Nat→Nat→Option Nat
 | 0,_=>none
 | n+1,m=>if p m then some m else seekM p n (m+1)
def frB (a b:Asn) (m:Nat):Bool:=entF a (starA b (pickA a m))
def frM (a b:Asn):Option Nat:=seekM (frB a b) (2 ^ a.atoms.length) 0
def frameF (a b:Asn):Option Asn:=if a.valid&&b.valid then (frM a b).map (pickA a) else none
theorem maskA_len (m:Nat):∀ (xs:List Atm) (i:Nat),(maskA m i xs).length≤xs.length
 | [],_=>Nat.le_refl _
 | x :: xs,i=>by
  unfold maskA;have:=maskA_len m xs (i+1)
  split
  ·simp only[List.length_cons];omega
  ·simp only[List.length_cons];omega
theorem maskA_mem {m:Nat} {x:Atm}:∀ {xs:List Atm} {i:Nat},x∈maskA m i xs→x∈xs
 | [],_,h=>h
 | y :: xs,i,h=>by
  unfold maskA at h
  split at h
  ·rcases List.mem_cons.1 h with rfl|h
   ·exact List.mem_cons_self
   ·exact List.mem_cons_of_mem _ (maskA_mem h)
  ·exact List.mem_cons_of_mem _ (maskA_mem h)
theorem pickA_valid {a:Asn} (h:a.valid=true) (m:Nat):(pickA a m).valid=true:=by
 simp only[Asn.valid,factsValid,Bool.and_eq_true,decide_eq_true_eq,List.all_eq_true] at h ⊢;exact ⟨⟨Nat.zero_le _,fun _ h=>by cases h⟩,Nat.le_trans (maskA_len m _ 0) h.2.1,fun x hx=>h.2.2 x (maskA_mem hx)⟩
theorem frB_star {a b:Asn} (ha:a.valid=true) (hb:b.valid=true) (m:Nat):frB a b m=((starF b (pickA a m)).isSome&&entF a ((starF b (pickA a m)).getD ⟨[],[]⟩)):=by
 unfold starF;rw[hb,pickA_valid ha];unfold frB;cases h:(starA b (pickA a m)).valid
 ·rw[show (true&&true&&false)=false from rfl];simp only[Bool.false_eq_true,if_false,Option.isSome_none,Bool.false_and];unfold entF;rw[h,Bool.and_false,Bool.false_and]
 ·rfl
theorem frB_spec {a b:Asn} (m:Nat):frB a b m=((starA b (pickA a m)).valid&&entF a (starA b (pickA a m))):=by
 unfold frB;cases h:(starA b (pickA a m)).valid
 ·unfold entF;rw[h,Bool.and_false,Bool.false_and];rfl
 ·rfl
theorem seekM_lt {p:Nat→Bool}:∀ {n m k:Nat},seekM p n m=some k→m≤k∧k<m+n∧p k=true
 | 0,_,_,h=>by cases h
 | n+1,m,k,h=>by
  unfold seekM at h
  split at h
  ·rename_i hp;injection h with h;subst h;exact ⟨Nat.le_refl _,by omega,hp⟩
  ·have:=seekM_lt h;exact ⟨by omega,by omega,this.2.2⟩
theorem seekM_step {p:Nat→Bool} {N k:Nat} (hk:k<N):seekM p (N - k) k=if p k then some k else seekM p (N - (k+1)) (k+1):=by
 rw[show N - k=(N - (k+1))+1 by omega,seekM]
theorem frame_some {a b f:Asn} (h:frameF a b=some f):a.valid=true∧b.valid=true∧∃ m,m<2 ^ a.atoms.length∧f=pickA a m∧frB a b m=true:=by
 unfold frameF at h
 split at h
 ·rename_i hv;rw[Bool.and_eq_true] at hv;obtain ⟨m,h1,h2⟩:=Option.map_eq_some_iff.1 h;have:=seekM_lt h1;exact ⟨hv.1,hv.2,m,by omega,h2.symm,this.2.2⟩
 ·cases h
theorem frame_valid {a b f:Asn} (h:frameF a b=some f):f.valid=true:=by
 obtain ⟨ha,-,m,-,rfl,-⟩:=frame_some h;exact pickA_valid ha m
end
section
open Go Go.RowKit Go.Proofs
abbrev factS (f:Fct):Nat:=tins (tins 0 f.a) f.b
def impB (a:Asn) (f:Fct):Bool:=a.valid&&f.valid&&(cases a (caseS a (factS f))).all (Fct.fits · f)
theorem Fct.not_fits (c:List Int) (f:Fct):Fct.fits c ⟨!f.eq,f.a,f.b⟩ = !Fct.fits c f:=by
 unfold Fct.fits;cases f.eq<;>cases decide (cl c f.a=cl c f.b)<;>rfl
theorem Fct.valid_ok {f:Fct} (h:f.valid=true):(0≤f.a∧f.a≤8)∧(0≤f.b∧f.b≤8):=by
 simpa [Fct.valid,jq] using h
theorem cases_not (a:Asn) (f:Fct) (S:Nat):cases ⟨a.facts++[⟨!f.eq,f.a,f.b⟩],a.atoms⟩ S=(cases a S).filter fun c=>!Fct.fits c f:=by
 unfold cases;rw[List.filter_filter]
 congr 1
 funext c
 simp only[full,List.all_append,List.all_cons,List.all_nil,Bool.and_true,Fct.not_fits];cases a.facts.all (Fct.fits c)<;>cases apartF [] (filledL a.atoms c)<;>cases Fct.fits c f<;>rfl
theorem filter_empty {α:Type} (p:α→Bool):∀ (L:List α),(L.filter fun x=>!p x).isEmpty=L.all p
 | []=>rfl
 | x :: L=>by
  rw[List.filter_cons,List.all_cons];cases h:p x
  ·rfl
  ·simpa using filter_empty p L
theorem imp_seek {a:Asn} {f:Fct} (hv:a.valid=true) (hf:f.valid=true) :
  (seek ⟨a.facts++[⟨!f.eq,f.a,f.b⟩],a.atoms⟩ ((tset (mz a)|||1 <<< f.a.toNat)|||1 <<< f.b.toNat) 8 opened).isEmpty=(cases a (caseS a (factS f))).all (Fct.fits · f):=by
 have hfo:=Fct.valid_ok hf;have ha:jq f.a=true:=by simp[jq];omega
 have hb:jq f.b=true:=by simp[jq];omega
 have hbit:∀ j:Nat,(factS f).testBit j=(decide (f.a=(j:Int)) || decide (f.b=(j:Int))):=fun j=>by
  rw[tins_bit,tins_bit,Nat.zero_testBit,ha,hb];simp
 have hone:∀ (n j:Nat),(1 <<< n).testBit j=decide (n=j):=fun n j=>by
  rw[Nat.one_shiftLeft,Nat.testBit_two_pow]
 have e1:seek ⟨a.facts++[⟨!f.eq,f.a,f.b⟩],a.atoms⟩ ((tset (mz a)|||1 <<< f.a.toNat)|||1 <<< f.b.toNat) 8 opened=seek ⟨a.facts++[⟨!f.eq,f.a,f.b⟩],a.atoms⟩ (caseS a (factS f)) 8 opened:=by
  refine seek_congr _ (fun j h1 h2=>?_) 8 opened (by omega);rw[caseS_bit,hbit,Nat.testBit_or,Nat.testBit_or,tset_bit,hone,hone];have h0:¬j=0:=by omega
  have x1:decide (f.a.toNat=j)=decide (f.a=(j:Int)):=by rw[decide_eq_decide];omega
  have x2:decide (f.b.toNat=j)=decide (f.b=(j:Int)):=by rw[decide_eq_decide];omega
  rw[x1,x2];simp[h0,Bool.or_assoc]
 rw[e1,seek_cases (a:=Asn.mk (a.facts++[Fct.mk (!f.eq) f.a f.b]) a.atoms) ?_ (Asn.valid_ok hv).2 (caseS_zero a (factS f)) ?_,cases_not,filter_empty]
 ·intro g hg;rw[List.mem_append,List.mem_singleton] at hg;rcases hg with hg|rfl
  ·exact (Asn.valid_ok hv).1 g hg
  ·exact hfo
 ·intro t ht;obtain ⟨h1,h2⟩:=caseS_not hv (factS f) t ht;refine ⟨fun g hg=>?_,h2⟩;rw[List.mem_append,List.mem_singleton] at hg;rcases hg with hg|rfl
  ·exact h1 g hg
  ·rw[caseS_bit,hbit] at ht;simp only[Bool.or_eq_false_iff,decide_eq_false_iff_not] at ht;exact ⟨ht.2.1,ht.2.2⟩
end
section
open Go Go.RowKit Go.Proofs
attribute [local go_sem ↓] Go.wp_at_zero Go.wp_at_succ
attribute [local go_sem] Oper.semAt_some
theorem c_impl_Implies {lo hi:Nat} (v:Value) (a:Asn) (f:Fct) (w:World) (h:AsnV w lo hi v a) (hhi:hi≤w.heap.size) :
  Calls Tryz.prog 250 #[v,f.val] w fun e w'=>e=.returned (.bool (impB a f))∧Below w.heap.size w w':=by
 have hV:=ax h;obtain ⟨A1,c1,A2,c2,rfl,-,-⟩:=h;have HE:aJ (impB a f=(a.valid&&f.valid&&(cases a (caseS a (factS f))).all (Fct.fits · f))):=ax rfl;have HFS:aJ (factS f<512):=ax (tins_lt (tins_lt (by decide) _) _);obtain ⟨fe,fa,fb⟩:=f;refine (callsIn_wide (n:=3)).1 ?_;(refine callsIn_of_wp_marks Tryz.func250 rfl trivial ?_ rfl;simp only[Tryz.ntmps250,List.size_toArray,List.length_cons,List.length_nil,Nat.reduceAdd,Nat.reduceSub,Array.replicate_succ,Array.replicate_zero,List.push_toArray,List.append_toArray,List.nil_append,List.cons_append])
 gi_wp2_with fail
 refine ⟨trivial,(callsIn_wide.2 (jz _ a _ (hV.o.bz bel))).mono ?_⟩;rintro e w1 ⟨rfl,hB1⟩;have k0:Blk w1 w.heap.size tAs #[.slice A1 a.facts.length c1,.slice A2 a.atoms.length c2]:=Blk.nz blks hB1;have k1:Blk w1 (w.heap.size+1) tF #[.bool fe,.int .i64 fa,.int .i64 fb]:=Blk.nz blks hB1;have k2:Blk w1 (w.heap.size+1+1) 4 #[.bool false]:=Blk.nz blks hB1;have hB:Below w.heap.size w w1:=bgo (w:=w) bel hB1;have hz1:=hB1.size;simp only[World.size_alloc] at hz1;clear hB1;have q0:=k0.cell;have q1:=k1.cell;have q2:=k2.cell;have r2:=k2.frozen;have l2:=k2.lt;have l1:=k1.lt;have l0:=k0.lt;cases hv:a.valid
 ·gi_wp2_with fail
  refine ⟨trivial,?_⟩
  gi_wp2_with fail
  have z2:=(k2.set_ 0 (.bool false)).cell 0;refine ⟨.bool false,by simp[results,Tryz.f250,go_sem,z2,q2,l2],by rw[HE.o,hv];rfl,hB.setCell (p:=⟨w.heap.size+1+1,0,none⟩) (by simp only;omega) _⟩
 have HV:=ax hv;clear hv
 gi_wp2_with fail
 refine ⟨trivial,(callsIn_wide.2 (c_impl_FactValid ⟨fe,fa,fb⟩ _)).mono ?_⟩;rintro e w2 ⟨rfl,hB2⟩;replace k0:=k0.nz hB2;replace k1:=k1.nz hB2;replace k2:=k2.nz hB2;replace hB:=bgo hB hB2;have hz2:=hB2.size;clear hB2 q0 q1 q2 r2 l0 l1 l2;have q0:=k0.cell;have q1:=k1.cell;have q2:=k2.cell;have r2:=k2.frozen;have l2:=k2.lt;have l1:=k1.lt;have l0:=k0.lt;cases hf:Fct.valid ⟨fe,fa,fb⟩
 ·gi_wp2_with fail
  have z2:=(k2.set_ 0 (.bool false)).cell 0;refine ⟨.bool false,by simp[results,Tryz.f250,go_sem,z2,q2,l2],by rw[HE.o,hf];simp,hB.setCell (p:=⟨w.heap.size+1+1,0,none⟩) (by simp only;omega) _⟩
 have HFO:=ax (Fct.valid_ok hf);have HE2:aJ (impB a ⟨fe,fa,fb⟩=(cases a (caseS a (factS ⟨fe,fa,fb⟩))).all (Fct.fits · ⟨fe,fa,fb⟩)):=ax (by rw[HE.o,HV.o,hf];rfl);clear hf HE
 gi_wp2_with fail
 refine wpIn_wide.2 ?_;refine wp_region_noPanic ?_;refine wp_region_held_drew (S:=(fun w'=>(∀ i,w'.cell? ⟨w.heap.size,i,none⟩=#[.slice A1 a.facts.length c1,.slice A2 a.atoms.length c2][i]?)∧(∀ i,w'.cell? ⟨w.heap.size+1,i,none⟩=#[.bool fe,.int .i64 fa,.int .i64 fb][i]?))) (by kernel_rfl) (⟨k0.drew.cell,k1.drew.cell⟩) (fun aH=>?_);refine tk2 0 rfl aH (h:=tk2 1 rfl aH (h:=tk2 2 rfl aH (h:=?_)));(try simp only[zz]);refine tk2 3 rfl aH (h:=tk2 5 rfl aH (h:=tk2 6 rfl aH (h:=?_)));refine rdc 4 rfl fun K hK=>?_;(try simp only[zz]);(go_simp;refine (c_impl_with 0 fa _ (by decide)).mono ?_;rintro e w3 ⟨rfl,rfl⟩);refine hK.out _ _ (⟨k0.drew.cell,k1.drew.cell⟩) ?_;clear aH hK K;intro aH;refine rdc 7 rfl fun K hK=>?_;(try simp only[zz]);(go_simp;refine (c_impl_with (tins 0 fa) fb _ (tins_lt (by decide) _)).mono ?_;rintro e w3 ⟨rfl,rfl⟩);refine hK.out _ _ (⟨k0.drew.cell,k1.drew.cell⟩) ?_;clear aH hK K;intro aH;refine rdc 8 rfl fun K hK=>?_;(try simp only[zz]);(go_simp;refine (c_impl_possibleCases A1 A2 c1 c2 a (factS ⟨fe,fa,fb⟩) _ (hV.o.bz hB.drew) HFS.o).mono ?_;rintro e w3 ⟨gA,gT,rfl,hA,hT,kA,kT,hB3⟩;replace hB3:Below w2.heap.size w2 w3:=(Below.refl _ _).drew.trans hB3;replace k0:=k0.nz hB3;replace k1:=k1.nz hB3;replace k2:=k2.nz hB3;replace hB:=bgo hB hB3);refine hK.out _ _ (⟨k0.cell,k1.cell⟩) ?_;clear aH hK K;intro aH;(try simp only[zz]);refine dn1 ?_;have hzA:w2.heap.size≤gA:=hA;have hzT:w2.heap.size≤gT:=hT;have hzO:=k2.lt;have hz:=hB.size;have hz3:=hB3.size;have hAw:=hV.o.bz hB;clear hB3 q0 q1 q2 r2 l0 l1 l2 hA hT
 gi_wp2_with fail
 refine wp_rangeT (gf:=219) (lb:=#[.pointer (some ⟨gA,0,none⟩),.pointer (some ⟨gT,0,none⟩)]) rfl (enters_of Tryz.func219 (by kernel_rfl) rfl)
  (c_seq (n₀:=w.heap.size) w3 HV.o HFS.o hAw hhi (by omega) kA kT) (fun h k=>h.trans k) (Kept.putl (by omega)) (Below.refl _ _) (fun _=>rfl)
  (fun pre W=>aJ (∀ y∈pre,Fct.fits y.1 ⟨fe,fa,fb⟩=true)∧Blk W (w.heap.size+1) tF #[.bool fe,.int .i64 fa,.int .i64 fb]∧Blk W (w.heap.size+1+1) 4 #[.bool false]∧Below w.heap.size w W)
  (fun c pre W=>∃ x∈pre,c=.ret∧aJ (Fct.fits x.1 ⟨fe,fa,fb⟩=false)∧Blk W (w.heap.size+1+1) 4 #[.bool false]∧Below w.heap.size w W)
  (fun s X Y row hs hg hr=>by
   obtain ⟨e1,k1,k2,k3⟩:=hs
   exact ⟨e1,k1.turn hg hr (Or.inr (by omega)),k2.turn hg hr (Or.inr (by omega)),Below.turn k3 hg hr (by omega) k3.size⟩)
  (fun c s X Y row hs hg hr=>by
   obtain ⟨x,e1,e2,e3,k1,k2⟩:=hs
   exact ⟨x,e1,e2,e3,k1.turn hg hr (Or.inr (by omega)),Below.turn k2 hg hr (by omega) k2.size⟩)
  ⟨fun y hy=>absurd hy (by simp),k1,k2,hB⟩ ?round ?done ?stop
 case round=>
  rintro l pre x W hl ⟨HP,k1,k2,hB⟩ -;have hwz:=hB.size
  gi_wp2
  refine ⟨(KeepsOthers.alloc _ _).from _,Kept.alloc (by omega) _,fun o o' ho hc=>?_⟩;have kX:=(Blk.new W tTc (case9 x.1)).putl o' ho hc;replace k1:=(k1.alloc (.cells (case9 x.1) tTc)).putl o' ho hc;replace k2:=(k2.alloc (.cells (case9 x.1) tTc)).putl o' ho hc;have hB':=(bbox hB (.cells (case9 x.1) tTc)).trans (Kept.put (T1:=tTc) (T2:=tAs) (n₀:=w.heap.size) o' (by omega) ho hc).bz;clear ho;obtain ⟨V,hVe⟩:∃ V,V=(W.alloc (.cells (case9 x.1) tTc)).putObj l o':=⟨_,rfl⟩;rw[←hVe] at kX k1 k2 hB' ⊢;clear hVe hB;have q1:=k1.cell;have hxl:=ax x.len;have hzV:=hB'.size;have lX:=kX.lt
  gi_wp2_with fail
  refine ⟨trivial,(CallsIn.inRound l (callsIn_wide.2 (c_impl_factHolds ⟨fe,fa,fb⟩ x.1 W.heap.size _ (kX.case hxl.o) hxl.o HFO.o.1 HFO.o.2))).mono ?_⟩;rintro e w4 ⟨rfl,hB4⟩;replace k1:=k1.nz hB4;replace k2:=k2.nz hB4;have hBV:=bgo hB' hB4;have hKV:Kept tTc tAs w.heap.size V w4:=Kept.nz hB4 hzV;have hKF:KeepsOthers V w4:=(KX.of hB4).keeps;clear q1 hB4;have q2:=k2.cell 0;have r2:=k2.frozen;have l2:=k2.lt;cases he:Fct.fits x.1 ⟨fe,fa,fb⟩
  ·have HE:=ax he;clear he
   gi_wp2
   exact ⟨(hKF.trans (KeepsOthers.setCell _ _ _)).from _,x,by simp,rfl,HE,k2.set_ 0 (.bool false),hBV.setCell (p:=⟨w.heap.size+1+1,0,none⟩) (by simp only;omega) _⟩
  ·have HP2:aJ (∀ y∈pre++[x],Fct.fits y.1 ⟨fe,fa,fb⟩=true):=fun y hy=>by
    rcases List.mem_append.1 hy with hy|hy
    ·exact HP.o y hy
    ·rw[List.mem_singleton.1 hy];exact he
   clear he
   gi_wp2
   exact ⟨hKF.from _,hKV,HP2,k1,k2,hBV⟩
 case done=>
  rintro D ys W hD hS ⟨HP,k1,k2,hB⟩ hK
  have E:aJ (impB a ⟨fe,fa,fb⟩=true):=by
   show _=_;rw[HE2.o,←hS,List.all_eq_true];intro y hy;obtain ⟨z,hz,rfl⟩:=List.mem_map.1 hy;exact HP.o z hz
  clear hS k1;have q2:=k2.cell 0;have r2:=k2.frozen;have l2:=k2.lt
  gi_wp2
  have z2:=k2.set_ 0 (.bool true);have zB:=hB.setCell (p:=⟨w.heap.size+1+1,0,none⟩) (by simp only;omega) (.bool true);have zK:=(KeepsOthers.setCell W ⟨w.heap.size+1+1,0,none⟩ (.bool true)).same D _ hK rfl;obtain ⟨V,hVe⟩:∃ V,V=W.setCell ⟨w.heap.size+1+1,0,none⟩ (.bool true):=⟨_,rfl⟩;rw[←hVe] at z2 zB zK ⊢;refine ⟨by simp,.inl ⟨_,_,rfl,run_takeDeferred zK,?_⟩⟩;have y2:=(z2.putl (.deferred none) zK rfl).cell 0;refine ⟨.bool true,?_,by rw[E.o],zB.trans (belowK_b (w:=w) (Nat.le_refl _) V D _ _ (by omega) zK rfl rfl)⟩;simp at y2;simp[results,Tryz.f250,go_sem,y2]
 case stop=>
  rintro D c pre W hD hPre ⟨x,hx,rfl,HX,k2,hB⟩ hK
  have E:aJ (impB a ⟨fe,fa,fb⟩=false):=by
   show _=_;rw[HE2.o,List.all_eq_false];exact ⟨x.1,x.2,by rw[HX.o];decide⟩
  have q2:=k2.cell 0;have l2:=k2.lt
  gi_wp2
  refine ⟨by simp,.inl ⟨_,_,rfl,run_takeDeferred hK,?_⟩⟩;have y2:=(k2.putl (.deferred none) hK rfl).cell 0;refine ⟨.bool false,?_,by rw[E.o],hB.trans (belowK_b (w:=w) (Nat.le_refl _) W D _ _ (by omega) hK rfl rfl)⟩;simp at y2;simp[results,Tryz.f250,go_sem,y2]
end
section
open Go Go.RowKit Go.Proofs
attribute [local go_sem ↓] Go.wp_at_zero Go.wp_at_succ
def AsnC (w:World) (lo hi:Nat) (v:Value) (a:Asn):Prop:=
 ∃ A1 c1 A2 c2,v=.agg #[.slice A1 a.facts.length c1,.slice A2 a.atoms.length c2]∧FactsV w lo hi A1 a.facts∧AtomsV w lo hi A2 a.atoms∧a.atoms.length≤c2
theorem AsnC.V {w:World} {lo hi:Nat} {v:Value} {a:Asn} (h:AsnC w lo hi v a):AsnV w lo hi v a:=by
 obtain ⟨A1,c1,A2,c2,e,h1,h2,-⟩:=h;exact ⟨A1,c1,A2,c2,e,h1,h2⟩
theorem AsnC.bz {w w':World} {lo hi:Nat} {v:Value} {a:Asn} (h:AsnC w lo hi v a) (hb:Below w.heap.size w w'):AsnC w' lo hi v a:=by
 obtain ⟨A1,c1,A2,c2,e,h1,h2,h3⟩:=h;exact ⟨A1,c1,A2,c2,e,h1.bz hb,h2.bz hb,h3⟩
theorem own_cap {w:World} {base:Nat} {e:TypeId} {size n c:Nat} {A:Option Addr} {xs:List Value} (h:w.ownsRow base e size (.slice A n c) n xs):n≤c:=by
 rcases h.2 with ⟨e1,e2⟩|⟨g,cap,cur,e1,-,-,hn,-⟩
 ·omega
 ·injection e1 with e1 e2 e3;omega
theorem AsnO.C {w:World} {base:Nat} {v:Value} {a:Asn} (h:AsnO w base v a):AsnC w base w.heap.size v a:=by
 obtain ⟨fv,av,rfl,h1,h2⟩:=h;obtain ⟨A1,c1,rfl,f1⟩:=h1.rj;obtain ⟨A2,c2,rfl,f2⟩:=h2.rj;exact ⟨A1,c1,A2,c2,rfl,f1,f2,own_cap h2.1⟩
def newT (S:Nat):Option Nat:=(List.range' 5 4).find? fun t=>!S.testBit t
def unusedI (S:Nat):Int:=match newT S with|some t=>(t:Int)|none=>0
theorem newT_yes {S t:Nat} (h5:5≤t) (h8:t≤8) (h1:∀ k,5≤k→k<t→S.testBit k=true) (h2:S.testBit t=false):newT S=some t:=by
 unfold newT
 have e:List.range' 5 4=List.range' 5 (t - 5)++t :: List.range' (t+1) (8 - t):=by
  have:t=5∨t=6∨t=7∨t=8:=by omega
  rcases this with rfl|rfl|rfl|rfl<;>rfl
 rw[e,List.find?_append]
 have:(List.range' 5 (t - 5)).find? (fun t=>!S.testBit t)=none:=by
  rw[List.find?_eq_none];intro x hx;have:=List.mem_range'_1.1 hx;simp[h1 x (by omega) (by omega)]
 rw[this,List.find?_cons,h2];rfl
theorem newT_no {S:Nat} (h1:∀ k,5≤k→k≤8→S.testBit k=true):newT S=none:=by
 unfold newT;rw[List.find?_eq_none];intro x hx;have:=List.mem_range'_1.1 hx;simp[h1 x (by omega) (by omega)]
theorem c_impl_unused (S:Nat) (w:World) (hS:S<512):Calls Tryz.prog 269 #[.int .u16 S] w fun e w'=>e=.returned (.tuple #[.int .i64 (unusedI S),.bool (newT S).isSome])∧w=w':=by
 (go_enter Tryz.func269,Tryz.ntmps269);(go_wp2_with fail)
 go_loop [4] (fun i=>∃ k:Nat,5≤k∧k≤9∧i=.int .i64 k∧aJ (∀ j,5≤j→j<k→S.testBit j=true)) (fun i=>10 - (intOf i).toNat)
 case atStart=>exact ⟨5,by omega,by omega,rfl,ax fun j h1 h2=>by omega⟩
 case round=>
  obtain ⟨k,h5,h9,rfl,HA⟩:=hrel;by_cases hlt:k<9
  ·have hki:(k:Int)≤8:=by omega
   have ht:jq (k:Int)=true:=by simp[jq];omega
   have et:((k:Int)).toNat=k:=by omega
   (go_wp2_with fail);refine (c_impl_tHas S _ _ hS).mono ?_;rintro e w1 ⟨rfl,rfl⟩;rw[ht,et];clear ht et;cases hb:S.testBit k
   ·have E:=ax (newT_yes h5 (by omega) HA.o hb);clear hb;(go_wp2_with fail);go_ret2;exact ⟨by unfold unusedI;rw[E.o];rfl,rfl⟩
   ·have HA2:aJ (∀ j,5≤j→j<k+1→S.testBit j=true):=ax fun j h1 h2=>by
     by_cases e:j=k
     ·rw[e];exact hb
     ·exact HA.o j h1 (by omega)
    clear hb HA;(go_wp2_with fail)
    go_round
    case rel=>exact ⟨k+1,by omega,by omega,by go_num,HA2⟩
    case measure=>simp[intOf];omega
  ·obtain rfl:k=9:=by omega
   have E:=ax (newT_no (S:=S) fun j h1 h2=>HA.o j h1 (by omega));(go_wp2_with fail);go_ret2;exact ⟨by unfold unusedI;rw[E.o];rfl,rfl⟩
theorem c_impl_newVariable {lo hi:Nat} (v:Value) (a:Asn) (K:Nat) (w:World) (h:AsnV w lo hi v a) (hK:K<512):Calls Tryz.prog 248 #[v,.int .u16 K] w fun e w'=>e=.returned (.tuple #[.int .i64 (unusedI (tset (mz a)|||K)),.bool (newT (tset (mz a)|||K)).isSome])∧Below w.heap.size w w':=by
 have hV:=ax h;obtain ⟨A1,c1,A2,c2,rfl,-,-⟩:=h;have HT:=ax (tset_lt (mz a));have HO:aJ (bits .or .u16 (tset (mz a):Int) (K:Int)=((tset (mz a)|||K:Nat):Int)):=ax (u16_or_nat _ _ (by have:=tset_lt (mz a);omega) (by omega));have HL:aJ (tset (mz a)|||K<512):=ax (Nat.or_lt_two_pow (n:=9) (tset_lt _) hK);(go_enter Tryz.func248,Tryz.ntmps248);(go_wp2_with fail);refine (c_impl_termsIn _ a _ (hV.o.bz bel)).mono ?_;rintro e w1 ⟨rfl,hB1⟩;have hB:=bgo (w:=w) bel hB1;clear hB1;(go_wp2_with fail);rw[HO.o];refine (c_impl_unused _ _ HL.o).mono ?_;rintro e w2 ⟨rfl,rfl⟩;(go_wp2_with fail);go_ret2;exact ⟨rfl,hB⟩
theorem AtomsV.take_ {w:World} {lo hi:Nat} {A:Option Addr} {xs:List Atm} (h:AtomsV w lo hi A xs) {k:Nat} (hk:k≤xs.length):AtomsV w lo hi A (xs.take k):=by
 have hl:(xs.take k).length=k:=by rw[List.length_take];omega
 have e:encA xs=encA (xs.take k)++encA (xs.drop k):=by rw[←List.flatMap_append,List.take_append_drop]
 refine ⟨⟨len3 _ _ _ _,fun hn=>?_⟩,by rw[hl];exact Nat.le_trans hk h.lim⟩;obtain ⟨b,o,e2,h1,h2,hc⟩:=h.raw.2 (by omega);refine ⟨b,o,e2,h1,h2,fun j u hu=>hc j u ?_⟩;rw[e,List.getElem?_append_left ?_]
 ·exact hu
 ·exact (List.getElem?_eq_some_iff.1 hu).1
theorem AtomsV.drop_ {w:World} {lo hi b o:Nat} {xs:List Atm} (h:AtomsV w lo hi (some ⟨b,o,none⟩) xs) {k:Nat} (hk:k≤xs.length):AtomsV w lo hi (some ⟨b,o+k * 3,none⟩) (xs.drop k):=by
 have hl:(xs.drop k).length=xs.length - k:=List.length_drop;have e:encA xs=encA (xs.take k)++encA (xs.drop k):=by rw[←List.flatMap_append,List.take_append_drop]
 have ht:(encA (xs.take k)).length=k * 3:=by rw[len3,List.length_take];omega
 refine ⟨⟨len3 _ _ _ _,fun hn=>?_⟩,by rw[hl];exact Nat.le_trans (Nat.sub_le _ _) h.lim⟩;obtain ⟨b',o',e2,h1,h2,hc⟩:=h.raw.2 (by omega);injection e2 with e2;injection e2 with e3 e4;subst e3 e4;refine ⟨_,_,rfl,h1,h2,fun j u hu=>?_⟩;have:=hc (k * 3+j) u (by rw[e,List.getElem?_append_right (by omega),ht,Nat.add_sub_cancel_left];exact hu)
 rwa [←Nat.add_assoc] at this
theorem sliceAh (b o M d m:Nat) (hm:m≤d) (w:World):(Instr.slice 34 (.slice (some ⟨b,o,none⟩) M d) none (some (.int .i64 (m:Int))) none).run Tryz.prog w=.ok (.slice (some ⟨b,o,none⟩) m d) w:=by
 have h1:(0:Int)≤(m:Int):=by omega
 have h2:(m:Int)≤(d:Int):=by omega
 go_simp
theorem sliceAl (b o M d m:Nat) (hm:m≤M) (hd:M≤d):∃ A',(∀ w:World,(Instr.slice 34 (.slice (some ⟨b,o,none⟩) M d) (some (.int .i64 (m:Int))) none none).run Tryz.prog w=.ok (.slice A' (M - m) (d - m)) w)∧(m<d→A'=some ⟨b,o+m * 3,none⟩):=by
 have h1:(0:Int)≤(m:Int):=by omega
 have h2:(m:Int)≤(M:Int):=by omega
 by_cases hmd:m<d
 ·refine ⟨some ⟨b,o+m * 3,none⟩,fun w=>?_,fun _=>rfl⟩;go_simp;intro h;omega
 ·obtain rfl:m=d:=by omega
  refine ⟨some ⟨b,o,none⟩,fun w=>?_,fun h=>by omega⟩;go_simp
def zv (xs:List Atm) (i:Nat):List Atm:=xs.take i++xs.drop (i+1)
theorem withoutL_len {xs:List Atm} {i:Nat} (h:i<xs.length):(zv xs i).length+1=xs.length:=by
 unfold zv;rw[List.length_append,List.length_take,List.length_drop];omega
theorem c_impl_without {lo hi:Nat} (v:Value) (a:Asn) (i:Nat) (w:World) (h:AsnC w lo hi v a) (hi:i<a.atoms.length) :
  Calls Tryz.prog 213 #[v,.int .i64 i] w fun e w'=>∃ r,e=.returned r∧AtomsO w' w.heap.size r (zv a.atoms i)∧Below w.heap.size w w':=by
 obtain ⟨A1,c1,A2,c2,rfl,h1,h2,hcap⟩:=h;obtain ⟨b,o,rfl,-⟩:=h2.at hi;have HV:=ax h2;have hl:=h2.le;have hs1:=sliceAh b o a.atoms.length c2 i (by omega);obtain ⟨A',hs2,hA'⟩:=sliceAl b o a.atoms.length c2 (i+1) (by omega) hcap;have hT:=ax (h2.take_ (k:=i) (by omega))
 have hD:aJ (AtomsV w lo _ A' (a.atoms.drop (i+1))):=ax (by
  by_cases hlt:i+1<a.atoms.length
  ·rw[hA' (by omega)];exact h2.drop_ (by omega)
  ·rw[List.drop_eq_nil_of_le (by omega)]
   exact Rd.nil _ _ _ _ _)
 have e1:(a.atoms.take i).length=i:=by rw[List.length_take];omega
 have e2:(a.atoms.drop (i+1)).length=a.atoms.length - (i+1):=List.length_drop
 have hj:=ax (fun (W:World) (hb:Below w.heap.size w W)=>(show Calls Tryz.prog 102 #[.slice (some ⟨b,o,none⟩) i c2,.slice A' (a.atoms.length - (i+1)) (c2 - (i+1))] W fun e w'=>∃ r,e=.returned r∧AtomsO w' W.heap.size r (zv a.atoms i)∧Below W.heap.size W w' from by
  have:=c_joinA (some ⟨b,o,none⟩) A' c2 (c2 - (i+1)) (a.atoms.take i) (a.atoms.drop (i+1)) W (hT.o.bz hb) (hD.o.bz hb) (by rw[e1,e2];omega)
  rwa [e1,e2] at this))
 clear h1 h2 hA' e1 e2
 push_cast at hs2
 have hw:IntKind.i64.wrap ((i:Int)+1)=(i:Int)+1:=IntWalk.i64_in _ (by omega);(go_enter Tryz.func213,Tryz.ntmps213);have k0:Blk (w.alloc (.cells #[.slice A1 a.facts.length c1,.slice (some ⟨b,o,none⟩) a.atoms.length c2] tAs)) w.heap.size tAs #[.slice A1 a.facts.length c1,.slice (some ⟨b,o,none⟩) a.atoms.length c2]:=blks;(go_wp2_with fail);refine wp_region_noPanic ?_;refine wp_region_held_drew (S:=(fun w'=>∀ i,w'.cell? ⟨w.heap.size,i,none⟩=#[.slice A1 a.facts.length c1,.slice (some ⟨b,o,none⟩) a.atoms.length c2][i]?)) (by kernel_rfl) (Blk.cell blks) (fun aH=>?_);refine tk2 0 rfl aH (h:=tk2 1 rfl aH (h:=tk2 2 rfl aH (h:=?_)));(try simp only[zz]);refine tk2 3 rfl aH (h:=tk2 4 rfl aH (h:=tk2 5 rfl aH (h:=?_)));(try simp only[zz]);refine tk2 6 rfl aH (h:=tk2 7 rfl aH (h:=tk2 8 rfl aH (h:=?_)));refine rdc 9 rfl fun K hK=>?_;(try simp only[zz]);(go_simp;refine (hj.o _ bel).mono ?_;rintro e w1 ⟨r,rfl,o1,hB1⟩;have hB:=bgo (w:=w) bel hB1;have O1:=ax (o1.bq (base':=w.heap.size) (by simp));replace k0:=Blk.nz (g:=w.heap.size) blks hB1);refine hK.out _ _ (k0.cell) ?_;clear aH hK K;intro aH;refine rdc 10 rfl fun K hK=>?_;(try simp only[zz]);go_simp;refine hK.out _ _ (k0.cell) ?_;clear aH hK K;intro aH;(try simp only[zz]);refine dn1 ?_;(go_wp2_with fail);go_ret;exact ⟨r,rfl,O1.o,hB⟩
def findP (a:Asn) (kind t:Int) (i:Nat):Bool:=match a.atoms[i]? with
 | some x=>decide (x.kind=kind)&&impB a ⟨true,x.a,t⟩
 | none=>false
def findK (a:Asn) (kind t:Int):Option Nat:=(List.range a.atoms.length).find? (findP a kind t)
def findI (a:Asn) (kind t:Int):Int:=match findK a kind t with|some i=>(i:Int)|none=>0
theorem findK_yes {a:Asn} {kind t:Int} {k:Nat} (hk:k<a.atoms.length) (h1:∀ j,j<k→findP a kind t j=false) (h2:findP a kind t k=true):findK a kind t=some k:=by
 unfold findK
 have e:List.range a.atoms.length=List.range k++(List.range' k (a.atoms.length - k)):=by
  rw[List.range_eq_range',List.range_eq_range',show a.atoms.length=k+(a.atoms.length - k) by omega,←List.range'_append];simp
 rw[e,List.find?_append]
 have:(List.range k).find? (findP a kind t)=none:=by
  rw[List.find?_eq_none];intro x hx;simp[h1 x (List.mem_range.1 hx)]
 rw[this,show a.atoms.length - k=(a.atoms.length - k - 1)+1 by omega,List.range'_succ,List.find?_cons,h2];rfl
theorem findK_no {a:Asn} {kind t:Int} (h1:∀ j,j<a.atoms.length→findP a kind t j=false):findK a kind t=none:=by
 unfold findK;rw[List.find?_eq_none];intro x hx;simp[h1 x (List.mem_range.1 hx)]
theorem c_impl_firstAtomAt {lo hi:Nat} (v:Value) (a:Asn) (kind t:Int) (w:World) (h:AsnV w lo hi v a) (hhi:hi≤w.heap.size) :
  Calls Tryz.prog 210 #[v,.int .i64 kind,.int .i64 t] w fun e w'=>e=.returned (.tuple #[.int .i64 (findI a kind t),.bool (findK a kind t).isSome])∧Below w.heap.size w w':=by
 have hV:=ax h;obtain ⟨A1,c1,A2,c2,rfl,-,h2⟩:=h;have H2:=ax h2;have hl:=h2.le;clear h2;(go_enter Tryz.func210,Tryz.ntmps210);have k0:Blk (w.alloc (.cells #[.slice A1 a.facts.length c1,.slice A2 a.atoms.length c2] tAs)) w.heap.size tAs #[.slice A1 a.facts.length c1,.slice A2 a.atoms.length c2]:=blks;have hB:Below w.heap.size w (w.alloc (.cells #[.slice A1 a.facts.length c1,.slice A2 a.atoms.length c2] tAs)):=bel;(go_wp2_with fail)
 go_loopw [13] (fun i wr=>∃ k:Nat,k≤a.atoms.length∧i=.int .i64 k∧aJ (∀ j,j<k→findP a kind t j=false)∧Blk wr w.heap.size tAs #[.slice A1 a.facts.length c1,.slice A2 a.atoms.length c2]∧aJ (Below w.heap.size w wr)) (fun i _=>a.atoms.length - (intOf i).toNat)
 case atStart=>exact ⟨0,Nat.zero_le _,rfl,ax fun j h=>by omega,k0,hB⟩
 case round=>
  clear k0 hB;obtain ⟨k,hk,rfl,HA,k0,HB⟩:=hrel;have hzr:=HB.o.size;by_cases hlt:k<a.atoms.length
  ·obtain ⟨b,off,rfl,g0,g1,g2⟩:=(H2.o.bz HB.o).at hlt;have hki:(k:Int)<(a.atoms.length:Int):=by omega
   have HP:aJ (findP a kind t k=(decide (a.atoms[k].kind=kind)&&impB a ⟨true,a.atoms[k].a,t⟩)):=ax (by unfold findP;rw[List.getElem?_eq_getElem hlt]);obtain ⟨x,hx⟩:∃ x,x=a.atoms[k]:=⟨_,rfl⟩;rw[←hx] at g0 g1 g2 HP;have hbx:Below wr.heap.size wr (wr.alloc (.cells #[.int .i64 x.kind,.int .i64 x.a,.int .i64 x.b] tA)):=bbox (Below.refl _ _) _;have k1:=k0.nz hbx;have HB1:=ax (bgo HB.o hbx);have q1:=k1.cell;have l1:=k1.lt;have hz1:=hbx.size;clear hx hbx;by_cases hkd:x.kind=kind
   case neg=>
    have hkb:(x.kind == kind)=false:=by simpa using hkd
    have HA2:aJ (∀ j,j<k+1→findP a kind t j=false):=ax fun j hj=>by
     by_cases e:j=k
     ·rw[e,HP.o];simp[hkd]
     ·exact HA.o j (by omega)
    clear HA HP hkd;(go_wp2_with fail)
    go_round
    case rel=>exact ⟨k+1,by omega,by go_num,HA2,k1,HB1.o⟩
    case measure=>simp[intOf];omega
   subst hkd;(go_wp2_with fail);refine (c_impl_Implies _ a ⟨true,x.a,t⟩ _ (hV.o.bz HB1.o) (by omega)).mono ?_;rintro e w3 ⟨rfl,hB3⟩;replace k1:=k1.nz hB3;have HB3:=ax (bgo HB1.o hB3);clear hB3 q1 l1;cases hi:impB a ⟨true,x.a,t⟩
   ·have HA2:aJ (∀ j,j<k+1→findP a x.kind t j=false):=ax fun j hj=>by
     by_cases e:j=k
     ·rw[e,HP.o,hi];simp
     ·exact HA.o j (by omega)
    clear HA HP hi;(go_wp2_with fail)
    go_round
    case rel=>exact ⟨k+1,by omega,by go_num,HA2,k1,HB3.o⟩
    case measure=>simp[intOf];omega
   ·have E:=ax (findK_yes hlt HA.o (by rw[HP.o,hi];simp));clear HA HP hi;(go_wp2_with fail);go_ret2;exact ⟨by unfold findI;rw[E.o];rfl,HB3.o⟩
  ·obtain rfl:k=a.atoms.length:=by omega
   have E:=ax (findK_no (fun j hj=>HA.o j hj));(go_wp2_with fail);go_ret2;exact ⟨by unfold findI;rw[E.o];rfl,HB.o⟩
theorem rowC_ {B:Nat} {w w':World} (h:Below B w w') {g:Nat} (hg:g<B) {cs:Array Value} (hc:∀ i,w.cell? ⟨g,i,none⟩=cs[i]?):∀ i,w'.cell? ⟨g,i,none⟩=cs[i]?:=fun i=>(h.cell (p:=⟨g,i,none⟩) hg).trans (hc i)
def cellX (a:Asn) (x:Atm) (i:Nat) (t:Int):Asn:=⟨a.facts++(if x.a=t then [] else [⟨true,x.a,t⟩]),⟨1,t,x.b⟩ :: zv a.atoms i⟩
theorem c_impl_exposeCellAt {lo hi0:Nat} (v:Value) (a:Asn) (i:Nat) (t:Int) (w:World) (h:AsnC w lo hi0 v a) (hi:i<a.atoms.length) (hfl:a.facts.length+1≤1049600) :
  Calls Tryz.prog 211 #[v,.int .i64 i,.int .i64 t] w fun e w'=>∃ r,e=.returned (.tuple #[r,.bool (cellX a a.atoms[i] i t).valid])∧AsnO w' w.heap.size r (cellX a a.atoms[i] i t)∧Below w.heap.size w w':=by
 have hV:=ax h;obtain ⟨A1,c1,A2,c2,rfl,h1,h2,-⟩:=h;have H1:=ax h1;have hl:=h2.le;have hwl:=withoutL_len hi;obtain ⟨b,o,rfl,g0,g1,g2⟩:=h2.at hi;obtain ⟨x,hx⟩:∃ x,x=a.atoms[i]:=⟨_,rfl⟩;rw[←hx] at g0 g1 g2 ⊢;have hbl:=block_lt_of_cell g0;simp only at hbl;have hii:(i:Int)<(a.atoms.length:Int):=by omega
 have HBL:aJ (([(⟨1,t,x.b⟩:Atm)]++zv a.atoms i).length=a.atoms.length):=ax (by simp;omega);clear hx h1 h2;(go_enter Tryz.func211,Tryz.ntmps211);have k0:Blk ((w.alloc (.cells #[.slice A1 a.facts.length c1,.slice (some ⟨b,o,none⟩) a.atoms.length c2] tAs)).alloc (.cells #[.slice none 0 0,.slice none 0 0] tAs)) w.heap.size tAs #[.slice A1 a.facts.length c1,.slice (some ⟨b,o,none⟩) a.atoms.length c2]:=blks;have k6:Blk ((w.alloc (.cells #[.slice A1 a.facts.length c1,.slice (some ⟨b,o,none⟩) a.atoms.length c2] tAs)).alloc (.cells #[.slice none 0 0,.slice none 0 0] tAs)) (w.heap.size+1) tAs #[.slice none 0 0,.slice none 0 0]:=blks;have hB0:aJ (Below w.heap.size w ((w.alloc (.cells #[.slice A1 a.facts.length c1,.slice (some ⟨b,o,none⟩) a.atoms.length c2] tAs)).alloc (.cells #[.slice none 0 0,.slice none 0 0] tAs))):=ax bel;have hs0:((w.alloc (.cells #[.slice A1 a.facts.length c1,.slice (some ⟨b,o,none⟩) a.atoms.length c2] tAs)).alloc (.cells #[.slice none 0 0,.slice none 0 0] tAs)).heap.size=w.heap.size+2:=by simp
 (go_upto_region 3 with fail);generalize ((w.alloc (.cells #[.slice A1 a.facts.length c1,.slice (some ⟨b,o,none⟩) a.atoms.length c2] tAs)).alloc (.cells #[.slice none 0 0,.slice none 0 0] tAs))=W0 at k0 k6 hB0 hs0 ⊢;have hk2:w.heap.size+2=W0.heap.size:=by omega
 have kx:Blk ((W0.alloc (.cells #[.int .i64 x.kind,.int .i64 x.a,.int .i64 x.b] tA)).alloc (.cells #[.int .i64 1,.int .i64 t,.int .i64 x.b] tA)) (w.heap.size+2) tA #[.int .i64 x.kind,.int .i64 x.a,.int .i64 x.b]:=(Blk.newE hk2).alloc _;have kf:Blk ((W0.alloc (.cells #[.int .i64 x.kind,.int .i64 x.a,.int .i64 x.b] tA)).alloc (.cells #[.int .i64 1,.int .i64 t,.int .i64 x.b] tA)) (w.heap.size+2+1) tA #[.int .i64 1,.int .i64 t,.int .i64 x.b]:=Blk.newE (by simp;omega);have hbq:Below W0.heap.size W0 ((W0.alloc (.cells #[.int .i64 x.kind,.int .i64 x.a,.int .i64 x.b] tA)).alloc (.cells #[.int .i64 1,.int .i64 t,.int .i64 x.b] tA)):=bbox (bbox (Below.refl _ _) _) _;replace k0:=k0.nz hbq;replace k6:=k6.nz hbq;have HB:=ax (bgo hB0.o hbq);have hsW:((W0.alloc (.cells #[.int .i64 x.kind,.int .i64 x.a,.int .i64 x.b] tA)).alloc (.cells #[.int .i64 1,.int .i64 t,.int .i64 x.b] tA)).heap.size=w.heap.size+4:=by simp;omega
 clear hbq hB0;generalize ((W0.alloc (.cells #[.int .i64 x.kind,.int .i64 x.a,.int .i64 x.b] tA)).alloc (.cells #[.int .i64 1,.int .i64 t,.int .i64 x.b] tA))=W at k0 k6 kx kf HB hsW ⊢;clear hk2 hs0 g0 g1 g2
 go_cut [10] (fun s10 wc=>∃ (xb:Nat) (F1:Option Addr) (e1:Nat) (G2:Option Addr) (e3:Nat),s10=.pointer (some ⟨xb,0,none⟩)∧aJ (FactsO wc w.heap.size (.slice F1 a.facts.length e1) a.facts)∧aJ (AtomsO wc w.heap.size (.slice G2 a.atoms.length e3) ([⟨1,t,x.b⟩]++zv a.atoms i))∧Blk wc xb tAs #[.slice F1 a.facts.length e1,.slice G2 a.atoms.length e3]∧Blk wc (w.heap.size+2) tA #[.int .i64 x.kind,.int .i64 x.a,.int .i64 x.b]∧Blk wc (w.heap.size+1) tAs #[.slice none 0 0,.slice none 0 0]∧w.heap.size+4≤xb∧aJ (Below w.heap.size w wc))
 case first=>
  have lk0:=k0.lt;have lkf:=kf.lt;(go_wp2_with fail);refine wp_region_noPanic ?_;refine wp_region_held_drew (S:=(fun w'=>(∀ i,w'.cell? ⟨w.heap.size,i,none⟩=#[.slice A1 a.facts.length c1,.slice (some ⟨b,o,none⟩) a.atoms.length c2][i]?)∧(∀ i,w'.cell? ⟨w.heap.size+2+1,i,none⟩=#[.int .i64 1,.int .i64 t,.int .i64 x.b][i]?))) (by kernel_rfl) (⟨k0.drew.cell,kf.drew.cell⟩) (fun aH=>?_);clear lk0 lkf;replace k0:=k0.drew;replace k6:=k6.drew;replace kx:=kx.drew;replace kf:=kf.drew;replace HB:=ax HB.o.drew;have hzq:W.heap.size≤W.drew.heap.size:=Nat.le_refl _;generalize W.drew=wq at k0 kx k6 kf HB hzq aH ⊢;refine tk2 0 rfl aH (h:=tk2 1 rfl aH (h:=tk2 3 rfl aH (h:=?_)));(try simp only[zz]);refine tk2 4 rfl aH (h:=tk2 5 rfl aH (h:=?_));(try simp only[zz]);refine rdd 2 9 rfl rfl (fun K hK=>?_) fun K hK=>?_
  ·skip;(try simp only[zz]);go_simp;refine (c_joinF A1 none c1 0 a.facts [] _ (H1.o.bz HB.o) (Rd.nil _ 0 0 _ _) (by simpa using Nat.le_of_succ_le hfl)).mono ?_;rintro e wq ⟨rF,rfl,oF,hBq⟩;rw[List.append_nil] at oF;obtain ⟨F1,e1,rfl,-⟩:=oF.rj;have OF:=ax (oF.bq (base':=w.heap.size) (by omega));clear oF;replace k0:=k0.nz hBq;replace kx:=kx.nz hBq;replace k6:=k6.nz hBq;replace kf:=kf.nz hBq;replace HB:=ax (bgo HB.o hBq);replace hzq:=Nat.le_trans hzq hBq.size;clear hBq;refine hK.out _ _ ⟨k0.cell,kf.cell⟩ ?_;clear aH hK K;intro aH;refine rdd 6 9 rfl rfl (fun K hK=>?_) fun K hK=>?_
   ·skip;(try simp only[zz]);go_simp;refine (c_impl_without _ a i _ (hV.o.bz HB.o) hi).mono ?_;rintro e wq ⟨rA,rfl,oA,hBq⟩;obtain ⟨G1,e2,rfl,fA⟩:=oA.rj;have FA:=ax fA;replace OF:=ax (OF.o.bz hBq);clear oA fA;replace k0:=k0.nz hBq;replace kx:=kx.nz hBq;replace k6:=k6.nz hBq;replace kf:=kf.nz hBq;replace HB:=ax (bgo HB.o hBq);replace hzq:=Nat.le_trans hzq hBq.size;clear hBq;refine hK.out _ _ ⟨k0.cell,kf.cell⟩ ?_;clear aH hK K;intro aH;refine rdd 7 9 rfl rfl (fun K hK=>?_) fun K hK=>?_
    ·skip;(try simp only[zz]);go_simp;refine (c_joinA (some ⟨w.heap.size+2+1,0,none⟩) G1 1 e2 [⟨1,t,x.b⟩] (zv a.atoms i) _ (AtomsV.one (f:=⟨1,t,x.b⟩) kf) FA.o (by simp<;>omega)).mono ?_;rintro e wq ⟨rB,rfl,oB,hBq⟩;obtain ⟨G2,e3,rfl,-⟩:=oB.rj;rw[HBL.o] at oB;have OB:=ax (oB.bq (base':=w.heap.size) (by omega));replace OF:=ax (OF.o.bz hBq);clear oB;replace k0:=k0.nz hBq;replace kx:=kx.nz hBq;replace k6:=k6.nz hBq;replace kf:=kf.nz hBq;replace HB:=ax (bgo HB.o hBq);replace hzq:=Nat.le_trans hzq hBq.size;clear hBq;refine hK.out _ _ ⟨k0.cell,kf.cell⟩ ?_;clear aH hK K;intro aH;refine tk2 8 rfl aH (h:=?_);refine rdc 9 rfl fun K hK=>?_;(try simp only[zz]);go_simp;refine hK.out _ _ (⟨rowC_ (bbox (Below.refl _ _) _) k0.lt k0.cell,rowC_ (bbox (Below.refl _ _) _) kf.lt kf.cell⟩) ?_;clear aH hK K;intro aH;(try simp only[zz]);have hBq:Below wq.heap.size wq (wq.alloc (.cells #[.slice none 0 0,.slice none 0 0] tAs)):=bbox (Below.refl _ _) _;have kBox:Blk (wq.alloc (.cells #[.slice none 0 0,.slice none 0 0] tAs)) wq.heap.size tAs #[.slice none 0 0,.slice none 0 0]:=Blk.new _ _ _;obtain ⟨xb,hxb⟩:∃ x,x=wq.heap.size:=⟨_,rfl⟩;have hxb2:W.heap.size≤xb:=by omega
     replace k0:=k0.nz hBq;replace kx:=kx.nz hBq;replace k6:=k6.nz hBq;replace kf:=kf.nz hBq;replace HB:=ax (bgo HB.o hBq);replace hzq:=Nat.le_trans hzq hBq.size;(try replace OF:=ax (OF.o.bz hBq));(try replace FA:=ax (FA.o.bz hBq));(try replace OB:=ax (OB.o.bz hBq));rw[←hxb] at kBox ⊢;clear hBq hxb;generalize wq.alloc (.cells #[.slice none 0 0,.slice none 0 0] tAs)=wq at *;have hlB:=kBox.lt;have qb:=kBox.cell;have rb:=kBox.frozen;refine rdc 10 rfl fun K hK=>?_;(try simp only[zz]);go_simp;refine hK.out _ _ (⟨((k0.far (p:=⟨xb,0,none⟩) (by simp only;omega) _).far (p:=⟨xb,1,none⟩) (by simp only;omega) _).cell,((kf.far (p:=⟨xb,0,none⟩) (kf.ne_ kBox (by decide)) _).far (p:=⟨xb,1,none⟩) (kf.ne_ kBox (by decide)) _).cell⟩) ?_;clear aH hK K;intro aH;(try simp only[zz]);refine dn1 ?_;(go_wp2_with fail);go_meet
     case rel=>
      refine ⟨xb,F1,e1,G2,e3,rfl,ax ((OF.o.setT kBox (by decide) 0 _).setT (kBox.set_ 0 _) (by decide) 1 _),ax ((OB.o.setT kBox (by decide) 0 _).setT (kBox.set_ 0 _) (by decide) 1 _),?_,(kx.far (p:=⟨xb,0,none⟩) (kx.ne_ kBox (by decide)) _).far (p:=⟨xb,1,none⟩) (kx.ne_ kBox (by decide)) _,(k6.far (p:=⟨xb,0,none⟩) (by simp only;omega) _).far (p:=⟨xb,1,none⟩) (by simp only;omega) _,by omega,ax ((HB.o.setCell (p:=⟨xb,0,none⟩) (by simp only;omega) _).setCell (p:=⟨xb,1,none⟩) (by simp only;omega) _)⟩;have:=(kBox.set_ 0 (.slice F1 a.facts.length e1)).set_ 1 (.slice G2 a.atoms.length e3);simpa using this
    ·skip;(try simp only[zz]);go_simp;refine hK.out _ _ ⟨rowC_ (bbox (Below.refl _ _) _) k0.lt k0.cell,rowC_ (bbox (Below.refl _ _) _) kf.lt kf.cell⟩ ?_;clear aH hK K;intro aH;have hBq:Below wq.heap.size wq (wq.alloc (.cells #[.slice none 0 0,.slice none 0 0] tAs)):=bbox (Below.refl _ _) _;have kBox:Blk (wq.alloc (.cells #[.slice none 0 0,.slice none 0 0] tAs)) wq.heap.size tAs #[.slice none 0 0,.slice none 0 0]:=Blk.new _ _ _;obtain ⟨xb,hxb⟩:∃ x,x=wq.heap.size:=⟨_,rfl⟩;have hxb2:W.heap.size≤xb:=by omega
     replace k0:=k0.nz hBq;replace kx:=kx.nz hBq;replace k6:=k6.nz hBq;replace kf:=kf.nz hBq;replace HB:=ax (bgo HB.o hBq);replace hzq:=Nat.le_trans hzq hBq.size;(try replace OF:=ax (OF.o.bz hBq));(try replace FA:=ax (FA.o.bz hBq));(try replace OB:=ax (OB.o.bz hBq));rw[←hxb] at kBox ⊢;clear hBq hxb;generalize wq.alloc (.cells #[.slice none 0 0,.slice none 0 0] tAs)=wq at *;refine rdc 7 rfl fun K hK=>?_;(try simp only[zz]);(go_simp;refine (c_joinA (some ⟨w.heap.size+2+1,0,none⟩) G1 1 e2 [⟨1,t,x.b⟩] (zv a.atoms i) _ (AtomsV.one (f:=⟨1,t,x.b⟩) kf) FA.o (by simp<;>omega)).mono ?_;rintro e wq ⟨rB,rfl,oB,hBq⟩;obtain ⟨G2,e3,rfl,-⟩:=oB.rj;rw[HBL.o] at oB;have OB:=ax (oB.bq (base':=w.heap.size) (by omega));replace OF:=ax (OF.o.bz hBq);clear oB;replace k0:=k0.nz hBq;replace kx:=kx.nz hBq;replace k6:=k6.nz hBq;replace kf:=kf.nz hBq;replace HB:=ax (bgo HB.o hBq);replace hzq:=Nat.le_trans hzq hBq.size;have kBox:=kBox.nz hBq);refine hK.out _ _ (⟨k0.cell,kf.cell⟩) ?_;clear aH hK K;intro aH;(try simp only[zz]);clear hBq;refine tk2 8 rfl aH (h:=?_);(try simp only[zz]);have hlB:=kBox.lt;have qb:=kBox.cell;have rb:=kBox.frozen;refine rdc 10 rfl fun K hK=>?_;(try simp only[zz]);go_simp;refine hK.out _ _ (⟨((k0.far (p:=⟨xb,0,none⟩) (by simp only;omega) _).far (p:=⟨xb,1,none⟩) (by simp only;omega) _).cell,((kf.far (p:=⟨xb,0,none⟩) (kf.ne_ kBox (by decide)) _).far (p:=⟨xb,1,none⟩) (kf.ne_ kBox (by decide)) _).cell⟩) ?_;clear aH hK K;intro aH;(try simp only[zz]);refine dn1 ?_;(go_wp2_with fail);go_meet
     case rel=>
      refine ⟨xb,F1,e1,G2,e3,rfl,ax ((OF.o.setT kBox (by decide) 0 _).setT (kBox.set_ 0 _) (by decide) 1 _),ax ((OB.o.setT kBox (by decide) 0 _).setT (kBox.set_ 0 _) (by decide) 1 _),?_,(kx.far (p:=⟨xb,0,none⟩) (kx.ne_ kBox (by decide)) _).far (p:=⟨xb,1,none⟩) (kx.ne_ kBox (by decide)) _,(k6.far (p:=⟨xb,0,none⟩) (by simp only;omega) _).far (p:=⟨xb,1,none⟩) (by simp only;omega) _,by omega,ax ((HB.o.setCell (p:=⟨xb,0,none⟩) (by simp only;omega) _).setCell (p:=⟨xb,1,none⟩) (by simp only;omega) _)⟩;have:=(kBox.set_ 0 (.slice F1 a.facts.length e1)).set_ 1 (.slice G2 a.atoms.length e3);simpa using this
   ·skip;(try simp only[zz]);go_simp;refine hK.out _ _ ⟨rowC_ (bbox (Below.refl _ _) _) k0.lt k0.cell,rowC_ (bbox (Below.refl _ _) _) kf.lt kf.cell⟩ ?_;clear aH hK K;intro aH;have hBq:Below wq.heap.size wq (wq.alloc (.cells #[.slice none 0 0,.slice none 0 0] tAs)):=bbox (Below.refl _ _) _;have kBox:Blk (wq.alloc (.cells #[.slice none 0 0,.slice none 0 0] tAs)) wq.heap.size tAs #[.slice none 0 0,.slice none 0 0]:=Blk.new _ _ _;obtain ⟨xb,hxb⟩:∃ x,x=wq.heap.size:=⟨_,rfl⟩;have hxb2:W.heap.size≤xb:=by omega
    replace k0:=k0.nz hBq;replace kx:=kx.nz hBq;replace k6:=k6.nz hBq;replace kf:=kf.nz hBq;replace HB:=ax (bgo HB.o hBq);replace hzq:=Nat.le_trans hzq hBq.size;(try replace OF:=ax (OF.o.bz hBq));(try replace FA:=ax (FA.o.bz hBq));(try replace OB:=ax (OB.o.bz hBq));rw[←hxb] at kBox ⊢;clear hBq hxb;generalize wq.alloc (.cells #[.slice none 0 0,.slice none 0 0] tAs)=wq at *;refine rdc 6 rfl fun K hK=>?_;(try simp only[zz]);(go_simp;refine (c_impl_without _ a i _ (hV.o.bz HB.o) hi).mono ?_;rintro e wq ⟨rA,rfl,oA,hBq⟩;obtain ⟨G1,e2,rfl,fA⟩:=oA.rj;have FA:=ax fA;replace OF:=ax (OF.o.bz hBq);clear oA fA;replace k0:=k0.nz hBq;replace kx:=kx.nz hBq;replace k6:=k6.nz hBq;replace kf:=kf.nz hBq;replace HB:=ax (bgo HB.o hBq);replace hzq:=Nat.le_trans hzq hBq.size;have kBox:=kBox.nz hBq);refine hK.out _ _ (⟨k0.cell,kf.cell⟩) ?_;clear aH hK K;intro aH;(try simp only[zz]);clear hBq;refine rdc 7 rfl fun K hK=>?_;(try simp only[zz]);(go_simp;refine (c_joinA (some ⟨w.heap.size+2+1,0,none⟩) G1 1 e2 [⟨1,t,x.b⟩] (zv a.atoms i) _ (AtomsV.one (f:=⟨1,t,x.b⟩) kf) FA.o (by simp<;>omega)).mono ?_;rintro e wq ⟨rB,rfl,oB,hBq⟩;obtain ⟨G2,e3,rfl,-⟩:=oB.rj;rw[HBL.o] at oB;have OB:=ax (oB.bq (base':=w.heap.size) (by omega));replace OF:=ax (OF.o.bz hBq);clear oB;replace k0:=k0.nz hBq;replace kx:=kx.nz hBq;replace k6:=k6.nz hBq;replace kf:=kf.nz hBq;replace HB:=ax (bgo HB.o hBq);replace hzq:=Nat.le_trans hzq hBq.size;have kBox:=kBox.nz hBq);refine hK.out _ _ (⟨k0.cell,kf.cell⟩) ?_;clear aH hK K;intro aH;(try simp only[zz]);clear hBq;refine tk2 8 rfl aH (h:=?_);(try simp only[zz]);have hlB:=kBox.lt;have qb:=kBox.cell;have rb:=kBox.frozen;refine rdc 10 rfl fun K hK=>?_;(try simp only[zz]);go_simp;refine hK.out _ _ (⟨((k0.far (p:=⟨xb,0,none⟩) (by simp only;omega) _).far (p:=⟨xb,1,none⟩) (by simp only;omega) _).cell,((kf.far (p:=⟨xb,0,none⟩) (kf.ne_ kBox (by decide)) _).far (p:=⟨xb,1,none⟩) (kf.ne_ kBox (by decide)) _).cell⟩) ?_;clear aH hK K;intro aH;(try simp only[zz]);refine dn1 ?_;(go_wp2_with fail);go_meet
    case rel=>
     refine ⟨xb,F1,e1,G2,e3,rfl,ax ((OF.o.setT kBox (by decide) 0 _).setT (kBox.set_ 0 _) (by decide) 1 _),ax ((OB.o.setT kBox (by decide) 0 _).setT (kBox.set_ 0 _) (by decide) 1 _),?_,(kx.far (p:=⟨xb,0,none⟩) (kx.ne_ kBox (by decide)) _).far (p:=⟨xb,1,none⟩) (kx.ne_ kBox (by decide)) _,(k6.far (p:=⟨xb,0,none⟩) (by simp only;omega) _).far (p:=⟨xb,1,none⟩) (by simp only;omega) _,by omega,ax ((HB.o.setCell (p:=⟨xb,0,none⟩) (by simp only;omega) _).setCell (p:=⟨xb,1,none⟩) (by simp only;omega) _)⟩;have:=(kBox.set_ 0 (.slice F1 a.facts.length e1)).set_ 1 (.slice G2 a.atoms.length e3);simpa using this
  ·skip;(try simp only[zz]);go_simp;refine hK.out _ _ ⟨rowC_ (bbox (Below.refl _ _) _) k0.lt k0.cell,rowC_ (bbox (Below.refl _ _) _) kf.lt kf.cell⟩ ?_;clear aH hK K;intro aH;have hBq:Below wq.heap.size wq (wq.alloc (.cells #[.slice none 0 0,.slice none 0 0] tAs)):=bbox (Below.refl _ _) _;have kBox:Blk (wq.alloc (.cells #[.slice none 0 0,.slice none 0 0] tAs)) wq.heap.size tAs #[.slice none 0 0,.slice none 0 0]:=Blk.new _ _ _;obtain ⟨xb,hxb⟩:∃ x,x=wq.heap.size:=⟨_,rfl⟩;have hxb2:W.heap.size≤xb:=by omega
   replace k0:=k0.nz hBq;replace kx:=kx.nz hBq;replace k6:=k6.nz hBq;replace kf:=kf.nz hBq;replace HB:=ax (bgo HB.o hBq);replace hzq:=Nat.le_trans hzq hBq.size;(try replace OF:=ax (OF.o.bz hBq));(try replace FA:=ax (FA.o.bz hBq));(try replace OB:=ax (OB.o.bz hBq));rw[←hxb] at kBox ⊢;clear hBq hxb;generalize wq.alloc (.cells #[.slice none 0 0,.slice none 0 0] tAs)=wq at *;refine rdc 2 rfl fun K hK=>?_;(try simp only[zz]);(go_simp;refine (c_joinF A1 none c1 0 a.facts [] _ (H1.o.bz HB.o) (Rd.nil _ 0 0 _ _) (by simpa using Nat.le_of_succ_le hfl)).mono ?_;rintro e wq ⟨rF,rfl,oF,hBq⟩;rw[List.append_nil] at oF;obtain ⟨F1,e1,rfl,-⟩:=oF.rj;have OF:=ax (oF.bq (base':=w.heap.size) (by omega));clear oF;replace k0:=k0.nz hBq;replace kx:=kx.nz hBq;replace k6:=k6.nz hBq;replace kf:=kf.nz hBq;replace HB:=ax (bgo HB.o hBq);replace hzq:=Nat.le_trans hzq hBq.size;have kBox:=kBox.nz hBq);refine hK.out _ _ (⟨k0.cell,kf.cell⟩) ?_;clear aH hK K;intro aH;(try simp only[zz]);clear hBq;refine rdc 6 rfl fun K hK=>?_;(try simp only[zz]);(go_simp;refine (c_impl_without _ a i _ (hV.o.bz HB.o) hi).mono ?_;rintro e wq ⟨rA,rfl,oA,hBq⟩;obtain ⟨G1,e2,rfl,fA⟩:=oA.rj;have FA:=ax fA;replace OF:=ax (OF.o.bz hBq);clear oA fA;replace k0:=k0.nz hBq;replace kx:=kx.nz hBq;replace k6:=k6.nz hBq;replace kf:=kf.nz hBq;replace HB:=ax (bgo HB.o hBq);replace hzq:=Nat.le_trans hzq hBq.size;have kBox:=kBox.nz hBq);refine hK.out _ _ (⟨k0.cell,kf.cell⟩) ?_;clear aH hK K;intro aH;(try simp only[zz]);clear hBq;refine rdc 7 rfl fun K hK=>?_;(try simp only[zz]);(go_simp;refine (c_joinA (some ⟨w.heap.size+2+1,0,none⟩) G1 1 e2 [⟨1,t,x.b⟩] (zv a.atoms i) _ (AtomsV.one (f:=⟨1,t,x.b⟩) kf) FA.o (by simp<;>omega)).mono ?_;rintro e wq ⟨rB,rfl,oB,hBq⟩;obtain ⟨G2,e3,rfl,-⟩:=oB.rj;rw[HBL.o] at oB;have OB:=ax (oB.bq (base':=w.heap.size) (by omega));replace OF:=ax (OF.o.bz hBq);clear oB;replace k0:=k0.nz hBq;replace kx:=kx.nz hBq;replace k6:=k6.nz hBq;replace kf:=kf.nz hBq;replace HB:=ax (bgo HB.o hBq);replace hzq:=Nat.le_trans hzq hBq.size;have kBox:=kBox.nz hBq);refine hK.out _ _ (⟨k0.cell,kf.cell⟩) ?_;clear aH hK K;intro aH;(try simp only[zz]);clear hBq;refine tk2 8 rfl aH (h:=?_);(try simp only[zz]);have hlB:=kBox.lt;have qb:=kBox.cell;have rb:=kBox.frozen;refine rdc 10 rfl fun K hK=>?_;(try simp only[zz]);go_simp;refine hK.out _ _ (⟨((k0.far (p:=⟨xb,0,none⟩) (by simp only;omega) _).far (p:=⟨xb,1,none⟩) (by simp only;omega) _).cell,((kf.far (p:=⟨xb,0,none⟩) (kf.ne_ kBox (by decide)) _).far (p:=⟨xb,1,none⟩) (kf.ne_ kBox (by decide)) _).cell⟩) ?_;clear aH hK K;intro aH;(try simp only[zz]);refine dn1 ?_;(go_wp2_with fail);go_meet
   case rel=>
    refine ⟨xb,F1,e1,G2,e3,rfl,ax ((OF.o.setT kBox (by decide) 0 _).setT (kBox.set_ 0 _) (by decide) 1 _),ax ((OB.o.setT kBox (by decide) 0 _).setT (kBox.set_ 0 _) (by decide) 1 _),?_,(kx.far (p:=⟨xb,0,none⟩) (kx.ne_ kBox (by decide)) _).far (p:=⟨xb,1,none⟩) (kx.ne_ kBox (by decide)) _,(k6.far (p:=⟨xb,0,none⟩) (by simp only;omega) _).far (p:=⟨xb,1,none⟩) (by simp only;omega) _,by omega,ax ((HB.o.setCell (p:=⟨xb,0,none⟩) (by simp only;omega) _).setCell (p:=⟨xb,1,none⟩) (by simp only;omega) _)⟩;have:=(kBox.set_ 0 (.slice F1 a.facts.length e1)).set_ 1 (.slice G2 a.atoms.length e3);simpa using this
 case rest=>
  obtain ⟨xb,F1,e1,G2,e3,rfl,OF,OB,kb,kx,k6,hxb,HB⟩:=hcut;have hl0:=kb.lt;by_cases hxt:x.a=t
  ·have HXE:aJ (cellX a x i t=⟨a.facts,[⟨1,t,x.b⟩]++zv a.atoms i⟩):=ax (by unfold cellX;rw[if_pos hxt,List.append_nil];rfl)
   have HVX:aJ (AsnV wc 0 wc.heap.size (.agg #[.slice F1 a.facts.length e1,.slice G2 a.atoms.length e3]) (cellX a x i t)):=ax (by
    rw[HXE.o];refine ⟨F1,e1,G2,e3,?_,OF.o.readsI.2.mono (Nat.zero_le _) (Nat.le_refl _),OB.o.readsI.2.mono (Nat.zero_le _) (Nat.le_refl _)⟩
    rw[HBL.o])
   have hb:(x.a != t)=false:=by simpa using hxt
   clear hxt;(replace qkb:=kb.z;replace qkx:=kx.z;replace qk6:=k6.z);(go_upto_region 6 with fail);clear qkx;refine wp_region_noPanic ?_;refine wp_region_held_drew (S:=(fun w'=>∀ i,w'.cell? ⟨xb,i,none⟩=#[.slice F1 a.facts.length e1,.slice G2 a.atoms.length e3][i]?)) (by kernel_rfl) (kb.drew.cell) (fun aH=>?_);refine tk2 0 rfl aH (h:=tk2 1 rfl aH (h:=?_));refine rdc 2 rfl fun K hK=>?_;(try simp only[zz]);(go_simp;refine (jz _ (cellX a x i t) _ (HVX.o.bz (Below.refl _ _).drew)).mono ?_;rintro e w8 ⟨rfl,hB8⟩;replace hB8:Below wc.heap.size wc w8:=(Below.refl _ _).drew.trans hB8;have kb8:=kb.nz hB8;have k68:=k6.nz hB8;have OF8:=ax (OF.o.bz hB8);have OB8:=ax (OB.o.bz hB8);have HB8:=ax (bgo HB.o hB8);clear hB8);refine hK.out _ _ (kb8.cell) ?_;clear aH hK K;intro aH;(try simp only[zz]);have q68:=k68.cell;have r68:=k68.frozen;have l68:=k68.lt;refine rdc 3 rfl fun K hK=>?_;(try simp only[zz]);go_simp;refine hK.out _ _ (((kb8.far (p:=⟨w.heap.size+1,0,none⟩) (by simp only;omega) _).far (p:=⟨w.heap.size+1,1,none⟩) (by simp only;omega) _).cell) ?_;clear aH hK K;intro aH;refine rdc 4 rfl fun K hK=>?_;(try simp only[zz]);go_simp;refine hK.out _ _ (((kb8.far (p:=⟨w.heap.size+1,0,none⟩) (by simp only;omega) _).far (p:=⟨w.heap.size+1,1,none⟩) (by simp only;omega) _).cell) ?_;clear aH hK K;intro aH;(try simp only[zz]);refine dn1 ?_;(go_wp2_with fail);have z6:=((k68.set_ 0 (.slice F1 a.facts.length e1)).set_ 1 (.slice G2 a.atoms.length e3)).cell;refine bodyPost_ret (v:=.tuple #[.agg #[.slice F1 a.facts.length e1,.slice G2 a.atoms.length e3],.bool (cellX a x i t).valid]) (by simp[results,Tryz.results211,go_sem,z6]) rfl ⟨_,rfl,⟨_,_,rfl,?_,?_⟩,?_⟩
   ·rw[HXE.o];exact (OF8.o.setT k68 (by decide) 0 _).setT (k68.set_ 0 _) (by decide) 1 _
   ·rw[HXE.o];exact (OB8.o.setT k68 (by decide) 0 _).setT (k68.set_ 0 _) (by decide) 1 _
   ·exact (HB8.o.setCell (p:=⟨w.heap.size+1,0,none⟩) (by simp only;omega) _).setCell (p:=⟨w.heap.size+1,1,none⟩) (by simp only;omega) _
  ·have HXE:aJ (cellX a x i t=⟨a.facts++[⟨true,x.a,t⟩],[⟨1,t,x.b⟩]++zv a.atoms i⟩):=ax (by unfold cellX;rw[if_neg hxt];rfl);have hb:(x.a != t)=true:=by simpa using hxt
   clear hxt;have hzw:w.heap.size≤wc.heap.size:=HB.o.size;(replace qkb:=kb.z;replace qkx:=kx.z;replace qk6:=k6.z);(go_wp2_with (at_builtin;refine appFL (ys:=[⟨true,x.a,t⟩]) (base:=w.heap.size) rfl _ _ rfl rfl (OF.o.bz bel) rfl (FactsV.one (f:=⟨true,x.a,t⟩) (Blk.new wc tF _)) (by simpa using hfl) (by simp;omega) ?_;intro A6 c6 w6 o6 hg6 hB6;have kO:=OF.o.bz (w':=wc.alloc (.cells #[.bool true,.int .i64 x.a,.int .i64 t] tF)) bel;have kb6:=Blk.zm (hg:=hg6) (kb.alloc _) kO.1 (by decide);have k66:=Blk.zm (hg:=hg6) (k6.alloc _) kO.1 (by decide);have OB6:aJ (AtomsO w6 w.heap.size (.slice G2 a.atoms.length e3) ([⟨1,t,x.b⟩]++zv a.atoms i)):=ax ⟨own_grownO (OB.o.bz (w':=wc.alloc (.cells #[.bool true,.int .i64 x.a,.int .i64 t] tF)) bel).1 kO.1 hg6 (by decide),OB.o.2⟩;have HB6:aJ (Below w.heap.size w w6):=ax ((HB.o.alloc hzw _).trans hB6);have OF6:=ax o6;clear hB6 hg6 o6 kO;have qb6:=kb6.cell;have rb6:=kb6.frozen;have lb6:=kb6.lt))
   have kb7:Blk (w6.setCell ⟨xb,0,none⟩ (.slice A6 (a.facts.length+1) c6)) xb tAs #[.slice A6 (a.facts.length+1) c6,.slice G2 a.atoms.length e3]:=by
    have:=kb6.set_ 0 (.slice A6 (a.facts.length+1) c6);simpa using this
   have k67:=k66.far (p:=⟨xb,0,none⟩) (by simp only;omega) (.slice A6 (a.facts.length+1) c6)
   have OF7:aJ (FactsO (w6.setCell ⟨xb,0,none⟩ (.slice A6 (a.facts.length+1) c6)) w.heap.size (.slice A6 (a.facts.length+1) c6) (a.facts++[⟨true,x.a,t⟩])):=ax (by
    have:=OF6.o.setT kb6 (by decide) 0 (.slice A6 (a.facts.length+1) c6)
    simpa using this)
   have OB7:=ax (OB6.o.setT kb6 (by decide) 0 (.slice A6 (a.facts.length+1) c6));have HB7:=ax (HB6.o.setCell (p:=⟨xb,0,none⟩) (by simp only;omega) (.slice A6 (a.facts.length+1) c6));clear qkb qkx qk6 qb6 rb6 lb6 kb kx k6 OF OB HB kb6 k66 OF6 OB6 HB6;generalize (w6.setCell ⟨xb,0,none⟩ (.slice A6 (a.facts.length+1) c6))=W7 at kb7 k67 OF7 OB7 HB7 ⊢;have kb:=kb7;have k6:=k67;have OF:=OF7;have OB:=OB7;have HB:=HB7;clear kb7 k67 OF7 OB7 HB7
   have HVX:aJ (AsnV W7 0 W7.heap.size (.agg #[.slice A6 (a.facts.length+1) c6,.slice G2 a.atoms.length e3]) (cellX a x i t)):=ax (by
    rw[HXE.o];refine ⟨A6,c6,G2,e3,?_,by simpa using OF.o.readsI.2.mono (Nat.zero_le _) (Nat.le_refl _),OB.o.readsI.2.mono (Nat.zero_le _) (Nat.le_refl _)⟩
    rw[HBL.o];simp)
   refine wp_region_noPanic ?_;refine wp_region_held_drew (S:=(fun w'=>∀ i,w'.cell? ⟨xb,i,none⟩=#[.slice A6 (a.facts.length+1) c6,.slice G2 a.atoms.length e3][i]?)) (by kernel_rfl) (kb.drew.cell) (fun aH=>?_);refine tk2 0 rfl aH (h:=tk2 1 rfl aH (h:=?_));refine rdc 2 rfl fun K hK=>?_;(try simp only[zz]);(go_simp;refine (jz _ (cellX a x i t) _ (HVX.o.bz (Below.refl _ _).drew)).mono ?_;rintro e w8 ⟨rfl,hB8⟩;replace hB8:Below W7.heap.size W7 w8:=(Below.refl _ _).drew.trans hB8;have kb8:=kb.nz hB8;have k68:=k6.nz hB8;have OF8:=ax (OF.o.bz hB8);have OB8:=ax (OB.o.bz hB8);have HB8:=ax (bgo HB.o hB8);clear hB8);refine hK.out _ _ (kb8.cell) ?_;clear aH hK K;intro aH;(try simp only[zz]);have q68:=k68.cell;have r68:=k68.frozen;have l68:=k68.lt;refine rdc 3 rfl fun K hK=>?_;(try simp only[zz]);go_simp;refine hK.out _ _ (((kb8.far (p:=⟨w.heap.size+1,0,none⟩) (by simp only;omega) _).far (p:=⟨w.heap.size+1,1,none⟩) (by simp only;omega) _).cell) ?_;clear aH hK K;intro aH;refine rdc 4 rfl fun K hK=>?_;(try simp only[zz]);go_simp;refine hK.out _ _ (((kb8.far (p:=⟨w.heap.size+1,0,none⟩) (by simp only;omega) _).far (p:=⟨w.heap.size+1,1,none⟩) (by simp only;omega) _).cell) ?_;clear aH hK K;intro aH;(try simp only[zz]);refine dn1 ?_;(go_wp2_with fail);have z6:=((k68.set_ 0 (.slice A6 (a.facts.length+1) c6)).set_ 1 (.slice G2 a.atoms.length e3)).cell;refine bodyPost_ret (v:=.tuple #[.agg #[.slice A6 (a.facts.length+1) c6,.slice G2 a.atoms.length e3],.bool (cellX a x i t).valid]) (by simp[results,Tryz.results211,go_sem,z6]) rfl ⟨_,rfl,⟨_,_,rfl,?_,?_⟩,?_⟩
   ·rw[HXE.o];exact (OF8.o.setT k68 (by decide) 0 _).setT (k68.set_ 0 _) (by decide) 1 _
   ·rw[HXE.o];exact (OB8.o.setT k68 (by decide) 0 _).setT (k68.set_ 0 _) (by decide) 1 _
   ·exact (HB8.o.setCell (p:=⟨w.heap.size+1,0,none⟩) (by simp only;omega) _).setCell (p:=⟨w.heap.size+1,1,none⟩) (by simp only;omega) _
end
section
open Go
def fillM (M:Int→Int) (x:Atm):Bool:=decide (x.kind=1) || !decide (M x.a=M x.b)
structure Sat (M:Int→Int) (a:Asn):Prop where
 facts:∀ f∈a.facts,decide (M f.a=M f.b)=f.eq
 nil:∀ x∈a.atoms,fillM M x=true→M x.a≠M 0
 apart:((a.atoms.filter (fillM M)).map fun x=>M x.a).Nodup
theorem case_zero {a:Asn} {S:Nat} (hS:S.testBit 0=true) {d:List Int} (h:d∈cases a S):cl d 0=0:=by
 unfold cases at h;have hd:=(List.mem_filter.1 h).1;have:=((gen_ok S 9 zeros d (by omega) rfl hd).2.2 0 (by omega) (by omega)).1 hS;have h2:cl d ((0:Nat):Int)=cl d 0:=rfl;omega
theorem inLast_fillM {x:Atm} {c:List Int} (h:(0≤x.a∧x.a≤8)∧(0≤x.b∧x.b≤8)):inLast c 8 x=fillM (cl c) x:=by
 unfold inLast fillM Atm.fill;rw[decide_eq_true h.1.2,decide_eq_true h.2.2];rfl
theorem case_sat {a:Asn} (hv:a.valid=true) {S:Nat} (hS:S.testBit 0=true) {d:List Int} (h:d∈cases a S):Sat (cl d) a:=by
 have h0:=case_zero hS h;have hok:=Asn.valid_ok hv;unfold cases at h;have hf:=(List.mem_filter.1 h).2;have hp:=hf;rw[full_poss hok.1 hok.2] at hp;unfold poss at hp;unfold full at hf;rw[Bool.and_eq_true] at hf hp;have hA:=(possA_iff _ _ _ _).1 hp.2;refine ⟨fun f hm=>?_,fun x hm hfi=>?_,?_⟩
 ·have:=List.all_eq_true.1 hf.1 f hm;unfold Fct.fits at this;exact eq_of_beq this
 ·rw[h0];exact (hA.1 x hm (by rw[inLast_fillM (hok.2 x hm)];exact hfi)).1
 ·rw[←List.filter_congr fun x hm=>inLast_fillM (hok.2 x hm)];exact hA.2
def leastM (M:Int→Int) (S j:Nat):Nat:=((List.range (j+1)).find? fun k=>S.testBit k&&decide (M (k:Int)=M (j:Int))).getD j
def canon (M:Int→Int) (S:Nat):List Int:=(List.range 9).map fun j=>if S.testBit j then ((leastM M S j:Nat):Int) else -1
theorem least_spec {M:Int→Int} {S j:Nat} (hj:S.testBit j=true):leastM M S j≤j∧S.testBit (leastM M S j)=true∧M (leastM M S j:Nat)=M j∧∀ k,k<leastM M S j→S.testBit k=true→M (k:Nat)≠M j:=by
 unfold leastM
 cases h:(List.range (j+1)).find? fun k=>S.testBit k&&decide (M (k:Int)=M (j:Int)) with
 | none=>
  have:=List.find?_eq_none.1 h j (by simp);simp[hj] at this
 | some k=>
  obtain ⟨h1,h2,h3⟩:=List.find?_range_eq_some.1 h;simp only[Bool.and_eq_true,decide_eq_true_eq] at h1;refine ⟨by have:=List.mem_range.1 h2;simp only[Option.getD_some];omega,h1.1,h1.2,fun i hi hb e=>?_⟩;have:=h3 i hi;simp[hb,e] at this
theorem least_eq {M:Int→Int} {S i j:Nat} (hi:S.testBit i=true) (hj:S.testBit j=true):leastM M S i=leastM M S j↔M (i:Nat)=M (j:Nat):=by
 have h1:=least_spec (M:=M) hi;have h2:=least_spec (M:=M) hj;constructor
 ·intro e;rw[←h1.2.2.1,e,h2.2.2.1]
 ·intro e;rcases Nat.lt_trichotomy (leastM M S i) (leastM M S j) with h|h|h
  ·exact absurd (h1.2.2.1.trans e) (h2.2.2.2 _ h h1.2.1)
  ·exact h
  ·exact absurd (h2.2.2.1.trans e.symm) (h1.2.2.2 _ h h2.2.1)
theorem canon_length (M:Int→Int) (S:Nat):(canon M S).length=9:=by simp[canon]
theorem cl_canon {M:Int→Int} {S j:Nat} (hj:j<9):cl (canon M S) (j:Int)=if S.testBit j then ((leastM M S j:Nat):Int) else -1:=by
 unfold cl canon;rw[Int.toNat_natCast,List.getElem?_map,List.getElem?_range hj];rfl
theorem canon_gen (M:Int→Int) (S:Nat):∀ (n:Nat) (c:List Int),n≤9→c.length=9→(∀ j:Nat,j<9 - n→cl c j=cl (canon M S) j)→canon M S∈gen S n c:=by
 intro n
 induction n with
 | zero=>
  intro c _ hc h;unfold gen;rw[List.mem_singleton];apply List.ext_getElem (by rw[hc];exact canon_length M S);intro j h1 h2;have:=h j (by omega);simpa [cl,List.getElem?_eq_getElem h1,List.getElem?_eq_getElem h2] using this.symm
 | succ n ih=>
  intro c hn hc h;unfold gen;cases e:S.testBit (8 - n)
  ·simp only[Bool.false_eq_true,if_false];refine ih _ (by omega) (by simpa using hc) fun j hj=>?_;rw[cl_set hc (by omega) _ (by omega)]
   split
   ·rename_i hj';have:j=8 - n:=by omega
    subst this;rw[cl_canon (by omega),e];rfl
   ·exact h j (by omega)
  ·rw[if_pos rfl,List.mem_flatMap];have hl:=least_spec (M:=M) e;refine ⟨leastM M S (8 - n),by rw[List.mem_range];omega,?_⟩;rw[if_neg]
   ·refine ih _ (by omega) (by simpa using hc) fun j hj=>?_;rw[cl_set hc (by omega) _ (by omega)]
    split
    ·rename_i hj';have:j=8 - n:=by omega
     subst this;rw[cl_canon (by omega),e];rfl
    ·exact h j (by omega)
   ·rintro ⟨hlt,hne⟩;apply hne;rw[h _ (by omega),cl_canon (by omega),hl.2.1,if_pos rfl]
    congr 1
    exact (least_eq hl.2.1 e).2 hl.2.2.1
theorem cl_canon_eq {M:Int→Int} {S:Nat} {s t:Int} (hs:(0≤s∧s≤8)∧S.testBit s.toNat=true) (ht:(0≤t∧t≤8)∧S.testBit t.toNat=true):cl (canon M S) s=cl (canon M S) t↔M s=M t:=by
 obtain ⟨i,rfl⟩:=Int.eq_ofNat_of_zero_le hs.1.1;obtain ⟨j,rfl⟩:=Int.eq_ofNat_of_zero_le ht.1.1;rw[Int.toNat_natCast] at hs ht;rw[cl_canon (by omega),cl_canon (by omega),hs.2,ht.2,if_pos rfl,if_pos rfl,Int.natCast_inj];exact least_eq hs.2 ht.2
theorem sat_case {a:Asn} (hv:a.valid=true) {S:Nat} (h0:S.testBit 0=true) (hS:∀ t∈mz a,S.testBit t.toNat=true) {M:Int→Int} (h:Sat M a):canon M S∈cases a S:=by
 have hok:=Asn.valid_ok hv;have hF:∀ f∈a.facts,S.testBit f.a.toNat=true∧S.testBit f.b.toNat=true:=fun f hf=>⟨hS _ (termsL_facts hf).1,hS _ (termsL_facts hf).2⟩
 have hX:∀ x∈a.atoms,S.testBit x.a.toNat=true∧S.testBit x.b.toNat=true:=fun x hx=>by
  have:x.a∈mz a∧x.b∈mz a:=by
   simp only[mz,List.mem_append,List.mem_flatMap];exact ⟨Or.inr ⟨x,hx,by simp[atomT]⟩,Or.inr ⟨x,hx,by simp[atomT]⟩⟩
  exact ⟨hS _ this.1,hS _ this.2⟩
 have hfill:∀ x∈a.atoms,inLast (canon M S) 8 x=fillM M x:=fun x hx=>by
  rw[inLast_fillM (hok.2 x hx)];unfold fillM
  congr 2
  rw[decide_eq_decide];exact cl_canon_eq ⟨(hok.2 x hx).1,(hX x hx).1⟩ ⟨(hok.2 x hx).2,(hX x hx).2⟩
 unfold cases;rw[List.mem_filter];refine ⟨canon_gen M S 9 zeros (by omega) rfl (fun j hj=>by omega),?_⟩;rw[full_poss hok.1 hok.2];unfold poss;rw[Bool.and_eq_true];constructor
 ·unfold possF;rw[List.all_eq_true];intro f hf
  have:f.fits (canon M S)=true:=by
   unfold Fct.fits;rw[beq_iff_eq,←h.facts f hf,decide_eq_decide];exact cl_canon_eq ⟨(hok.1 f hf).1,(hF f hf).1⟩ ⟨(hok.1 f hf).2,(hF f hf).2⟩
  rw[this];simp
 ·rw[possA_iff];refine ⟨fun x hx hi=>⟨fun e=>?_,by simp⟩,?_⟩
  ·rw[hfill x hx] at hi;refine h.nil x hx hi ((cl_canon_eq (S:=S) (t:=0) ⟨(hok.2 x hx).1,(hX x hx).1⟩ ⟨⟨by omega,by omega⟩,h0⟩).1 ?_);rw[e];have:=cl_canon (M:=M) (S:=S) (j:=0) (by omega);rw[h0,if_pos rfl] at this;have hl:=(least_spec (M:=M) h0).1;have h3:leastM M S 0=0:=by omega
   rw[h3] at this;exact this.symm
  ·rw[List.filter_congr hfill];have h3:=h.apart;unfold List.Nodup at h3 ⊢;rw[List.pairwise_map] at h3 ⊢;refine List.Pairwise.imp_of_mem ?_ h3;intro x y hx hy hxy e;have hx':=(List.mem_filter.1 hx).1;have hy':=(List.mem_filter.1 hy).1;exact hxy ((cl_canon_eq ⟨(hok.2 x hx').1,(hX x hx').1⟩ ⟨(hok.2 y hy').1,(hX y hy').1⟩).1 e)
def consB (a:Asn):Bool:=a.valid && !(cases a (caseS a 0)).isEmpty
/-! tidying -/
theorem swp_val {M:Int→Int} {x t:Int} (h:M x=M t) (s:Int):M (swp x t s)=M s:=by
 unfold swp;split
 ·rename_i e;rw[e,h]
 ·rfl
theorem Sat.subst {M:Int→Int} {a:Asn} (h:Sat M a) {x t:Int} (e:M x=M t):Sat M (substA x t a):=by
 have hfill:∀ z:Atm,fillM M (z.sub x t)=fillM M z:=fun z=>by
  unfold fillM Atm.sub;simp only[swp_val e]
 refine ⟨fun f hf=>?_,fun y hy hfi=>?_,?_⟩
 ·obtain ⟨g,hg,rfl⟩:=List.mem_map.1 hf;simp only[Fct.sub,swp_val e];exact h.facts g hg
 ·obtain ⟨z,hz,rfl⟩:=List.mem_map.1 hy;rw[hfill] at hfi;simp only[Atm.sub,swp_val e];exact h.nil z hz hfi
 ·have h3:=h.apart;simp only[substA,List.filter_map,List.map_map];rw[List.filter_congr (q:=fillM M) fun z _=>by simp[hfill]]
  have e2:((fun y:Atm=>M y.a)∘Atm.sub x t)=fun y:Atm=>M y.a:=by
   funext z;simp only[Function.comp,Atm.sub,swp_val e]
  rw[e2];exact h3
theorem Sat.less {M:Int→Int} {a:Asn} (h:Sat M a) {fs:List Fct} {xs:List Atm} (hf:∀ f∈fs,f∈a.facts) (hx:xs.Sublist a.atoms):Sat M ⟨fs,xs⟩:=
 ⟨fun f hm=>h.facts f (hf f hm),fun x hm=>h.nil x (hx.subset hm),h.apart.sublist ((hx.filter _).map _)⟩
theorem subOf_fact {K:Nat} {f:Fct} {x t:Int} (h:subOf K f=some (x,t)):f.eq=true:=by
 unfold subOf at h
 split at h
 ·rename_i hc;simp at hc;exact hc.1
 ·cases h
theorem Sat.subAll {M:Int→Int} {K:Nat}:∀ (n:Nat) (a:Asn),(left K a).length≤n→Sat M a→Sat M (subAll K a):=by
 intro n
 induction n with
 | zero=>
  intro a hn hv
  cases h:subStep K a.facts with
  | none=>rw[subAll_none h];exact hv
  | some p=>obtain ⟨x,t⟩:=p;have:=left_lt h;omega
 | succ n ih=>
  intro a hn hv
  cases h:subStep K a.facts with
  | none=>rw[subAll_none h];exact hv
  | some p=>
   obtain ⟨x,t⟩:=p;rw[subAll_some h];refine ih _ (by have:=left_lt h;omega) (hv.subst ?_);obtain ⟨f,hf,hs⟩:=List.exists_of_findSome?_eq_some h;have h1:=hv.facts f hf;rw[subOf_fact hs,decide_eq_true_eq] at h1;rcases (subOf_spec hs).2.2 with ⟨e1,e2⟩|⟨e1,e2⟩<;>rw[e1,e2]
   ·exact h1
   ·exact h1.symm
theorem nfold_mem (fs:List Fct):∀ (acc:List Fct) (g:Fct),g∈fs.foldl nfStep acc→g∈acc∨∃ f∈fs,g=nfF f:=by
 induction fs with
 | nil=>intro acc g h;exact Or.inl h
 | cons f fs ih=>
  intro acc g h;rw[List.foldl_cons] at h;rcases ih _ _ h with h|⟨f',hf',e⟩
  ·unfold nfStep at h
   split at h
   ·exact Or.inl h
   ·split at h
    ·exact Or.inl h
    ·rcases List.mem_append.1 h with h|h
     ·exact Or.inl h
     ·exact Or.inr ⟨f,List.mem_cons_self,List.mem_singleton.1 h⟩
  ·exact Or.inr ⟨f',List.mem_cons_of_mem _ hf',e⟩
theorem nfold_length (fs:List Fct):∀ (acc:List Fct),(fs.foldl nfStep acc).length≤acc.length+fs.length:=by
 induction fs with
 | nil=>intro acc;simp
 | cons f fs ih=>
  intro acc;rw[List.foldl_cons];have h1:=ih (nfStep acc f);have h2:=nfStep_length acc f;simp only[List.length_cons];omega
theorem Sat.normal {M:Int→Int} {a:Asn} (h:Sat M a):Sat M (normalF a):=by
 have hs:=h.less (fs:=[]) (xs:=a.atoms.filter nfA) (fun _ hf=>by cases hf) List.filter_sublist;refine ⟨fun g hg=>?_,hs.nil,hs.apart⟩;rcases nfold_mem _ _ _ hg with h1|⟨f,hf,rfl⟩
 ·cases h1
 ·have:=h.facts f hf;unfold nfF
  split
  ·simp only[];rw[←this,decide_eq_decide];exact eq_comm
  ·exact this
theorem normal_valid {a:Asn} (h:a.valid=true):(normalF a).valid=true:=by
 simp only[Asn.valid,factsValid,Bool.and_eq_true,decide_eq_true_eq,List.all_eq_true] at h ⊢;refine ⟨⟨?_,fun g hg=>?_⟩,?_,fun x hx=>?_⟩
 ·have:=nfold_length a.facts [];simp only[normalF,List.length_nil] at this ⊢;omega
 ·rcases nfold_mem _ _ _ hg with h1|⟨f,hf,rfl⟩
  ·cases h1
  ·have:=h.1.2 f hf;simp only[Fct.valid,Bool.and_eq_true] at this ⊢;unfold nfF
   split
   ·exact ⟨this.2,this.1⟩
   ·exact this
 ·have:=List.length_filter_le nfA a.atoms;simp only[normalF];omega
 ·exact h.2.2 x (List.mem_filter.1 hx).1
theorem keepF_valid {a:Asn} (p:Fct→Bool) (h:a.valid=true):(⟨a.facts.filter p,a.atoms⟩:Asn).valid=true:=by
 simp only[Asn.valid,factsValid,Bool.and_eq_true,decide_eq_true_eq,List.all_eq_true] at h ⊢;exact ⟨⟨Nat.le_trans (List.length_filter_le _ _) h.1.1,fun f hf=>h.1.2 f (List.mem_filter.1 hf).1⟩,h.2⟩
theorem tidy_valid {K:Nat} {a:Asn} (h:a.valid=true):(tidyF K a).valid=true:=normal_valid (keepF_valid _ (subAll_valid _ a (Nat.le_refl _) h))
end
section
open Go Go.RowKit
end
section
open Go Go.RowKit Go.Proofs
theorem imp_iff {a:Asn} {f:Fct}:impB a f=true↔a.valid=true∧f.valid=true∧∀ M,Sat M a→decide (M f.a=M f.b)=f.eq:=by
 unfold impB;rw[Bool.and_eq_true,Bool.and_eq_true,and_assoc,List.all_eq_true];constructor
 ·rintro ⟨h1,h2,h3⟩;refine ⟨h1,h2,fun M hM=>?_⟩;have hfo:=Fct.valid_ok h2;have ha:jq f.a=true:=by simp[jq];omega
  have hb:jq f.b=true:=by simp[jq];omega
  have hbit:∀ j:Nat,(factS f).testBit j=(decide (f.a=(j:Int)) || decide (f.b=(j:Int))):=fun j=>by
   rw[tins_bit,tins_bit,Nat.zero_testBit,ha,hb];simp
  have b1:(caseS a (factS f)).testBit f.a.toNat=true:=by rw[caseS_bit,hbit,Int.toNat_of_nonneg hfo.1.1];simp
  have b2:(caseS a (factS f)).testBit f.b.toNat=true:=by rw[caseS_bit,hbit,Int.toNat_of_nonneg hfo.2.1];simp
  have hc:=sat_case h1 (caseS_zero a (factS f)) (caseS_terms h1 (factS f)) hM;have h4:=h3 _ hc;have h5:=cl_canon_eq (M:=M) (S:=caseS a (factS f)) ⟨hfo.1,b1⟩ ⟨hfo.2,b2⟩;simp only[Fct.fits,beq_iff_eq] at h4;rw[←h4,decide_eq_decide];exact h5.symm
 ·rintro ⟨h1,h2,h3⟩;refine ⟨h1,h2,fun c hc=>?_⟩;have:=h3 _ (case_sat h1 (caseS_zero a (factS f)) hc);simp only[Fct.fits,beq_iff_eq];exact this
def emptyX (a:Asn) (x:Atm) (i:Nat):Asn:=⟨a.facts++[⟨true,x.a,x.b⟩],zv a.atoms i⟩
def fullX (a:Asn) (x:Atm) (i:Nat) (m:Int):Asn:=⟨a.facts++[⟨false,x.a,x.b⟩],([⟨1,x.a,m⟩]++zv a.atoms i)++[⟨2,m,x.b⟩]⟩
theorem without_perm {xs:List Atm} {i:Nat} {x:Atm} (h:xs[i]? = some x):xs.Perm (x :: zv xs i):=by
 obtain ⟨hi,rfl⟩:=List.getElem?_eq_some_iff.1 h;have e:xs=xs.take i++xs[i] :: xs.drop (i+1):=by rw[←List.drop_eq_getElem_cons hi,List.take_append_drop]
 conv=>lhs;rw[e]
 exact List.perm_middle
theorem full_sat {M:Int→Int} {a:Asn} {x:Atm} {i:Nat} {m:Int} (hx:a.atoms[i]? = some x) (hk:x.kind=2) (h:Sat M (fullX a x i m)):Sat M a:=by
 have hp:=without_perm hx;have hne:decide (M x.a=M x.b)=false:=h.facts ⟨false,x.a,x.b⟩ (by simp[fullX]);have hfx:fillM M x=true:=by simp[fillM,hne]
 have hf1:fillM M ⟨1,x.a,m⟩=true:=by simp[fillM]
 refine ⟨fun f hf=>h.facts f (by simp[fullX,hf]),fun y hy hfy=>?_,?_⟩
 ·rcases List.mem_cons.1 (hp.mem_iff.1 hy) with rfl|hy
  ·exact h.nil ⟨1,y.a,m⟩ (by simp[fullX]) hf1
  ·exact h.nil y (by simp[fullX,hy]) hfy
 ·have h2:=h.apart;refine ((hp.filter (fillM M)).map fun x=>M x.a).nodup_iff.2 ?_;rw[List.filter_cons,if_pos hfx];simp only[fullX,List.filter_append,List.map_append,List.append_assoc,List.singleton_append,List.filter_cons,List.cons_append,if_pos hf1,List.map_cons,List.filter_nil,List.nil_append] at h2;refine List.Nodup.sublist ?_ h2;simp only[List.map_cons];exact List.Sublist.cons_cons _ (List.sublist_append_left _ _)
theorem full_imp {a:Asn} {x:Atm} {i:Nat} {m t:Int} (hx:a.atoms[i]? = some x) (hk:x.kind=2) (hf:(fullX a x i m).valid=true) (h:impB a ⟨true,x.a,t⟩=true):impB (fullX a x i m) ⟨true,x.a,t⟩=true:=by
 rw[imp_iff] at h ⊢;exact ⟨hf,h.2.1,fun M hM=>h.2.2 M (full_sat hx hk hM)⟩
theorem find_some {a:Asn} {kind t:Int} {i:Nat} (h:findK a kind t=some i):∃ x,a.atoms[i]? = some x∧x.kind=kind∧impB a ⟨true,x.a,t⟩=true∧i<a.atoms.length:=by
 have h1:=List.find?_some h;unfold findP at h1
 cases e:a.atoms[i]? with
 | none=>rw[e] at h1;cases h1
 | some x=>
  rw[e] at h1;simp only[Bool.and_eq_true,decide_eq_true_eq] at h1;exact ⟨x,rfl,h1.1,h1.2,(List.getElem?_eq_some_iff.1 e).1⟩
theorem full_find {a:Asn} {x:Atm} {i:Nat} {m t:Int} (hx:a.atoms[i]? = some x) (hk:x.kind=2) (hf:(fullX a x i m).valid=true) (h:impB a ⟨true,x.a,t⟩=true):findK (fullX a x i m) 1 t=some 0:=by
 refine findK_yes (by simp[fullX]) (fun j hj=>by omega) ?_;unfold findP;have:(fullX a x i m).atoms[0]? = some ⟨1,x.a,m⟩:=by simp[fullX]
 rw[this];simp[full_imp hx hk hf h]
def exposeF:Nat→Asn→Int→Nat→Option (List Asn)
 | 0,_,_,_=>none
 | n+1,a,t,K=>
  if a.valid=false then none
  else if consB a=false then some []
  else match findK a 1 t with
   | some i=>if (cellX a (a.atoms[i]?.getD default) i t).valid then some [cellX a (a.atoms[i]?.getD default) i t] else none
   | none=>match findK a 2 t with
    | none=>none
    | some i=>match newT (tset (mz a)|||tins K t) with
     | none=>none
     | some m=>match exposeF n (emptyX a (a.atoms[i]?.getD default) i) t K with
      | none=>none
      | some l1=>match exposeF n (fullX a (a.atoms[i]?.getD default) i (m:Int)) t K with
       | none=>none
       | some l2=>some (l1++l2)
abbrev RowT:=List Fct ⊕ List Atm
def rlen:RowT→Nat | .inl fs=>fs.length | .inr xs=>xs.length
def RowO (w:World) (base:Nat) (v:Value):RowT→Prop | .inl fs=>FactsO w base v fs | .inr xs=>AtomsO w base v xs
def RowV (w:World) (lo hi:Nat) (A:Option Addr):RowT→Prop | .inl fs=>FactsV w lo hi A fs | .inr xs=>AtomsV w lo hi A xs
section
variable {w w':World} {base base' lo hi:Nat} {v:Value} {A:Option Addr}
theorem RowO.bz {r:RowT} (h:RowO w base v r) (hb:Below w.heap.size w w'):RowO w' base v r:=by cases r;exact FactsO.bz h hb;exact AtomsO.bz h hb
theorem RowO.bq {r:RowT} (h:RowO w base v r) (hb:base'≤base):RowO w base' v r:=by cases r;exact FactsO.bq h hb;exact AtomsO.bq h hb
theorem RowO.setT {r:RowT} (h:RowO w base v r) {g:Nat} {t:TypeId} {cs:Array Value} (hk:Blk w g t cs) (h1:t≠tF) (h2:t≠tA) (i:Nat) (u:Value):RowO (w.setCell ⟨g,i,none⟩ u) base v r:=by cases r;exact FactsO.setT h hk h1 i u;exact AtomsO.setT h hk h2 i u
theorem RowO.setb {r:RowT} (h:RowO w base v r) {p:Addr} (hp:p.block<base) (u:Value):RowO (w.setCell p u) base v r:=by cases r;exact FactsO.setb h hp u;exact AtomsO.setb h hp u
theorem RowO.lt {r:RowT} (h:RowO w base v r):∀ g,v.ownBlock=some g→base≤g∧g<w.heap.size:=by cases r;exact h.1.lt;exact h.1.lt
theorem RowO.mk {p:Nat→Prop} {r:RowT} (h:RowO w base v r) (hb:Mk p w w') (hp:∀ g,v.ownBlock=some g→¬p g):RowO w' base v r:=by cases r;exact FactsO.mk h hb hp;exact AtomsO.mk h hb hp
theorem RowO.grown {r:RowT} (h:RowO w base v r) {e:TypeId} {b s n:Nat} {v':Value} {xs:List Value} (h':w.ownsRow b e s v' n xs) (hg:w.grownBy w' v'.ownBlock) (h1:tF≠e) (h2:tA≠e):RowO w' base v r:=by
 cases r
 ·exact ⟨own_grownO h.1 h' hg h1,h.2⟩
 ·exact ⟨own_grownO h.1 h' hg h2,h.2⟩
theorem RowO.turn {T:TypeId} {B:Nat} {row:Option Nat} {r:RowT} (h:RowO w base v r) (hg:w.grownBy w' row) (hr:Turn T B w row) (h1:tF≠T) (h2:tA≠T):RowO w' base v r:=by
 cases r
 ·exact ⟨own_turn h.1 hg hr h1,h.2⟩
 ·exact ⟨own_turn h.1 hg hr h2,h.2⟩
theorem RowO.rj {r:RowT} (h:RowO w base v r):∃ B c,v=.slice B (rlen r) c∧RowV w base w.heap.size B r:=by
 cases r
 ·obtain ⟨B,c,e,h1⟩:=FactsO.rj h;exact ⟨B,c,e,h1⟩
 ·obtain ⟨B,c,e,h1⟩:=AtomsO.rj h;exact ⟨B,c,e,h1⟩
theorem RowV.bz {r:RowT} (h:RowV w lo hi A r) (hb:Below w.heap.size w w'):RowV w' lo hi A r:=by cases r;exact FactsV.bz h hb;exact AtomsV.bz h hb
end
def totR (rs:List RowT):Nat:=(rs.map fun r=>3 * rlen r).sum
theorem totR_cons (r:RowT) (rs:List RowT):totR (r :: rs)=3 * rlen r+totR rs:=by simp[totR]
def rowsA (ss:List Asn):List RowT:=ss.flatMap fun s=>[.inl s.facts,.inr s.atoms]
theorem rowsA_len:∀ (ss:List Asn),(rowsA ss).length=ss.length * 2
 | []=>rfl
 | s :: ss=>by
  have:=rowsA_len ss;simp only[rowsA,List.flatMap_cons,List.length_append,List.length_cons,List.length_nil] at this ⊢;omega
theorem rowsA_get:∀ (ss:List Asn) (k:Nat) (hk:k<ss.length),(rowsA ss)[k*2]? = some (.inl ss[k].facts)∧(rowsA ss)[k*2+1]? = some (.inr ss[k].atoms)
 | s :: ss,0,_=>by simp[rowsA]
 | s :: ss,k+1,hk=>by
  have h1:=rowsA_get ss k (by simpa using hk);have e:rowsA (s :: ss)=[.inl s.facts,.inr s.atoms]++rowsA ss:=rfl;rw[e,List.getElem?_append_right (by simp;omega),List.getElem?_append_right (by simp;omega)];simp only[List.length_cons,List.length_nil,List.getElem_cons_succ];rw[show (k+1) * 2 - (0+1+1)=k * 2 by omega,show (k+1) * 2+1 - (0+1+1)=k * 2+1 by omega];exact h1
theorem rowsA_append (ss ts:List Asn):rowsA (ss++ts)=rowsA ss++rowsA ts:=by simp[rowsA]
def totA (ss:List Asn):Nat:=totR (rowsA ss)
theorem totA_cons (s:Asn) (ss:List Asn):totA (s :: ss)=3 * s.facts.length+3 * s.atoms.length+totA ss:=by
 have e:rowsA (s :: ss)=.inl s.facts :: .inr s.atoms :: rowsA ss:=rfl;unfold totA;rw[e,totR_cons,totR_cons];simp only[rlen];omega
theorem totA_le {n m:Nat}:∀ {ss:List Asn},(∀ s∈ss,s.facts.length≤n∧s.atoms.length≤m)→totA ss≤ss.length * (3 * n+3 * m)
 | [],_=>by simp[totA,totR,rowsA]
 | s :: ss,h=>by
  have h1:=totA_le (ss:=ss) fun x hx=>h x (List.mem_cons_of_mem _ hx);have h2:=h s (List.mem_cons_self ..);rw[totA_cons,List.length_cons,Nat.add_mul,Nat.one_mul];omega
structure AEls (w:World) (base:Nat) (vs:List Value) (ss:List Asn):Prop where
 len:vs.length=(rowsA ss).length
 at_:∀ (k:Nat) (h:k<vs.length) (h':k<(rowsA ss).length),RowO w base vs[k] (rowsA ss)[k]
 apart:∀ (i j:Nat) (hi:i<vs.length) (hj:j<vs.length),i<j→∀ g,vs[i].ownBlock=some g→vs[j].ownBlock≠some g
structure A2O (w:World) (base:Nat) (v:Value) (vs:List Value) (ss:List Asn):Prop where
 row:w.ownsRow base tAs 2 v ss.length vs
 lim:Lim ss.length
 els:AEls w base vs ss
theorem infoAs2:(Tryz.prog.info? tAs).map (fun i=>(i.zero,i.size,i.bytes))=some (some (.agg #[.slice none 0 0,.slice none 0 0]),2,48):=by kernel_rfl
section
variable {w w':World} {base base' mid:Nat} {v:Value} {vs vs2:List Value} {ss ss2:List Asn}
theorem AEls.bz (h:AEls w base vs ss) (hb:Below w.heap.size w w'):AEls w' base vs ss:=⟨h.len,fun k h1 h2=>(h.at_ k h1 h2).bz hb,h.apart⟩
theorem AEls.bq (h:AEls w base vs ss) (hb:base'≤base):AEls w base' vs ss:=⟨h.len,fun k h1 h2=>(h.at_ k h1 h2).bq hb,h.apart⟩
theorem AEls.setb (h:AEls w base vs ss) {p:Addr} (hp:p.block<base) (u:Value):AEls (w.setCell p u) base vs ss:=⟨h.len,fun k a b=>(h.at_ k a b).setb hp u,h.apart⟩
theorem AEls.setT (h:AEls w base vs ss) {g:Nat} {t:TypeId} {cs:Array Value} (hk:Blk w g t cs) (h1:t≠tF) (h2:t≠tA) (i:Nat) (u:Value):AEls (w.setCell ⟨g,i,none⟩ u) base vs ss:=⟨h.len,fun k a b=>(h.at_ k a b).setT hk h1 h2 i u,h.apart⟩
theorem AEls.grown (h:AEls w base vs ss) {e:TypeId} {b s n:Nat} {v':Value} {xs:List Value} (h':w.ownsRow b e s v' n xs) (hg:w.grownBy w' v'.ownBlock) (h1:tF≠e) (h2:tA≠e):AEls w' base vs ss:=⟨h.len,fun k a b=>(h.at_ k a b).grown h' hg h1 h2,h.apart⟩
theorem AEls.turn {T:TypeId} {B:Nat} {row:Option Nat} (h:AEls w base vs ss) (hg:w.grownBy w' row) (hr:Turn T B w row) (h1:tF≠T) (h2:tA≠T):AEls w' base vs ss:=⟨h.len,fun k a b=>(h.at_ k a b).turn hg hr h1 h2,h.apart⟩
theorem AEls.nil (w:World) (base:Nat):AEls w base [] []:=⟨rfl,fun k h=>absurd h (by simp),fun i j h=>absurd h (by simp)⟩
theorem AEls.und (h:AEls w base vs ss):∀ (k:Nat) (hk:k<vs.length),Und vs[k] w.heap.size:=fun k hk g hg=>((h.at_ k hk (by rw[←h.len];exact hk)).lt g hg).2
theorem AEls.one {s1 s2:Value} {s:Asn} (h:AsnO w base (.agg #[s1,s2]) s):AEls w base [s1,s2] [s]:=by
 obtain ⟨_,_,e,n1,n2⟩:=h;injection e with e;injection e with e;injection e with e1 e2;injection e2 with e2 e3;subst e1 e2;refine ⟨rfl,fun k h1 h2=>?_,fun i j hi hj hij g hgi hgj=>?_⟩
 ·have hk:k=0∨k=1:=by simp at h1;omega
  rcases hk with rfl|rfl
  ·exact n1
  ·exact n2
 ·have:i=0∧j=1:=by simp at hj;omega
  obtain ⟨rfl,rfl⟩:=this;exact own_ne n1.1 n2.1 (by decide) g hgi hgj
theorem AEls.cat (h:AEls w base vs ss) (h2:AEls w mid vs2 ss2) (hb:base≤mid) (hu:∀ (k:Nat) (hk:k<vs.length),Und vs[k] mid):AEls w base (vs++vs2) (ss++ss2):=by
 have er:=rowsA_append ss ss2;have hlen:=h.len;refine ⟨by rw[er,List.length_append,List.length_append,h.len,h2.len],fun k k1 k2=>?_,fun i j hi hj hij g hgi hgj=>?_⟩
 ·by_cases e:k<vs.length
  ·have e':k<(rowsA ss).length:=by omega
   simp only[er,List.getElem_append,e,e',dite_true];exact h.at_ k e e'
  ·have e':¬k<(rowsA ss).length:=by omega
   simp only[er,List.getElem_append,e,e',dite_false];have l1:k - vs.length<vs2.length:=by simp at k1;omega
   have l2:k - (rowsA ss).length<(rowsA ss2).length:=by rw[er] at k2;simp at k2;omega
   have:=h2.at_ (k - vs.length) l1 (by rw[←h2.len];exact l1);have e3:k - vs.length=k - (rowsA ss).length:=by omega
   simp only[e3] at this ⊢;exact this.bq hb
 ·by_cases ej:j<vs.length
  ·have ei:i<vs.length:=by omega
   simp only[List.getElem_append,ei,ej,dite_true] at hgi hgj;exact h.apart i j ei ej hij g hgi hgj
  ·have lj:j - vs.length<vs2.length:=by simp at hj;omega
   by_cases ei:i<vs.length
   ·simp only[List.getElem_append,ei,ej,dite_true,dite_false] at hgi hgj;have e1:=hu i ei g hgi;have e2:=((h2.at_ (j - vs.length) lj (by rw[←h2.len];exact lj)).lt g hgj).1;omega
   ·simp only[List.getElem_append,ei,ej,dite_false] at hgi hgj;exact h2.apart (i - vs.length) (j - vs.length) (by omega) lj (by omega) g hgi hgj
theorem A2O.bz (h:A2O w base v vs ss) (hb:Below w.heap.size w w'):A2O w' base v vs ss:=⟨own_below h.row hb,h.lim,h.els.bz hb⟩
theorem A2O.bq (h:A2O w base v vs ss) (hb:base'≤base):A2O w base' v vs ss:=⟨own_lower h.row hb,h.lim,h.els.bq hb⟩
theorem A2O.setb (h:A2O w base v vs ss) {p:Addr} (hp:p.block<base) (u:Value):A2O (w.setCell p u) base v vs ss:=⟨ownsRow_setCell_below h.row hp u,h.lim,h.els.setb hp u⟩
theorem A2O.setT (h:A2O w base v vs ss) {g:Nat} {t:TypeId} {cs:Array Value} (hk:Blk w g t cs) (h0:t≠tAs) (h1:t≠tF) (h2:t≠tA) (i:Nat) (u:Value):A2O (w.setCell ⟨g,i,none⟩ u) base v vs ss:=
 ⟨own_setT h.row hk h0 i u,h.lim,h.els.setT hk h1 h2 i u⟩
theorem A2O.nil (w:World) (base:Nat):A2O w base (.slice none 0 0) [] []:=⟨World.ownsRow_nil _ _ _ _,by simp[Lim],AEls.nil _ _⟩
theorem A2O.empty (w:World) {g:Nat} (hg:g=w.heap.size):A2O (w.alloc (.cells #[] tAs)) g (.slice (some ⟨g,0,none⟩) 0 0) [] []:=by
 subst hg;exact ⟨own_empty w _ _,by simp[Lim],AEls.nil _ _⟩
theorem A2O.ofBlk {g:Nat} (h:Blk w g tAs #[]) (hb:base≤g):A2O w base (.slice (some ⟨g,0,none⟩) 0 0) [] []:=⟨own_ofBlk h hb,by simp[Lim],AEls.nil _ _⟩
theorem A2O.one {g:Nat} {s1 s2:Value} {s:Asn} (hk:Blk w g tAs #[s1,s2]) (hg:base≤g) (h:AsnO w base (.agg #[s1,s2]) s):A2O w base (.slice (some ⟨g,0,none⟩) 1 1) [s1,s2] [s]:=
 ⟨own_of_blk hk hg rfl (fun j hj=>by
  match j,hj with
  | 0,_=>rfl
  | 1,_=>rfl) (Nat.le_refl _) (by decide) rfl,by simp[Lim],AEls.one h⟩
theorem A2O.form (h:A2O w base v vs ss):∃ A c,v=.slice A ss.length c:=by
 obtain ⟨A,c,e,-⟩:=own_reads h.row h.lim;exact ⟨A,c,e⟩
theorem A2O.und (h:A2O w base v vs ss):Und v w.heap.size:=fun g hg=>(h.row.lt g hg).2
theorem A2O.cat {w1:World} {v' v2:Value} (h:A2O w base v vs ss) (hb:Below w.heap.size w w1) (h2:A2O w1 mid v2 vs2 ss2) (hbm:base≤mid) (hm:w.heap.size≤mid) (hl:ss.length+ss2.length≤1049600)
  (hg:w1.grownBy w' v.ownBlock) (hr:w'.ownsRow base tAs 2 v' (ss.length+ss2.length) (vs++vs2)):A2O w' base v' (vs++vs2) (ss++ss2):=by
 have hrow:=own_below h.row hb;refine ⟨by rw[List.length_append];exact hr,by rw[List.length_append];exact hl,?_⟩;exact ((h.els.bz hb).grown hrow hg (by decide) (by decide)).cat (h2.els.grown hrow hg (by decide) (by decide)) hbm fun k hk=>(h.els.und k hk).mono hm
theorem RowO.one {w:World} {b:Nat} {v:Value} {r:RowT} (h:RowO w b v r):v.oneCell'=true:=by obtain ⟨A,c,rfl,-⟩:=h.rj;rfl
theorem AEls.one_cell (h:AEls w base vs ss):∀ u∈vs,u.oneCell'=true:=by
 intro u hu;obtain ⟨k,hk,rfl⟩:=List.getElem_of_mem hu;exact (h.at_ k hk (by rw[←h.len];exact hk)).one
def AsnsV (w:World) (lo hi:Nat) (A:Option Addr) (ss:List Asn):Prop:=
 ∃ vs:List Value,Rd w lo hi 2 A ss.length vs∧∀ (k:Nat) (h:k<vs.length) (h':k<(rowsA ss).length),∃ B c,vs[k]=.slice B (rlen (rowsA ss)[k]) c∧RowV w lo hi B (rowsA ss)[k]
theorem AsnsV.bz {lo hi:Nat} {A:Option Addr} (h:AsnsV w lo hi A ss) (hb:Below w.heap.size w w'):AsnsV w' lo hi A ss:=by
 obtain ⟨vs,h1,h2⟩:=h;exact ⟨vs,h1.bz hb,fun k a b=>by obtain ⟨B,c,e,h3⟩:=h2 k a b;exact ⟨B,c,e,h3.bz hb⟩⟩
theorem AsnsV.at {lo hi:Nat} {A:Option Addr} (h:AsnsV w lo hi A ss) {k:Nat} (hk:k<ss.length):∃ b o B c D d,A=some ⟨b,o,none⟩∧b<w.heap.size∧w.cell? ⟨b,o+k*2,none⟩=some (.slice B ss[k].facts.length c)∧w.cell? ⟨b,o+k*2+1,none⟩=some (.slice D ss[k].atoms.length d)∧FactsV w lo hi B ss[k].facts∧AtomsV w lo hi D ss[k].atoms:=by
 obtain ⟨vs,h1,h2⟩:=h;have hl:vs.length=ss.length * 2:=h1.raw.1;have hr:=rowsA_len ss;obtain ⟨b,o,e,-,-,hc⟩:=h1.raw.form (by omega);obtain ⟨g1,g2⟩:=rowsA_get ss k hk;obtain ⟨B,c,e1,v1⟩:=h2 (k*2) (by omega) (by omega);obtain ⟨D,d,e2,v2⟩:=h2 (k*2+1) (by omega) (by omega);have x1:(rowsA ss)[k*2]'(by omega)=.inl ss[k].facts:=by rw[List.getElem?_eq_getElem (by omega)] at g1;exact Option.some.inj g1
 have x2:(rowsA ss)[k*2+1]'(by omega)=.inr ss[k].atoms:=by rw[List.getElem?_eq_getElem (by omega)] at g2;exact Option.some.inj g2
 rw[x1] at e1 v1;rw[x2] at e2 v2;have c1:=hc (k*2) _ (List.getElem?_eq_getElem (by omega));have c2:=hc (k*2+1) _ (List.getElem?_eq_getElem (by omega));rw[e1] at c1;rw[e2] at c2;exact ⟨b,o,B,c,D,d,e,block_lt_of_cell c1,c1,c2,v1,v2⟩
theorem A2O.rj {A:Option Addr} {n c:Nat} (h:A2O w base (.slice A n c) vs ss):n=ss.length∧AsnsV w base w.heap.size A ss:=by
 obtain ⟨A',c',e,h1⟩:=own_reads h.row h.lim;injection e with e1 e2 e3;subst e1;refine ⟨e2,vs,h1,fun k a b=>?_⟩;obtain ⟨B,d,e,h3⟩:=(h.els.at_ k a b).rj;exact ⟨B,d,e,h3⟩
end
def AsnsI (w:World) (lo hi:Nat) (v:Value) (ss:List Asn):Prop:=∃ vs,A2O w lo v vs ss∧Und v hi∧(∀ (k:Nat) (h:k<vs.length),Und vs[k] hi)∧totA ss≤16777216
def AsnsR (w:World) (base:Nat) (v:Value) (ss:List Asn):Prop:=(∃ vs,A2O w base v vs ss)∧totA ss≤16777216
section
variable {w w':World} {lo hi a b:Nat} {v:Value} {ss:List Asn}
theorem AsnsR.I {base:Nat} (h:AsnsR w base v ss):AsnsI w base w.heap.size v ss:=by
 obtain ⟨⟨vs,h⟩,hb⟩:=h;exact ⟨vs,h,h.und,h.els.und,hb⟩
theorem AsnsR.bz {base:Nat} (h:AsnsR w base v ss) (hb:Below w.heap.size w w'):AsnsR w' base v ss:=by obtain ⟨⟨vs,h1⟩,h2⟩:=h;exact ⟨⟨vs,h1.bz hb⟩,h2⟩
theorem AsnsR.bq {base base':Nat} (h:AsnsR w base v ss) (hb:base'≤base):AsnsR w base' v ss:=by obtain ⟨⟨vs,h1⟩,h2⟩:=h;exact ⟨⟨vs,h1.bq hb⟩,h2⟩
theorem AsnsR.setb {base:Nat} (h:AsnsR w base v ss) {p:Addr} (hp:p.block<base) (u:Value):AsnsR (w.setCell p u) base v ss:=by obtain ⟨⟨vs,h1⟩,h2⟩:=h;exact ⟨⟨vs,h1.setb hp u⟩,h2⟩
theorem AsnsR.form {base:Nat} (h:AsnsR w base v ss):∃ A c,v=.slice A ss.length c:=by obtain ⟨⟨vs,h1⟩,h2⟩:=h;exact h1.form
theorem AsnsR.nil (w:World) (base:Nat):AsnsR w base (.slice none 0 0) []:=⟨⟨_,A2O.nil _ _⟩,by simp[totA,totR,rowsA]⟩
theorem AsnsI.bz (h:AsnsI w lo hi v ss) (hb:Below w.heap.size w w'):AsnsI w' lo hi v ss:=by
 obtain ⟨vs,h1,h2⟩:=h;exact ⟨vs,h1.bz hb,h2⟩
theorem AsnsI.mk (h:AsnsI w lo hi v ss) (hb:Mk (fun g=>a≤g∧g<b) w w') (hd:hi≤a∨b≤lo):AsnsI w' lo hi v ss:=by
 obtain ⟨vs,h1,h2,h3,h4⟩:=h;refine ⟨vs,⟨own_mk h1.row hb fun g hg hp=>by have:=und_range h1.row h2 g hg;omega,h1.lim,h1.els.len,fun k x y=>?_,h1.els.apart⟩,h2,h3,h4⟩;exact (h1.els.at_ k x y).mk hb fun g hg hp=>by have:=(h1.els.at_ k x y).lt g hg;have:=h3 k x g hg;omega
theorem AsnsI.form (h:AsnsI w lo hi v ss):∃ A c,v=.slice A ss.length c:=by obtain ⟨vs,h1,-⟩:=h;exact h1.form
theorem AsnsI.rj {A:Option Addr} {n c:Nat} (h:AsnsI w lo hi (.slice A n c) ss):AsnsV w lo w.heap.size A ss:=by obtain ⟨vs,h1,-⟩:=h;exact h1.rj.2
theorem AsnsI.len (h:AsnsI w lo hi v ss):ss.length≤1049600∧totA ss≤16777216:=by obtain ⟨vs,h1,-,-,h4⟩:=h;exact ⟨h1.lim,h4⟩
end
theorem A2O.at {w:World} {base n c k:Nat} {A:Option Addr} {vs:List Value} {ss:List Asn} (h:A2O w base (.slice A n c) vs ss) (hk:k<vs.length) (hr:k<(rowsA ss).length):∃ b o B d,A=some ⟨b,o,none⟩∧b<w.heap.size∧w.cell? ⟨b,o+k,none⟩=some (.slice B (rlen (rowsA ss)[k]) d)∧vs[k]=.slice B (rlen (rowsA ss)[k]) d:=by
 obtain ⟨A',c',e,h1⟩:=own_reads h.row h.lim;injection e with e1 e2 e3;subst e1;have hl:vs.length=ss.length * 2:=h1.raw.1;obtain ⟨b,o,e,-,-,hc⟩:=h1.raw.form (by omega);obtain ⟨B,d,e2,-⟩:=(h.els.at_ k hk hr).rj;have c1:=hc k _ (List.getElem?_eq_getElem hk);rw[e2] at c1;exact ⟨b,o,B,d,e,block_lt_of_cell c1,c1,e2⟩
theorem mkAs0 (n:Nat) (h:Lim n) (w:World):(Instr.makeSlice 30 (.int .i64 0) (.int .i64 (n:Int))).run Tryz.prog w=.ok (.slice (some ⟨w.heap.size,0,none⟩) 0 n) (w.alloc (.cells (madeCells #[.slice none 0 0,.slice none 0 0] (n * 2)) tAs)):=by
 obtain ⟨i,hi,hz,hs,hb⟩:=info_parts infoAs2;have:=run_make_rowN (P:=Tryz.prog) 30 tAs i _ Tryz.underlying30 hi hz .i64 .i64 0 n (Nat.zero_le _) (by rw[hb];unfold Lim at h;omega) (by unfold Lim at h;omega) w
 rwa [hs] at this
theorem madeAs (w:World) (n:Nat) (h:n≤1049600):(w.alloc (.cells (madeCells #[.slice none 0 0,.slice none 0 0] (n * 2)) tAs)).ownsRow w.heap.size tAs 2 (.slice (some ⟨w.heap.size,0,none⟩) 0 n) 0 []:=
 World.ownsRow_made w _ n (Nat.le_refl _) (by unfold maxLen;omega) (by rw[size_madeCells])
theorem c_joinAs {lo hi lo' hi':Nat} (A A':Option Addr) (n m c c':Nat) (vs vs':List Value) (w:World) (h:Rd w lo hi 2 A n vs) (h':Rd w lo' hi' 2 A' m vs') (h1:∀ u∈vs,u.oneCell'=true) (h1':∀ u∈vs',u.oneCell'=true) (hn:n+m≤1049600) :
  Calls Tryz.prog 251 #[.slice A n c,.slice A' m c'] w fun e w'=>∃ r,e=.returned r∧w'.ownsRow w.heap.size tAs 2 r (n+m) (vs++vs')∧Below w.heap.size w w':=by
 have hmk:=mkAs0 (n+m) hn;simp only[Int.natCast_add] at hmk;have hO0:=ax (madeAs w (n+m) hn);have hnl:=h.lim;have hml:=h'.lim;have H:=ax h;have H':=ax h';have H1:=ax h1;have H1':=ax h1';clear h h' h1 h1';(go_enter Tryz.func251,Tryz.ntmps251)
 go_wp2_with (first
  | (at_builtin;(refine wpList_appL rfl _ _ 30 rfl Tryz.underlying30 infoAs2 rfl (by decide) (by decide) rfl hO0.o rfl (H.o.bz bel).raw H1.o (by omega) (by simp) ?_);intro v1 w1 hO1 hg1 hB1;simp only[Nat.zero_add,List.nil_append] at hO1;have hB:Below w.heap.size w w1:=Below.trans bel hB1;obtain ⟨A1,d1,rfl,-⟩:=own_reads hO1 (by unfold Lim;omega))
  | (at_builtin;refine wpList_appL rfl _ _ 30 rfl Tryz.underlying30 infoAs2 rfl (by decide) (by decide) rfl hO1 rfl (H'.o.bz hB).raw H1'.o (by omega) hB.size ?_;intro v2 w2 hO2 hg2 hB2;obtain ⟨A2,d2,rfl,-⟩:=own_reads hO2 (by unfold Lim;omega)))
 go_ret;exact ⟨_,rfl,by simpa using hO2,hB.trans hB2⟩
end
section
open Go Go.RowKit Go.Proofs
attribute [local go_sem ↓] Go.wp_at_zero Go.wp_at_succ
def listF (n:Nat) (a:Asn) (x:Atm) (i:Nat) (t:Int) (K:Nat):Option (List Asn):=
 match newT (tset (mz a)|||tins K t) with
 | none=>none
 | some m=>match exposeF n (emptyX a x i) t K with
  | none=>none
  | some l1=>match exposeF n (fullX a x i (m:Int)) t K with
   | none=>none
   | some l2=>some (l1++l2)
theorem expose_bad {n:Nat} {a:Asn} {t:Int} {K:Nat} (h:a.valid=false):exposeF n a t K=none:=by
 cases n with
 | zero=>rfl
 | succ n=>simp[exposeF,h]
theorem expose_no {n:Nat} {a:Asn} {t:Int} {K:Nat} (h:a.valid=true) (hc:consB a=false):exposeF (n+1) a t K=some []:=by simp[exposeF,h,hc]
theorem expose_cell {n:Nat} {a:Asn} {t:Int} {K i:Nat} {x:Atm} (h:a.valid=true) (hc:consB a=true) (hf:findK a 1 t=some i) (hx:a.atoms[i]? = some x):exposeF (n+1) a t K=if (cellX a x i t).valid then some [cellX a x i t] else none:=by
 simp[exposeF,h,hc,hf,hx]
theorem expose_none {n:Nat} {a:Asn} {t:Int} {K:Nat} (h:a.valid=true) (hc:consB a=true) (hf:findK a 1 t=none) (hg:findK a 2 t=none):exposeF (n+1) a t K=none:=by simp[exposeF,h,hc,hf,hg]
theorem expose_list {n:Nat} {a:Asn} {t:Int} {K i:Nat} {x:Atm} (h:a.valid=true) (hc:consB a=true) (hf:findK a 1 t=none) (hg:findK a 2 t=some i) (hx:a.atoms[i]? = some x):exposeF (n+1) a t K=listF n a x i t K:=by
 simp only[exposeF,h,hc,hf,hg,hx,listF,Option.getD_some];rfl
theorem expose_ok:∀ {n:Nat} {a:Asn} {t:Int} {K:Nat} {l:List Asn},exposeF n a t K=some l→l.length≤2 ^ n∧∀ b∈l,b.valid=true
 | 0,_,_,_,_,h=>by cases h
 | n+1,a,t,K,l,h=>by
  unfold exposeF at h
  split at h
  ·cases h
  ·split at h
   ·obtain rfl:=Option.some.inj h;simp
   ·split at h
    ·split at h
     ·rename_i hv;obtain rfl:=Option.some.inj h;refine ⟨by simp;exact Nat.one_le_two_pow,fun b hb=>?_⟩;obtain rfl:=List.mem_singleton.1 hb;exact hv
     ·cases h
    ·split at h
     ·cases h
     ·split at h
      ·cases h
      ·split at h
       ·cases h
       ·split at h
        ·cases h
        ·rename_i e1 _ _ e2;obtain rfl:=Option.some.inj h;have h1:=expose_ok e1;have h2:=expose_ok e2;refine ⟨by rw[List.length_append,Nat.pow_succ];omega,fun b hb=>?_⟩;rcases List.mem_append.1 hb with hb|hb
         ·exact h1.2 b hb
         ·exact h2.2 b hb
def ExpC (n:Nat) (a:Asn) (t:Int) (K:Nat):Prop:=∀ (lo hi:Nat) (v:Value) (w:World),AsnC w lo hi v a→hi≤w.heap.size→a.valid=true→
 Calls Tryz.prog 158 #[v,.int .i64 t,.int .u16 K] w fun e w'=>∃ r vs,e=.returned (.tuple #[r,.bool (exposeF n a t K).isSome])∧A2O w' w.heap.size r vs ((exposeF n a t K).getD [])∧Below w.heap.size w w'
def ExpL (n:Nat) (a:Asn) (x:Atm) (i:Nat) (t:Int) (K:Nat):Prop:=∀ (lo hi:Nat) (v:Value) (w:World),AsnC w lo hi v a→hi≤w.heap.size→
 Calls Tryz.prog 212 #[v,.int .i64 i,.int .i64 t,.int .u16 K] w fun e w'=>∃ r vs,e=.returned (.tuple #[r,.bool (listF n a x i t K).isSome])∧A2O w' w.heap.size r vs ((listF n a x i t K).getD [])∧Below w.heap.size w w'
theorem c_expose_step (n:Nat) (a:Asn) (t:Int) (K:Nat) (HL:∀ i x,findK a 1 t=none→findK a 2 t=some i→a.atoms[i]? = some x→x.kind=2→impB a ⟨true,x.a,t⟩=true→ExpL n a x i t K):ExpC (n+1) a t K:=by
 intro lo hi v w h hhi hv;have hV:=ax h;obtain ⟨A1,c1,A2,c2,rfl,-⟩:=h;have HLL:=ax HL;have hvl:=zjC hv;have HV:=ax hv;clear HL hv;(go_enter Tryz.func158,Tryz.ntmps158);have k0:Blk (w.alloc (.cells #[.slice A1 a.facts.length c1,.slice A2 a.atoms.length c2] tAs)) w.heap.size tAs #[.slice A1 a.facts.length c1,.slice A2 a.atoms.length c2]:=blks;(go_wp2_with fail);refine (c_impl_Consistent _ a _ (hV.o.V.bz bel) (by simp;omega)).mono ?_;rintro e w1 ⟨rfl,hB1⟩;rw[show (a.valid && !(cases a (caseS a 0)).isEmpty)=consB a from rfl];have hB:=bgo (w:=w) bel hB1;replace k0:=k0.nz hB1;clear hB1;have hz1:=hB.size;cases hc:consB a
 ·have E:=ax (expose_no (n:=n) (t:=t) (K:=K) HV.o hc);clear hc;(go_wp2_with fail);go_ret2;exact ⟨_,_,by rw[E.o];rfl,by rw[E.o];exact A2O.nil _ _,hB⟩
 have HC:=ax hc;clear hc;(replace qk0:=k0.z);(go_wp2_with fail);refine (c_impl_firstAtomAt _ a 1 t _ (hV.o.V.bz bel) (by omega)).mono ?_;rintro e w2 ⟨rfl,hB2⟩;(replace hB:=bgo hB hB2;replace k0:=k0.nz hB2;replace qk0:=k0.z);clear hB2;have hz2:=hB.size;cases hf:findK a 1 t
 case some i=>
  obtain ⟨x,hx,-,-,hil⟩:=find_some hf;have E:=ax (expose_cell (n:=n) (K:=K) HV.o HC.o hf hx);have EI:findI a 1 t=(i:Int):=by unfold findI;rw[hf]
  rw[EI];have hxe:a.atoms[i]=x:=by rw[List.getElem?_eq_getElem hil] at hx;exact Option.some.inj hx
  clear hf hx EI;(go_wp2_with fail);refine (c_impl_exposeCellAt _ a i t _ (hV.o.bz bel) hil (by omega)).mono ?_;rw[hxe];rintro e w3 ⟨r,rfl,oC,hB3⟩;(replace hB:=bgo hB hB3;replace k0:=k0.nz hB3);clear hB3 hxe;have OC:=ax oC;obtain ⟨F3,f3,G3,g3,rfl,-⟩:=oC.C;have hz3:=hB.size;clear qk0;cases hcv:(cellX a x i t).valid
  ·have E2:aJ (exposeF (n+1) a t K=none):=ax (by rw[E.o,hcv];rfl);clear hcv;(go_wp2_with fail);go_ret2;exact ⟨_,_,by rw[E2.o];rfl,by rw[E2.o];exact A2O.nil _ _,bel⟩
  ·have E2:aJ (exposeF (n+1) a t K=some [cellX a x i t]):=ax (by rw[E.o,hcv];rfl);clear hcv;(go_wp2_with fail);go_ret2;refine ⟨.slice (some ⟨w3.heap.size+1,0,none⟩) 1 1,[.slice F3 (cellX a x i t).facts.length f3,.slice G3 (cellX a x i t).atoms.length g3],by rw[E2.o];rfl,?_,bel⟩;rw[E2.o];refine A2O.one (Blk.newE ?_) ?_ (AsnO.bz (AsnO.bq OC.o (by omega)) bel)
   ·simp
   ·omega
 have HF1:=ax hf;have EI:findI a 1 t=0:=by unfold findI;rw[hf]
 rw[EI];clear hf EI;(go_wp2_with fail);refine (c_impl_firstAtomAt _ a 2 t _ (hV.o.V.bz bel) (by omega)).mono ?_;rintro e w3 ⟨rfl,hB3⟩;(replace hB:=bgo hB hB3;replace k0:=k0.nz hB3;replace qk0:=k0.z);clear hB3;have hz3:=hB.size;cases hg:findK a 2 t
 case none=>
  have E:=ax (expose_none (n:=n) (K:=K) HV.o HC.o HF1.o hg);clear hg;(go_wp2_with fail);go_ret2;exact ⟨_,_,by rw[E.o];rfl,by rw[E.o];exact A2O.nil _ _,hB⟩
 case some i=>
  obtain ⟨x,hx,hk2,himp,hil⟩:=find_some hg;have E:=ax (expose_list (n:=n) (K:=K) HV.o HC.o HF1.o hg hx);have EI:findI a 2 t=(i:Int):=by unfold findI;rw[hg]
  rw[EI];have HX:=ax (HLL.o i x HF1.o hg hx hk2 himp);clear hg hx EI hk2 himp;(go_wp2_with fail);refine (HX.o lo hi _ _ (hV.o.bz bel) (by omega)).mono ?_;rintro e w4 ⟨r,vs,rfl,oR,hB4⟩;have OR:=ax oR;obtain ⟨R1,r1,rfl⟩:=oR.form;clear oR;(replace hB:=bgo hB hB4);(go_wp2_with fail);go_ret2;refine ⟨_,vs,by rw[E.o];rfl,?_,bel⟩;rw[E.o];exact OR.o.bq (by omega)
end
section
open Go
section
variable {P:Program} {md:Region.Mode} {ops:Array Oper} {S:World→Prop} {Q:Exit→Act→World→Prop} {I:Array Bool→Act→World→Prop}
def dn (D:Array Bool) (j:Nat):Bool:=D.getD j false
theorem dn_ne {D:Array Bool} {i j:Nat} (h:i≠j):dn (D.setIfInBounds i true) j=dn D j:=getD_set_ne false h
theorem dn_self {D:Array Bool} {i:Nat} (h:D.getD i true=false):dn (D.setIfInBounds i true) i=true:=by
 unfold dn;rcases Nat.lt_or_ge i D.size with h'|h'
 ·simp[h']
 ·simp[Array.getElem?_eq_none h'] at h
theorem dn_un {D:Array Bool} {i:Nat} (h:D.getD i true=false):dn D i=false:=by
 unfold dn;rcases Nat.lt_or_ge i D.size with h'|h'
 ·simp[h'] at h ⊢;exact h
 ·simp[Array.getElem?_eq_none h'] at h
theorem dn_keep {D:Array Bool} {i j:Nat} {p q:Prop} (hij:i≠j) (h:dn D j=true→p) (hpq:p→q):dn (D.setIfInBounds i true) j=true→q:=fun e=>hpq (h (by rwa [dn_ne hij] at e))
def parB (md:Region.Mode) (ops:Array Oper) (H:List Nat) (Dz:Array Bool):Nat→Array Bool→Bool
 | 0,D=>decide (D=Dz)
 | n+1,D=>!(Region.ready md ops D).isEmpty&&(Region.ready md ops D).all fun i=>H.contains i&&parB md ops H Dz n (D.setIfInBounds i true)
def ParSteps (P:Program) (md:Region.Mode) (ops:Array Oper) (Q:Exit→Act→World→Prop) (S:World→Prop) (I:Array Bool→Act→World→Prop) (hs:List Nat):Prop:=
 ∀ i∈hs,∀ D a w,i∈Region.ready md ops D→I D a w→S w→wpOp P ops Q i (fun a' w'=>S w'∧I (D.setIfInBounds i true) a' w') a w
theorem ParSteps.nil:ParSteps P md ops Q S I []:=fun _ h=>by cases h
theorem ParSteps.cons {i:Nat} {o:Oper} {hs:List Nat} (ho:ops[i]? = some o)
  (h:∀ (D:Array Bool) (a:Act) (w:World),D.getD i true=false→(∀ e∈o.after.toList,Region.binds md e=true→dn D e.on=true)→I D a w→S w→
   ∀ K':Act→World→Prop,Shut (∀ a w,S w→I (D.setIfInBounds i true) a w→K' a w)→∀ G:Prop,((if Region.wanted o (yielded ops a.tmps)=true then Oper.wp P o a w K' Q else K' (a.put o.dst undef) w)→G)→G)
  (hs':ParSteps P md ops Q S I hs):ParSteps P md ops Q S I (i :: hs):=fun j hj D a w hr hI hS=>by
 rcases List.mem_cons.1 hj with rfl|hj
 ·obtain ⟨h1,o',ho',h2⟩:=mem_ready.1 hr;obtain rfl:o=o':=Option.some.inj (ho.symm.trans ho');exact wpOp_step ho (fun K' hK=>h D a w h1 (fun e he hb=>h2 e (Array.mem_toList_iff.1 he) hb) hI hS K' (fun a w hS hW=>hK a w ⟨hS,hW⟩) _ id)
 ·exact hs' j hj D a w hr hI hS
theorem wpAnyH_par (H:List Nat) (Dz:Array Bool) {fuel:Nat} {D0:Array Bool} {a0:Act} {w0:World} (n:Nat) (hH:parB md ops H Dz n D0=true) (hS:S w0) (J:Act→Array Bool→Act→World→Prop) (h0:J a0 D0 a0 w0)
  (hstep:ParSteps P md ops Q S (J a0) H) (hend:∀ a w,S w→J a0 Dz a w→wpAnyH P md ops Q S fuel Dz a w):wpAnyH P md ops Q S (fuel+n) D0 a0 w0:=by
 generalize hJ:J a0=I at *;clear hJ
 induction n generalizing D0 a0 w0 with
 | zero=>
  unfold parB at hH;obtain rfl:D0=Dz:=of_decide_eq_true hH;exact hend _ _ hS h0
 | succ n ih=>
  unfold parB at hH;simp only[Bool.and_eq_true,Bool.not_eq_true',List.all_eq_true,List.isEmpty_eq_false_iff,List.contains_iff_mem] at hH;refine wpAnyH_ready (fuel:=fuel+n) rfl hH.1 fun i hi=>?_;have h1:=hH.2 i hi;exact wpOp_mono (fun a' w' h=>⟨h.1,ih h1.2 h.1 h.2⟩) (hstep i h1.1 D0 a0 w0 hi h0 hS)
end
end
end Go.Proofs.YtgdfdmjnadnlnaaGreat
