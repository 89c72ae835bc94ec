/- Contracts: the spec's match of a case. -/
import Derived.Test.YtjaohekkmlkinaaGreatMbMatchM
set_option linter.unusedSimpArgs false
set_option linter.unusedVariables false
set_option maxRecDepth 100000
set_option maxHeartbeats 25600000
namespace Go.Proofs.YtjaohekkmlkinaaGreat
section
open Go Go.RowKit Go.Proofs
attribute [local go_sem ↓] Go.wp_at_zero Go.wp_at_succ
theorem chainG_ne {xs:List Atm} {b:Int} {n:Nat} {used:List Bool} {c:Int} (h:c≠b):chainG xs b n used c=chainF xs b n used c:=by unfold chainG;rw[if_neg h]
theorem made6 (n:Nat) (h:n≤6):madeCells #[.bool false] (n * 1)=Array.replicate n (.bool false):=by
 obtain rfl|rfl|rfl|rfl|rfl|rfl|rfl:n=0∨n=1∨n=2∨n=3∨n=4∨n=5∨n=6:=by omega
 all_goals kernel_rfl
theorem mkBn (n:Nat) (h:n≤6) (w:World):(Instr.makeSlice 124 (.int .i64 (n:Int)) (.int .i64 (n:Int))).run Tryz.prog w=.ok (.slice (some ⟨w.heap.size,0,none⟩) n n) (w.alloc (.cells (Array.replicate n (.bool false)) tB)):=
 (mkB n (by simp[Lim];omega) w).trans (by rw[made6 n h])
theorem BoolsO.made {w:World} {n:Nat} (h:n≤6):BoolsO (w.alloc (.cells (Array.replicate n (.bool false)) tB)) w.heap.size (.slice (some ⟨w.heap.size,0,none⟩) n n) (List.replicate n false):=
 ⟨by simpa using own_of_blk (n:=n) (cap:=n) (size:=1) (L:=encB (List.replicate n false)) (Blk.new w tB (Array.replicate n (.bool false))) (Nat.le_refl _) (by simp[encB]) (by intro j hj;simp[encB,List.getElem?_replicate,Array.getElem?_replicate]) (Nat.le_refl _) (Nat.le_trans h (by decide)) (by simp),by simp[Lim];omega⟩
theorem all_step (u:List Bool) (j:Nat) (hj:j<u.length):(u.drop j).all id=(u[j]&&(u.drop (j+1)).all id):=by
 rw[List.drop_eq_getElem_cons hj];rfl
theorem c_spec_l6Match {lo hi lo' hi':Nat} (A B:Option Addr) (d e:Nat) (xs goal:List Atm) (w:World) (h:AtomsV w lo hi A xs) (h':AtomsV w lo' hi' B goal) (hhi:hi≤w.heap.size) (hhi':hi'≤w.heap.size) (hl6:xs.length≤6) (hg:∀ x∈goal,x.kind=1∨(x.kind=2∧x.a≠x.b)) :
  Calls Tryz.prog 281 #[.slice A xs.length d,.slice B goal.length e] w fun e w'=>e=.returned (.bool (matchB xs goal))∧Below w.heap.size w w':=by
 have hl:=h.le;have hl':=h'.le;have H:=ax h;have H':=ax h';have HG:=ax hg;have HM0:=ax (BoolsO.made (w:=w) hl6);have hmk:=mkBn xs.length hl6;clear h h' hg;(go_enter Tryz.func281,Tryz.ntmps281);go_wp2;clear hmk
 go_loopw [6] (fun i wr=>∃ (k:Nat) (u:List Bool),k≤goal.length∧i=.int .i64 k∧aJ (matchF xs (List.replicate xs.length false) goal=matchF xs u (goal.drop k))∧aJ (u.length=xs.length)∧aJ (BoolsO wr w.heap.size (.slice (some ⟨w.heap.size,0,none⟩) xs.length xs.length) u)∧aJ (Below w.heap.size w wr)) (fun i _=>goal.length - (intOf i).toNat)
 case atStart=>exact ⟨0,List.replicate xs.length false,Nat.zero_le _,rfl,rfl,by show _=_;simp,HM0.o,(show Below _ _ _ from bel)⟩
 case round=>
  obtain ⟨k,u,hk,rfl,HM,HL,HU,HB⟩:=hrel;have hzr:=HB.o.size;have HA:aJ (AtomsV wr lo hi A xs):=H.o.bz HB.o;have HGV:aJ (AtomsV wr lo' hi' B goal):=H'.o.bz HB.o;by_cases hlt:k<goal.length
  ·obtain ⟨gb,go_,rfl,lgb⟩:=HGV.o.blt hlt;obtain ⟨g0,g1,g2⟩:=HGV.o.cl hlt;have HMD:=ax (matchF_drop xs u goal k hlt);have hkind:=HG.o _ (List.getElem_mem hlt);have HX:=ax (fun (w':World) (hv:AtomsV w' lo' hi' (some ⟨gb,go_,none⟩) goal)=>hv.cl hlt);obtain ⟨x,hx⟩:∃ x,x=goal[k]:=⟨_,rfl⟩;rw[←hx] at g0 g1 g2 HMD hkind HX;clear hx;rcases hkind with h1|⟨h2,hne⟩
   ·have f1:(x.kind == 2)=false:=by rw[h1];rfl
    have HE0:aJ (useOne xs u x=cellF xs u x):=by show _=_;rw[useOne_eq,if_pos h1]
    clear h1;obtain ⟨BB,cB,eB,hBV⟩:=HU.o.rj;injection eB with eB1 eB2 eB3;subst eB1;clear eB2 eB3;(go_wp2_with fail);refine (c_spec_l6Find A (some ⟨w.heap.size,0,none⟩) d xs.length xs u x.a _ HA.o hBV HL.o).mono ?_;rintro e w1 ⟨rfl,rfl⟩;clear hBV;cases hf:findU xs u x.a
    ·have E:aJ (useOne xs u x=none):=by show _=_;rw[HE0.o];unfold cellF;rw[hf];rfl
     have E3:aJ (matchB xs goal=false):=by show _=_;unfold matchB;rw[HM.o,HMD.o,E.o];rfl
     clear hf;simp only[fndI];(go_wp2_with fail);(go_quiet (fail));(go_wp2_with fail);go_ret;exact ⟨zjD (by rw[E3.o]),HB.o.trans (btoB (w:=wr) bel hzr)⟩
    ·rename_i j;obtain ⟨hjl,hfr⟩:=findU_some hf;have hfu:=freeAt_used hfr;obtain ⟨yb,yo,rfl,lyb⟩:=HA.o.blt hjl;obtain ⟨y0,y1,y2⟩:=HA.o.cl hjl;rw[freeAt_of hjl HL.o,Bool.and_eq_true,decide_eq_true_eq] at hfr;have E:aJ (useOne xs u x=if xs[j]=x then some (u.set j true) else none):=by show _=_;rw[HE0.o];unfold cellF;rw[hf];simp only[Option.bind_some,List.getElem?_eq_getElem hjl,Option.getD_some]
     obtain ⟨y,hy⟩:∃ y,y=xs[j]:=⟨_,rfl⟩;rw[←hy] at y0 y1 y2 E hfr;have hya:=hfr.1;have hjx:(j:Int)<(xs.length:Int):=by omega
     have hj0:¬(j:Int)<0:=by omega
     have hkx:(k:Int)<(goal.length:Int):=by omega
     have HFU:=ax hfu;clear hf hy hfr hfu;rw[hya] at y1;simp only[fndI];by_cases e1:y.kind=x.kind
     ·by_cases e3:y.b=x.b
      ·have E2:aJ (useOne xs u x=some (u.set j true)):=by
        show _=_;rw[E.o,if_pos];cases y;cases x;simp_all
       have HMS:aJ (matchF xs (List.replicate xs.length false) goal=matchF xs (u.set j true) (goal.drop (k+1))):=by show _=_;rw[HM.o,HMD.o,E2.o];rfl
       rw[e1] at y0;rw[e3] at y2;clear e1 e3 hya;(go_wp2_with fail);(go_quiet (fail));obtain ⟨V,hV⟩:∃ V,V=wr.drewN nq:=⟨_,rfl⟩;have hWV:Below wr.heap.size wr V:=by rw[hV];exact bel
       rw[←hV];clear hV y0 y1 y2 g0 g1 g2;obtain ⟨g,cur,-,hgg,hgb,kg,hcm,hset⟩:=(HU.o.bz hWV).open_ (k:=j) HFU.o.1;injection hgg with hgg;injection hgg with hgg;subst hgg;have qg:V.cell? ⟨w.heap.size,j,none⟩=some (.bool false):=(kg.cell j).trans (hcm.trans (by rw[(List.getElem?_eq_some_iff.1 HFU.o.2).2]));have rg:=kg.frozen;have HSET:=ax (hset true);have HBV2:aJ (Below w.heap.size w V):=HB.o.trans (btoB hWV hzr);clear kg hcm hset;(go_wp2_with fail)
       go_round
       case rel=>exact ⟨k+1,u.set j true,by omega,by go_num,HMS,by show _=_;rw[List.length_set];exact HL.o,HSET.o,HBV2.o.setCell (p:=⟨w.heap.size,j,none⟩) (Nat.le_refl _) _⟩
       case measure=>simp[intOf];omega
      ·have e3':(y.b == x.b)=false:=by simpa using e3
       have E2:aJ (useOne xs u x=none):=by show _=_;rw[E.o,if_neg (fun e=>e3 (by rw[e]))]
       have E3:aJ (matchB xs goal=false):=by show _=_;unfold matchB;rw[HM.o,HMD.o,E2.o];rfl
       rw[e1] at y0;clear e1 e3 hya;(go_wp2_with fail);(go_quiet (fail));(go_wp2_with fail);go_ret;exact ⟨zjD (by rw[E3.o]),HB.o.trans (btoB (w:=wr) bel hzr)⟩
     ·have e1':(y.kind == x.kind)=false:=by simpa using e1
      have E2:aJ (useOne xs u x=none):=by show _=_;rw[E.o,if_neg (fun e=>e1 (by rw[e]))]
      have E3:aJ (matchB xs goal=false):=by show _=_;unfold matchB;rw[HM.o,HMD.o,E2.o];rfl
      clear e1 hya;(go_wp2_with fail);(go_quiet (fail));(go_wp2_with fail);go_ret;exact ⟨zjD (by rw[E3.o]),HB.o.trans (btoB (w:=wr) bel hzr)⟩
   ·have f1:(x.kind == 2)=true:=by rw[h2];rfl
    have HE0:aJ (useOne xs u x=chainG xs x.b (xs.length+1) u x.a):=by show _=_;rw[useOne_eq,if_neg (by omega),chainG_ne hne]
    clear h2 hne;(go_wp2_with fail);refine wp_region_noPanic ?_;refine wp_region_held_drew (S:=(fun w'=>w'.cell? ⟨gb,go_+k * 3+1,none⟩=some (.int .i64 x.a)∧w'.cell? ⟨gb,go_+k * 3+2,none⟩=some (.int .i64 x.b))) (by kernel_rfl) (⟨g1,g2⟩) (fun aH=>?_);refine tk2 0 rfl aH (h:=tk2 1 rfl aH (h:=tk2 2 rfl aH (h:=?_)));(try simp only[zz]);refine tk2 3 rfl aH (h:=tk2 4 rfl aH (h:=tk2 5 rfl aH (h:=?_)));(try simp only[zz]);refine tk2 6 rfl aH (h:=tk2 7 rfl aH (h:=tk2 8 rfl aH (h:=?_)));(try simp only[zz]);refine tk2 9 rfl aH (h:=tk2 10 rfl aH (h:=tk2 11 rfl aH (h:=?_)));refine rdc 12 rfl fun K hK=>?_;(try simp only[zz]);(go_simp;refine (c_spec_l6Chain A (some ⟨w.heap.size,0,none⟩) d xs.length xs u x.a x.b _ (HA.o.bz bel) (HU.o.bz bel) HL.o hhi (by simpa using hzr)).mono ?_;rintro e2 w2 ⟨rfl,hu,hM⟩;have hB2:Below w.heap.size w w2:=Below.trans (Below.trans HB.o (btoB (w:=wr) bel hzr)) (hM.bz (lo:=w.heap.size) (fun h e=>by cases e;exact Nat.le_refl _) (by simpa using hzr));have hG2:=HX.o w2 (H'.o.bz hB2));refine hK.out _ _ (⟨hG2.2.1,hG2.2.2⟩) ?_;clear aH hK K;intro aH;(try simp only[zz]);refine tk2 13 rfl aH (h:=?_);(try simp only[zz]);refine dn1 ?_;have HB2:=ax hB2;have HUU:=ax hu;rw[←HE0.o] at HUU ⊢;clear hB2 hu hM hG2 g0 g1 g2;cases hres:useOne xs u x
    ·have E3:aJ (matchB xs goal=false):=by show _=_;unfold matchB;rw[HM.o,HMD.o,hres];rfl
     clear hres;simp only[Option.isSome_none];(go_wp2_with fail);go_ret;exact ⟨zjD (by rw[E3.o]),HB2.o⟩
    ·rename_i u';have HR:=ax (HUU.o u' hres);have HMS:aJ (matchF xs (List.replicate xs.length false) goal=matchF xs u' (goal.drop (k+1))):=by show _=_;rw[HM.o,HMD.o,hres];rfl
     clear hres;simp only[Option.isSome_some];(go_wp2_with fail)
     go_round
     case rel=>exact ⟨k+1,u',by omega,by go_num,HMS,HR.o.2,HR.o.1,HB2⟩
     case measure=>simp[intOf];omega
  ·obtain rfl:k=goal.length:=by omega
   have E3:aJ (matchB xs goal=u.all id):=by show _=_;unfold matchB;rw[HM.o,matchF_end]
   obtain ⟨BB,cB,eB,hBV⟩:=HU.o.rj;injection eB with eB1 eB2 eB3;subst eB1;clear eB2 eB3;have HBV:=ax hBV;clear hBV;(go_wp2_with fail)
   go_loopw [8] (fun i w2=>∃ j:Nat,j≤xs.length∧i=.int .i64 j∧w2=wr∧aJ (u.all id=(u.drop j).all id)) (fun i _=>xs.length - (intOf i).toNat)
   case atStart=>exact ⟨0,Nat.zero_le _,rfl,rfl,rfl⟩
   case round=>
    obtain ⟨j,hj,rfl,rfl,HJ⟩:=hrel;by_cases hjl:j<xs.length
    ·have hju:j<u.length:=by rw[HL.o];exact hjl
     have qu:=HBV.o.cl (k:=j) hju;rw[Nat.zero_add] at qu;have HS:=ax (all_step u j hju);have hjx:(j:Int)<(xs.length:Int):=by omega
     cases huj:u[j]
     ·have E4:aJ (matchB xs goal=false):=by show _=_;rw[E3.o,HJ.o,HS.o,huj];rfl
      rw[huj] at qu;clear huj;(go_wp2_with fail);go_ret;exact ⟨zjD (by rw[E4.o]),HB.o⟩
     ·have HJ2:aJ (u.all id=(u.drop (j+1)).all id):=by show _=_;rw[HJ.o,HS.o,huj];rfl
      rw[huj] at qu;clear huj;(go_wp2_with fail)
      go_round
      case rel=>exact ⟨j+1,by omega,by go_num,trivial,HJ2⟩
      case measure=>simp[intOf];omega
    ·obtain rfl:j=xs.length:=by omega
     have E4:aJ (matchB xs goal=true):=by show _=_;rw[E3.o,HJ.o,←HL.o,List.drop_length];rfl
     (go_wp2_with fail);go_ret;exact ⟨zjD (by rw[E4.o]),HB.o⟩
end
section
open Go Go.RowKit Go.Proofs
attribute [local go_sem ↓] Go.wp_at_zero Go.wp_at_succ
attribute [local go_sem] Oper.semAt_some
def failF (a b:Asn):Option (List Int):=(cases a (caseS a (tset (mz b)))).find? fun c=>!entB a b c
theorem find_pre {L p:List (List Int)} {x:List Int} {f:List Int→Bool} (h:(p++[x]) <+: L) (hp:∀ y∈p,f y=false) (hx:f x=true):L.find? f=some x:=by
 obtain ⟨zs,rfl⟩:=h;rw[List.append_assoc,List.find?_append];have h0:p.find? f=none:=by rw[List.find?_eq_none];intro y hy;simp[hp y hy]
 rw[h0];simp[hx]
theorem c_impl_failingCase {lo hi lo' hi':Nat} (v v':Value) (a b:Asn) (w:World) (h:AsnV w lo hi v a) (h':AsnV w lo' hi' v' b) (hhi:hi≤w.heap.size) (hhi':hi'≤w.heap.size) (ha:a.valid=true) (hb:b.valid=true) :
  Calls Tryz.prog 89 #[v,v'] w fun e w'=>e=.returned (.tuple #[.agg (case9 ((failF a b).getD zeros)),.bool (failF a b).isSome])∧Below w.heap.size w w':=by
 have hV:=ax h;have hV':=ax h';obtain ⟨A1,c1,A2,c2,rfl,-,-⟩:=h;obtain ⟨A3,c3,A4,c4,rfl,-,-⟩:=h';have HVA:=ax ha;have HVB:=ax hb;have hT5:tset (mz b)<512:=tset_lt (mz b);have HT5:=ax hT5;clear ha hb hT5;refine (callsIn_wide (n:=3)).1 ?_;(refine callsIn_of_wp_marks Tryz.func89 rfl trivial ?_ rfl;simp only[Tryz.ntmps89,List.size_toArray,List.length_cons,List.length_nil,Nat.reduceAdd,Nat.reduceSub,Array.replicate_succ,Array.replicate_zero,List.push_toArray,List.append_toArray,List.nil_append,List.cons_append])
 gi_wp2_with fail
 refine wpIn_wide.2 ?_;refine wp_region_noPanic ?_;refine wp_region_held_drew (S:=(fun w'=>(∀ i,w'.cell? ⟨w.heap.size,i,none⟩=#[.slice A1 a.facts.length c1,.slice A2 a.atoms.length c2][i]?)∧(∀ i,w'.cell? ⟨w.heap.size+1,i,none⟩=#[.slice A3 b.facts.length c3,.slice A4 b.atoms.length c4][i]?))) (by kernel_rfl) (⟨Blk.cell blks,Blk.cell blks⟩) (fun aH=>?_);refine tk2 0 rfl aH (h:=tk2 1 rfl aH (h:=?_));refine rdc 2 rfl fun K hK=>?_;(try simp only[zz]);(go_simp;refine (c_impl_termsIn _ b _ (hV'.o.bz bel)).mono ?_;rintro e w1 ⟨rfl,hB1⟩;have k0:Blk w1 w.heap.size tAs #[.slice A1 a.facts.length c1,.slice A2 a.atoms.length c2]:=Blk.nz blks hB1;have k1:Blk w1 (w.heap.size+1) tAs #[.slice A3 b.facts.length c3,.slice A4 b.atoms.length c4]:=Blk.nz blks hB1;have kR0:Blk w1 (w.heap.size+1+1) tTc #[.int .i64 0,.int .i64 0,.int .i64 0,.int .i64 0,.int .i64 0,.int .i64 0,.int .i64 0,.int .i64 0,.int .i64 0]:=Blk.nz blks hB1;have kO:Blk w1 (w.heap.size+1+1+1) 4 #[.bool false]:=Blk.nz blks hB1;have hB:=bgo (w:=w) bel hB1);refine hK.out _ _ (⟨k0.cell,k1.cell⟩) ?_;clear aH hK K;intro aH;refine rdc 3 rfl fun K hK=>?_;(try simp only[zz]);(go_simp;refine (c_impl_possibleCases A1 A2 c1 c2 a (tset (mz b)) _ (hV.o.bz bel) HT5.o).mono ?_;rintro e w2 ⟨gA,gT,rfl,hA,hT,kA,kT,hB2⟩;replace k0:=k0.nz hB2;replace k1:=k1.nz hB2;replace kR0:=kR0.nz hB2;replace kO:=kO.nz hB2;have hz1:=hB.size;replace hB:=bgo hB hB2);refine hK.out _ _ (⟨k0.cell,k1.cell⟩) ?_;clear aH hK K;intro aH;(try simp only[zz]);refine dn1 ?_;have kR:Blk w2 (w.heap.size+1+1) tTc (case9 zeros):=kR0;have hzO:=kO.lt;have hz:=hB.size;have hAw:=hV.o.bz hB;clear kR0 hB2 hB1
 gi_wp2_with fail
 refine wp_rangeT (gf:=201) (lb:=#[.pointer (some ⟨gA,0,none⟩),.pointer (some ⟨gT,0,none⟩)]) rfl (enters_of Tryz.func201 (by kernel_rfl) rfl)
  (c_seq (n₀:=w.heap.size) w2 HVA.o HT5.o hAw hhi (by omega) kA kT) (fun h k=>h.trans k) (Kept.putl (by omega)) (Below.refl _ _) (fun _=>rfl)
  (fun pre W=>aJ (∀ y∈pre,entB a b y.1=true)∧Blk W (w.heap.size+1+1) tTc (case9 zeros)∧Blk W (w.heap.size+1+1+1) 4 #[.bool false]∧Blk W w.heap.size tAs #[.slice A1 a.facts.length c1,.slice A2 a.atoms.length c2]∧Blk W (w.heap.size+1) tAs #[.slice A3 b.facts.length c3,.slice A4 b.atoms.length c4]∧Below w.heap.size w W)
  (fun c pre W=>∃ p x,c=.ret∧pre=p++[x]∧aJ (∀ y∈p,entB a b y.1=true)∧aJ (entB a b x.1=false)∧Blk W (w.heap.size+1+1) tTc (case9 x.1)∧Blk W (w.heap.size+1+1+1) 4 #[.bool true]∧Below w.heap.size w W)
  (fun s X Y row hs hg hr=>by
   obtain ⟨e1,k1,k2,k3,k4,k5⟩:=hs
   exact ⟨e1,k1.turn hg hr (Or.inr (by omega)),k2.turn hg hr (Or.inr (by omega)),k3.turn hg hr (Or.inr (by omega)),k4.turn hg hr (Or.inr (by omega)),Below.turn k5 hg hr (by omega) k5.size⟩)
  (fun c s X Y row hs hg hr=>by
   obtain ⟨p,x,e1,e2,e3,e4,k1,k2,k3⟩:=hs
   exact ⟨p,x,e1,e2,e3,e4,k1.turn hg hr (Or.inr (by omega)),k2.turn hg hr (Or.inr (by omega)),Below.turn k3 hg hr (by omega) k3.size⟩)
  ⟨fun y hy=>absurd hy (by simp),kR,kO,k0,k1,hB⟩ ?round ?done ?stop
 case round=>
  rintro l pre x W hl ⟨HP,kR,kO,k0,k1,hB⟩ -;have hwz:=hB.size
  gi_wp2
  refine ⟨(KeepsOthers.alloc _ _).from _,Kept.alloc (by omega) _,fun o o' ho hc=>?_⟩;have kX:=(Blk.new W tTc (case9 x.1)).putl o' ho hc;have lO:=kO.lt;replace kR:=(kR.alloc (.cells (case9 x.1) tTc)).putl o' ho hc;replace kO:=(kO.alloc (.cells (case9 x.1) tTc)).putl o' ho hc;replace k0:=(k0.alloc (.cells (case9 x.1) tTc)).putl o' ho hc;replace k1:=(k1.alloc (.cells (case9 x.1) tTc)).putl o' ho hc;have hB':=(bbox hB (.cells (case9 x.1) tTc)).trans (Kept.put (T1:=tTc) (T2:=tAs) (n₀:=w.heap.size) o' (by omega) ho hc).bz;clear ho;obtain ⟨V,hVe⟩:∃ V,V=(W.alloc (.cells (case9 x.1) tTc)).putObj l o':=⟨_,rfl⟩;rw[←hVe] at kX kR kO k0 k1 hB' ⊢;clear hVe hB;obtain ⟨p0,p1,p2,p3,p4,p5,p6,p7,p8⟩:=case9_cells kX;have q0:=k0.cell;have q1:=k1.cell;have hxl:=ax x.len
  gi_wp2_with fail
  refine ⟨trivial,(CallsIn.inRound l (callsIn_wide.2 (c_impl_matchCase _ _ a b x.1 _ (hV.o.bz hB') (hV'.o.bz hB') HVA.o HVB.o hxl.o))).mono ?_⟩;rintro e w3 ⟨r,rfl,hB3⟩;replace kX:=kX.nz hB3;replace kR:=kR.nz hB3;replace kO:=kO.nz hB3;replace k0:=k0.nz hB3;replace k1:=k1.nz hB3;have hBV:=bgo hB' hB3;have hz3:=hBV.size;have hzV:=hB'.size;have hKV:Kept tTc tAs w.heap.size V w3:=Kept.nz hB3 hzV;have hKF:KeepsOthers V w3:=(KX.of hB3).keeps;clear q0 q1 p0 p1 p2 p3 p4 p5 p6 p7 p8 hB3;cases he:entB a b x.1
  ·have HE:=ax he;clear he;obtain ⟨p0,p1,p2,p3,p4,p5,p6,p7,p8⟩:=case9_cells kX;obtain ⟨q0,q1,q2,q3,q4,q5,q6,q7,q8⟩:=case9_cells kR;have rR:=kR.frozen;have qO:=kO.cell 0;have rO:=kO.frozen
   gi_wp2
   refine ⟨(hKF.trans (keeps9.trans (KeepsOthers.setCell _ _ _))).from _,pre,x,rfl,rfl,HP,HE,?_,?_,?_⟩
   ·exact (Blk.nine kR).far (p:=⟨w.heap.size+1+1+1,0,none⟩) (by simp) _
   ·exact (kO.nineFar (by omega)).set_ 0 (.bool true)
   ·exact (below9 hBV (by omega)).setCell (p:=⟨w.heap.size+1+1+1,0,none⟩) (by simp only;omega) _
  ·have HE:aJ (∀ y∈pre++[x],entB a b y.1=true):=fun y hy=>by
    rcases List.mem_append.1 hy with hy|hy
    ·exact HP.o y hy
    ·rw[List.mem_singleton.1 hy];exact he
   clear he
   gi_wp2
   exact ⟨hKF.from _,hKV,HE,kR,kO,k0,k1,hBV⟩
 case done=>
  rintro D ys W hD hS ⟨HP,kR,kO,k0,k1,hB⟩ hK
  have E:aJ (failF a b=none):=by
   show _=_;unfold failF;rw[←hS,List.find?_eq_none];intro y hy;obtain ⟨z,hz,rfl⟩:=List.mem_map.1 hy;simp[HP.o z hz]
  clear hS k0 k1;obtain ⟨q0,q1,q2,q3,q4,q5,q6,q7,q8⟩:=case9_cells kR;have rR:=kR.frozen;have qO:=kO.cell 0;have rO:=kO.frozen;have lO:=kO.lt;have lR:=kR.lt
  gi_wp2
  have zR:=(Blk.nine (v0:=.int .i64 0) (v1:=.int .i64 0) (v2:=.int .i64 0) (v3:=.int .i64 0) (v4:=.int .i64 0) (v5:=.int .i64 0) (v6:=.int .i64 0) (v7:=.int .i64 0) (v8:=.int .i64 0) kR).far (p:=⟨w.heap.size+1+1+1,0,none⟩) (by simp) (.bool false);have zO:=(kO.nineFar (g:=w.heap.size+1+1) (v0:=.int .i64 0) (v1:=.int .i64 0) (v2:=.int .i64 0) (v3:=.int .i64 0) (v4:=.int .i64 0) (v5:=.int .i64 0) (v6:=.int .i64 0) (v7:=.int .i64 0) (v8:=.int .i64 0) (by omega)).set_ 0 (.bool false);have zB:=(below9 (g:=w.heap.size+1+1) (v0:=.int .i64 0) (v1:=.int .i64 0) (v2:=.int .i64 0) (v3:=.int .i64 0) (v4:=.int .i64 0) (v5:=.int .i64 0) (v6:=.int .i64 0) (v7:=.int .i64 0) (v8:=.int .i64 0) hB (by omega)).setCell (p:=⟨w.heap.size+1+1+1,0,none⟩) (by simp only;omega) (.bool false);have zK:=((keeps9 (w:=W) (g:=w.heap.size+1+1) (v0:=.int .i64 0) (v1:=.int .i64 0) (v2:=.int .i64 0) (v3:=.int .i64 0) (v4:=.int .i64 0) (v5:=.int .i64 0) (v6:=.int .i64 0) (v7:=.int .i64 0) (v8:=.int .i64 0)).trans (KeepsOthers.setCell _ ⟨w.heap.size+1+1+1,0,none⟩ (.bool false))).same D _ hK rfl;obtain ⟨V,hVe⟩:∃ V,V=((set9 W (w.heap.size+1+1) (.int .i64 0) (.int .i64 0) (.int .i64 0) (.int .i64 0) (.int .i64 0) (.int .i64 0) (.int .i64 0) (.int .i64 0) (.int .i64 0)).setCell ⟨w.heap.size+1+1+1,0,none⟩ (.bool false)):=⟨_,rfl⟩;rw[←hVe] at zR zO zB zK ⊢;refine ⟨by simp,.inl ⟨_,_,rfl,run_takeDeferred zK,?_⟩⟩;have yR:Blk _ _ _ (case9 zeros):=zR.putl (.deferred none) zK rfl;have yO:=zO.putl (.deferred none) zK rfl;obtain ⟨p0,p1,p2,p3,p4,p5,p6,p7,p8⟩:=case9_cells yR;have pO:=yO.cell 0;refine ⟨.tuple #[.agg (case9 zeros),.bool false],?_,by rw[E.o];rfl,zB.trans (belowK_b (w:=w) (Nat.le_refl _) V D _ _ (by omega) zK rfl rfl)⟩;simp[results,Tryz.f89,go_sem,p0,p1,p2,p3,p4,p5,p6,p7,p8,pO]
 case stop=>
  rintro D c pre W hD hS ⟨p,x,rfl,rfl,HP,HE,kR,kO,hB⟩ hK
  have E:aJ (failF a b=some x.1):=by
   show _=_;unfold failF;rw[List.map_append,List.map_cons,List.map_nil] at hS;refine find_pre hS (fun y hy=>?_) (by simp[HE.o]);obtain ⟨z,hz,rfl⟩:=List.mem_map.1 hy;simp[HP.o z hz]
  clear hS;obtain ⟨q0,q1,q2,q3,q4,q5,q6,q7,q8⟩:=case9_cells kR;have qO:=kO.cell 0;have lO:=kO.lt;have lR:=kR.lt
  gi_wp2
  refine ⟨by simp,.inl ⟨_,_,rfl,run_takeDeferred hK,?_⟩⟩;have yR:=kR.putl (.deferred none) hK rfl;have yO:=kO.putl (.deferred none) hK rfl;obtain ⟨p0,p1,p2,p3,p4,p5,p6,p7,p8⟩:=case9_cells yR;have pO:=yO.cell 0;refine ⟨.tuple #[.agg (case9 x.1),.bool true],?_,by rw[E.o];rfl,hB.trans (belowK_b (w:=w) (Nat.le_refl _) W D _ _ (by omega) hK rfl rfl)⟩;simp[results,Tryz.f89,go_sem,p0,p1,p2,p3,p4,p5,p6,p7,p8,pO]
end
section
open Go Go.RowKit Go.Proofs
attribute [local go_sem ↓] Go.wp_at_zero Go.wp_at_succ
def caseB (a b:Asn) (c:List Int):Bool:=fitsS c b.facts&&matchB (filledL a.atoms c) (filledL b.atoms c)
theorem filled_goal {b:Asn} (hb:b.valid=true) (c:List Int):∀ x∈filledL b.atoms c,x.kind=1∨(x.kind=2∧x.a≠x.b):=by
 intro x hx;unfold filledL at hx;obtain ⟨y,hy,rfl⟩:=List.mem_map.1 hx;obtain ⟨hy1,hy2⟩:=List.mem_filter.1 hy
 have hv:y.valid=true:=by
  simp only[Asn.valid,Bool.and_eq_true,List.all_eq_true] at hb;exact hb.2.2 y hy1
 simp only[Atm.valid,Bool.and_eq_true,decide_eq_true_eq] at hv;rcases hv.1.1 with h|h
 ·exact Or.inl h
 ·refine Or.inr ⟨h,fun e=>?_⟩;unfold Atm.fill at hy2;rw[h] at hy2;simp only[Atm.cls] at e;simp[e] at hy2
theorem c_spec_l6Case {lo hi lo' hi' lo2 hi2:Nat} (v v':Value) (B:Option Addr) (cc:Nat) (a b:Asn) (c:List Int) (w:World) (h:AsnV w lo hi v a) (h':AsnV w lo' hi' v' b) (hi_:IntsV w lo2 hi2 B c) (ha:a.valid=true) (hb:b.valid=true) (hc:c.length=9) :
  Calls Tryz.prog 247 #[v,v',.slice B 9 cc] w fun e w'=>e=.returned (.bool (caseB a b c))∧Below w.heap.size w w':=by
 have HA:=ax (Asn.valid_ok ha);have HBV:=ax (Asn.valid_ok hb);have HC:=ax hc;have HI:=ax hi_;have HGO:=ax (filled_goal hb c);have hal:=(zjC ha).2;obtain ⟨A1,c1,A2,c2,rfl,h1,h2⟩:=h;obtain ⟨A3,c3,A4,c4,rfl,h3,h4⟩:=h';have H2:=ax h2;have H3:=ax h3;have H4:=ax h4;have HXL:=ax (filledL_len a.atoms c);have HE:aJ (caseB a b c=(fitsS c b.facts&&matchB (filledL a.atoms c) (filledL b.atoms c))):=rfl;clear h1 h2 h3 h4 ha hb hc hi_;(go_enter Tryz.func247,Tryz.ntmps247);have k0:Blk ((w.alloc (.cells #[.slice A1 a.facts.length c1,.slice A2 a.atoms.length c2] tAs)).alloc (.cells #[.slice A3 b.facts.length c3,.slice A4 b.atoms.length c4] tAs)) w.heap.size tAs #[.slice A1 a.facts.length c1,.slice A2 a.atoms.length c2]:=blks;have k1:Blk ((w.alloc (.cells #[.slice A1 a.facts.length c1,.slice A2 a.atoms.length c2] tAs)).alloc (.cells #[.slice A3 b.facts.length c3,.slice A4 b.atoms.length c4] tAs)) (w.heap.size+1) tAs #[.slice A3 b.facts.length c3,.slice A4 b.atoms.length c4]:=blks;(go_wp2_with fail);cases hf:fitsS c b.facts
 ·have E:aJ (caseB a b c=false):=by show _=_;rw[HE.o,hf];rfl
  have HF:=ax hf;clear hf;refine wp_region_noPanic ?_;refine wp_region_held_drew (S:=(fun w'=>(∀ i,w'.cell? ⟨w.heap.size,i,none⟩=#[.slice A1 a.facts.length c1,.slice A2 a.atoms.length c2][i]?)∧(∀ i,w'.cell? ⟨w.heap.size+1,i,none⟩=#[.slice A3 b.facts.length c3,.slice A4 b.atoms.length c4][i]?))) (by kernel_rfl) (⟨Blk.cell blks,Blk.cell blks⟩) (fun aH=>?_);refine tk2 0 rfl aH (h:=tk2 1 rfl aH (h:=tk2 2 rfl aH (h:=?_)));refine rdc 3 rfl fun K hK=>?_;(try simp only[zz]);(go_simp;refine (c_fits9 A3 B c3 cc b.facts c _ (H3.o.bz bel) (HI.o.bz bel) HC.o HBV.o.1).mono ?_;rintro e w1 ⟨rfl,rfl⟩;rw[HF.o]);refine hK.out _ _ (⟨Blk.cell blks,Blk.cell blks⟩) ?_;clear aH hK K;intro aH;(try simp only[zz]);refine tk2 4 rfl aH (h:=?_);(try simp only[zz]);refine tku 5 rfl aH ?_;(try simp only[zz]);refine tku 6 rfl aH ?_;(try simp only[zz]);refine tku 7 rfl aH ?_;(try simp only[zz]);refine tku 8 rfl aH ?_;(try simp only[zz]);refine tku 9 rfl aH ?_;(try simp only[zz]);refine tku 10 rfl aH ?_;(try simp only[zz]);refine tku 11 rfl aH ?_;(try simp only[zz]);refine tku 12 rfl aH ?_;(try simp only[zz]);refine tku 13 rfl aH ?_;(try simp only[zz]);refine tk2 14 rfl aH (h:=tk2 15 rfl aH (h:=?_));(try simp only[zz]);refine dn1 ?_;(go_wp2_with fail);go_ret;exact ⟨zjD (by rw[E.o]),bel⟩
 ·have E:aJ (caseB a b c=matchB (filledL a.atoms c) (filledL b.atoms c)):=by show _=_;rw[HE.o,hf];rfl
  have HF:=ax hf;clear hf;refine wp_region_noPanic ?_;refine wp_region_held_drew (S:=(fun w'=>(∀ i,w'.cell? ⟨w.heap.size,i,none⟩=#[.slice A1 a.facts.length c1,.slice A2 a.atoms.length c2][i]?)∧(∀ i,w'.cell? ⟨w.heap.size+1,i,none⟩=#[.slice A3 b.facts.length c3,.slice A4 b.atoms.length c4][i]?))) (by kernel_rfl) (⟨Blk.cell blks,Blk.cell blks⟩) (fun aH=>?_);refine tk2 0 rfl aH (h:=tk2 1 rfl aH (h:=tk2 2 rfl aH (h:=?_)));refine rdc 3 rfl fun K hK=>?_;(try simp only[zz]);(go_simp;refine (c_fits9 A3 B c3 cc b.facts c _ (H3.o.bz bel) (HI.o.bz bel) HC.o HBV.o.1).mono ?_;rintro e w1 ⟨rfl,rfl⟩;rw[HF.o]);refine hK.out _ _ (⟨Blk.cell blks,Blk.cell blks⟩) ?_;clear aH hK K;intro aH;(try simp only[zz]);refine tk2 4 rfl aH (h:=tk2 5 rfl aH (h:=tk2 6 rfl aH (h:=?_)));(try simp only[zz]);refine tk2 7 rfl aH (h:=tk2 9 rfl aH (h:=tk2 10 rfl aH (h:=?_)));(try simp only[zz]);refine tk2 11 rfl aH (h:=?_);refine rdc 8 rfl fun K hK=>?_;(try simp only[zz]);(go_simp;refine (c_filled9 A2 B c2 cc a.atoms c _ (H2.o.bz bel) (HI.o.bz bel) HC.o HA.o.2).mono ?_;rintro e w2 ⟨r2,rfl,o2,hB2⟩;obtain ⟨X2,x2,rfl,v2⟩:=o2.rj;have hBx:=bgo (w:=w) bel hB2;replace k0:=Blk.nz (g:=w.heap.size) blks hB2;replace k1:=Blk.nz (g:=w.heap.size+1) blks hB2);refine hK.out _ _ (⟨Blk.cell blks,Blk.cell blks⟩) ?_;clear aH hK K;intro aH;refine rdc 12 rfl fun K hK=>?_;(try simp only[zz]);(go_simp;refine (c_filled9 A4 B c4 cc b.atoms c _ (H4.o.bz bel) (HI.o.bz bel) HC.o HBV.o.2).mono ?_;rintro e w3 ⟨r3,rfl,o3,hB3⟩;obtain ⟨X3,x3,rfl,v3⟩:=o3.rj;have hz3:=hB3.size;have hBy:=bgo (w:=w) hBx hB3;have v2':=v2.bz hB3;replace k0:=Blk.nz (g:=w.heap.size) blks hB3;replace k1:=Blk.nz (g:=w.heap.size+1) blks hB3);refine hK.out _ _ (⟨Blk.cell blks,Blk.cell blks⟩) ?_;clear aH hK K;intro aH;refine rdc 13 rfl fun K hK=>?_;(try simp only[zz]);(go_simp;refine (c_spec_l6Match X2 X3 x2 x3 (filledL a.atoms c) (filledL b.atoms c) _ (AtomsV.bz v2' bel) (AtomsV.bz v3 bel) (by first|omega|(simp;omega)) (by first|exact Nat.le_refl _|(simp)) (by have:=HXL.o;omega) HGO.o).mono ?_;rintro e w4 ⟨rfl,hB4⟩;have hBz:=bgo (w:=w) hBy hB4;replace k0:=Blk.nz (g:=w.heap.size) blks hB4;replace k1:=Blk.nz (g:=w.heap.size+1) blks hB4);refine hK.out _ _ (⟨Blk.cell blks,Blk.cell blks⟩) ?_;clear aH hK K;intro aH;(try simp only[zz]);refine tk2 14 rfl aH (h:=tk2 15 rfl aH (h:=?_));(try simp only[zz]);refine dn1 ?_;(go_wp2_with fail);go_ret;exact ⟨zjD (by rw[E.o]),hBz⟩
end
section
open Go
theorem caseB_ent {a b:Asn} (hb:b.valid=true) {c:List Int} (hc:c∈cases a (caseS a (tset (mz b)))):caseB a b c=entB a b c:=by
 have hok:=Asn.valid_ok hb
 have hpos:∀ t∈mz b,0≤t∧t≤8→0≤cl c t:=by
  intro t ht h8;obtain ⟨n,rfl⟩:=Int.eq_ofNat_of_zero_le h8.1;refine ((CaseT.pos (a:=a) ⟨c,hc⟩ n (by omega)).1 ?_).1;rw[caseS_bit]
  have:(tset (mz b)).testBit n=true:=by
   rw[tset_bit];simp only[decide_eq_true_eq];exact ⟨termsL_ok hb _ ht,ht⟩
  simp[this]
 unfold caseB entB
 congr 1
 unfold fitsS
 have e:∀ f∈b.facts,(!(decide (0≤cl c f.a)&&decide (0≤cl c f.b) && !f.fits c))=f.fits c:=by
  intro f hf;have h1:=hok.1 f hf;have ht:=termsL_facts hf;rw[decide_eq_true (hpos _ ht.1 h1.1),decide_eq_true (hpos _ ht.2 h1.2)];simp
 rw[Bool.eq_iff_iff,List.all_eq_true,List.all_eq_true];constructor
 ·intro h f hf;rw[←e f hf];exact h f hf
 ·intro h f hf;rw[e f hf];exact h f hf
theorem head_filter {α:Type} (p:α→Bool) (l:List α):(l.filter p).head? = l.find? p:=by
 induction l with
 | nil=>rfl
 | cons x xs ih=>cases h:p x<;>simp[List.filter_cons,List.find?_cons,h,ih]
theorem failF_eq {a b:Asn} (hb:b.valid=true):((cases a (caseS a (tset (mz b)))).filter fun c=>!caseB a b c).head? = failF a b:=by
 rw[head_filter];unfold failF
 have:∀ (l:List (List Int)),(∀ c∈l,caseB a b c=entB a b c)→(l.find? fun c=>!caseB a b c)=l.find? fun c=>!entB a b c:=by
  intro l
  induction l with
  | nil=>intro _;rfl
  | cons x xs ih=>
   intro h;rw[List.find?_cons,List.find?_cons,h x List.mem_cons_self,ih fun y hy=>h y (List.mem_cons_of_mem _ hy)]
 exact this _ fun c hc=>caseB_ent hb hc
end
end Go.Proofs.YtjaohekkmlkinaaGreat
