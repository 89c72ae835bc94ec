/- Contracts: the spec's match of a case. -/
import Derived.Test.YtgdfdmjnadnlnaaGreatMFailW
set_option linter.unusedSimpArgs false
set_option linter.unusedVariables false
set_option maxRecDepth 100000
set_option maxHeartbeats 25600000
namespace Go.Proofs.YtgdfdmjnadnlnaaGreat
section
open Go Go.RowKit Go.Proofs
attribute [local go_sem ↓] Go.wp_at_zero Go.wp_at_succ
theorem chainG_ne {xs:List Atm} {b:Int} {n:Nat} {used:List Bool} {c:Int} (h:c≠b):chainG xs b n used c=chainF xs b n used c:=by unfold chainG;rw[if_neg h]
theorem made6 (n:Nat) (h:n≤6):madeCells #[.bool false] (n * 1)=Array.replicate n (.bool false):=by
 obtain rfl|rfl|rfl|rfl|rfl|rfl|rfl:n=0∨n=1∨n=2∨n=3∨n=4∨n=5∨n=6:=by omega
 all_goals kernel_rfl
theorem mkBn (n:Nat) (h:n≤6) (w:World):(Instr.makeSlice 116 (.int .i64 (n:Int)) (.int .i64 (n:Int))).run Tryz.prog w=.ok (.slice (some ⟨w.heap.size,0,none⟩) n n) (w.alloc (.cells (Array.replicate n (.bool false)) tB)):=
 (mkB n (by simp[Lim];omega) w).trans (by rw[made6 n h])
theorem BoolsO.made {w:World} {n:Nat} (h:n≤6):BoolsO (w.alloc (.cells (Array.replicate n (.bool false)) tB)) w.heap.size (.slice (some ⟨w.heap.size,0,none⟩) n n) (List.replicate n false):=
 ⟨by simpa using own_of_blk (n:=n) (cap:=n) (size:=1) (L:=encB (List.replicate n false)) (Blk.new w tB (Array.replicate n (.bool false))) (Nat.le_refl _) (by simp[encB]) (by intro j hj;simp[encB,List.getElem?_replicate,Array.getElem?_replicate]) (Nat.le_refl _) (Nat.le_trans h (by decide)) (by simp),by simp[Lim];omega⟩
theorem all_step (u:List Bool) (j:Nat) (hj:j<u.length):(u.drop j).all id=(u[j]&&(u.drop (j+1)).all id):=by
 rw[List.drop_eq_getElem_cons hj];rfl
theorem c_spec_l6Match {lo hi lo' hi':Nat} (A B:Option Addr) (d e:Nat) (xs goal:List Atm) (w:World) (h:AtomsV w lo hi A xs) (h':AtomsV w lo' hi' B goal) (hhi:hi≤w.heap.size) (hhi':hi'≤w.heap.size) (hl6:xs.length≤6) (hg:∀ x∈goal,x.kind=1∨(x.kind=2∧x.a≠x.b)) :
  Calls Tryz.prog 266 #[.slice A xs.length d,.slice B goal.length e] w fun e w'=>e=.returned (.bool (matchB xs goal))∧Below w.heap.size w w':=by
 have hl:=h.le;have hl':=h'.le;have H:=ax h;have H':=ax h';have HG:=ax hg;have HM0:=ax (BoolsO.made (w:=w) hl6);have hmk:=mkBn xs.length hl6;clear h h' hg;(go_enter Tryz.func266,Tryz.ntmps266);go_wp2;clear hmk
 go_loopw [6] (fun i wr=>∃ (k:Nat) (u:List Bool),k≤goal.length∧i=.int .i64 k∧aJ (matchF xs (List.replicate xs.length false) goal=matchF xs u (goal.drop k))∧aJ (u.length=xs.length)∧aJ (BoolsO wr w.heap.size (.slice (some ⟨w.heap.size,0,none⟩) xs.length xs.length) u)∧aJ (Below w.heap.size w wr)) (fun i _=>goal.length - (intOf i).toNat)
 case atStart=>exact ⟨0,List.replicate xs.length false,Nat.zero_le _,rfl,rfl,by show _=_;simp,HM0.o,(show Below _ _ _ from bel)⟩
 case round=>
  obtain ⟨k,u,hk,rfl,HM,HL,HU,HB⟩:=hrel;have hzr:=HB.o.size;have HA:aJ (AtomsV wr lo hi A xs):=H.o.bz HB.o;have HGV:aJ (AtomsV wr lo' hi' B goal):=H'.o.bz HB.o;by_cases hlt:k<goal.length
  ·obtain ⟨gb,go_,rfl,lgb⟩:=HGV.o.blt hlt;obtain ⟨g0,g1,g2⟩:=HGV.o.cl hlt;have HMD:=ax (matchF_drop xs u goal k hlt);have hkind:=HG.o _ (List.getElem_mem hlt);have HX:=ax (fun (w':World) (hv:AtomsV w' lo' hi' (some ⟨gb,go_,none⟩) goal)=>hv.cl hlt);obtain ⟨x,hx⟩:∃ x,x=goal[k]:=⟨_,rfl⟩;rw[←hx] at g0 g1 g2 HMD hkind HX;clear hx;rcases hkind with h1|⟨h2,hne⟩
   ·have f1:(x.kind == 2)=false:=by rw[h1];rfl
    have HE0:aJ (useOne xs u x=cellF xs u x):=by show _=_;rw[useOne_eq,if_pos h1]
    clear h1;obtain ⟨BB,cB,eB,hBV⟩:=HU.o.reads;injection eB with eB1 eB2 eB3;subst eB1;clear eB2 eB3;(go_wp2_with fail);refine (c_spec_l6Find A (some ⟨w.heap.size,0,none⟩) d xs.length xs u x.a _ HA.o hBV HL.o).mono ?_;rintro e w1 ⟨rfl,rfl⟩;clear hBV;cases hf:findU xs u x.a
    ·have E:aJ (useOne xs u x=none):=by show _=_;rw[HE0.o];unfold cellF;rw[hf];rfl
     have E3:aJ (matchB xs goal=false):=by show _=_;unfold matchB;rw[HM.o,HMD.o,E.o];rfl
     clear hf;simp only[fndI];(go_wp2_with fail);(go_quiet (fail));(go_wp2_with fail);go_ret;exact ⟨ret_bool (by rw[E3.o]),HB.o.trans (btoB (w:=wr) bel hzr)⟩
    ·rename_i j;obtain ⟨hjl,hfr⟩:=findU_some hf;have hfu:=freeAt_used hfr;obtain ⟨yb,yo,rfl,lyb⟩:=HA.o.blt hjl;obtain ⟨y0,y1,y2⟩:=HA.o.cl hjl;rw[freeAt_of hjl HL.o,Bool.and_eq_true,decide_eq_true_eq] at hfr;have E:aJ (useOne xs u x=if xs[j]=x then some (u.set j true) else none):=by show _=_;rw[HE0.o];unfold cellF;rw[hf];simp only[Option.bind_some,List.getElem?_eq_getElem hjl,Option.getD_some]
     obtain ⟨y,hy⟩:∃ y,y=xs[j]:=⟨_,rfl⟩;rw[←hy] at y0 y1 y2 E hfr;have hya:=hfr.1;have hjx:(j:Int)<(xs.length:Int):=by omega
     have hj0:¬(j:Int)<0:=by omega
     have hkx:(k:Int)<(goal.length:Int):=by omega
     have HFU:=ax hfu;clear hf hy hfr hfu;rw[hya] at y1;simp only[fndI];by_cases e1:y.kind=x.kind
     ·by_cases e3:y.b=x.b
      ·have E2:aJ (useOne xs u x=some (u.set j true)):=by
        show _=_;rw[E.o,if_pos];cases y;cases x;simp_all
       have HMS:aJ (matchF xs (List.replicate xs.length false) goal=matchF xs (u.set j true) (goal.drop (k+1))):=by show _=_;rw[HM.o,HMD.o,E2.o];rfl
       rw[e1] at y0;rw[e3] at y2;clear e1 e3 hya;(go_wp2_with fail);(go_quiet (fail));obtain ⟨V,hV⟩:∃ V,V=wr.drewN nq:=⟨_,rfl⟩;have hWV:Below wr.heap.size wr V:=by rw[hV];exact bel
       rw[←hV];clear hV y0 y1 y2 g0 g1 g2;obtain ⟨g,cur,-,hgg,hgb,kg,hcm,hset⟩:=(HU.o.bz hWV).open_ (k:=j) HFU.o.1;injection hgg with hgg;injection hgg with hgg;subst hgg;have qg:V.cell? ⟨w.heap.size,j,none⟩=some (.bool false):=(kg.cell j).trans (hcm.trans (by rw[(List.getElem?_eq_some_iff.1 HFU.o.2).2]));have rg:=kg.frozen;have HSET:=ax (hset true);have HBV2:aJ (Below w.heap.size w V):=HB.o.trans (btoB hWV hzr);clear kg hcm hset;(go_wp2_with fail)
       go_round
       case rel=>exact ⟨k+1,u.set j true,by omega,by go_num,HMS,by show _=_;rw[List.length_set];exact HL.o,HSET.o,HBV2.o.setCell (p:=⟨w.heap.size,j,none⟩) (Nat.le_refl _) _⟩
       case measure=>simp[intOf];omega
      ·have e3':(y.b == x.b)=false:=by simpa using e3
       have E2:aJ (useOne xs u x=none):=by show _=_;rw[E.o,if_neg (fun e=>e3 (by rw[e]))]
       have E3:aJ (matchB xs goal=false):=by show _=_;unfold matchB;rw[HM.o,HMD.o,E2.o];rfl
       rw[e1] at y0;clear e1 e3 hya;(go_wp2_with fail);(go_quiet (fail));(go_wp2_with fail);go_ret;exact ⟨ret_bool (by rw[E3.o]),HB.o.trans (btoB (w:=wr) bel hzr)⟩
     ·have e1':(y.kind == x.kind)=false:=by simpa using e1
      have E2:aJ (useOne xs u x=none):=by show _=_;rw[E.o,if_neg (fun e=>e1 (by rw[e]))]
      have E3:aJ (matchB xs goal=false):=by show _=_;unfold matchB;rw[HM.o,HMD.o,E2.o];rfl
      clear e1 hya;(go_wp2_with fail);(go_quiet (fail));(go_wp2_with fail);go_ret;exact ⟨ret_bool (by rw[E3.o]),HB.o.trans (btoB (w:=wr) bel hzr)⟩
   ·have f1:(x.kind == 2)=true:=by rw[h2];rfl
    have HE0:aJ (useOne xs u x=chainG xs x.b (xs.length+1) u x.a):=by show _=_;rw[useOne_eq,if_neg (by omega),chainG_ne hne]
    clear h2 hne;(go_wp2_with fail);refine wp_region_noPanic ?_;refine wp_region_held_drew (S:=(fun w'=>w'.cell? ⟨gb,go_+k * 3+1,none⟩=some (.int .i64 x.a)∧w'.cell? ⟨gb,go_+k * 3+2,none⟩=some (.int .i64 x.b))) (by kernel_rfl) (⟨g1,g2⟩) (fun aH=>?_);refine tk2 0 rfl aH (h:=tk2 1 rfl aH (h:=tk2 2 rfl aH (h:=?_)));(try simp only[zz]);refine tk2 3 rfl aH (h:=tk2 4 rfl aH (h:=tk2 5 rfl aH (h:=?_)));(try simp only[zz]);refine tk2 6 rfl aH (h:=tk2 7 rfl aH (h:=tk2 8 rfl aH (h:=?_)));(try simp only[zz]);refine tk2 9 rfl aH (h:=tk2 10 rfl aH (h:=tk2 11 rfl aH (h:=?_)));refine rdc 12 rfl fun K hK=>?_;(try simp only[zz]);(go_simp;refine (c_spec_l6Chain A (some ⟨w.heap.size,0,none⟩) d xs.length xs u x.a x.b _ (HA.o.bz bel) (HU.o.bz bel) HL.o hhi (by simpa using hzr)).mono ?_;rintro e2 w2 ⟨rfl,hu,hM⟩;have hB2:Below w.heap.size w w2:=Below.trans (Below.trans HB.o (btoB (w:=wr) bel hzr)) (hM.bz (lo:=w.heap.size) (fun h e=>by cases e;exact Nat.le_refl _) (by simpa using hzr));have hG2:=HX.o w2 (H'.o.bz hB2));refine hK.out _ _ (⟨hG2.2.1,hG2.2.2⟩) ?_;clear aH hK K;intro aH;(try simp only[zz]);refine tk2 13 rfl aH (h:=?_);(try simp only[zz]);refine dn1 ?_;have HB2:=ax hB2;have HUU:=ax hu;rw[←HE0.o] at HUU ⊢;clear hB2 hu hM hG2 g0 g1 g2;cases hres:useOne xs u x
    ·have E3:aJ (matchB xs goal=false):=by show _=_;unfold matchB;rw[HM.o,HMD.o,hres];rfl
     clear hres;simp only[Option.isSome_none];(go_wp2_with fail);go_ret;exact ⟨ret_bool (by rw[E3.o]),HB2.o⟩
    ·rename_i u';have HR:=ax (HUU.o u' hres);have HMS:aJ (matchF xs (List.replicate xs.length false) goal=matchF xs u' (goal.drop (k+1))):=by show _=_;rw[HM.o,HMD.o,hres];rfl
     clear hres;simp only[Option.isSome_some];(go_wp2_with fail)
     go_round
     case rel=>exact ⟨k+1,u',by omega,by go_num,HMS,HR.o.2,HR.o.1,HB2⟩
     case measure=>simp[intOf];omega
  ·obtain rfl:k=goal.length:=by omega
   have E3:aJ (matchB xs goal=u.all id):=by show _=_;unfold matchB;rw[HM.o,matchF_end]
   obtain ⟨BB,cB,eB,hBV⟩:=HU.o.reads;injection eB with eB1 eB2 eB3;subst eB1;clear eB2 eB3;have HBV:=ax hBV;clear hBV;(go_wp2_with fail)
   go_loopw [8] (fun i w2=>∃ j:Nat,j≤xs.length∧i=.int .i64 j∧w2=wr∧aJ (u.all id=(u.drop j).all id)) (fun i _=>xs.length - (intOf i).toNat)
   case atStart=>exact ⟨0,Nat.zero_le _,rfl,rfl,rfl⟩
   case round=>
    obtain ⟨j,hj,rfl,rfl,HJ⟩:=hrel;by_cases hjl:j<xs.length
    ·have hju:j<u.length:=by rw[HL.o];exact hjl
     have qu:=HBV.o.cl (k:=j) hju;rw[Nat.zero_add] at qu;have HS:=ax (all_step u j hju);have hjx:(j:Int)<(xs.length:Int):=by omega
     cases huj:u[j]
     ·have E4:aJ (matchB xs goal=false):=by show _=_;rw[E3.o,HJ.o,HS.o,huj];rfl
      rw[huj] at qu;clear huj;(go_wp2_with fail);go_ret;exact ⟨ret_bool (by rw[E4.o]),HB.o⟩
     ·have HJ2:aJ (u.all id=(u.drop (j+1)).all id):=by show _=_;rw[HJ.o,HS.o,huj];rfl
      rw[huj] at qu;clear huj;(go_wp2_with fail)
      go_round
      case rel=>exact ⟨j+1,by omega,by go_num,trivial,HJ2⟩
      case measure=>simp[intOf];omega
    ·obtain rfl:j=xs.length:=by omega
     have E4:aJ (matchB xs goal=true):=by show _=_;rw[E3.o,HJ.o,←HL.o,List.drop_length];rfl
     (go_wp2_with fail);go_ret;exact ⟨ret_bool (by rw[E4.o]),HB.o⟩
end
end Go.Proofs.YtgdfdmjnadnlnaaGreat
