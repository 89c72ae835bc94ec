/- Contracts: impl's first failing case. -/
import Derived.Test.YtjaohekkmlkinaaGreatMaMatchT
set_option linter.unusedSimpArgs false
set_option linter.unusedVariables false
set_option maxRecDepth 100000
set_option maxHeartbeats 25600000
namespace Go.Proofs.YtjaohekkmlkinaaGreat
section
open Go Go.RowKit Go.Proofs
attribute [local go_sem ↓] Go.wp_at_zero Go.wp_at_succ
attribute [local go_sem] Oper.semAt_some
def failF (a b:Asn):Option (List Int):=(cases a (caseS a (tset (mz b)))).find? fun c=>!entB a b c
theorem find_pre {L p:List (List Int)} {x:List Int} {f:List Int→Bool} (h:(p++[x]) <+: L) (hp:∀ y∈p,f y=false) (hx:f x=true):L.find? f=some x:=by
 obtain ⟨zs,rfl⟩:=h;rw[List.append_assoc,List.find?_append];have h0:p.find? f=none:=by rw[List.find?_eq_none];intro y hy;simp[hp y hy]
 rw[h0];simp[hx]
theorem c_impl_failingCase {lo hi lo' hi':Nat} (v v':Value) (a b:Asn) (w:World) (h:AsnV w lo hi v a) (h':AsnV w lo' hi' v' b) (hhi:hi≤w.heap.size) (hhi':hi'≤w.heap.size) (ha:a.valid=true) (hb:b.valid=true) :
  Calls Tryz.prog 89 #[v,v'] w fun e w'=>e=.returned (.tuple #[.agg (case9 ((failF a b).getD zeros)),.bool (failF a b).isSome])∧Below w.heap.size w w':=by
 have hV:=ax h;have hV':=ax h';obtain ⟨A1,c1,A2,c2,rfl,-,-⟩:=h;obtain ⟨A3,c3,A4,c4,rfl,-,-⟩:=h';have HVA:=ax ha;have HVB:=ax hb;have hT5:tset (mz b)<512:=tset_lt (mz b);have HT5:=ax hT5;clear ha hb hT5;refine (callsIn_wide (n:=3)).1 ?_;(refine callsIn_of_wp_marks Tryz.func89 rfl trivial ?_ rfl;simp only[Tryz.ntmps89,List.size_toArray,List.length_cons,List.length_nil,Nat.reduceAdd,Nat.reduceSub,Array.replicate_succ,Array.replicate_zero,List.push_toArray,List.append_toArray,List.nil_append,List.cons_append])
 gi_wp2_with fail
 refine wpIn_wide.2 ?_;refine wp_region_noPanic ?_;refine wp_region_held_drew (S:=(fun w'=>(∀ i,w'.cell? ⟨w.heap.size,i,none⟩=#[.slice A1 a.facts.length c1,.slice A2 a.atoms.length c2][i]?)∧(∀ i,w'.cell? ⟨w.heap.size+1,i,none⟩=#[.slice A3 b.facts.length c3,.slice A4 b.atoms.length c4][i]?))) (by kernel_rfl) (⟨Blk.cell blks,Blk.cell blks⟩) (fun aH=>?_);refine tk2 0 rfl aH (h:=tk2 1 rfl aH (h:=?_));refine rdc 2 rfl fun K hK=>?_;(try simp only[zz]);(go_simp;refine (c_impl_termsIn _ b _ (hV'.o.bz bel)).mono ?_;rintro e w1 ⟨rfl,hB1⟩;have k0:Blk w1 w.heap.size tAs #[.slice A1 a.facts.length c1,.slice A2 a.atoms.length c2]:=Blk.nz blks hB1;have k1:Blk w1 (w.heap.size+1) tAs #[.slice A3 b.facts.length c3,.slice A4 b.atoms.length c4]:=Blk.nz blks hB1;have kR0:Blk w1 (w.heap.size+1+1) tTc #[.int .i64 0,.int .i64 0,.int .i64 0,.int .i64 0,.int .i64 0,.int .i64 0,.int .i64 0,.int .i64 0,.int .i64 0]:=Blk.nz blks hB1;have kO:Blk w1 (w.heap.size+1+1+1) 4 #[.bool false]:=Blk.nz blks hB1;have hB:=bgo (w:=w) bel hB1);refine hK.out _ _ (⟨k0.cell,k1.cell⟩) ?_;clear aH hK K;intro aH;refine rdc 3 rfl fun K hK=>?_;(try simp only[zz]);(go_simp;refine (c_impl_possibleCases A1 A2 c1 c2 a (tset (mz b)) _ (hV.o.bz bel) HT5.o).mono ?_;rintro e w2 ⟨gA,gT,rfl,hA,hT,kA,kT,hB2⟩;replace k0:=k0.nz hB2;replace k1:=k1.nz hB2;replace kR0:=kR0.nz hB2;replace kO:=kO.nz hB2;have hz1:=hB.size;replace hB:=bgo hB hB2);refine hK.out _ _ (⟨k0.cell,k1.cell⟩) ?_;clear aH hK K;intro aH;(try simp only[zz]);refine dn1 ?_;have kR:Blk w2 (w.heap.size+1+1) tTc (case9 zeros):=kR0;have hzO:=kO.lt;have hz:=hB.size;have hAw:=hV.o.bz hB;clear kR0 hB2 hB1
 gi_wp2_with fail
 refine wp_rangeT (gf:=201) (lb:=#[.pointer (some ⟨gA,0,none⟩),.pointer (some ⟨gT,0,none⟩)]) rfl (enters_of Tryz.func201 (by kernel_rfl) rfl)
  (c_seq (n₀:=w.heap.size) w2 HVA.o HT5.o hAw hhi (by omega) kA kT) (fun h k=>h.trans k) (Kept.putl (by omega)) (Below.refl _ _) (fun _=>rfl)
  (fun pre W=>aJ (∀ y∈pre,entB a b y.1=true)∧Blk W (w.heap.size+1+1) tTc (case9 zeros)∧Blk W (w.heap.size+1+1+1) 4 #[.bool false]∧Blk W w.heap.size tAs #[.slice A1 a.facts.length c1,.slice A2 a.atoms.length c2]∧Blk W (w.heap.size+1) tAs #[.slice A3 b.facts.length c3,.slice A4 b.atoms.length c4]∧Below w.heap.size w W)
  (fun c pre W=>∃ p x,c=.ret∧pre=p++[x]∧aJ (∀ y∈p,entB a b y.1=true)∧aJ (entB a b x.1=false)∧Blk W (w.heap.size+1+1) tTc (case9 x.1)∧Blk W (w.heap.size+1+1+1) 4 #[.bool true]∧Below w.heap.size w W)
  (fun s X Y row hs hg hr=>by
   obtain ⟨e1,k1,k2,k3,k4,k5⟩:=hs
   exact ⟨e1,k1.turn hg hr (Or.inr (by omega)),k2.turn hg hr (Or.inr (by omega)),k3.turn hg hr (Or.inr (by omega)),k4.turn hg hr (Or.inr (by omega)),Below.turn k5 hg hr (by omega) k5.size⟩)
  (fun c s X Y row hs hg hr=>by
   obtain ⟨p,x,e1,e2,e3,e4,k1,k2,k3⟩:=hs
   exact ⟨p,x,e1,e2,e3,e4,k1.turn hg hr (Or.inr (by omega)),k2.turn hg hr (Or.inr (by omega)),Below.turn k3 hg hr (by omega) k3.size⟩)
  ⟨fun y hy=>absurd hy (by simp),kR,kO,k0,k1,hB⟩ ?round ?done ?stop
 case round=>
  rintro l pre x W hl ⟨HP,kR,kO,k0,k1,hB⟩ -;have hwz:=hB.size
  gi_wp2
  refine ⟨(KeepsOthers.alloc _ _).from _,Kept.alloc (by omega) _,fun o o' ho hc=>?_⟩;have kX:=(Blk.new W tTc (case9 x.1)).putl o' ho hc;have lO:=kO.lt;replace kR:=(kR.alloc (.cells (case9 x.1) tTc)).putl o' ho hc;replace kO:=(kO.alloc (.cells (case9 x.1) tTc)).putl o' ho hc;replace k0:=(k0.alloc (.cells (case9 x.1) tTc)).putl o' ho hc;replace k1:=(k1.alloc (.cells (case9 x.1) tTc)).putl o' ho hc;have hB':=(bbox hB (.cells (case9 x.1) tTc)).trans (Kept.put (T1:=tTc) (T2:=tAs) (n₀:=w.heap.size) o' (by omega) ho hc).bz;clear ho;obtain ⟨V,hVe⟩:∃ V,V=(W.alloc (.cells (case9 x.1) tTc)).putObj l o':=⟨_,rfl⟩;rw[←hVe] at kX kR kO k0 k1 hB' ⊢;clear hVe hB;obtain ⟨p0,p1,p2,p3,p4,p5,p6,p7,p8⟩:=case9_cells kX;have q0:=k0.cell;have q1:=k1.cell;have hxl:=ax x.len
  gi_wp2_with fail
  refine ⟨trivial,(CallsIn.inRound l (callsIn_wide.2 (c_impl_matchCase _ _ a b x.1 _ (hV.o.bz hB') (hV'.o.bz hB') HVA.o HVB.o hxl.o))).mono ?_⟩;rintro e w3 ⟨r,rfl,hB3⟩;replace kX:=kX.nz hB3;replace kR:=kR.nz hB3;replace kO:=kO.nz hB3;replace k0:=k0.nz hB3;replace k1:=k1.nz hB3;have hBV:=bgo hB' hB3;have hz3:=hBV.size;have hzV:=hB'.size;have hKV:Kept tTc tAs w.heap.size V w3:=Kept.nz hB3 hzV;have hKF:KeepsOthers V w3:=(KX.of hB3).keeps;clear q0 q1 p0 p1 p2 p3 p4 p5 p6 p7 p8 hB3;cases he:entB a b x.1
  ·have HE:=ax he;clear he;obtain ⟨p0,p1,p2,p3,p4,p5,p6,p7,p8⟩:=case9_cells kX;obtain ⟨q0,q1,q2,q3,q4,q5,q6,q7,q8⟩:=case9_cells kR;have rR:=kR.frozen;have qO:=kO.cell 0;have rO:=kO.frozen
   gi_wp2
   refine ⟨(hKF.trans (keeps9.trans (KeepsOthers.setCell _ _ _))).from _,pre,x,rfl,rfl,HP,HE,?_,?_,?_⟩
   ·exact (Blk.nine kR).far (p:=⟨w.heap.size+1+1+1,0,none⟩) (by simp) _
   ·exact (kO.nineFar (by omega)).set_ 0 (.bool true)
   ·exact (below9 hBV (by omega)).setCell (p:=⟨w.heap.size+1+1+1,0,none⟩) (by simp only;omega) _
  ·have HE:aJ (∀ y∈pre++[x],entB a b y.1=true):=fun y hy=>by
    rcases List.mem_append.1 hy with hy|hy
    ·exact HP.o y hy
    ·rw[List.mem_singleton.1 hy];exact he
   clear he
   gi_wp2
   exact ⟨hKF.from _,hKV,HE,kR,kO,k0,k1,hBV⟩
 case done=>
  rintro D ys W hD hS ⟨HP,kR,kO,k0,k1,hB⟩ hK
  have E:aJ (failF a b=none):=by
   show _=_;unfold failF;rw[←hS,List.find?_eq_none];intro y hy;obtain ⟨z,hz,rfl⟩:=List.mem_map.1 hy;simp[HP.o z hz]
  clear hS k0 k1;obtain ⟨q0,q1,q2,q3,q4,q5,q6,q7,q8⟩:=case9_cells kR;have rR:=kR.frozen;have qO:=kO.cell 0;have rO:=kO.frozen;have lO:=kO.lt;have lR:=kR.lt
  gi_wp2
  have zR:=(Blk.nine (v0:=.int .i64 0) (v1:=.int .i64 0) (v2:=.int .i64 0) (v3:=.int .i64 0) (v4:=.int .i64 0) (v5:=.int .i64 0) (v6:=.int .i64 0) (v7:=.int .i64 0) (v8:=.int .i64 0) kR).far (p:=⟨w.heap.size+1+1+1,0,none⟩) (by simp) (.bool false);have zO:=(kO.nineFar (g:=w.heap.size+1+1) (v0:=.int .i64 0) (v1:=.int .i64 0) (v2:=.int .i64 0) (v3:=.int .i64 0) (v4:=.int .i64 0) (v5:=.int .i64 0) (v6:=.int .i64 0) (v7:=.int .i64 0) (v8:=.int .i64 0) (by omega)).set_ 0 (.bool false);have zB:=(below9 (g:=w.heap.size+1+1) (v0:=.int .i64 0) (v1:=.int .i64 0) (v2:=.int .i64 0) (v3:=.int .i64 0) (v4:=.int .i64 0) (v5:=.int .i64 0) (v6:=.int .i64 0) (v7:=.int .i64 0) (v8:=.int .i64 0) hB (by omega)).setCell (p:=⟨w.heap.size+1+1+1,0,none⟩) (by simp only;omega) (.bool false);have zK:=((keeps9 (w:=W) (g:=w.heap.size+1+1) (v0:=.int .i64 0) (v1:=.int .i64 0) (v2:=.int .i64 0) (v3:=.int .i64 0) (v4:=.int .i64 0) (v5:=.int .i64 0) (v6:=.int .i64 0) (v7:=.int .i64 0) (v8:=.int .i64 0)).trans (KeepsOthers.setCell _ ⟨w.heap.size+1+1+1,0,none⟩ (.bool false))).same D _ hK rfl;obtain ⟨V,hVe⟩:∃ V,V=((set9 W (w.heap.size+1+1) (.int .i64 0) (.int .i64 0) (.int .i64 0) (.int .i64 0) (.int .i64 0) (.int .i64 0) (.int .i64 0) (.int .i64 0) (.int .i64 0)).setCell ⟨w.heap.size+1+1+1,0,none⟩ (.bool false)):=⟨_,rfl⟩;rw[←hVe] at zR zO zB zK ⊢;refine ⟨by simp,.inl ⟨_,_,rfl,run_takeDeferred zK,?_⟩⟩;have yR:Blk _ _ _ (case9 zeros):=zR.putl (.deferred none) zK rfl;have yO:=zO.putl (.deferred none) zK rfl;obtain ⟨p0,p1,p2,p3,p4,p5,p6,p7,p8⟩:=case9_cells yR;have pO:=yO.cell 0;refine ⟨.tuple #[.agg (case9 zeros),.bool false],?_,by rw[E.o];rfl,zB.trans (belowK_b (w:=w) (Nat.le_refl _) V D _ _ (by omega) zK rfl rfl)⟩;simp[results,Tryz.f89,go_sem,p0,p1,p2,p3,p4,p5,p6,p7,p8,pO]
 case stop=>
  rintro D c pre W hD hS ⟨p,x,rfl,rfl,HP,HE,kR,kO,hB⟩ hK
  have E:aJ (failF a b=some x.1):=by
   show _=_;unfold failF;rw[List.map_append,List.map_cons,List.map_nil] at hS;refine find_pre hS (fun y hy=>?_) (by simp[HE.o]);obtain ⟨z,hz,rfl⟩:=List.mem_map.1 hy;simp[HP.o z hz]
  clear hS;obtain ⟨q0,q1,q2,q3,q4,q5,q6,q7,q8⟩:=case9_cells kR;have qO:=kO.cell 0;have lO:=kO.lt;have lR:=kR.lt
  gi_wp2
  refine ⟨by simp,.inl ⟨_,_,rfl,run_takeDeferred hK,?_⟩⟩;have yR:=kR.putl (.deferred none) hK rfl;have yO:=kO.putl (.deferred none) hK rfl;obtain ⟨p0,p1,p2,p3,p4,p5,p6,p7,p8⟩:=case9_cells yR;have pO:=yO.cell 0;refine ⟨.tuple #[.agg (case9 x.1),.bool true],?_,by rw[E.o];rfl,hB.trans (belowK_b (w:=w) (Nat.le_refl _) W D _ _ (by omega) hK rfl rfl)⟩;simp[results,Tryz.f89,go_sem,p0,p1,p2,p3,p4,p5,p6,p7,p8,pO]
end
section
open Go Go.RowKit Go.Proofs
attribute [local go_sem ↓] Go.wp_at_zero Go.wp_at_succ
def caseB (a b:Asn) (c:List Int):Bool:=fitsS c b.facts&&matchB (filledL a.atoms c) (filledL b.atoms c)
theorem filled_goal {b:Asn} (hb:b.valid=true) (c:List Int):∀ x∈filledL b.atoms c,x.kind=1∨(x.kind=2∧x.a≠x.b):=by
 intro x hx;unfold filledL at hx;obtain ⟨y,hy,rfl⟩:=List.mem_map.1 hx;obtain ⟨hy1,hy2⟩:=List.mem_filter.1 hy
 have hv:y.valid=true:=by
  simp only[Asn.valid,Bool.and_eq_true,List.all_eq_true] at hb;exact hb.2.2 y hy1
 simp only[Atm.valid,Bool.and_eq_true,decide_eq_true_eq] at hv;rcases hv.1.1 with h|h
 ·exact Or.inl h
 ·refine Or.inr ⟨h,fun e=>?_⟩;unfold Atm.fill at hy2;rw[h] at hy2;simp only[Atm.cls] at e;simp[e] at hy2
theorem c_spec_l6Case {lo hi lo' hi' lo2 hi2:Nat} (v v':Value) (B:Option Addr) (cc:Nat) (a b:Asn) (c:List Int) (w:World) (h:AsnV w lo hi v a) (h':AsnV w lo' hi' v' b) (hi_:IntsV w lo2 hi2 B c) (ha:a.valid=true) (hb:b.valid=true) (hc:c.length=9) :
  Calls Tryz.prog 247 #[v,v',.slice B 9 cc] w fun e w'=>e=.returned (.bool (caseB a b c))∧Below w.heap.size w w':=by
 have HA:=ax (Asn.valid_ok ha);have HBV:=ax (Asn.valid_ok hb);have HC:=ax hc;have HI:=ax hi_;have HGO:=ax (filled_goal hb c);have hal:=(zjC ha).2;obtain ⟨A1,c1,A2,c2,rfl,h1,h2⟩:=h;obtain ⟨A3,c3,A4,c4,rfl,h3,h4⟩:=h';have H2:=ax h2;have H3:=ax h3;have H4:=ax h4;have HXL:=ax (filledL_len a.atoms c);have HE:aJ (caseB a b c=(fitsS c b.facts&&matchB (filledL a.atoms c) (filledL b.atoms c))):=rfl;clear h1 h2 h3 h4 ha hb hc hi_;(go_enter Tryz.func247,Tryz.ntmps247);have k0:Blk ((w.alloc (.cells #[.slice A1 a.facts.length c1,.slice A2 a.atoms.length c2] tAs)).alloc (.cells #[.slice A3 b.facts.length c3,.slice A4 b.atoms.length c4] tAs)) w.heap.size tAs #[.slice A1 a.facts.length c1,.slice A2 a.atoms.length c2]:=blks;have k1:Blk ((w.alloc (.cells #[.slice A1 a.facts.length c1,.slice A2 a.atoms.length c2] tAs)).alloc (.cells #[.slice A3 b.facts.length c3,.slice A4 b.atoms.length c4] tAs)) (w.heap.size+1) tAs #[.slice A3 b.facts.length c3,.slice A4 b.atoms.length c4]:=blks;(go_wp2_with fail);cases hf:fitsS c b.facts
 ·have E:aJ (caseB a b c=false):=by show _=_;rw[HE.o,hf];rfl
  have HF:=ax hf;clear hf;refine wp_region_noPanic ?_;refine wp_region_held_drew (S:=(fun w'=>(∀ i,w'.cell? ⟨w.heap.size,i,none⟩=#[.slice A1 a.facts.length c1,.slice A2 a.atoms.length c2][i]?)∧(∀ i,w'.cell? ⟨w.heap.size+1,i,none⟩=#[.slice A3 b.facts.length c3,.slice A4 b.atoms.length c4][i]?))) (by kernel_rfl) (⟨Blk.cell blks,Blk.cell blks⟩) (fun aH=>?_);refine tk2 0 rfl aH (h:=tk2 1 rfl aH (h:=tk2 2 rfl aH (h:=?_)));refine rdc 3 rfl fun K hK=>?_;(try simp only[zz]);(go_simp;refine (c_fits9 A3 B c3 cc b.facts c _ (H3.o.bz bel) (HI.o.bz bel) HC.o HBV.o.1).mono ?_;rintro e w1 ⟨rfl,rfl⟩;rw[HF.o]);refine hK.out _ _ (⟨Blk.cell blks,Blk.cell blks⟩) ?_;clear aH hK K;intro aH;(try simp only[zz]);refine tk2 4 rfl aH (h:=?_);(try simp only[zz]);refine tku 5 rfl aH ?_;(try simp only[zz]);refine tku 6 rfl aH ?_;(try simp only[zz]);refine tku 7 rfl aH ?_;(try simp only[zz]);refine tku 8 rfl aH ?_;(try simp only[zz]);refine tku 9 rfl aH ?_;(try simp only[zz]);refine tku 10 rfl aH ?_;(try simp only[zz]);refine tku 11 rfl aH ?_;(try simp only[zz]);refine tku 12 rfl aH ?_;(try simp only[zz]);refine tku 13 rfl aH ?_;(try simp only[zz]);refine tk2 14 rfl aH (h:=tk2 15 rfl aH (h:=?_));(try simp only[zz]);refine dn1 ?_;(go_wp2_with fail);go_ret;exact ⟨zjD (by rw[E.o]),bel⟩
 ·have E:aJ (caseB a b c=matchB (filledL a.atoms c) (filledL b.atoms c)):=by show _=_;rw[HE.o,hf];rfl
  have HF:=ax hf;clear hf;refine wp_region_noPanic ?_;refine wp_region_held_drew (S:=(fun w'=>(∀ i,w'.cell? ⟨w.heap.size,i,none⟩=#[.slice A1 a.facts.length c1,.slice A2 a.atoms.length c2][i]?)∧(∀ i,w'.cell? ⟨w.heap.size+1,i,none⟩=#[.slice A3 b.facts.length c3,.slice A4 b.atoms.length c4][i]?))) (by kernel_rfl) (⟨Blk.cell blks,Blk.cell blks⟩) (fun aH=>?_);refine tk2 0 rfl aH (h:=tk2 1 rfl aH (h:=tk2 2 rfl aH (h:=?_)));refine rdc 3 rfl fun K hK=>?_;(try simp only[zz]);(go_simp;refine (c_fits9 A3 B c3 cc b.facts c _ (H3.o.bz bel) (HI.o.bz bel) HC.o HBV.o.1).mono ?_;rintro e w1 ⟨rfl,rfl⟩;rw[HF.o]);refine hK.out _ _ (⟨Blk.cell blks,Blk.cell blks⟩) ?_;clear aH hK K;intro aH;(try simp only[zz]);refine tk2 4 rfl aH (h:=tk2 5 rfl aH (h:=tk2 6 rfl aH (h:=?_)));(try simp only[zz]);refine tk2 7 rfl aH (h:=tk2 9 rfl aH (h:=tk2 10 rfl aH (h:=?_)));(try simp only[zz]);refine tk2 11 rfl aH (h:=?_);refine rdc 8 rfl fun K hK=>?_;(try simp only[zz]);(go_simp;refine (c_filled9 A2 B c2 cc a.atoms c _ (H2.o.bz bel) (HI.o.bz bel) HC.o HA.o.2).mono ?_;rintro e w2 ⟨r2,rfl,o2,hB2⟩;obtain ⟨X2,x2,rfl,v2⟩:=o2.rj;have hBx:=bgo (w:=w) bel hB2;replace k0:=Blk.nz (g:=w.heap.size) blks hB2;replace k1:=Blk.nz (g:=w.heap.size+1) blks hB2);refine hK.out _ _ (⟨Blk.cell blks,Blk.cell blks⟩) ?_;clear aH hK K;intro aH;refine rdc 12 rfl fun K hK=>?_;(try simp only[zz]);(go_simp;refine (c_filled9 A4 B c4 cc b.atoms c _ (H4.o.bz bel) (HI.o.bz bel) HC.o HBV.o.2).mono ?_;rintro e w3 ⟨r3,rfl,o3,hB3⟩;obtain ⟨X3,x3,rfl,v3⟩:=o3.rj;have hz3:=hB3.size;have hBy:=bgo (w:=w) hBx hB3;have v2':=v2.bz hB3;replace k0:=Blk.nz (g:=w.heap.size) blks hB3;replace k1:=Blk.nz (g:=w.heap.size+1) blks hB3);refine hK.out _ _ (⟨Blk.cell blks,Blk.cell blks⟩) ?_;clear aH hK K;intro aH;refine rdc 13 rfl fun K hK=>?_;(try simp only[zz]);(go_simp;refine (c_spec_l6Match X2 X3 x2 x3 (filledL a.atoms c) (filledL b.atoms c) _ (AtomsV.bz v2' bel) (AtomsV.bz v3 bel) (by first|omega|(simp;omega)) (by first|exact Nat.le_refl _|(simp)) (by have:=HXL.o;omega) HGO.o).mono ?_;rintro e w4 ⟨rfl,hB4⟩;have hBz:=bgo (w:=w) hBy hB4;replace k0:=Blk.nz (g:=w.heap.size) blks hB4;replace k1:=Blk.nz (g:=w.heap.size+1) blks hB4);refine hK.out _ _ (⟨Blk.cell blks,Blk.cell blks⟩) ?_;clear aH hK K;intro aH;(try simp only[zz]);refine tk2 14 rfl aH (h:=tk2 15 rfl aH (h:=?_));(try simp only[zz]);refine dn1 ?_;(go_wp2_with fail);go_ret;exact ⟨zjD (by rw[E.o]),hBz⟩
end
section
open Go
theorem caseB_ent {a b:Asn} (hb:b.valid=true) {c:List Int} (hc:c∈cases a (caseS a (tset (mz b)))):caseB a b c=entB a b c:=by
 have hok:=Asn.valid_ok hb
 have hpos:∀ t∈mz b,0≤t∧t≤8→0≤cl c t:=by
  intro t ht h8;obtain ⟨n,rfl⟩:=Int.eq_ofNat_of_zero_le h8.1;refine ((CaseT.pos (a:=a) ⟨c,hc⟩ n (by omega)).1 ?_).1;rw[caseS_bit]
  have:(tset (mz b)).testBit n=true:=by
   rw[tset_bit];simp only[decide_eq_true_eq];exact ⟨termsL_ok hb _ ht,ht⟩
  simp[this]
 unfold caseB entB
 congr 1
 unfold fitsS
 have e:∀ f∈b.facts,(!(decide (0≤cl c f.a)&&decide (0≤cl c f.b) && !f.fits c))=f.fits c:=by
  intro f hf;have h1:=hok.1 f hf;have ht:=termsL_facts hf;rw[decide_eq_true (hpos _ ht.1 h1.1),decide_eq_true (hpos _ ht.2 h1.2)];simp
 rw[Bool.eq_iff_iff,List.all_eq_true,List.all_eq_true];constructor
 ·intro h f hf;rw[←e f hf];exact h f hf
 ·intro h f hf;rw[e f hf];exact h f hf
theorem head_filter {α:Type} (p:α→Bool) (l:List α):(l.filter p).head? = l.find? p:=by
 induction l with
 | nil=>rfl
 | cons x xs ih=>cases h:p x<;>simp[List.filter_cons,List.find?_cons,h,ih]
theorem failF_eq {a b:Asn} (hb:b.valid=true):((cases a (caseS a (tset (mz b)))).filter fun c=>!caseB a b c).head? = failF a b:=by
 rw[head_filter];unfold failF
 have:∀ (l:List (List Int)),(∀ c∈l,caseB a b c=entB a b c)→(l.find? fun c=>!caseB a b c)=l.find? fun c=>!entB a b c:=by
  intro l
  induction l with
  | nil=>intro _;rfl
  | cons x xs ih=>
   intro h;rw[List.find?_cons,List.find?_cons,h x List.mem_cons_self,ih fun y hy=>h y (List.mem_cons_of_mem _ hy)]
 exact this _ fun c hc=>caseB_ent hb hc
end
section
open Go Go.RowKit Go.Proofs
attribute [local go_sem ↓] Go.wp_at_zero Go.wp_at_succ
theorem c_spec_l6Both {lo hi lo' hi':Nat} (v v':Value) (a b:Asn) (w:World) (h:AsnV w lo hi v a) (h':AsnV w lo' hi' v' b) (hn1:a.facts.length+b.facts.length≤1049600) (hn2:a.atoms.length+b.atoms.length≤1049600) (ht:∀ t∈mz (starA a b),jq t=true) :
  Calls Tryz.prog 199 #[v,v'] w fun e w'=>∃ r,e=.returned r∧BoolsO w' w.heap.size r (zj (tset (mz (starA a b))))∧Below w.heap.size w w':=by
 obtain ⟨A1,c1,A2,c2,rfl,h1,h2⟩:=h;obtain ⟨A3,c3,A4,c4,rfl,h3,h4⟩:=h';(go_enter Tryz.func199,Tryz.ntmps199);have HTT:=ax ht;clear ht;have hB:Below w.heap.size w ((w.alloc (.cells #[.slice A1 a.facts.length c1,.slice A2 a.atoms.length c2] 37)).alloc (.cells #[.slice A3 b.facts.length c3,.slice A4 b.atoms.length c4] 37)):=bel;have k0:Blk ((w.alloc (.cells #[.slice A1 a.facts.length c1,.slice A2 a.atoms.length c2] 37)).alloc (.cells #[.slice A3 b.facts.length c3,.slice A4 b.atoms.length c4] 37)) w.heap.size tAs #[.slice A1 a.facts.length c1,.slice A2 a.atoms.length c2]:=blks;have k1:Blk ((w.alloc (.cells #[.slice A1 a.facts.length c1,.slice A2 a.atoms.length c2] 37)).alloc (.cells #[.slice A3 b.facts.length c3,.slice A4 b.atoms.length c4] 37)) (w.heap.size+1) tAs #[.slice A3 b.facts.length c3,.slice A4 b.atoms.length c4]:=blks;(go_wp2_with fail);have hz:=k1.lt;generalize ((w.alloc (.cells #[.slice A1 a.facts.length c1,.slice A2 a.atoms.length c2] 37)).alloc (.cells #[.slice A3 b.facts.length c3,.slice A4 b.atoms.length c4] 37))=W at k0 k1 hB hz ⊢;have tok3:True:=trivial;have tok6:True:=trivial;have tok10:True:=trivial;have tok13:True:=trivial;have tok15:True:=trivial
 go_region_held3 (fun w'=>(∀ i,w'.cell? ⟨w.heap.size,i,none⟩=#[.slice A1 a.facts.length c1,.slice A2 a.atoms.length c2][i]?)∧(∀ i,w'.cell? ⟨w.heap.size+1,i,none⟩=#[.slice A3 b.facts.length c3,.slice A4 b.atoms.length c4][i]?))
  (exact ⟨Blk.cell blks,Blk.cell blks⟩)
  (first
   | (have _t:=tok3;clear _t tok3;refine stepFL (xs:=[]) rfl _ _ rfl rfl (FactsO.ofBlk (base:=w.heap.size) blks (by first|omega|(simp;omega))) rfl (h1.bz bel) (by first|omega|(simp;omega)) (by first|omega|(simp;omega)) ?_;intro F1 e1 w1 hO1 hg1 hB1;have hBw1:Below w.heap.size w w1:=Below.trans bel hB1;simp only[List.nil_append] at hO1;have m10:=Blk.zm (g:=w.heap.size) (hg:=hg1) blks (FactsO.ofBlk (base:=w.heap.size) blks (by first|omega|(simp;omega))).1 (by decide);have m11:=Blk.zm (g:=w.heap.size+1) (hg:=hg1) blks (FactsO.ofBlk (base:=w.heap.size) blks (by first|omega|(simp;omega))).1 (by decide);have lt1:=m11.lt;(try (have za:Blk w1 (W.heap.size+1) tA #[]:=?zz;case zz=>(refine Blk.zm (hg:=hg1) ?_ (FactsO.ofBlk (base:=w.heap.size) blks (by first|omega|(simp;omega))).1 (by decide);(repeat (first|(with_reducible assumption)|(with_reducible exact Blk.new _ _ _)|((with_reducible apply Blk.far);(case hp=>(first|exact Nat.le_refl _|(simp;done)|(simp;omega)|(simp only;omega)|omega)))|(with_reducible apply Blk.set_)|((with_reducible refine Blk.newE ?_);(simp;done))|(with_reducible apply Blk.alloc)|(with_reducible apply Blk.drew)|(with_reducible apply Blk.drewN)));done)));(try (have za:Blk w1 W.heap.size tA #[]:=?zz;case zz=>(refine Blk.zm (hg:=hg1) ?_ (FactsO.ofBlk (base:=w.heap.size) blks (by first|omega|(simp;omega))).1 (by decide);(repeat (first|(with_reducible assumption)|(with_reducible exact Blk.new _ _ _)|((with_reducible apply Blk.far);(case hp=>(first|exact Nat.le_refl _|(simp;done)|(simp;omega)|(simp only;omega)|omega)))|(with_reducible apply Blk.set_)|((with_reducible refine Blk.newE ?_);(simp;done))|(with_reducible apply Blk.alloc)|(with_reducible apply Blk.drew)|(with_reducible apply Blk.drewN)));done))))
   | (have _t:=tok6;clear _t tok6;refine stepFL (xs:=a.facts) rfl _ _ rfl rfl (FactsO.bz (w:=w1) hO1 bel) rfl (h3.bz bel) (by first|omega|(simp;omega)) (by first|omega|(simp;omega)) ?_;intro F2 e2 w2 hO2 hg2 hB2;have hBw2:Below w.heap.size w w2:=Below.trans bel hB2;have m20:=Blk.zm (g:=w.heap.size) (hg:=hg2) blks (FactsO.bz (w:=w1) hO1 bel).1 (by decide);have m21:=Blk.zm (g:=w.heap.size+1) (hg:=hg2) blks (FactsO.bz (w:=w1) hO1 bel).1 (by decide);have lt2:=m21.lt;(try (have zb:Blk w2 w1.heap.size tA #[]:=?zz;case zz=>(refine Blk.zm (hg:=hg2) ?_ (FactsO.bz (w:=w1) hO1 bel).1 (by decide);(repeat (first|(with_reducible assumption)|(with_reducible exact Blk.new _ _ _)|((with_reducible apply Blk.far);(case hp=>(first|exact Nat.le_refl _|(simp;done)|(simp;omega)|(simp only;omega)|omega)))|(with_reducible apply Blk.set_)|((with_reducible refine Blk.newE ?_);(simp;done))|(with_reducible apply Blk.alloc)|(with_reducible apply Blk.drew)|(with_reducible apply Blk.drewN)));done)));(try (have zb:=Blk.zm (hg:=hg2) (Blk.nz za bel) (FactsO.bz (w:=w1) hO1 bel).1 (by decide))))
   | (have _t:=tok10;clear _t tok10;refine stepAL (xs:=[]) rfl _ _ rfl rfl (AtomsO.ofBlk (base:=w.heap.size) blks (by first|omega|(simp;omega))) rfl (h2.bz bel) (by first|omega|(simp;omega)) (by first|omega|(simp;omega)) ?_;intro F3 e3 w3 hO3 hg3 hB3;have hBw3:Below w.heap.size w w3:=Below.trans bel hB3;simp only[List.nil_append] at hO3;have m30:=Blk.zm (g:=w.heap.size) (hg:=hg3) blks (AtomsO.ofBlk (base:=w.heap.size) blks (by first|omega|(simp;omega))).1 (by decide);have m31:=Blk.zm (g:=w.heap.size+1) (hg:=hg3) blks (AtomsO.ofBlk (base:=w.heap.size) blks (by first|omega|(simp;omega))).1 (by decide);have lt3:=m31.lt;have hP3:=FactsO.grownA (FactsO.bz (w:=w2) hO2 bel) (AtomsO.ofBlk (base:=w.heap.size) blks (by first|omega|(simp;omega))) hg3)
   | (have _t:=tok13;clear _t tok13;refine stepAL (xs:=a.atoms) rfl _ _ rfl rfl (AtomsO.bz (w:=w3) hO3 bel) rfl (h4.bz bel) (by first|omega|(simp;omega)) (by first|omega|(simp;omega)) ?_;intro F4 e4 w4 hO4 hg4 hB4;have hBw4:Below w.heap.size w w4:=Below.trans bel hB4;have m40:=Blk.zm (g:=w.heap.size) (hg:=hg4) blks (AtomsO.bz (w:=w3) hO3 bel).1 (by decide);have m41:=Blk.zm (g:=w.heap.size+1) (hg:=hg4) blks (AtomsO.bz (w:=w3) hO3 bel).1 (by decide);have lt4:=m41.lt;have hP4:=FactsO.grownA (FactsO.bz (w:=w3) hP3 bel) (AtomsO.bz (w:=w3) hO3 bel) hg4)
   | (have _t:=tok15;clear _t tok15;go_at_call 85;have hS:AsnO w4 w.heap.size (.agg #[.slice F2 (a.facts.length+b.facts.length) e2,.slice F4 (a.atoms.length+b.atoms.length) e4]) (starA a b):=(⟨_,_,rfl,(by first|exact hP4|(rw[←List.length_append];exact hP4)),(by first|exact hO4|(rw[←List.length_append];exact hO4))⟩);refine (c_spec_l3Terms _ (starA a b) w4 hS.rj HTT.o).mono ?_;rintro e w5 ⟨r5,rfl,o5,hB5⟩;have hBw5:Below w.heap.size w w5:=bgo hBw4 hB5;have m50:=m40.nz hB5;have m51:=m41.nz hB5;have lt5:=m51.lt;have hz5:=hBw4.size))
 all_goals
  (go_wp2_with fail);go_ret;exact ⟨r5,rfl,o5.bq hz5,hBw5⟩
def seekF (a b:Asn) (S n:Nat) (c:List Int):List (List Int):=(seek a S n c).filter fun d=>!caseB a b d
def seekFAt (a b:Asn) (S n:Nat) (c:List Int) (k:Nat):List (List Int):=if k<8 - n∧cl c k≠k then [] else seekF a b S n (c.set (8 - n) k)
theorem seekF_cut {a b:Asn} {S:Nat} (n:Nat) {c:List Int} (h:(fitsS c a.facts&&earlyF c [] a.atoms)=false):seekF a b S n c=[]:=by
 unfold seekF;rw[seek_cut n h];rfl
theorem seekF_leaf {a b:Asn} {S:Nat} {c:List Int} (h:(fitsS c a.facts&&earlyF c [] a.atoms)=true):seekF a b S 0 c=if apartF [] (filledL a.atoms c) then (if caseB a b c then [] else [c]) else []:=by
 unfold seekF;rw[seek_leaf h];cases apartF [] (filledL a.atoms c)<;>cases e:caseB a b c<;>simp[e]
theorem seekF_step {a b:Asn} {S n:Nat} {c:List Int} (h:(fitsS c a.facts&&earlyF c [] a.atoms)=true):seekF a b S (n+1) c=if S.testBit (8 - n) then (List.range (9 - n)).flatMap (seekFAt a b S n c) else seekF a b S n c:=by
 unfold seekF;rw[seek_step h]
 split
 ·rw[List.filter_flatMap];apply flatMap_congr';intro k _;unfold seekAt seekFAt seekF
  split<;>rfl
 ·rfl
theorem c_spec_l6Seek {a b:Asn} {S lo hi lo2 hi2 lo3 hi3:Nat} {A1 A2 A3 A4:Option Addr} {d1 d2 d3 d4:Nat} (T:Option Addr) (tc:Nat) (hv:a.valid=true) (hvb:b.valid=true) :
  ∀ (n:Nat) (c:List Int) (B:Option Addr) (cc lo' hi':Nat) (w:World),n≤8→c.length=9→(∀ j:Nat,j<9 - n→S.testBit j=true→0≤cl c j∧cl c j≤j)→(∀ j:Nat,j<9→cl c j≤8)→
   AsnV w lo hi (.agg #[.slice A1 a.facts.length d1,.slice A2 a.atoms.length d2]) a→AsnV w lo3 hi3 (.agg #[.slice A3 b.facts.length d3,.slice A4 b.atoms.length d4]) b→BoolsV w lo2 hi2 T (zj S)→IntsV w lo' hi' B c→
   Calls Tryz.prog 198 #[.agg #[.slice A1 a.facts.length d1,.slice A2 a.atoms.length d2],.agg #[.slice A3 b.facts.length d3,.slice A4 b.atoms.length d4],.slice T 9 tc,.slice B 9 cc,.int .i64 ((9 - n:Nat):Int)] w fun e w'=>
    ∃ r,e=.returned (.tuple #[r,.bool (!(seekF a b S n c).isEmpty)])∧IntsO w' w.heap.size r (firstI (seekF a b S n c))∧Below w.heap.size w w':=by
 intro n
 induction n with
 | zero=>
  intro c B cc lo' hi' w hn hc _ hc8 hA hAb hT hI;have HO0:=ax hv;have HO:=ax (Asn.valid_ok hv);have hV:=ax hA;have hVb:=ax hAb;have HVB:=ax hvb;have HC:=ax hc;have HI:=ax hI
  have HCL:aJ (∀ x∈a.atoms,cl c x.a≤8):=fun x hx=>by
   have:=(HO.o.2 x hx).1;obtain ⟨t,et⟩:=Int.eq_ofNat_of_zero_le this.1;rw[et];exact hc8 t (by omega)
  obtain ⟨B1,e1,B2,e2,he,h1,h2⟩:=hA;injection he with he;injection he with he;injection he with he1 he2;injection he2 with he2 he3;injection he1 with he1 _ he4;injection he2 with he2 _ he5;subst he1 he4 he2 he5;have H1:=ax h1;have H2:=ax h2;have hvl:=zjC hv;clear h1 h2 hc hc8 hT hI he3 hAb;(go_enter Tryz.func198,Tryz.ntmps198);(go_wp2_with fail);refine (c_fits9 A1 B d1 cc a.facts c _ (H1.o.bz bel) (HI.o.bz bel) HC.o HO.o.1).mono ?_;rintro e w1 ⟨rfl,rfl⟩;cases hf:fitsS c a.facts
  ·have E:=ax (seekF_cut (a:=a) (b:=b) (S:=S) 0 (c:=c) (by rw[hf];rfl));clear hf;(go_wp2_with fail);go_ret2;exact ⟨_,by rw[E.o];rfl,by rw[E.o];exact IntsO.bq (IntsO.empty _ (by first|rfl|simp)) (by first|omega|simp),bel⟩
  have HF:=ax hf;clear hf;(go_wp2_with fail);refine (c_early9 A2 B d2 cc a.atoms c _ (H2.o.bz bel) (HI.o.bz bel) HC.o HO.o.2 HCL.o).mono ?_;rintro e w2 ⟨rfl,hB2⟩;have hB:Below w.heap.size w w2:=bgo (w:=w) bel hB2;have k0:Blk w2 w.heap.size tAs #[.slice A1 a.facts.length d1,.slice A2 a.atoms.length d2]:=Blk.nz blks hB2;have kb:Blk w2 (w.heap.size+1) tAs #[.slice A3 b.facts.length d3,.slice A4 b.atoms.length d4]:=Blk.nz blks hB2;have q0:=k0.cell;have l0:=k0.lt;have qb:=kb.cell;have lb:=kb.lt;clear hB2;cases he:earlyF c [] a.atoms
  ·have E:=ax (seekF_cut (a:=a) (b:=b) (S:=S) 0 (c:=c) (by rw[HF.o,he];rfl));clear he;(go_wp2_with fail);go_ret2;exact ⟨_,by rw[E.o];rfl,by rw[E.o];exact IntsO.bq (IntsO.empty _ rfl) (by omega),bel⟩
  have E0:=ax (seekF_leaf (a:=a) (b:=b) (S:=S) (c:=c) (by rw[HF.o,he];rfl));clear he;(go_wp2_with fail);refine (c_filled9 A2 B d2 cc a.atoms c _ (H2.o.bz hB) (HI.o.bz hB) HC.o HO.o.2).mono ?_;rintro e w3 ⟨r3,rfl,o3,hB3⟩;obtain ⟨R3,e3,rfl,v3⟩:=o3.rj;have hBB:Below w.heap.size w w3:=bgo hB hB3;(go_wp2_with fail);refine (c_spec_l5Apart R3 e3 (filledL a.atoms c) _ v3).mono ?_;rintro e w4 ⟨rfl,hB4⟩;have hB5:Below w.heap.size w w4:=bgo hBB hB4;have hz:=hB5.size;replace k0:=(k0.nz hB3).nz hB4;replace kb:=(kb.nz hB3).nz hB4;(replace qk0:=k0.z;replace qkb:=kb.z);clear o3 v3 hB3 hB4 hBB q0 l0 qb lb hB;cases hap:apartF [] (filledL a.atoms c)
  ·have E:=ax (show seekF a b S 0 c=[] by rw[E0.o,hap];rfl);clear hap;(go_wp2_with fail);go_ret2;exact ⟨_,by rw[E.o];rfl,by rw[E.o];exact IntsO.bq (IntsO.empty _ rfl) (by omega),bel⟩
  have E1:=ax (show seekF a b S 0 c=if caseB a b c then [] else [c] by rw[E0.o,hap];cases caseB a b c<;>rfl);clear hap;(go_wp2_with fail);refine (c_spec_l6Case _ _ B cc a b c _ (hV.o.bz hB5) (hVb.o.bz hB5) (HI.o.bz hB5) HO0.o HVB.o HC.o).mono ?_;rintro e w5 ⟨rfl,hB6⟩;have hB7:Below w.heap.size w w5:=bgo hB5 hB6;replace hz:=hB7.size;clear hB6 hB5 k0 kb qk0 qkb;cases hcb:caseB a b c
  ·have E:=ax (show seekF a b S 0 c=[c] by rw[E1.o,hcb];rfl);clear hcb;(go_wp2_with (at_builtin;refine appIL (ys:=c) rfl _ _ rfl (v:=.slice (some ⟨w5.heap.size,0,none⟩) 0 0) rfl (IntsO.empty w5 rfl) (by rw[HC.o];rfl) (HI.o.bz bel) (by rw[HC.o];simp) (by simp) ?_;intro A' c' w6 o6 hg6 hB8;rw[List.nil_append,HC.o]));go_ret2;exact ⟨_,by rw[E.o];rfl,by rw[E.o];rw[List.nil_append,HC.o] at o6;exact o6.bq hz,Below.trans bel (hB8.mono hz)⟩
  ·have E:=ax (show seekF a b S 0 c=[] by rw[E1.o,hcb];rfl);clear hcb;(go_wp2_with fail);go_ret2;exact ⟨_,by rw[E.o];rfl,by rw[E.o];exact IntsO.bq (IntsO.empty _ rfl) (by omega),bel⟩
 | succ n ih=>
  intro c B cc lo' hi' w hn hc hcl hc8 hA hAb hT hI;have HO0:=ax hv;have HO:=ax (Asn.valid_ok hv);have hV:=ax hA;have hVb:=ax hAb;have HVB:=ax hvb;have HC:=ax hc;have HI:=ax hI;have HTT:=ax hT;have HC8:=ax hc8;have HCL0:=ax hcl;have IH:=ax ih
  have HCL:aJ (∀ x∈a.atoms,cl c x.a≤8):=fun x hx=>by
   have:=(HO.o.2 x hx).1;obtain ⟨t,et⟩:=Int.eq_ofNat_of_zero_le this.1;rw[et];exact hc8 t (by omega)
  obtain ⟨B1,e1,B2,e2,he,h1,h2⟩:=hA;injection he with he;injection he with he;injection he with he1 he2;injection he2 with he2 he3;injection he1 with he1 _ he4;injection he2 with he2 _ he5;subst he1 he4 he2 he5;have H1:=ax h1;have H2:=ax h2;obtain ⟨tb,tz0,rfl,ltb⟩:=flags_addr hT;obtain ⟨pb,ob,rfl,lpb⟩:=hI.blt (k:=0) (by omega);obtain ⟨m,hm8⟩:∃ m,m=8 - n:=⟨_,rfl⟩;have E1:aJ (((9 - n:Nat):Int)=(m:Int)+1):=by show _=_;omega
  rw[show 9 - (n+1)=m from by omega] at HCL0 ⊢;have HM8:=ax hm8;have HN:=ax hn;have hmg:¬(8<(m:Int)):=by omega
  have hmi9:(m:Int)<9:=by omega
  clear h1 h2 hc hc8 hcl hT hI he3 ih hm8 hn hAb;(go_enter Tryz.func198,Tryz.ntmps198);(go_wp2_with fail);refine (c_fits9 A1 _ d1 cc a.facts c _ (H1.o.bz bel) (HI.o.bz bel) HC.o HO.o.1).mono ?_;rintro e w1 ⟨rfl,rfl⟩;cases hf:fitsS c a.facts
  ·have E:=ax (seekF_cut (a:=a) (b:=b) (S:=S) (n+1) (c:=c) (by rw[hf];rfl));clear hf;(go_wp2_with fail);go_ret2;exact ⟨_,by rw[E.o];rfl,by rw[E.o];exact IntsO.bq (IntsO.empty _ (by first|rfl|simp)) (by first|omega|simp),bel⟩
  have HF:=ax hf;clear hf;(go_wp2_with fail);refine (c_early9 A2 _ d2 cc a.atoms c _ (H2.o.bz bel) (HI.o.bz bel) HC.o HO.o.2 HCL.o).mono ?_;rintro e w2 ⟨rfl,hB2⟩;have hB:Below w.heap.size w w2:=bgo (w:=w) bel hB2;have k0:Blk w2 w.heap.size tAs #[.slice A1 a.facts.length d1,.slice A2 a.atoms.length d2]:=Blk.nz blks hB2;have kb:Blk w2 (w.heap.size+1) tAs #[.slice A3 b.facts.length d3,.slice A4 b.atoms.length d4]:=Blk.nz blks hB2;have q0:=k0.cell;have l0:=k0.lt;have qb:=kb.cell;have lb:=kb.lt;clear hB2;cases he:earlyF c [] a.atoms
  ·have E:=ax (seekF_cut (a:=a) (b:=b) (S:=S) (n+1) (c:=c) (by rw[HF.o,he];rfl));clear he;(go_wp2_with fail);go_ret2;exact ⟨_,by rw[E.o];rfl,by rw[E.o];exact IntsO.bq (IntsO.empty _ rfl) (by omega),bel⟩
  have E0:=ax (seekF_step (a:=a) (b:=b) (S:=S) (n:=n) (c:=c) (by rw[HF.o,he];rfl));clear he;have qt:=flags_at (HTT.o.bz hB) (m:=m) (by omega);cases ht:S.testBit m
  ·rw[ht] at qt;have E:aJ (seekF a b S (n+1) c=seekF a b S n c):=by show _=_;rw[E0.o,←HM8.o,ht];rfl
   have ih1:=IH.o c _ cc _ _ w2 (by have:=HN.o;omega) HC.o (fun j hj hS=>by
    by_cases e:j=m
    ·subst e;rw[ht] at hS;cases hS
    ·exact HCL0.o j (by have:=HM8.o;have:=HN.o;omega) hS) HC8.o (hV.o.bz hB) (hVb.o.bz hB) (HTT.o.bz hB) (HI.o.bz hB)
   rw[E1.o] at ih1;have IH1:=ax ih1;clear ih1 ht;(go_wp2_with fail);refine IH1.o.mono ?_;rintro e w3 ⟨r,rfl,o3,hB3⟩;have O3:=ax o3;have hz:=hB.size;clear o3;(go_wp2_with fail);go_ret2;exact ⟨r,by rw[E.o];rfl,by rw[E.o];exact O3.o.bq hz,bgo hB hB3⟩
  ·rw[ht] at qt;have E:aJ (seekF a b S (n+1) c=(List.range (9 - n)).flatMap (seekFAt a b S n c)):=by show _=_;rw[E0.o,←HM8.o,ht];rfl
   clear ht;(go_wp2_with fail)
   go_loopw [12] (fun i wr=>∃ k:Nat,k≤m+1∧i=.int .i64 k∧aJ ((List.range k).flatMap (seekFAt a b S n c)=[])∧Blk wr w.heap.size tAs #[.slice A1 a.facts.length d1,.slice A2 a.atoms.length d2]∧Blk wr (w.heap.size+1) tAs #[.slice A3 b.facts.length d3,.slice A4 b.atoms.length d4]∧Below w.heap.size w wr) (fun i _=>9 - (intOf i).toNat)
   case atStart=>exact ⟨0,Nat.zero_le _,rfl,rfl,k0,kb,hB⟩
   case round=>
    clear k0 kb hB q0 l0 qb lb qt;obtain ⟨k,hk,rfl,HP,k0,kb,hB⟩:=hrel;have q0:=k0.cell;have l0:=k0.lt;have qb:=kb.cell;have lb:=kb.lt;have hz:=hB.size;by_cases hlt:k≤m
    ·have hki:(k:Int)≤(m:Int):=by omega
     have hk9:(k:Int)<9:=by omega
     have hkc:=ints_cl (HI.o.bz hB) (m:=k) (by rw[HC.o];omega);have HNX:aJ ((List.range (k+1)).flatMap (seekFAt a b S n c)=seekFAt a b S n c k):=by show _=_;rw[List.range_succ,List.flatMap_append,HP.o];simp
     by_cases hskip:k<m∧cl c k≠k
     ·have HX:aJ (seekFAt a b S n c k=[]):=by show _=_;rw[seekFAt,if_pos (by rw[←HM8.o];exact hskip)]
      have hkm:(k:Int)<(m:Int):=by omega
      have hne:(cl c k != (k:Int))=true:=by simpa using hskip.2
      clear hskip hki hlt;(go_wp2_with fail)
      go_round
      case rel=>exact ⟨k+1,by omega,by go_num,by show _=_;rw[HNX.o,HX.o],k0,kb,hB⟩
      case measure=>simp[intOf];omega
     ·have hsk2:k<m→(cl c k != (k:Int))=false:=fun h=>by
       cases Int.decEq (cl c k) k with
       | isTrue h=>simp[h]
       | isFalse h'=>exact absurd ⟨h,h'⟩ hskip
      have HX:aJ (seekFAt a b S n c k=seekF a b S n (c.set m k)):=by
       show _=_;rw[seekFAt,←HM8.o,if_neg hskip]
      clear hskip;have hcs:(c.set m (k:Int)).length=9:=by simpa using HC.o
      have HCS:=ax hcs
      have hcl':∀ j:Nat,j<9 - n→S.testBit j=true→0≤cl (c.set m (k:Int)) j∧cl (c.set m (k:Int)) j≤j:=fun j hj hSj=>by
       have:=HM8.o;have:=HN.o;rw[cl_set HC.o (by omega) _ (by omega)]
       split
       ·omega
       ·exact HCL0.o j (by omega) hSj
      have HCL':=ax hcl'
      have hc8':∀ j:Nat,j<9→cl (c.set m (k:Int)) j≤8:=fun j hj=>by
       rw[cl_set HC.o (by omega) _ (by omega)]
       split
       ·omega
       ·exact HC8.o j hj
      have HC8':=ax hc8';clear hcl' hc8' hcs;obtain hkm|hkm:k<m∨k=m:=by omega
      case' inl=>have h1:(k:Int)<(m:Int):=by omega
      case' inl=>have h2:=hsk2 hkm
      case' inr=>have h1:¬(k:Int)<(m:Int):=by omega
      all_goals
       clear hkm hsk2;(go_wp2_with (at_builtin;refine appIL (ys:=c) (base:=wr.heap.size) rfl _ _ rfl (v:=.slice (some ⟨wr.heap.size,0,none⟩) 0 0) rfl (IntsO.empty wr rfl) (by rw[HC.o];rfl) (HI.o.bz bel) (by rw[HC.o];simp) (by simp) ?_;intro A' c' w5 o5 hg5 hB6;rw[List.nil_append,HC.o] at o5 ⊢;obtain ⟨g,cur,-,rfl,hgb,kg,hcm,hset⟩:=o5.open_ (k:=m) (by rw[HC.o];omega);have qg:=(kg.cell m).trans hcm;have rg:=kg.frozen;have lg:=kg.lt;have HSET:=ax (hset k);have k5:=Blk.bz (g:=w.heap.size) (w:=wr.alloc (.cells #[] tI)) (k0.alloc _) hB6 l0;have hB5:Below w.heap.size w w5:=Below.trans bel (hB6.mono (by omega));have k6:=k5.far (p:=⟨g,m,none⟩) (by simp only;omega) (.int .i64 k);have kb5:=Blk.bz (g:=w.heap.size+1) (w:=wr.alloc (.cells #[] tI)) (kb.alloc _) hB6 lb;have kb6:=kb5.far (p:=⟨g,m,none⟩) (by simp only;omega) (.int .i64 k);have qb6:=kb6.cell;have q6:=k6.cell;clear hset o5 kg hcm q0 qb hg5));have hB7:Below w.heap.size w (w5.setCell ⟨g,m,none⟩ (.int .i64 k)):=hB5.setCell (p:=⟨g,m,none⟩) (by simp only;omega) _;have hz7:=hB7.size;have v7:=HSET.o.readsI.2;have ih1:=IH.o (c.set m (k:Int)) _ c' _ _ _ (by have:=HN.o;omega) HCS.o HCL'.o HC8'.o (hV.o.bz hB7) (hVb.o.bz hB7) (HTT.o.bz hB7) v7;rw[E1.o] at ih1;refine ih1.mono ?_;clear ih1 v7 q6 k5 qg rg qb6 kb5;rintro e w8 ⟨r,rfl,o8,hB8⟩;have O8:=ax o8;have k8:=k6.nz hB8;have kb8:=kb6.nz hB8;have hBn:=bgo hB7 hB8;clear o8 hB8 k6 kb6 hB7 hB5 hB6;cases hem:(seekF a b S n (c.set m (k:Int))).isEmpty
       ·have hne:seekFAt a b S n c k≠[]:=by rw[HX.o];intro h;rw[h] at hem;cases hem
        obtain ⟨y,y1,y2⟩:=flatMap_first (N:=9 - n) (by have:=HM8.o;have:=HN.o;omega) HP.o hne;rw[HX.o] at y1
        have E2:aJ ((seekF a b S (n+1) c).isEmpty=false∧firstI (seekF a b S (n+1) c)=firstI (seekF a b S n (c.set m (k:Int)))):=by
         refine ⟨?_,?_⟩
         ·rw[E.o]
          cases h:(List.range (9 - n)).flatMap (seekFAt a b S n c) with
          | nil=>rw[h] at y2;cases y2
          | cons _ _=>rfl
         ·unfold firstI;rw[E.o,y1,y2]
        clear hem hne y1 y2;(go_wp2_with fail);go_ret2;exact ⟨r,by rw[E2.o.1];rfl,by rw[E2.o.2];exact O8.o.bq hz7,hBn⟩
       ·have HX2:aJ (seekFAt a b S n c k=[]):=by show _=_;rw[HX.o];simpa using hem
        clear hem;(go_wp2_with fail)
        go_round
        case rel=>exact ⟨k+1,by omega,by go_num,by show _=_;rw[HNX.o,HX2.o],k8,kb8,hBn⟩
        case measure=>simp[intOf];omega
    ·obtain rfl:k=m+1:=by omega
     have E2:aJ (seekF a b S (n+1) c=[]):=by show _=_;rw[E.o,show 9 - n=m+1 from by have:=HM8.o;have:=HN.o;omega];exact HP.o
     (go_wp2_with fail);go_ret2;exact ⟨_,by rw[E2.o];rfl,by rw[E2.o];exact IntsO.bq (IntsO.empty _ rfl) (by omega),bel⟩
def entF (a b:Asn):Bool:=a.valid&&b.valid && !(failF a b).isSome
theorem termsL_star (a b:Asn) (t:Int):t∈mz (starA a b)↔t∈mz a∨t∈mz b:=by
 simp only[mz,starA,List.flatMap_append,List.mem_append];constructor
 ·rintro ((h|h)|(h|h))<;>simp[h]
 ·rintro ((h|h)|(h|h))<;>simp[h]
theorem seekF_fail {a b:Asn} (ha:a.valid=true) (hb:b.valid=true):(!(seekF a b (tset (mz (starA a b))) 8 opened).isEmpty)=(failF a b).isSome∧firstI (seekF a b (tset (mz (starA a b))) 8 opened)=(failF a b).getD []:=by
 have e:seek a (tset (mz (starA a b))) 8 opened=cases a (caseS a (tset (mz b))):=by
  refine seek_caseS ha _ _ fun j h1 h2=>?_;rw[caseS_bit,tset_bit,tset_bit];have hj:¬j=0:=by omega
  rw[decide_eq_false hj,Bool.or_false,←Bool.decide_or,decide_eq_decide,termsL_star];constructor
  ·rintro ⟨g,h|h⟩
   ·exact Or.inl ⟨g,h⟩
   ·exact Or.inr ⟨g,h⟩
  ·rintro (⟨g,h⟩|⟨g,h⟩)
   ·exact ⟨g,Or.inl h⟩
   ·exact ⟨g,Or.inr h⟩
 unfold seekF firstI;rw[e,←failF_eq hb];cases (cases a (caseS a (tset (mz b)))).filter fun d=>!caseB a b d<;>exact ⟨rfl,rfl⟩
theorem termsL_star_ok {a b:Asn} (ha:a.valid=true) (hb:b.valid=true):∀ t∈mz (starA a b),jq t=true:=by
 intro t ht;rcases (termsL_star a b t).1 ht with h|h
 ·exact termsL_ok ha t h
 ·exact termsL_ok hb t h
theorem c_spec_l6Fails {lo hi lo' hi':Nat} (v v':Value) (a b:Asn) (w:World) (h:AsnV w lo hi v a) (h':AsnV w lo' hi' v' b) (ha:a.valid=true) (hb:b.valid=true) :
  Calls Tryz.prog 149 #[v,v'] w fun e w'=>∃ r,e=.returned (.tuple #[r,.bool (failF a b).isSome])∧IntsO w' w.heap.size r ((failF a b).getD [])∧Below w.heap.size w w':=by
 have hV:=ax h;have hV':=ax h';have HA:=ax ha;have HB:=ax hb;have HT:=ax (termsL_star_ok ha hb);have HS:=ax (seekF_fail ha hb);have HOP:=ax openedB;have HLA:=ax (zjC ha);have HLB:=ax (zjC hb);obtain ⟨A1,c1,A2,c2,rfl,-,-⟩:=h;obtain ⟨A3,c3,A4,c4,rfl,-,-⟩:=h';clear ha hb;(go_enter Tryz.func149,Tryz.ntmps149);have k0:Blk ((w.alloc (.cells #[.slice A1 a.facts.length c1,.slice A2 a.atoms.length c2] tAs)).alloc (.cells #[.slice A3 b.facts.length c3,.slice A4 b.atoms.length c4] tAs)) w.heap.size tAs #[.slice A1 a.facts.length c1,.slice A2 a.atoms.length c2]:=blks;have k1:Blk ((w.alloc (.cells #[.slice A1 a.facts.length c1,.slice A2 a.atoms.length c2] tAs)).alloc (.cells #[.slice A3 b.facts.length c3,.slice A4 b.atoms.length c4] tAs)) (w.heap.size+1) tAs #[.slice A3 b.facts.length c3,.slice A4 b.atoms.length c4]:=blks;(go_wp2_with fail);refine wp_region_noPanic ?_;refine wp_region_held_drew (S:=(fun w'=>(∀ i,w'.cell? ⟨w.heap.size,i,none⟩=#[.slice A1 a.facts.length c1,.slice A2 a.atoms.length c2][i]?)∧(∀ i,w'.cell? ⟨w.heap.size+1,i,none⟩=#[.slice A3 b.facts.length c3,.slice A4 b.atoms.length c4][i]?))) (by kernel_rfl) (⟨Blk.cell blks,Blk.cell blks⟩) (fun aH=>?_);refine tk2 0 rfl aH (h:=tk2 1 rfl aH (h:=tk2 2 rfl aH (h:=?_)));(try simp only[zz]);refine tk2 3 rfl aH (h:=?_);refine rdc 4 rfl fun K hK=>?_;(try simp only[zz]);(go_simp;refine (c_spec_l6Both _ _ a b _ (hV.o.bz bel) (hV'.o.bz bel) (by have:=HLA.o;have:=HLB.o;omega) (by have:=HLA.o;have:=HLB.o;omega) HT.o).mono ?_;rintro e w3 ⟨r3,rfl,o3,hB3⟩;obtain ⟨Tb,ct,rfl,fT⟩:=o3.rj;rw[zjB];have hB:=bgo (w:=w) bel hB3;replace k0:=Blk.nz (g:=w.heap.size) blks hB3;replace k1:=Blk.nz (g:=w.heap.size+1) blks hB3;clear o3);refine hK.out _ _ (⟨Blk.cell blks,Blk.cell blks⟩) ?_;clear aH hK K;intro aH;refine rdc 5 rfl fun K hK=>?_;(try simp only[zz]);(go_simp;refine (c_spec_l5Open _).mono ?_;rintro e w4 ⟨r4,rfl,o4,hB4⟩;obtain ⟨Cb,cc,rfl,fC⟩:=o4.rj;have hB2:=bgo (w:=w) bel hB4;have fT4:=fT.bz hB4;replace k0:=Blk.nz (g:=w.heap.size) blks hB4;replace k1:=Blk.nz (g:=w.heap.size+1) blks hB4;clear o4);refine hK.out _ _ (⟨Blk.cell blks,Blk.cell blks⟩) ?_;clear aH hK K;intro aH;refine rdc 6 rfl fun K hK=>?_;(try simp only[zz]);(go_simp;refine (c_spec_l6Seek Tb ct HA.o HB.o 8 opened Cb cc _ _ _ (by omega) rfl (HOP.o.2 _) HOP.o.1 (hV.o.bz bel) (hV'.o.bz bel) (fT4.bz bel) (fC.bz bel)).mono ?_;rintro e w5 ⟨r5,rfl,o5,hB5⟩;have hz5:=hB2.size;have hB6:=bgo (w:=w) bel hB5;replace k0:=Blk.nz (g:=w.heap.size) blks hB5;replace k1:=Blk.nz (g:=w.heap.size+1) blks hB5);refine hK.out _ _ (⟨Blk.cell blks,Blk.cell blks⟩) ?_;clear aH hK K;intro aH;(try simp only[zz]);refine tk2 7 rfl aH (h:=tk2 8 rfl aH (h:=tk2 9 rfl aH (h:=?_)));(try simp only[zz]);refine tk2 10 rfl aH (h:=?_);(try simp only[zz]);refine dn1 ?_;have O5:=ax o5;clear o5 fC fT fT4 hB5 hB4 hB3;(go_wp2_with fail);go_ret2;exact ⟨r5,by rw[←HS.o.1];rfl,by rw[←HS.o.2];exact O5.o.bq (by first|exact hz5|(simp;exact hz5)),bel⟩
theorem c_spec_Entails {lo hi lo' hi':Nat} (v v':Value) (a b:Asn) (w:World) (h:AsnV w lo hi v a) (h':AsnV w lo' hi' v' b) :
  Calls Tryz.prog 86 #[v,v'] w fun e w'=>e=.returned (.bool (entF a b))∧Below w.heap.size w w':=by
 have hV:=ax h;have hV':=ax h';obtain ⟨A1,c1,A2,c2,rfl,-,-⟩:=h;obtain ⟨A3,c3,A4,c4,rfl,-,-⟩:=h';(go_enter Tryz.func86,Tryz.ntmps86);have k0:Blk ((w.alloc (.cells #[.slice A1 a.facts.length c1,.slice A2 a.atoms.length c2] tAs)).alloc (.cells #[.slice A3 b.facts.length c3,.slice A4 b.atoms.length c4] tAs)) w.heap.size tAs #[.slice A1 a.facts.length c1,.slice A2 a.atoms.length c2]:=blks;have k1:Blk ((w.alloc (.cells #[.slice A1 a.facts.length c1,.slice A2 a.atoms.length c2] tAs)).alloc (.cells #[.slice A3 b.facts.length c3,.slice A4 b.atoms.length c4] tAs)) (w.heap.size+1) tAs #[.slice A3 b.facts.length c3,.slice A4 b.atoms.length c4]:=blks;(go_wp2_with fail);refine (vz _ a _ (hV.o.bz bel)).mono ?_;rintro e w1 ⟨rfl,hB1⟩;have hB:Below w.heap.size w w1:=bgo (w:=w) bel hB1;replace k0:=k0.nz hB1;replace k1:=k1.nz hB1;(replace qk0:=k0.z;replace qk1:=k1.z);clear hB1;cases ha:a.valid
 ·have E:aJ (entF a b=false):=by show _=_;simp[entF,ha]
  clear ha;(go_wp2_with fail);go_ret;exact ⟨zjD E.o.symm,hB⟩
 ·have HA:=ax ha;clear ha;(go_wp2_with fail);refine (vz _ b _ (hV'.o.bz hB)).mono ?_;rintro e w2 ⟨rfl,hB2⟩;replace hB:=bgo hB hB2;replace k0:=k0.nz hB2;replace k1:=k1.nz hB2;(replace qk0:=k0.z;replace qk1:=k1.z);clear hB2;cases hb:b.valid
  ·have E:aJ (entF a b=false):=by show _=_;simp[entF,hb]
   clear hb;(go_wp2_with fail);go_ret;exact ⟨zjD E.o.symm,hB⟩
  ·have HB:=ax hb;have E:aJ (entF a b=(failF a b).isNone):=by show _=_;rw[entF,HA.o,hb];cases failF a b<;>rfl
   clear hb;(go_wp2_with fail);refine (c_spec_l6Fails _ _ a b _ (hV.o.bz hB) (hV'.o.bz hB) HA.o HB.o).mono ?_;rintro e w3 ⟨r,rfl,-,hB3⟩;replace hB:=bgo hB hB3;clear hB3 k0 k1 qk0 qk1;(go_wp2_with fail);go_ret;exact ⟨zjD E.o.symm,hB⟩
theorem c_impl_Entails {lo hi lo' hi':Nat} (v v':Value) (a b:Asn) (w:World) (h:AsnV w lo hi v a) (h':AsnV w lo' hi' v' b) (hhi:hi≤w.heap.size) (hhi':hi'≤w.heap.size) :
  Calls Tryz.prog 27 #[v,v'] w fun e w'=>e=.returned (.bool (entF a b))∧Below w.heap.size w w':=by
 have hV:=ax h;have hV':=ax h';obtain ⟨A1,c1,A2,c2,rfl,-,-⟩:=h;obtain ⟨A3,c3,A4,c4,rfl,-,-⟩:=h';(go_enter Tryz.func27,Tryz.ntmps27);have k0:Blk ((w.alloc (.cells #[.slice A1 a.facts.length c1,.slice A2 a.atoms.length c2] tAs)).alloc (.cells #[.slice A3 b.facts.length c3,.slice A4 b.atoms.length c4] tAs)) w.heap.size tAs #[.slice A1 a.facts.length c1,.slice A2 a.atoms.length c2]:=blks;have k1:Blk ((w.alloc (.cells #[.slice A1 a.facts.length c1,.slice A2 a.atoms.length c2] tAs)).alloc (.cells #[.slice A3 b.facts.length c3,.slice A4 b.atoms.length c4] tAs)) (w.heap.size+1) tAs #[.slice A3 b.facts.length c3,.slice A4 b.atoms.length c4]:=blks;(go_wp2_with fail);refine (jz _ a _ (hV.o.bz bel)).mono ?_;rintro e w1 ⟨rfl,hB1⟩;have hB:Below w.heap.size w w1:=bgo (w:=w) bel hB1;replace k0:=k0.nz hB1;replace k1:=k1.nz hB1;(replace qk0:=k0.z;replace qk1:=k1.z);clear hB1;cases ha:a.valid
 ·have E:aJ (entF a b=false):=by show _=_;simp[entF,ha]
  clear ha;(go_wp2_with fail);go_ret;exact ⟨zjD E.o.symm,hB⟩
 ·have HA:=ax ha;clear ha;(go_wp2_with fail);refine (jz _ b _ (hV'.o.bz hB)).mono ?_;rintro e w2 ⟨rfl,hB2⟩;replace hB:=bgo hB hB2;replace k0:=k0.nz hB2;replace k1:=k1.nz hB2;(replace qk0:=k0.z;replace qk1:=k1.z);clear hB2;cases hb:b.valid
  ·have E:aJ (entF a b=false):=by show _=_;simp[entF,hb]
   clear hb;(go_wp2_with fail);go_ret;exact ⟨zjD E.o.symm,hB⟩
  ·have HB:=ax hb;have hz:=hB.size;have E:aJ (entF a b=(failF a b).isNone):=by show _=_;rw[entF,HA.o,hb];cases failF a b<;>rfl
   clear hb;(go_wp2_with fail);refine (c_impl_failingCase _ _ a b _ (hV.o.bz hB) (hV'.o.bz hB) (by omega) (by omega) HA.o HB.o).mono ?_;rintro e w3 ⟨rfl,hB3⟩;replace hB:=bgo hB hB3;clear hB3 k0 k1 qk0 qk1;(go_wp2_with fail);go_ret;exact ⟨zjD E.o.symm,bel⟩
end
section
open Go Go.RowKit
def maskA (m:Nat):Nat→List Atm→List Atm
 | _,[]=>[]
 | i,x :: xs=>if m.testBit i then x :: maskA m (i+1) xs else maskA m (i+1) xs
def pickA (a:Asn) (m:Nat):Asn:=⟨[],maskA m 0 a.atoms⟩
def seekM (p:Nat→Bool):Nat→Nat→Option Nat
 | 0,_=>none
 | n+1,m=>if p m then some m else seekM p n (m+1)
def frB (a b:Asn) (m:Nat):Bool:=entF a (starA b (pickA a m))
def frM (a b:Asn):Option Nat:=seekM (frB a b) (2 ^ a.atoms.length) 0
def frameF (a b:Asn):Option Asn:=if a.valid&&b.valid then (frM a b).map (pickA a) else none
theorem maskA_len (m:Nat):∀ (xs:List Atm) (i:Nat),(maskA m i xs).length≤xs.length
 | [],_=>Nat.le_refl _
 | x :: xs,i=>by
  unfold maskA;have:=maskA_len m xs (i+1)
  split
  ·simp only[List.length_cons];omega
  ·simp only[List.length_cons];omega
theorem maskA_mem {m:Nat} {x:Atm}:∀ {xs:List Atm} {i:Nat},x∈maskA m i xs→x∈xs
 | [],_,h=>h
 | y :: xs,i,h=>by
  unfold maskA at h
  split at h
  ·rcases List.mem_cons.1 h with rfl|h
   ·exact List.mem_cons_self
   ·exact List.mem_cons_of_mem _ (maskA_mem h)
  ·exact List.mem_cons_of_mem _ (maskA_mem h)
theorem pickA_valid {a:Asn} (h:a.valid=true) (m:Nat):(pickA a m).valid=true:=by
 simp only[Asn.valid,factsValid,Bool.and_eq_true,decide_eq_true_eq,List.all_eq_true] at h ⊢;exact ⟨⟨Nat.zero_le _,fun _ h=>by cases h⟩,Nat.le_trans (maskA_len m _ 0) h.2.1,fun x hx=>h.2.2 x (maskA_mem hx)⟩
theorem frB_star {a b:Asn} (ha:a.valid=true) (hb:b.valid=true) (m:Nat):frB a b m=((starF b (pickA a m)).isSome&&entF a ((starF b (pickA a m)).getD ⟨[],[]⟩)):=by
 unfold starF;rw[hb,pickA_valid ha];unfold frB;cases h:(starA b (pickA a m)).valid
 ·rw[show (true&&true&&false)=false from rfl];simp only[Bool.false_eq_true,if_false,Option.isSome_none,Bool.false_and];unfold entF;rw[h,Bool.and_false,Bool.false_and]
 ·rfl
theorem frB_spec {a b:Asn} (m:Nat):frB a b m=((starA b (pickA a m)).valid&&entF a (starA b (pickA a m))):=by
 unfold frB;cases h:(starA b (pickA a m)).valid
 ·unfold entF;rw[h,Bool.and_false,Bool.false_and];rfl
 ·rfl
theorem seekM_lt {p:Nat→Bool}:∀ {n m k:Nat},seekM p n m=some k→m≤k∧k<m+n∧p k=true
 | 0,_,_,h=>by cases h
 | n+1,m,k,h=>by
  unfold seekM at h
  split at h
  ·rename_i hp;injection h with h;subst h;exact ⟨Nat.le_refl _,by omega,hp⟩
  ·have:=seekM_lt h;exact ⟨by omega,by omega,this.2.2⟩
theorem seekM_step {p:Nat→Bool} {N k:Nat} (hk:k<N):seekM p (N - k) k=if p k then some k else seekM p (N - (k+1)) (k+1):=by
 rw[show N - k=(N - (k+1))+1 by omega,seekM]
theorem frame_some {a b f:Asn} (h:frameF a b=some f):a.valid=true∧b.valid=true∧∃ m,m<2 ^ a.atoms.length∧f=pickA a m∧frB a b m=true:=by
 unfold frameF at h
 split at h
 ·rename_i hv;rw[Bool.and_eq_true] at hv;obtain ⟨m,h1,h2⟩:=Option.map_eq_some_iff.1 h;have:=seekM_lt h1;exact ⟨hv.1,hv.2,m,by omega,h2.symm,this.2.2⟩
 ·cases h
theorem frame_valid {a b f:Asn} (h:frameF a b=some f):f.valid=true:=by
 obtain ⟨ha,-,m,-,rfl,-⟩:=frame_some h;exact pickA_valid ha m
end
section
open Go Go.RowKit Go.Proofs
abbrev factS (f:Fct):Nat:=tins (tins 0 f.a) f.b
def impB (a:Asn) (f:Fct):Bool:=a.valid&&f.valid&&(cases a (caseS a (factS f))).all (Fct.fits · f)
theorem Fct.not_fits (c:List Int) (f:Fct):Fct.fits c ⟨!f.eq,f.a,f.b⟩ = !Fct.fits c f:=by
 unfold Fct.fits;cases f.eq<;>cases decide (cl c f.a=cl c f.b)<;>rfl
theorem Fct.valid_ok {f:Fct} (h:f.valid=true):(0≤f.a∧f.a≤8)∧(0≤f.b∧f.b≤8):=by
 simpa[Fct.valid,jq] using h
theorem cases_not (a:Asn) (f:Fct) (S:Nat):cases ⟨a.facts++[⟨!f.eq,f.a,f.b⟩],a.atoms⟩ S=(cases a S).filter fun c=>!Fct.fits c f:=by
 unfold cases;rw[List.filter_filter]
 congr 1
 funext c
 simp only[full,List.all_append,List.all_cons,List.all_nil,Bool.and_true,Fct.not_fits];cases a.facts.all (Fct.fits c)<;>cases apartF [] (filledL a.atoms c)<;>cases Fct.fits c f<;>rfl
theorem filter_empty {α:Type} (p:α→Bool):∀ (L:List α),(L.filter fun x=>!p x).isEmpty=L.all p
 | []=>rfl
 | x :: L=>by
  rw[List.filter_cons,List.all_cons];cases h:p x
  ·rfl
  ·simpa using filter_empty p L
theorem imp_seek {a:Asn} {f:Fct} (hv:a.valid=true) (hf:f.valid=true) :
  (seek ⟨a.facts++[⟨!f.eq,f.a,f.b⟩],a.atoms⟩ ((tset (mz a)|||1 <<< f.a.toNat)|||1 <<< f.b.toNat) 8 opened).isEmpty=(cases a (caseS a (factS f))).all (Fct.fits · f):=by
 have hfo:=Fct.valid_ok hf;have ha:jq f.a=true:=by simp[jq];omega
 have hb:jq f.b=true:=by simp[jq];omega
 have hbit:∀ j:Nat,(factS f).testBit j=(decide (f.a=(j:Int)) || decide (f.b=(j:Int))):=fun j=>by
  rw[tins_bit,tins_bit,Nat.zero_testBit,ha,hb];simp
 have hone:∀ (n j:Nat),(1 <<< n).testBit j=decide (n=j):=fun n j=>by
  rw[Nat.one_shiftLeft,Nat.testBit_two_pow]
 have e1:seek ⟨a.facts++[⟨!f.eq,f.a,f.b⟩],a.atoms⟩ ((tset (mz a)|||1 <<< f.a.toNat)|||1 <<< f.b.toNat) 8 opened=seek ⟨a.facts++[⟨!f.eq,f.a,f.b⟩],a.atoms⟩ (caseS a (factS f)) 8 opened:=by
  refine seek_congr _ (fun j h1 h2=>?_) 8 opened (by omega);rw[caseS_bit,hbit,Nat.testBit_or,Nat.testBit_or,tset_bit,hone,hone];have h0:¬j=0:=by omega
  have x1:decide (f.a.toNat=j)=decide (f.a=(j:Int)):=by rw[decide_eq_decide];omega
  have x2:decide (f.b.toNat=j)=decide (f.b=(j:Int)):=by rw[decide_eq_decide];omega
  rw[x1,x2];simp[h0,Bool.or_assoc]
 rw[e1,seek_cases (a:=Asn.mk (a.facts++[Fct.mk (!f.eq) f.a f.b]) a.atoms) ?_ (Asn.valid_ok hv).2 (caseS_zero a (factS f)) ?_,cases_not,filter_empty]
 ·intro g hg;rw[List.mem_append,List.mem_singleton] at hg;rcases hg with hg|rfl
  ·exact (Asn.valid_ok hv).1 g hg
  ·exact hfo
 ·intro t ht;obtain ⟨h1,h2⟩:=caseS_not hv (factS f) t ht;refine ⟨fun g hg=>?_,h2⟩;rw[List.mem_append,List.mem_singleton] at hg;rcases hg with hg|rfl
  ·exact h1 g hg
  ·rw[caseS_bit,hbit] at ht;simp only[Bool.or_eq_false_iff,decide_eq_false_iff_not] at ht;exact ⟨ht.2.1,ht.2.2⟩
end
section
open Go Go.RowKit Go.Proofs
attribute [local go_sem ↓] Go.wp_at_zero Go.wp_at_succ
attribute [local go_sem] Oper.semAt_some
theorem c_impl_Implies {lo hi:Nat} (v:Value) (a:Asn) (f:Fct) (w:World) (h:AsnV w lo hi v a) (hhi:hi≤w.heap.size) :
  Calls Tryz.prog 301 #[v,f.val] w fun e w'=>e=.returned (.bool (impB a f))∧Below w.heap.size w w':=by
 have hV:=ax h;obtain ⟨A1,c1,A2,c2,rfl,-,-⟩:=h;have HE:aJ (impB a f=(a.valid&&f.valid&&(cases a (caseS a (factS f))).all (Fct.fits · f))):=ax rfl;have HFS:aJ (factS f<512):=ax (tins_lt (tins_lt (by decide) _) _);obtain ⟨fe,fa,fb⟩:=f;refine (callsIn_wide (n:=3)).1 ?_;(refine callsIn_of_wp_marks Tryz.func301 rfl trivial ?_ rfl;simp only[Tryz.ntmps301,List.size_toArray,List.length_cons,List.length_nil,Nat.reduceAdd,Nat.reduceSub,Array.replicate_succ,Array.replicate_zero,List.push_toArray,List.append_toArray,List.nil_append,List.cons_append])
 gi_wp2_with fail
 refine ⟨trivial,(callsIn_wide.2 (jz _ a _ (hV.o.bz bel))).mono ?_⟩;rintro e w1 ⟨rfl,hB1⟩;have k0:Blk w1 w.heap.size tAs #[.slice A1 a.facts.length c1,.slice A2 a.atoms.length c2]:=Blk.nz blks hB1;have k1:Blk w1 (w.heap.size+1) tF #[.bool fe,.int .i64 fa,.int .i64 fb]:=Blk.nz blks hB1;have k2:Blk w1 (w.heap.size+1+1) 4 #[.bool false]:=Blk.nz blks hB1;have hB:Below w.heap.size w w1:=bgo (w:=w) bel hB1;have hz1:=hB1.size;simp only[World.size_alloc] at hz1;clear hB1;have q0:=k0.cell;have q1:=k1.cell;have q2:=k2.cell;have r2:=k2.frozen;have l2:=k2.lt;have l1:=k1.lt;have l0:=k0.lt;cases hv:a.valid
 ·gi_wp2_with fail
  refine ⟨trivial,?_⟩
  gi_wp2_with fail
  have z2:=(k2.set_ 0 (.bool false)).cell 0;refine ⟨.bool false,by simp[results,Tryz.f301,go_sem,z2,q2,l2],by rw[HE.o,hv];rfl,hB.setCell (p:=⟨w.heap.size+1+1,0,none⟩) (by simp only;omega) _⟩
 have HV:=ax hv;clear hv
 gi_wp2_with fail
 refine ⟨trivial,(callsIn_wide.2 (c_impl_FactValid ⟨fe,fa,fb⟩ _)).mono ?_⟩;rintro e w2 ⟨rfl,hB2⟩;replace k0:=k0.nz hB2;replace k1:=k1.nz hB2;replace k2:=k2.nz hB2;replace hB:=bgo hB hB2;have hz2:=hB2.size;clear hB2 q0 q1 q2 r2 l0 l1 l2;have q0:=k0.cell;have q1:=k1.cell;have q2:=k2.cell;have r2:=k2.frozen;have l2:=k2.lt;have l1:=k1.lt;have l0:=k0.lt;cases hf:Fct.valid ⟨fe,fa,fb⟩
 ·gi_wp2_with fail
  have z2:=(k2.set_ 0 (.bool false)).cell 0;refine ⟨.bool false,by simp[results,Tryz.f301,go_sem,z2,q2,l2],by rw[HE.o,hf];simp,hB.setCell (p:=⟨w.heap.size+1+1,0,none⟩) (by simp only;omega) _⟩
 have HFO:=ax (Fct.valid_ok hf);have HE2:aJ (impB a ⟨fe,fa,fb⟩=(cases a (caseS a (factS ⟨fe,fa,fb⟩))).all (Fct.fits · ⟨fe,fa,fb⟩)):=ax (by rw[HE.o,HV.o,hf];rfl);clear hf HE
 gi_wp2_with fail
 refine wpIn_wide.2 ?_;refine wp_region_noPanic ?_;refine wp_region_held_drew (S:=(fun w'=>(∀ i,w'.cell? ⟨w.heap.size,i,none⟩=#[.slice A1 a.facts.length c1,.slice A2 a.atoms.length c2][i]?)∧(∀ i,w'.cell? ⟨w.heap.size+1,i,none⟩=#[.bool fe,.int .i64 fa,.int .i64 fb][i]?))) (by kernel_rfl) (⟨k0.drew.cell,k1.drew.cell⟩) (fun aH=>?_);refine tk2 0 rfl aH (h:=tk2 1 rfl aH (h:=tk2 2 rfl aH (h:=?_)));(try simp only[zz]);refine tk2 3 rfl aH (h:=tk2 5 rfl aH (h:=tk2 6 rfl aH (h:=?_)));refine rdc 4 rfl fun K hK=>?_;(try simp only[zz]);(go_simp;refine (c_impl_with 0 fa _ (by decide)).mono ?_;rintro e w3 ⟨rfl,rfl⟩);refine hK.out _ _ (⟨k0.drew.cell,k1.drew.cell⟩) ?_;clear aH hK K;intro aH;refine rdc 7 rfl fun K hK=>?_;(try simp only[zz]);(go_simp;refine (c_impl_with (tins 0 fa) fb _ (tins_lt (by decide) _)).mono ?_;rintro e w3 ⟨rfl,rfl⟩);refine hK.out _ _ (⟨k0.drew.cell,k1.drew.cell⟩) ?_;clear aH hK K;intro aH;refine rdc 8 rfl fun K hK=>?_;(try simp only[zz]);(go_simp;refine (c_impl_possibleCases A1 A2 c1 c2 a (factS ⟨fe,fa,fb⟩) _ (hV.o.bz hB.drew) HFS.o).mono ?_;rintro e w3 ⟨gA,gT,rfl,hA,hT,kA,kT,hB3⟩;replace hB3:Below w2.heap.size w2 w3:=(Below.refl _ _).drew.trans hB3;replace k0:=k0.nz hB3;replace k1:=k1.nz hB3;replace k2:=k2.nz hB3;replace hB:=bgo hB hB3);refine hK.out _ _ (⟨k0.cell,k1.cell⟩) ?_;clear aH hK K;intro aH;(try simp only[zz]);refine dn1 ?_;have hzA:w2.heap.size≤gA:=hA;have hzT:w2.heap.size≤gT:=hT;have hzO:=k2.lt;have hz:=hB.size;have hz3:=hB3.size;have hAw:=hV.o.bz hB;clear hB3 q0 q1 q2 r2 l0 l1 l2 hA hT
 gi_wp2_with fail
 refine wp_rangeT (gf:=201) (lb:=#[.pointer (some ⟨gA,0,none⟩),.pointer (some ⟨gT,0,none⟩)]) rfl (enters_of Tryz.func201 (by kernel_rfl) rfl)
  (c_seq (n₀:=w.heap.size) w3 HV.o HFS.o hAw hhi (by omega) kA kT) (fun h k=>h.trans k) (Kept.putl (by omega)) (Below.refl _ _) (fun _=>rfl)
  (fun pre W=>aJ (∀ y∈pre,Fct.fits y.1 ⟨fe,fa,fb⟩=true)∧Blk W (w.heap.size+1) tF #[.bool fe,.int .i64 fa,.int .i64 fb]∧Blk W (w.heap.size+1+1) 4 #[.bool false]∧Below w.heap.size w W)
  (fun c pre W=>∃ x∈pre,c=.ret∧aJ (Fct.fits x.1 ⟨fe,fa,fb⟩=false)∧Blk W (w.heap.size+1+1) 4 #[.bool false]∧Below w.heap.size w W)
  (fun s X Y row hs hg hr=>by
   obtain ⟨e1,k1,k2,k3⟩:=hs
   exact ⟨e1,k1.turn hg hr (Or.inr (by omega)),k2.turn hg hr (Or.inr (by omega)),Below.turn k3 hg hr (by omega) k3.size⟩)
  (fun c s X Y row hs hg hr=>by
   obtain ⟨x,e1,e2,e3,k1,k2⟩:=hs
   exact ⟨x,e1,e2,e3,k1.turn hg hr (Or.inr (by omega)),Below.turn k2 hg hr (by omega) k2.size⟩)
  ⟨fun y hy=>absurd hy (by simp),k1,k2,hB⟩ ?round ?done ?stop
 case round=>
  rintro l pre x W hl ⟨HP,k1,k2,hB⟩ -;have hwz:=hB.size
  gi_wp2
  refine ⟨(KeepsOthers.alloc _ _).from _,Kept.alloc (by omega) _,fun o o' ho hc=>?_⟩;have kX:=(Blk.new W tTc (case9 x.1)).putl o' ho hc;replace k1:=(k1.alloc (.cells (case9 x.1) tTc)).putl o' ho hc;replace k2:=(k2.alloc (.cells (case9 x.1) tTc)).putl o' ho hc;have hB':=(bbox hB (.cells (case9 x.1) tTc)).trans (Kept.put (T1:=tTc) (T2:=tAs) (n₀:=w.heap.size) o' (by omega) ho hc).bz;clear ho;obtain ⟨V,hVe⟩:∃ V,V=(W.alloc (.cells (case9 x.1) tTc)).putObj l o':=⟨_,rfl⟩;rw[←hVe] at kX k1 k2 hB' ⊢;clear hVe hB;have q1:=k1.cell;have hxl:=ax x.len;have hzV:=hB'.size;have lX:=kX.lt
  gi_wp2_with fail
  refine ⟨trivial,(CallsIn.inRound l (callsIn_wide.2 (c_impl_factHolds ⟨fe,fa,fb⟩ x.1 W.heap.size _ (kX.case hxl.o) hxl.o HFO.o.1 HFO.o.2))).mono ?_⟩;rintro e w4 ⟨rfl,hB4⟩;replace k1:=k1.nz hB4;replace k2:=k2.nz hB4;have hBV:=bgo hB' hB4;have hKV:Kept tTc tAs w.heap.size V w4:=Kept.nz hB4 hzV;have hKF:KeepsOthers V w4:=(KX.of hB4).keeps;clear q1 hB4;have q2:=k2.cell 0;have r2:=k2.frozen;have l2:=k2.lt;cases he:Fct.fits x.1 ⟨fe,fa,fb⟩
  ·have HE:=ax he;clear he
   gi_wp2
   exact ⟨(hKF.trans (KeepsOthers.setCell _ _ _)).from _,x,by simp,rfl,HE,k2.set_ 0 (.bool false),hBV.setCell (p:=⟨w.heap.size+1+1,0,none⟩) (by simp only;omega) _⟩
  ·have HP2:aJ (∀ y∈pre++[x],Fct.fits y.1 ⟨fe,fa,fb⟩=true):=fun y hy=>by
    rcases List.mem_append.1 hy with hy|hy
    ·exact HP.o y hy
    ·rw[List.mem_singleton.1 hy];exact he
   clear he
   gi_wp2
   exact ⟨hKF.from _,hKV,HP2,k1,k2,hBV⟩
 case done=>
  rintro D ys W hD hS ⟨HP,k1,k2,hB⟩ hK
  have E:aJ (impB a ⟨fe,fa,fb⟩=true):=by
   show _=_;rw[HE2.o,←hS,List.all_eq_true];intro y hy;obtain ⟨z,hz,rfl⟩:=List.mem_map.1 hy;exact HP.o z hz
  clear hS k1;have q2:=k2.cell 0;have r2:=k2.frozen;have l2:=k2.lt
  gi_wp2
  have z2:=k2.set_ 0 (.bool true);have zB:=hB.setCell (p:=⟨w.heap.size+1+1,0,none⟩) (by simp only;omega) (.bool true);have zK:=(KeepsOthers.setCell W ⟨w.heap.size+1+1,0,none⟩ (.bool true)).same D _ hK rfl;obtain ⟨V,hVe⟩:∃ V,V=W.setCell ⟨w.heap.size+1+1,0,none⟩ (.bool true):=⟨_,rfl⟩;rw[←hVe] at z2 zB zK ⊢;refine ⟨by simp,.inl ⟨_,_,rfl,run_takeDeferred zK,?_⟩⟩;have y2:=(z2.putl (.deferred none) zK rfl).cell 0;refine ⟨.bool true,?_,by rw[E.o],zB.trans (belowK_b (w:=w) (Nat.le_refl _) V D _ _ (by omega) zK rfl rfl)⟩;simp at y2;simp[results,Tryz.f301,go_sem,y2]
 case stop=>
  rintro D c pre W hD hPre ⟨x,hx,rfl,HX,k2,hB⟩ hK
  have E:aJ (impB a ⟨fe,fa,fb⟩=false):=by
   show _=_;rw[HE2.o,List.all_eq_false];exact ⟨x.1,x.2,by rw[HX.o];decide⟩
  have q2:=k2.cell 0;have l2:=k2.lt
  gi_wp2
  refine ⟨by simp,.inl ⟨_,_,rfl,run_takeDeferred hK,?_⟩⟩;have y2:=(k2.putl (.deferred none) hK rfl).cell 0;refine ⟨.bool false,?_,by rw[E.o],hB.trans (belowK_b (w:=w) (Nat.le_refl _) W D _ _ (by omega) hK rfl rfl)⟩;simp at y2;simp[results,Tryz.f301,go_sem,y2]
end
section
open Go Go.RowKit Go.Proofs
attribute [local go_sem ↓] Go.wp_at_zero Go.wp_at_succ
def AsnC (w:World) (lo hi:Nat) (v:Value) (a:Asn):Prop:=
 ∃ A1 c1 A2 c2,v=.agg #[.slice A1 a.facts.length c1,.slice A2 a.atoms.length c2]∧FactsV w lo hi A1 a.facts∧AtomsV w lo hi A2 a.atoms∧a.atoms.length≤c2
theorem AsnC.V {w:World} {lo hi:Nat} {v:Value} {a:Asn} (h:AsnC w lo hi v a):AsnV w lo hi v a:=by
 obtain ⟨A1,c1,A2,c2,e,h1,h2,-⟩:=h;exact ⟨A1,c1,A2,c2,e,h1,h2⟩
theorem AsnC.bz {w w':World} {lo hi:Nat} {v:Value} {a:Asn} (h:AsnC w lo hi v a) (hb:Below w.heap.size w w'):AsnC w' lo hi v a:=by
 obtain ⟨A1,c1,A2,c2,e,h1,h2,h3⟩:=h;exact ⟨A1,c1,A2,c2,e,h1.bz hb,h2.bz hb,h3⟩
theorem own_cap {w:World} {base:Nat} {e:TypeId} {size n c:Nat} {A:Option Addr} {xs:List Value} (h:w.ownsRow base e size (.slice A n c) n xs):n≤c:=by
 rcases h.2 with ⟨e1,e2⟩|⟨g,cap,cur,e1,-,-,hn,-⟩
 ·omega
 ·injection e1 with e1 e2 e3;omega
theorem AsnO.C {w:World} {base:Nat} {v:Value} {a:Asn} (h:AsnO w base v a):AsnC w base w.heap.size v a:=by
 obtain ⟨fv,av,rfl,h1,h2⟩:=h;obtain ⟨A1,c1,rfl,f1⟩:=h1.rj;obtain ⟨A2,c2,rfl,f2⟩:=h2.rj;exact ⟨A1,c1,A2,c2,rfl,f1,f2,own_cap h2.1⟩
def newT (S:Nat):Option Nat:=(List.range' 5 4).find? fun t=>!S.testBit t
def unusedI (S:Nat):Int:=match newT S with|some t=>(t:Int)|none=>0
theorem newT_yes {S t:Nat} (h5:5≤t) (h8:t≤8) (h1:∀ k,5≤k→k<t→S.testBit k=true) (h2:S.testBit t=false):newT S=some t:=by
 unfold newT
 have e:List.range' 5 4=List.range' 5 (t - 5)++t :: List.range' (t+1) (8 - t):=by
  have:t=5∨t=6∨t=7∨t=8:=by omega
  rcases this with rfl|rfl|rfl|rfl<;>rfl
 rw[e,List.find?_append]
 have:(List.range' 5 (t - 5)).find? (fun t=>!S.testBit t)=none:=by
  rw[List.find?_eq_none];intro x hx;have:=List.mem_range'_1.1 hx;simp[h1 x (by omega) (by omega)]
 rw[this,List.find?_cons,h2];rfl
theorem newT_no {S:Nat} (h1:∀ k,5≤k→k≤8→S.testBit k=true):newT S=none:=by
 unfold newT;rw[List.find?_eq_none];intro x hx;have:=List.mem_range'_1.1 hx;simp[h1 x (by omega) (by omega)]
theorem c_impl_unused (S:Nat) (w:World) (hS:S<512):Calls Tryz.prog 306 #[.int .u16 S] w fun e w'=>e=.returned (.tuple #[.int .i64 (unusedI S),.bool (newT S).isSome])∧w=w':=by
 (go_enter Tryz.func306,Tryz.ntmps306);(go_wp2_with fail)
 go_loop [4] (fun i=>∃ k:Nat,5≤k∧k≤9∧i=.int .i64 k∧aJ (∀ j,5≤j→j<k→S.testBit j=true)) (fun i=>10 - (intOf i).toNat)
 case atStart=>exact ⟨5,by omega,by omega,rfl,ax fun j h1 h2=>by omega⟩
 case round=>
  obtain ⟨k,h5,h9,rfl,HA⟩:=hrel;by_cases hlt:k<9
  ·have hki:(k:Int)≤8:=by omega
   have ht:jq (k:Int)=true:=by simp[jq];omega
   have et:((k:Int)).toNat=k:=by omega
   (go_wp2_with fail);refine (c_impl_tHas S _ _ hS).mono ?_;rintro e w1 ⟨rfl,rfl⟩;rw[ht,et];clear ht et;cases hb:S.testBit k
   ·have E:=ax (newT_yes h5 (by omega) HA.o hb);clear hb;(go_wp2_with fail);go_ret2;exact ⟨by unfold unusedI;rw[E.o];rfl,rfl⟩
   ·have HA2:aJ (∀ j,5≤j→j<k+1→S.testBit j=true):=ax fun j h1 h2=>by
     by_cases e:j=k
     ·rw[e];exact hb
     ·exact HA.o j h1 (by omega)
    clear hb HA;(go_wp2_with fail)
    go_round
    case rel=>exact ⟨k+1,by omega,by omega,by go_num,HA2⟩
    case measure=>simp[intOf];omega
  ·obtain rfl:k=9:=by omega
   have E:=ax (newT_no (S:=S) fun j h1 h2=>HA.o j h1 (by omega));(go_wp2_with fail);go_ret2;exact ⟨by unfold unusedI;rw[E.o];rfl,rfl⟩
theorem c_impl_newVariable {lo hi:Nat} (v:Value) (a:Asn) (K:Nat) (w:World) (h:AsnV w lo hi v a) (hK:K<512):Calls Tryz.prog 300 #[v,.int .u16 K] w fun e w'=>e=.returned (.tuple #[.int .i64 (unusedI (tset (mz a)|||K)),.bool (newT (tset (mz a)|||K)).isSome])∧Below w.heap.size w w':=by
 have hV:=ax h;obtain ⟨A1,c1,A2,c2,rfl,-,-⟩:=h;have HT:=ax (tset_lt (mz a));have HO:aJ (bits .or .u16 (tset (mz a):Int) (K:Int)=((tset (mz a)|||K:Nat):Int)):=ax (u16_or_nat _ _ (by have:=tset_lt (mz a);omega) (by omega));have HL:aJ (tset (mz a)|||K<512):=ax (Nat.or_lt_two_pow (n:=9) (tset_lt _) hK);(go_enter Tryz.func300,Tryz.ntmps300);(go_wp2_with fail);refine (c_impl_termsIn _ a _ (hV.o.bz bel)).mono ?_;rintro e w1 ⟨rfl,hB1⟩;have hB:=bgo (w:=w) bel hB1;clear hB1;(go_wp2_with fail);rw[HO.o];refine (c_impl_unused _ _ HL.o).mono ?_;rintro e w2 ⟨rfl,rfl⟩;(go_wp2_with fail);go_ret2;exact ⟨rfl,hB⟩
theorem AtomsV.take_ {w:World} {lo hi:Nat} {A:Option Addr} {xs:List Atm} (h:AtomsV w lo hi A xs) {k:Nat} (hk:k≤xs.length):AtomsV w lo hi A (xs.take k):=by
 have hl:(xs.take k).length=k:=by rw[List.length_take];omega
 have e:encA xs=encA (xs.take k)++encA (xs.drop k):=by rw[←List.flatMap_append,List.take_append_drop]
 refine ⟨⟨len3 _ _ _ _,fun hn=>?_⟩,by rw[hl];exact Nat.le_trans hk h.lim⟩;obtain ⟨b,o,e2,h1,h2,hc⟩:=h.raw.2 (by omega);refine ⟨b,o,e2,h1,h2,fun j u hu=>hc j u ?_⟩;rw[e,List.getElem?_append_left ?_]
 ·exact hu
 ·exact (List.getElem?_eq_some_iff.1 hu).1
theorem AtomsV.drop_ {w:World} {lo hi b o:Nat} {xs:List Atm} (h:AtomsV w lo hi (some ⟨b,o,none⟩) xs) {k:Nat} (hk:k≤xs.length):AtomsV w lo hi (some ⟨b,o+k * 3,none⟩) (xs.drop k):=by
 have hl:(xs.drop k).length=xs.length - k:=List.length_drop;have e:encA xs=encA (xs.take k)++encA (xs.drop k):=by rw[←List.flatMap_append,List.take_append_drop]
 have ht:(encA (xs.take k)).length=k * 3:=by rw[len3,List.length_take];omega
 refine ⟨⟨len3 _ _ _ _,fun hn=>?_⟩,by rw[hl];exact Nat.le_trans (Nat.sub_le _ _) h.lim⟩;obtain ⟨b',o',e2,h1,h2,hc⟩:=h.raw.2 (by omega);injection e2 with e2;injection e2 with e3 e4;subst e3 e4;refine ⟨_,_,rfl,h1,h2,fun j u hu=>?_⟩;have:=hc (k * 3+j) u (by rw[e,List.getElem?_append_right (by omega),ht,Nat.add_sub_cancel_left];exact hu)
 rwa [←Nat.add_assoc] at this
theorem sliceAh (b o M d m:Nat) (hm:m≤d) (w:World):(Instr.slice 35 (.slice (some ⟨b,o,none⟩) M d) none (some (.int .i64 (m:Int))) none).run Tryz.prog w=.ok (.slice (some ⟨b,o,none⟩) m d) w:=by
 have h1:(0:Int)≤(m:Int):=by omega
 have h2:(m:Int)≤(d:Int):=by omega
 go_simp
theorem sliceAl (b o M d m:Nat) (hm:m≤M) (hd:M≤d):∃ A',(∀ w:World,(Instr.slice 35 (.slice (some ⟨b,o,none⟩) M d) (some (.int .i64 (m:Int))) none none).run Tryz.prog w=.ok (.slice A' (M - m) (d - m)) w)∧(m<d→A'=some ⟨b,o+m * 3,none⟩):=by
 have h1:(0:Int)≤(m:Int):=by omega
 have h2:(m:Int)≤(M:Int):=by omega
 by_cases hmd:m<d
 ·refine ⟨some ⟨b,o+m * 3,none⟩,fun w=>?_,fun _=>rfl⟩;go_simp;intro h;omega
 ·obtain rfl:m=d:=by omega
  refine ⟨some ⟨b,o,none⟩,fun w=>?_,fun h=>by omega⟩;go_simp
def zv (xs:List Atm) (i:Nat):List Atm:=xs.take i++xs.drop (i+1)
theorem withoutL_len {xs:List Atm} {i:Nat} (h:i<xs.length):(zv xs i).length+1=xs.length:=by
 unfold zv;rw[List.length_append,List.length_take,List.length_drop];omega
theorem c_impl_without {lo hi:Nat} (v:Value) (a:Asn) (i:Nat) (w:World) (h:AsnC w lo hi v a) (hi:i<a.atoms.length) :
  Calls Tryz.prog 290 #[v,.int .i64 i] w fun e w'=>∃ r,e=.returned r∧AtomsO w' w.heap.size r (zv a.atoms i)∧Below w.heap.size w w':=by
 obtain ⟨A1,c1,A2,c2,rfl,h1,h2,hcap⟩:=h;obtain ⟨b,o,rfl,-⟩:=h2.at hi;have HV:=ax h2;have hl:=h2.le;have hs1:=sliceAh b o a.atoms.length c2 i (by omega);obtain ⟨A',hs2,hA'⟩:=sliceAl b o a.atoms.length c2 (i+1) (by omega) hcap;have hT:=ax (h2.take_ (k:=i) (by omega))
 have hD:aJ (AtomsV w lo _ A' (a.atoms.drop (i+1))):=ax (by
  by_cases hlt:i+1<a.atoms.length
  ·rw[hA' (by omega)];exact h2.drop_ (by omega)
  ·rw[List.drop_eq_nil_of_le (by omega)]
   exact Rd.nil _ _ _ _ _)
 have e1:(a.atoms.take i).length=i:=by rw[List.length_take];omega
 have e2:(a.atoms.drop (i+1)).length=a.atoms.length - (i+1):=List.length_drop
 have hj:=ax (fun (W:World) (hb:Below w.heap.size w W)=>(show Calls Tryz.prog 112 #[.slice (some ⟨b,o,none⟩) i c2,.slice A' (a.atoms.length - (i+1)) (c2 - (i+1))] W fun e w'=>∃ r,e=.returned r∧AtomsO w' W.heap.size r (zv a.atoms i)∧Below W.heap.size W w' from by
  have:=c_joinA (some ⟨b,o,none⟩) A' c2 (c2 - (i+1)) (a.atoms.take i) (a.atoms.drop (i+1)) W (hT.o.bz hb) (hD.o.bz hb) (by rw[e1,e2];omega)
  rwa [e1,e2] at this))
 clear h1 h2 hA' e1 e2
 push_cast at hs2
 have hw:IntKind.i64.wrap ((i:Int)+1)=(i:Int)+1:=IntWalk.i64_in _ (by omega);(go_enter Tryz.func290,Tryz.ntmps290);have k0:Blk (w.alloc (.cells #[.slice A1 a.facts.length c1,.slice (some ⟨b,o,none⟩) a.atoms.length c2] tAs)) w.heap.size tAs #[.slice A1 a.facts.length c1,.slice (some ⟨b,o,none⟩) a.atoms.length c2]:=blks;(go_wp2_with fail);refine wp_region_noPanic ?_;refine wp_region_held_drew (S:=(fun w'=>∀ i,w'.cell? ⟨w.heap.size,i,none⟩=#[.slice A1 a.facts.length c1,.slice (some ⟨b,o,none⟩) a.atoms.length c2][i]?)) (by kernel_rfl) (Blk.cell blks) (fun aH=>?_);refine tk2 0 rfl aH (h:=tk2 1 rfl aH (h:=tk2 2 rfl aH (h:=?_)));(try simp only[zz]);refine tk2 3 rfl aH (h:=tk2 4 rfl aH (h:=tk2 5 rfl aH (h:=?_)));(try simp only[zz]);refine tk2 6 rfl aH (h:=tk2 7 rfl aH (h:=tk2 8 rfl aH (h:=?_)));refine rdc 9 rfl fun K hK=>?_;(try simp only[zz]);(go_simp;refine (hj.o _ bel).mono ?_;rintro e w1 ⟨r,rfl,o1,hB1⟩;have hB:=bgo (w:=w) bel hB1;have O1:=ax (o1.bq (base':=w.heap.size) (by simp));replace k0:=Blk.nz (g:=w.heap.size) blks hB1);refine hK.out _ _ (k0.cell) ?_;clear aH hK K;intro aH;refine rdc 10 rfl fun K hK=>?_;(try simp only[zz]);go_simp;refine hK.out _ _ (k0.cell) ?_;clear aH hK K;intro aH;(try simp only[zz]);refine dn1 ?_;(go_wp2_with fail);go_ret;exact ⟨r,rfl,O1.o,hB⟩
def findP (a:Asn) (kind t:Int) (i:Nat):Bool:=match a.atoms[i]? with
 | some x=>decide (x.kind=kind)&&impB a ⟨true,x.a,t⟩
 | none=>false
def findK (a:Asn) (kind t:Int):Option Nat:=(List.range a.atoms.length).find? (findP a kind t)
def findI (a:Asn) (kind t:Int):Int:=match findK a kind t with|some i=>(i:Int)|none=>0
theorem findK_yes {a:Asn} {kind t:Int} {k:Nat} (hk:k<a.atoms.length) (h1:∀ j,j<k→findP a kind t j=false) (h2:findP a kind t k=true):findK a kind t=some k:=by
 unfold findK
 have e:List.range a.atoms.length=List.range k++(List.range' k (a.atoms.length - k)):=by
  rw[List.range_eq_range',List.range_eq_range',show a.atoms.length=k+(a.atoms.length - k) by omega,←List.range'_append];simp
 rw[e,List.find?_append]
 have:(List.range k).find? (findP a kind t)=none:=by
  rw[List.find?_eq_none];intro x hx;simp[h1 x (List.mem_range.1 hx)]
 rw[this,show a.atoms.length - k=(a.atoms.length - k - 1)+1 by omega,List.range'_succ,List.find?_cons,h2];rfl
theorem findK_no {a:Asn} {kind t:Int} (h1:∀ j,j<a.atoms.length→findP a kind t j=false):findK a kind t=none:=by
 unfold findK;rw[List.find?_eq_none];intro x hx;simp[h1 x (List.mem_range.1 hx)]
theorem c_impl_firstAtomAt {lo hi:Nat} (v:Value) (a:Asn) (kind t:Int) (w:World) (h:AsnV w lo hi v a) (hhi:hi≤w.heap.size) :
  Calls Tryz.prog 287 #[v,.int .i64 kind,.int .i64 t] w fun e w'=>e=.returned (.tuple #[.int .i64 (findI a kind t),.bool (findK a kind t).isSome])∧Below w.heap.size w w':=by
 have hV:=ax h;obtain ⟨A1,c1,A2,c2,rfl,-,h2⟩:=h;have H2:=ax h2;have hl:=h2.le;clear h2;(go_enter Tryz.func287,Tryz.ntmps287);have k0:Blk (w.alloc (.cells #[.slice A1 a.facts.length c1,.slice A2 a.atoms.length c2] tAs)) w.heap.size tAs #[.slice A1 a.facts.length c1,.slice A2 a.atoms.length c2]:=blks;have hB:Below w.heap.size w (w.alloc (.cells #[.slice A1 a.facts.length c1,.slice A2 a.atoms.length c2] tAs)):=bel;(go_wp2_with fail)
 go_loopw [13] (fun i wr=>∃ k:Nat,k≤a.atoms.length∧i=.int .i64 k∧aJ (∀ j,j<k→findP a kind t j=false)∧Blk wr w.heap.size tAs #[.slice A1 a.facts.length c1,.slice A2 a.atoms.length c2]∧aJ (Below w.heap.size w wr)) (fun i _=>a.atoms.length - (intOf i).toNat)
 case atStart=>exact ⟨0,Nat.zero_le _,rfl,ax fun j h=>by omega,k0,hB⟩
 case round=>
  clear k0 hB;obtain ⟨k,hk,rfl,HA,k0,HB⟩:=hrel;have hzr:=HB.o.size;by_cases hlt:k<a.atoms.length
  ·obtain ⟨b,off,rfl,g0,g1,g2⟩:=(H2.o.bz HB.o).at hlt;have hki:(k:Int)<(a.atoms.length:Int):=by omega
   have HP:aJ (findP a kind t k=(decide (a.atoms[k].kind=kind)&&impB a ⟨true,a.atoms[k].a,t⟩)):=ax (by unfold findP;rw[List.getElem?_eq_getElem hlt]);obtain ⟨x,hx⟩:∃ x,x=a.atoms[k]:=⟨_,rfl⟩;rw[←hx] at g0 g1 g2 HP;have hbx:Below wr.heap.size wr (wr.alloc (.cells #[.int .i64 x.kind,.int .i64 x.a,.int .i64 x.b] tA)):=bbox (Below.refl _ _) _;have k1:=k0.nz hbx;have HB1:=ax (bgo HB.o hbx);have q1:=k1.cell;have l1:=k1.lt;have hz1:=hbx.size;clear hx hbx;by_cases hkd:x.kind=kind
   case neg=>
    have hkb:(x.kind == kind)=false:=by simpa using hkd
    have HA2:aJ (∀ j,j<k+1→findP a kind t j=false):=ax fun j hj=>by
     by_cases e:j=k
     ·rw[e,HP.o];simp[hkd]
     ·exact HA.o j (by omega)
    clear HA HP hkd;(go_wp2_with fail)
    go_round
    case rel=>exact ⟨k+1,by omega,by go_num,HA2,k1,HB1.o⟩
    case measure=>simp[intOf];omega
   subst hkd;(go_wp2_with fail);refine (c_impl_Implies _ a ⟨true,x.a,t⟩ _ (hV.o.bz HB1.o) (by omega)).mono ?_;rintro e w3 ⟨rfl,hB3⟩;replace k1:=k1.nz hB3;have HB3:=ax (bgo HB1.o hB3);clear hB3 q1 l1;cases hi:impB a ⟨true,x.a,t⟩
   ·have HA2:aJ (∀ j,j<k+1→findP a x.kind t j=false):=ax fun j hj=>by
     by_cases e:j=k
     ·rw[e,HP.o,hi];simp
     ·exact HA.o j (by omega)
    clear HA HP hi;(go_wp2_with fail)
    go_round
    case rel=>exact ⟨k+1,by omega,by go_num,HA2,k1,HB3.o⟩
    case measure=>simp[intOf];omega
   ·have E:=ax (findK_yes hlt HA.o (by rw[HP.o,hi];simp));clear HA HP hi;(go_wp2_with fail);go_ret2;exact ⟨by unfold findI;rw[E.o];rfl,HB3.o⟩
  ·obtain rfl:k=a.atoms.length:=by omega
   have E:=ax (findK_no (fun j hj=>HA.o j hj));(go_wp2_with fail);go_ret2;exact ⟨by unfold findI;rw[E.o];rfl,HB.o⟩
end
end Go.Proofs.YtjaohekkmlkinaaGreat
