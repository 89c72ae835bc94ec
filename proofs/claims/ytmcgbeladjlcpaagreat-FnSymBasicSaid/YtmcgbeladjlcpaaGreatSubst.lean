/- Tidying: the spec's substitution. -/
import Derived.Test.YtmcgbeladjlcpaaGreatMCells
set_option linter.unusedSimpArgs false
set_option linter.unusedVariables false
set_option maxRecDepth 100000
set_option maxHeartbeats 25600000
namespace Go.Proofs.YtmcgbeladjlcpaaGreat
section
open Go Go.RowKit Go.Proofs
attribute [local go_sem ↓] Go.wp_at_zero Go.wp_at_succ
theorem FactsV.one' {w:World} {g:Nat} {e:Bool} {x y:Int} (h:Blk w g tF #[.bool e,.int .i64 x,.int .i64 y]):FactsV w g (g+1) (some ⟨g,0,none⟩) [⟨e,x,y⟩]:=FactsV.one (f:=⟨e,x,y⟩) h
theorem AtomsV.one' {w:World} {g:Nat} {e:Int} {x y:Int} (h:Blk w g tA #[.int .i64 e,.int .i64 x,.int .i64 y]):AtomsV w g (g+1) (some ⟨g,0,none⟩) [⟨e,x,y⟩]:=AtomsV.one (f:=⟨e,x,y⟩) h
theorem map_take {α β:Type} (f:α→β) (xs:List α) (k:Nat) (hk:k<xs.length):(xs.take (k+1)).map f=(xs.take k).map f++[f xs[k]]:=by
 rw[List.take_succ_eq_append_getElem hk,List.map_append];rfl
theorem c_spec_l3Subst {lo hi:Nat} (v:Value) (a:Asn) (x y:Int) (w:World) (h:AsnV w lo hi v a) :
  Calls Tryz.prog 220 #[v,.int .i64 x,.int .i64 y] w fun e w'=>∃ r,e=.returned r∧AsnO w' w.heap.size r (substA x y a)∧Below w.heap.size w w':=by
 obtain ⟨A1,c1,A2,c2,rfl,h1,h2⟩:=h
 have l1:=h1.le
 have l2:=h2.le
 go_enter Tryz.func220,Tryz.ntmps220
 obtain ⟨k0,k1,k2⟩:=blk3 w 26 26 26 #[.slice A1 a.facts.length c1,.slice A2 a.atoms.length c2] #[.slice none 0 0,.slice none 0 0] #[.slice none 0 0,.slice none 0 0]
 go_wp2_with fail
 go_loopw [8] (fun i wr=>∃ (k:Nat) (A:Option Addr) (c:Nat),k≤a.facts.length∧i=.int .i64 k∧FactsO wr (w.heap.size+1+1+1) (.slice A k c) ((a.facts.take k).map (Fct.sub x y))∧
  Blk wr w.heap.size 26 #[.slice A1 a.facts.length c1,.slice A2 a.atoms.length c2]∧Blk wr (w.heap.size+1) 26 #[.slice none 0 0,.slice none 0 0]∧Blk wr (w.heap.size+1+1) 26 #[.slice A k c,.slice none 0 0]∧Below w.heap.size w wr) (fun i _=>a.facts.length - (intOf i).toNat)
 case atStart=>exact ⟨0,none,0,Nat.zero_le _,rfl,FactsO.nil _ _,k0,k1,k2,bel⟩
 case round=>
  clear k0 k1 k2
  obtain ⟨k,A,c,hk,rfl,of,k0,k1,k2,hB⟩:=hrel
  (replace qk0:=k0.cell;replace rk0:=k0.frozen;replace lk0:=k0.lt;replace qk1:=k1.cell;replace rk1:=k1.frozen;replace lk1:=k1.lt;replace qk2:=k2.cell;replace rk2:=k2.frozen;replace lk2:=k2.lt)
  by_cases hlt:k<a.facts.length
  ·obtain ⟨b,off,rfl,hbl⟩:=h1.blt hlt
   obtain ⟨g0,g1,g2⟩:=(h1.below hB).cl hlt
   have HT:=Lib.hid (map_take (Fct.sub x y) a.facts k hlt)
   have HL:Hid (((a.facts.take k).map (Fct.sub x y)).length=k):=by simp[Hid];omega
   have hL2:(List.map (Fct.sub x y) (List.take k a.facts)).length≤1049599:=by rw[HL.out];omega
   have hwz:=hB.size
   go_wp2_with fail
   have kf:=Blk.new wr tF #[.bool a.facts[k].eq,.int .i64 a.facts[k].a,.int .i64 a.facts[k].b]
   refine wp_region_noPanic ?_
   refine wp_region_last' (S:=(fun w'=>(∀ i,w'.cell? ⟨w.heap.size+1+1,i,none⟩=#[.slice A k c,.slice none 0 0][i]?)∧(∀ i,w'.cell? ⟨wr.heap.size,i,none⟩=#[.bool a.facts[k].eq,.int .i64 a.facts[k].a,.int .i64 a.facts[k].b][i]?))) (by simp) (by kernel_rfl) (by kernel_rfl) (⟨Blk.cell blks,Blk.cell blks⟩) (fun hHeld=>?_)
   simp only[List.dropLast,List.getLast,nopOf,List.cons_append,List.nil_append,List.length_cons,List.length_nil,Nat.zero_add,Nat.reduceAdd]
   refine tk2 0 rfl hHeld ?_
   try simp only[zz]
   refine tk2 1 rfl hHeld ?_
   try simp only[zz]
   refine tk2 2 rfl hHeld ?_
   try simp only[zz]
   refine tk2 3 rfl hHeld ?_
   try simp only[zz]
   refine tk2 4 rfl hHeld ?_
   try simp only[zz]
   refine tk2 5 rfl hHeld ?_
   try simp only[zz]
   refine tk2 6 rfl hHeld ?_
   try simp only[zz]
   refine tk2 7 rfl hHeld ?_
   try simp only[zz]
   refine tk2 9 rfl hHeld ?_
   try simp only[zz]
   refine tk2 10 rfl hHeld ?_
   try simp only[zz]
   refine tk2 11 rfl hHeld ?_
   try simp only[zz]
   refine tk2 12 rfl hHeld ?_
   try simp only[zz]
   refine rdc 8 rfl fun K hK=>?_
   try simp only[zz]
   (go_simp;refine (c_l3Swap _ _ _ _).mono ?_;rintro e w' ⟨rfl,rfl⟩)
   refine hK.out _ _ (⟨Blk.cell blks,Blk.cell blks⟩) ?_
   clear hHeld hK K
   intro hHeld
   try simp only[zz]
   refine rdc 13 rfl fun K hK=>?_
   try simp only[zz]
   (go_simp;refine (c_l3Swap _ _ _ _).mono ?_;rintro e w' ⟨rfl,rfl⟩)
   refine hK.out _ _ (⟨Blk.cell blks,Blk.cell blks⟩) ?_
   clear hHeld hK K
   intro hHeld
   try simp only[zz]
   refine tk2 14 rfl hHeld ?_
   try simp only[zz]
   refine rdc 15 rfl fun K hK=>?_
   try simp only[zz]
   go_simp
   refine hK.out _ _ (⟨Blk.cell blks,Blk.cell blks⟩) ?_
   clear hHeld hK K
   intro hHeld
   try simp only[zz]
   refine rdc 16 rfl fun K hK=>?_
   skip
   (refine stepFL (base:=w.heap.size+1+1+1) (xs:=(a.facts.take k).map (Fct.sub x y)) rfl _ _ rfl rfl (FactsO.below (w:=wr) of bel) rfl (FactsV.one' blks) (by simp;omega) (by simp;omega) ?_;intro A' c' w2 of2 hg2 hB3;have z2:=Blk.grownO (g:=w.heap.size+1+1) (hg:=hg2) blks (FactsO.below (w:=wr) of bel).1 (by decide);have z2c:=z2.cell;have z2f:=z2.frozen;have zf:Blk w2 wr.heap.size tF #[.bool a.facts[k].eq,.int .i64 a.facts[k].a,.int .i64 a.facts[k].b]:=Blk.grown blks hg2 (fun e=>absurd (of.1.lt _ e.symm).2 (Nat.lt_irrefl _)))
   refine hK.out _ _ (⟨z2c,zf.cell⟩) ?_
   clear hHeld hK K
   intro hHeld
   try simp only[zz]
   refine tk2 17 rfl hHeld ?_
   try simp only[zz]
   refine rdc 18 rfl fun K hK=>?_
   go_simp
   refine hK.out _ _ (⟨z2c,zf.cell⟩) (fun hHeld=>?_)
   clear hK K
   refine wpAnyH_done (by kernel_rfl) ?_ _
   unfold lastQ
   go_simp
   refine NoPanic.normal ?_
   have z0:=Blk.grownO (g:=w.heap.size) (hg:=hg2) blks (FactsO.below (w:=wr) of bel).1 (by decide)
   have z1:=Blk.grownO (g:=w.heap.size+1) (hg:=hg2) blks (FactsO.below (w:=wr) of bel).1 (by decide)
   have hBw2:Below w.heap.size w w2:=Below.trans bel (hB3.mono (by omega))
   go_wp2_with fail
   have of3:=of2.setT z2 (by decide) 0 (.slice A' (List.map (Fct.sub x y) (List.take k a.facts)++[Fct.sub x y a.facts[k]]).length c')
   rw[show (⟨a.facts[k].eq,swp x y a.facts[k].a,swp x y a.facts[k].b⟩:Fct)=Fct.sub x y a.facts[k] from rfl] at of3
   rw[←HT.out] at of3
   simp only[List.length_map,List.length_take,Nat.min_eq_left (show k+1≤a.facts.length from hlt)] at of3
   go_round
   case rel=>exact ⟨k+1,A',c',by omega,by go_num,of3,z0.far (by simp only[];omega) _,z1.far (by simp only[];omega) _,z2.set_ 0 _,bel⟩
   case measure=>simp[intOf];omega
  ·obtain rfl:k=a.facts.length:=by omega
   rw[List.take_length] at of
   go_wp2_with fail
   go_loopw [10] (fun i wr=>∃ (k:Nat) (B:Option Addr) (d:Nat),k≤a.atoms.length∧i=.int .i64 k∧FactsO wr (w.heap.size+1+1+1) (.slice A a.facts.length c) (a.facts.map (Fct.sub x y))∧AtomsO wr (w.heap.size+1+1+1) (.slice B k d) ((a.atoms.take k).map (Atm.sub x y))∧
    Blk wr w.heap.size 26 #[.slice A1 a.facts.length c1,.slice A2 a.atoms.length c2]∧Blk wr (w.heap.size+1) 26 #[.slice none 0 0,.slice none 0 0]∧Blk wr (w.heap.size+1+1) 26 #[.slice A a.facts.length c,.slice B k d]∧Below w.heap.size w wr) (fun i _=>a.atoms.length - (intOf i).toNat)
   case atStart=>exact ⟨0,none,0,Nat.zero_le _,rfl,of,AtomsO.nil _ _,k0,k1,k2,bel⟩
   case round=>
    clear k0 k1 k2 of hB qk0 rk0 lk0 qk1 rk1 lk1 qk2 rk2 lk2
    obtain ⟨k,B,d,hk,rfl,og,of,k0,k1,k2,hB⟩:=hrel
    (replace qk0:=k0.cell;replace rk0:=k0.frozen;replace lk0:=k0.lt;replace qk1:=k1.cell;replace rk1:=k1.frozen;replace lk1:=k1.lt;replace qk2:=k2.cell;replace rk2:=k2.frozen;replace lk2:=k2.lt)
    by_cases hlt:k<a.atoms.length
    ·obtain ⟨b,off,rfl,hbl⟩:=h2.blt hlt
     obtain ⟨g0,g1,g2⟩:=(h2.below hB).cl hlt
     have HT:=Lib.hid (map_take (Atm.sub x y) a.atoms k hlt)
     have HL:Hid (((a.atoms.take k).map (Atm.sub x y)).length=k):=by simp[Hid];omega
     have hL2:(List.map (Atm.sub x y) (List.take k a.atoms)).length≤1049599:=by rw[HL.out];omega
     have hwz:=hB.size
     go_wp2_with fail
     have kf:=Blk.new wr tA #[.int .i64 a.atoms[k].kind,.int .i64 a.atoms[k].a,.int .i64 a.atoms[k].b]
     refine wp_region_noPanic ?_
     refine wp_region_last' (S:=(fun w'=>(∀ i,w'.cell? ⟨w.heap.size+1+1,i,none⟩=#[.slice A a.facts.length c,.slice B k d][i]?)∧(∀ i,w'.cell? ⟨wr.heap.size,i,none⟩=#[.int .i64 a.atoms[k].kind,.int .i64 a.atoms[k].a,.int .i64 a.atoms[k].b][i]?))) (by simp) (by kernel_rfl) (by kernel_rfl) (⟨Blk.cell blks,Blk.cell blks⟩) (fun hHeld=>?_)
     simp only[List.dropLast,List.getLast,nopOf,List.cons_append,List.nil_append,List.length_cons,List.length_nil,Nat.zero_add,Nat.reduceAdd]
     refine tk2 0 rfl hHeld ?_
     try simp only[zz]
     refine tk2 1 rfl hHeld ?_
     try simp only[zz]
     refine tk2 2 rfl hHeld ?_
     try simp only[zz]
     refine tk2 3 rfl hHeld ?_
     try simp only[zz]
     refine tk2 4 rfl hHeld ?_
     try simp only[zz]
     refine tk2 5 rfl hHeld ?_
     try simp only[zz]
     refine tk2 6 rfl hHeld ?_
     try simp only[zz]
     refine tk2 7 rfl hHeld ?_
     try simp only[zz]
     refine tk2 9 rfl hHeld ?_
     try simp only[zz]
     refine tk2 10 rfl hHeld ?_
     try simp only[zz]
     refine tk2 11 rfl hHeld ?_
     try simp only[zz]
     refine tk2 12 rfl hHeld ?_
     try simp only[zz]
     refine rdc 8 rfl fun K hK=>?_
     try simp only[zz]
     (go_simp;refine (c_l3Swap _ _ _ _).mono ?_;rintro e w' ⟨rfl,rfl⟩)
     refine hK.out _ _ (⟨Blk.cell blks,Blk.cell blks⟩) ?_
     clear hHeld hK K
     intro hHeld
     try simp only[zz]
     refine rdc 13 rfl fun K hK=>?_
     try simp only[zz]
     (go_simp;refine (c_l3Swap _ _ _ _).mono ?_;rintro e w' ⟨rfl,rfl⟩)
     refine hK.out _ _ (⟨Blk.cell blks,Blk.cell blks⟩) ?_
     clear hHeld hK K
     intro hHeld
     try simp only[zz]
     refine tk2 14 rfl hHeld ?_
     try simp only[zz]
     refine rdc 15 rfl fun K hK=>?_
     try simp only[zz]
     go_simp
     refine hK.out _ _ (⟨Blk.cell blks,Blk.cell blks⟩) ?_
     clear hHeld hK K
     intro hHeld
     try simp only[zz]
     refine rdc 16 rfl fun K hK=>?_
     skip
     (refine stepAL (base:=w.heap.size+1+1+1) (xs:=(a.atoms.take k).map (Atm.sub x y)) rfl _ _ rfl rfl (AtomsO.below (w:=wr) of bel) rfl (AtomsV.one' blks) (by simp;omega) (by simp;omega) ?_;intro A' c' w2 of2 hg2 hB3;have z2:=Blk.grownO (g:=w.heap.size+1+1) (hg:=hg2) blks (AtomsO.below (w:=wr) of bel).1 (by decide);have z2c:=z2.cell;have z2f:=z2.frozen;have zf:Blk w2 wr.heap.size tA #[.int .i64 a.atoms[k].kind,.int .i64 a.atoms[k].a,.int .i64 a.atoms[k].b]:=Blk.grown blks hg2 (fun e=>absurd (of.1.lt _ e.symm).2 (Nat.lt_irrefl _)))
     refine hK.out _ _ (⟨z2c,zf.cell⟩) ?_
     clear hHeld hK K
     intro hHeld
     try simp only[zz]
     refine tk2 17 rfl hHeld ?_
     try simp only[zz]
     refine rdc 18 rfl fun K hK=>?_
     go_simp
     refine hK.out _ _ (⟨z2c,zf.cell⟩) (fun hHeld=>?_)
     clear hK K
     refine wpAnyH_done (by kernel_rfl) ?_ _
     unfold lastQ
     go_simp
     refine NoPanic.normal ?_
     have z0:=Blk.grownO (g:=w.heap.size) (hg:=hg2) blks (AtomsO.below (w:=wr) of bel).1 (by decide)
     have z1:=Blk.grownO (g:=w.heap.size+1) (hg:=hg2) blks (AtomsO.below (w:=wr) of bel).1 (by decide)
     have hBw2:Below w.heap.size w w2:=Below.trans bel (hB3.mono (by omega))
     go_wp2_with fail
     have of3:=of2.setT z2 (by decide) 1 (.slice A' (List.map (Atm.sub x y) (List.take k a.atoms)++[Atm.sub x y a.atoms[k]]).length c')
     rw[show (⟨a.atoms[k].kind,swp x y a.atoms[k].a,swp x y a.atoms[k].b⟩:Atm)=Atm.sub x y a.atoms[k] from rfl] at of3
     rw[←HT.out] at of3
     simp only[List.length_map,List.length_take,Nat.min_eq_left (show k+1≤a.atoms.length from hlt)] at of3
     go_round
     case rel=>exact ⟨k+1,A',c',by omega,by go_num,(FactsO.grownA (og.below bel) (AtomsO.below (w:=wr) of bel) hg2).setT z2 (by decide) _ _,of3,z0.far (by simp only[];omega) _,z1.far (by simp only[];omega) _,z2.set_ 1 _,bel⟩
     case measure=>simp[intOf];omega
    ·obtain rfl:k=a.atoms.length:=by omega
     rw[List.take_length] at of
     go_wp2_with fail
     refine bodyPost_ret (v:=.agg #[.slice A a.facts.length c,.slice B a.atoms.length d]) (by simp[results,Tryz.results220,go_sem,qk1]) rfl ⟨_,rfl,?_,bel⟩
     refine ⟨_,_,rfl,?_,?_⟩
     ·simpa [substA] using ((og.setT k1 (by decide) 0 (.slice A a.facts.length c)).setT (k1.set_ _ _) (by decide) 1 (.slice B a.atoms.length d)).lower (show w.heap.size≤w.heap.size+1+1+1 by omega)
     ·simpa [substA] using ((of.setT k1 (by decide) 0 (.slice A a.facts.length c)).setT (k1.set_ _ _) (by decide) 1 (.slice B a.atoms.length d)).lower (show w.heap.size≤w.heap.size+1+1+1 by omega)
end

end Go.Proofs.YtmcgbeladjlcpaaGreat
