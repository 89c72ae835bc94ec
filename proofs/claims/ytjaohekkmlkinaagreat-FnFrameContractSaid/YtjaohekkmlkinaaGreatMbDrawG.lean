/- Contracts: the spec's FoldCells, as far as drawing needs it. -/
import Derived.Test.YtjaohekkmlkinaaGreatMbDrawF
set_option linter.unusedSimpArgs false
set_option linter.unusedVariables false
set_option maxRecDepth 100000
set_option maxHeartbeats 25600000
namespace Go.Proofs.YtjaohekkmlkinaaGreat
section
open Go Go.RowKit Go.Proofs
attribute [local go_sem ↓] Go.wp_at_zero Go.wp_at_succ
theorem c_FoldCells {lo hi:Nat} (v:Value) (a:Asn) (w:World) (h:AsnV w lo hi v a) :
  Calls Tryz.prog 172 #[v] w fun e w'=>∃ r b ok,e=.returned (.tuple #[r,.bool ok])∧AsnO w' w.heap.size r b∧b.facts.length≤20∧b.atoms.length≤20∧Below w.heap.size w w':=by
 have hV:=ax h;obtain ⟨A1,c1,A2,c2,rfl,h1,h2⟩:=h;have H2:=ax h2;clear h1 h2;(go_enter Tryz.func172,Tryz.ntmps172);obtain ⟨k0,k1⟩:=blk2 w tAs tAs #[.slice A1 a.facts.length c1,.slice A2 a.atoms.length c2] #[.slice none 0 0,.slice none 0 0];(go_wp2_with fail);refine (vz _ a _ (hV.o.bz bel)).mono ?_;rintro e w1 ⟨rfl,hB1⟩;have hB:=bgo (w:=w) bel hB1;(replace k0:=k0.nz hB1;replace qk0:=k0.z;replace k1:=k1.nz hB1;replace qk1:=k1.cell;replace rk1:=k1.frozen;replace lk1:=k1.lt);clear hB1;cases hv:a.valid
 ·clear hv;(go_wp2_with fail);refine bodyPost_ret (v:=.tuple #[.agg #[.slice none 0 0,.slice none 0 0],.bool false]) (by simp[results,Tryz.results172,go_sem,qk1]) rfl ⟨_,⟨[],[]⟩,_,rfl,AsnO.zero _ _,by simp,by simp,?_⟩;exact (hB.setCell (p:=⟨w.heap.size+1,0,none⟩) (by simp only;omega) _).setCell (p:=⟨w.heap.size+1,1,none⟩) (by simp only;omega) _
 have HL:=ax (zjC hv);clear hv;have HB:=ax hB;clear hB;(go_wp2_with fail)
 go_loopw [4] (fun i wr=>∃ n:Nat,n≤a.atoms.length∧i=.int .i64 n∧Blk wr w.heap.size tAs #[.slice A1 a.facts.length c1,.slice A2 a.atoms.length c2]∧Blk wr (w.heap.size+1) tAs #[.slice none 0 0,.slice none 0 0]∧aJ (Below w.heap.size w wr)) (fun i _=>a.atoms.length - (intOf i).toNat)
 case atStart=>exact ⟨0,Nat.zero_le _,rfl,k0,k1,HB⟩
 case round=>
  clear k0 k1 HB qk0 qk1 rk1 lk1;obtain ⟨n,hn,rfl,k0,k1,HB⟩:=hrel;(replace qk0:=k0.z;replace qk1:=k1.cell;replace rk1:=k1.frozen;replace lk1:=k1.lt);have hal:=HL.o.2;have hsz:=HB.o.size;by_cases hln:n<a.atoms.length
  ·have hni:(n:Int)<(a.atoms.length:Int):=by omega
   go_wp2_with fail
   go_loopw [5] (fun k wx=>∃ m:Nat,m≤a.atoms.length∧k=.int .i64 m∧Blk wx w.heap.size tAs #[.slice A1 a.facts.length c1,.slice A2 a.atoms.length c2]∧Blk wx (w.heap.size+1) tAs #[.slice none 0 0,.slice none 0 0]∧aJ (Below w.heap.size w wx)) (fun k _=>a.atoms.length - (intOf k).toNat)
   case atStart=>exact ⟨0,Nat.zero_le _,rfl,k0,k1,HB⟩
   case round=>
    clear k0 k1 HB qk0 qk1 rk1 lk1 hsz;obtain ⟨m,hm,rfl,k0,k1,HB⟩:=hrel;(replace qk0:=k0.z;replace qk1:=k1.cell;replace rk1:=k1.frozen;replace lk1:=k1.lt);have hsz:=HB.o.size;by_cases hlm:m<a.atoms.length
    ·have hmi:(m:Int)<(a.atoms.length:Int):=by omega
     have HX:=ax (H2.o.bz HB.o);obtain ⟨b,off,rfl,hbl⟩:=HX.o.blt hln;obtain ⟨g0,g1,g2⟩:=HX.o.cl hln;obtain ⟨j0,j1,j2⟩:=HX.o.cl hlm;obtain ⟨z,hz⟩:∃ z,z=a.atoms[n]:=⟨_,rfl⟩;obtain ⟨y,hy⟩:∃ y,y=a.atoms[m]:=⟨_,rfl⟩;rw[←hz] at g0 g1 g2;rw[←hy] at j0 j1 j2;have HZ:=ax hz;have HY:=ax hy;clear hz hy HX hbl;by_cases hnm:n=m
     ·have hnb:((n:Int) == (m:Int))=true:=by simp;omega
      clear hnm;(go_wp2_with fail);refine wp_region_noPanic ?_;refine wp_region_held_drew (S:=(fun w'=>∀ i,w'.cell? ⟨w.heap.size,i,none⟩=#[.slice A1 a.facts.length c1,.slice (some ⟨b,off,none⟩) a.atoms.length c2][i]?)) (by kernel_rfl) (Blk.cell blks) (fun aH=>?_);refine tk2 0 rfl aH (h:=tk2 1 rfl aH (h:=tk2 2 rfl aH (h:=?_)));(try simp only[zz]);refine tk2 3 rfl aH (h:=?_);(try simp only[zz]);refine tku 4 rfl aH ?_;(try simp only[zz]);refine tku 5 rfl aH ?_;(try simp only[zz]);refine tku 6 rfl aH ?_;(try simp only[zz]);refine tku 7 rfl aH ?_;(try simp only[zz]);refine tku 8 rfl aH ?_;(try simp only[zz]);refine tku 9 rfl aH ?_;(try simp only[zz]);refine tku 10 rfl aH ?_;(try simp only[zz]);refine tku 11 rfl aH ?_;(try simp only[zz]);refine tku 12 rfl aH ?_;(try simp only[zz]);refine tku 13 rfl aH ?_;(try simp only[zz]);refine tku 14 rfl aH ?_;(try simp only[zz]);refine tku 15 rfl aH ?_;(try simp only[zz]);refine tku 16 rfl aH ?_;(try simp only[zz]);refine tk2 17 rfl aH (h:=?_);(try simp only[zz]);refine dn1 ?_;have k0':=k0.drew;have k1':=k1.drew;have HB':aJ (Below w.heap.size w wr.drew):=HB.o.drew;(go_wp2_with fail)
      go_round
      case rel=>exact ⟨m+1,by omega,by go_num,k0',k1',HB'⟩
      case measure=>simp[intOf];omega
     have hnb:((n:Int) == (m:Int))=false:=by simp;omega
     clear hnm;have hzy:aJ ((z.b != y.a)=false∨(z.b != y.a)=true):=by cases (z.b != y.a);exact Or.inl rfl;exact Or.inr rfl
     (go_wp2_with fail);refine wp_region_noPanic ?_;refine wp_region_held_drew (S:=(fun w'=>(∀ i,w'.cell? ⟨w.heap.size,i,none⟩=#[.slice A1 a.facts.length c1,.slice (some ⟨b,off,none⟩) a.atoms.length c2][i]?)∧w'.cell? ⟨b,off+n * 3+2,none⟩=some (.int .i64 z.b)∧w'.cell? ⟨b,off+m * 3+1,none⟩=some (.int .i64 y.a))) (by kernel_rfl) (⟨Blk.cell blks,g2,j1⟩) (fun aH=>?_);refine tk2 0 rfl aH (h:=tk2 1 rfl aH (h:=tk2 2 rfl aH (h:=?_)));(try simp only[zz]);refine tk2 3 rfl aH (h:=tk2 4 rfl aH (h:=tk2 5 rfl aH (h:=?_)));(try simp only[zz]);refine tk2 6 rfl aH (h:=tk2 7 rfl aH (h:=tk2 8 rfl aH (h:=?_)));(try simp only[zz]);refine tk2 9 rfl aH (h:=tk2 10 rfl aH (h:=tk2 11 rfl aH (h:=?_)));(try simp only[zz]);refine tk2 12 rfl aH (h:=tk2 13 rfl aH (h:=tk2 14 rfl aH (h:=?_)));(try simp only[zz]);refine tk2 15 rfl aH (h:=tk2 16 rfl aH (h:=tk2 17 rfl aH (h:=?_)));(try simp only[zz]);refine dn1 ?_;have k0':=k0.drew;have k1':=k1.drew;have HB':aJ (Below w.heap.size w wr.drew):=HB.o.drew;rcases hzy.o with hzy|hzy
     case inr=>
      go_wp2_with fail
      go_round
      case rel=>exact ⟨m+1,by omega,by go_num,k0',k1',HB'⟩
      case measure=>simp[intOf];omega
     rw[hzy];obtain ⟨W,hW⟩:∃ W,W=wr.drew:=⟨_,rfl⟩;have g1':W.cell? ⟨b,off+n * 3+1,none⟩=some (.int .i64 z.a):=by rw[hW];exact g1
     have j2':W.cell? ⟨b,off+m * 3+2,none⟩=some (.int .i64 y.b):=by rw[hW];exact j2
     rw[←hW] at k0' k1' HB' ⊢;clear hzy;clear hW k0 k1 HB qk0 qk1 rk1 lk1 g0 g1 g2 j0 j1 j2 hsz;have k0:=k0';have k1:=k1';have HB:=HB';clear k0' k1' HB';(replace qk0:=k0.z;replace qk1:=k1.cell;replace rk1:=k1.frozen;replace lk1:=k1.lt);have hsz:=HB.o.size;(go_wp2_with fail);refine wp_region_noPanic ?_;refine wp_region_held_drew (S:=(fun w'=>(∀ i,w'.cell? ⟨w.heap.size,i,none⟩=#[.slice A1 a.facts.length c1,.slice (some ⟨b,off,none⟩) a.atoms.length c2][i]?)∧w'.cell? ⟨b,off+n * 3+1,none⟩=some (.int .i64 z.a)∧w'.cell? ⟨b,off+m * 3+2,none⟩=some (.int .i64 y.b))) (by kernel_rfl) (⟨Blk.cell blks,g1',j2'⟩) (fun aH=>?_);refine tk2 0 rfl aH (h:=tk2 1 rfl aH (h:=tk2 2 rfl aH (h:=?_)));(try simp only[zz]);refine tk2 3 rfl aH (h:=tk2 4 rfl aH (h:=tk2 5 rfl aH (h:=?_)));(try simp only[zz]);refine tk2 6 rfl aH (h:=tk2 7 rfl aH (h:=tk2 8 rfl aH (h:=?_)));(try simp only[zz]);refine tk2 9 rfl aH (h:=tk2 10 rfl aH (h:=tk2 11 rfl aH (h:=?_)));(try simp only[zz]);refine tk2 12 rfl aH (h:=tk2 13 rfl aH (h:=tk2 14 rfl aH (h:=?_)));(try simp only[zz]);refine tk2 15 rfl aH (h:=?_);(try simp only[zz])
     refine wpAnyH_par [16,17] #[true,true,true,true,true,true,true,true,true,true,true,true,true,true,true,true,true,true,false] 2 (by kernel_rfl) aH
      (fun a0 D a1 w'=>aJ (Below w.heap.size w w'∧Blk w' w.heap.size tAs #[.slice A1 a.facts.length c1,.slice (some ⟨b,off,none⟩) a.atoms.length c2]∧Blk w' (w.heap.size+1) tAs #[.slice none 0 0,.slice none 0 0])∧
       ∃ v59 v6,a1=(a0.put (some 59) v59).put (some 6) v6∧
        aJ (dn D 16=true→∃ (F:Option Addr) (e1:Nat) (G:Option Addr) (e2:Nat) (x:Asn),v59=.agg #[.slice F x.facts.length e1,.slice G x.atoms.length e2]∧FactsO w' w.heap.size (.slice F x.facts.length e1) x.facts∧AtomsO w' w.heap.size (.slice G x.atoms.length e2) x.atoms∧x.facts.length≤20∧x.atoms.length≤20)∧
        aJ (dn D 17=true→∃ g,v6=.pointer (some ⟨g,0,none⟩)∧w.heap.size+1<g∧Blk w' g tAs #[.slice none 0 0,.slice none 0 0])) ?start ?steps ?fin
     case start=>exact ⟨⟨HB.o.drew,k0.drew,k1.drew⟩,u59,u6,rfl,fun h=>absurd h (by decide),fun h=>absurd h (by decide)⟩
     case steps=>
      refine ParSteps.cons rfl (fun D a1 w' hu hd hI hS K' hK G' hG=>?_) (ParSteps.cons rfl (fun D a1 w' hu hd hI hS K' hK G' hG=>?_) ParSteps.nil)
      ·obtain ⟨HW,v59,v6,ha,h16,h17⟩:=hI;rw[ha] at hG;clear ha a1;refine hG ?_;clear hG hd;(try simp only[zz]);go_simp;refine (c_l6Without _ a n m ⟨2,z.a,y.b⟩ _ (hV.o.bz HW.o.1) (by have:=HL.o.1;omega) (by have:=HL.o.2;omega)).mono ?_;rintro e w2 ⟨r,x,rfl,o,hx1,hx2,hB2⟩;have hsw:=HW.o.1.size;have o':=o.bq (base':=w.heap.size) hsw;obtain ⟨fv,av,rfl,of,oa⟩:=o';obtain ⟨F,e1,rfl,-⟩:=of.rj;obtain ⟨G,e2,rfl,-⟩:=oa.rj;have hBw:=bgo HW.o.1 hB2;have cz:=(H2.o.bz hBw).cl hln;have cy:=(H2.o.bz hBw).cl hlm;rw[←HZ.o] at cz;rw[←HY.o] at cy;refine hK.out _ _ ⟨(HW.o.2.1.nz hB2).cell,cz.2.1,cy.2.2⟩ ⟨⟨hBw,HW.o.2.1.nz hB2,HW.o.2.2.nz hB2⟩,.agg #[.slice F x.facts.length e1,.slice G x.atoms.length e2],v6,rfl,fun _=>⟨F,e1,G,e2,x,rfl,of,oa,by have:=HL.o.1;omega,by have:=HL.o.2;omega⟩,fun h=>?_⟩;rw[dn_ne (by decide)] at h;obtain ⟨g,eg,hg,kg⟩:=h17.o h;exact ⟨g,eg,hg,kg.nz hB2⟩
      ·obtain ⟨HW,v59,v6,ha,h16,h17⟩:=hI;rw[ha] at hG;clear ha a1;refine hG ?_;clear hG hd;(try simp only[zz]);go_simp;have hB2:Below w.heap.size w (w'.alloc (.cells #[.slice none 0 0,.slice none 0 0] tAs)):=HW.o.1.alloc HW.o.1.size _;have hBw:Below w'.heap.size w' (w'.alloc (.cells #[.slice none 0 0,.slice none 0 0] tAs)):=bbox (Below.refl _ _) _;have cz:=(H2.o.bz hB2).cl hln;have cy:=(H2.o.bz hB2).cl hlm;rw[←HZ.o] at cz;rw[←HY.o] at cy;have hlt:=HW.o.2.2.lt;refine hK.out _ _ ⟨(HW.o.2.1.alloc _).cell,cz.2.1,cy.2.2⟩ ⟨⟨hB2,HW.o.2.1.alloc _,HW.o.2.2.alloc _⟩,v59,.pointer (some ⟨w'.heap.size,0,none⟩),rfl,fun h=>?_,fun _=>⟨_,rfl,hlt,Blk.new _ _ _⟩⟩;rw[dn_ne (by decide)] at h;obtain ⟨F,e1,G,e2,x,ev,of,oa,hx1,hx2⟩:=h16.o h;exact ⟨F,e1,G,e2,x,ev,of.bz hBw,oa.bz hBw,hx1,hx2⟩
     case fin=>
      rintro a1 w4 aH ⟨HW,v59,v6,rfl,h16,h17⟩;obtain ⟨F,e1,G,e2,x,rfl,of,oa,hx1,hx2⟩:=h16.o (by decide);obtain ⟨g,rfl,hg,kg⟩:=h17.o (by decide);have O1:=ax of;have O2:=ax oa;have HBf:=ax HW.o.1;have k04:=HW.o.2.1;have k14:=HW.o.2.2;clear h16 h17 of oa k0 k1 HB HW qk0 qk1 rk1 lk1 hsz;(try simp only[zz]);(replace qk04:=k04.z;replace qk14:=k14.z;replace qkg:=kg.z);have cz:=(H2.o.bz HBf.o).cl hln;have cy:=(H2.o.bz HBf.o).cl hlm;rw[←HZ.o] at cz;rw[←HY.o] at cy;obtain ⟨w5,hw5⟩:∃ w5,w5=(w4.setCell ⟨g,0,none⟩ (.slice F x.facts.length e1)).setCell ⟨g,1,none⟩ (.slice G x.atoms.length e2):=⟨_,rfl⟩;have hlg:=kg.lt;have hBg:Below g w4 w5:=by rw[hw5];exact (Below.setCell (p:=⟨g,0,none⟩) (Below.refl _ _) (Nat.le_refl _) _).setCell (p:=⟨g,1,none⟩) (Nat.le_refl _) _
      have k05:=k04.bz hBg (by omega);have k15:=k14.bz hBg (by omega);have kg5:Blk w5 g tAs #[.slice F x.facts.length e1,.slice G x.atoms.length e2]:=by rw[hw5];simpa using (kg.set_ 0 (.slice F x.facts.length e1)).set_ 1 (.slice G x.atoms.length e2)
      have P1:aJ (FactsO w5 w.heap.size (.slice F x.facts.length e1) x.facts):=by show FactsO _ _ _ _;rw[hw5];exact (O1.o.setT kg (by decide) 0 _).setT (kg.set_ 0 _) (by decide) 1 _
      have P2:aJ (AtomsO w5 w.heap.size (.slice G x.atoms.length e2) x.atoms):=by show AtomsO _ _ _ _;rw[hw5];exact (O2.o.setT kg (by decide) 0 _).setT (kg.set_ 0 _) (by decide) 1 _
      have HB5:aJ (Below w.heap.size w w5):=HBf.o.trans (hBg.mono (by omega));have cz5:=(H2.o.bz HB5.o).cl hln;have cy5:=(H2.o.bz HB5.o).cl hlm;rw[←HZ.o] at cz5;rw[←HY.o] at cy5;have HK5:aJ ((∀ i,w5.cell? ⟨w.heap.size,i,none⟩=#[.slice A1 a.facts.length c1,.slice (some ⟨b,off,none⟩) a.atoms.length c2][i]?)∧w5.cell? ⟨b,off+n * 3+1,none⟩=some (.int .i64 z.a)∧w5.cell? ⟨b,off+m * 3+2,none⟩=some (.int .i64 y.b)):=⟨k05.cell,cz5.2.1,cy5.2.2⟩;clear cz5 cy5 cz cy;refine rdc 18 rfl fun K hK=>?_;(try simp only[zz]);(go_simp;rw[←hw5]);refine hK.out _ _ (HK5.o) ?_;clear aH hK K;intro aH;(try simp only[zz]);refine dn1 ?_;clear hw5 kg qkg k04 qk04 k14 qk14 O1 O2 HBf aH hBg HK5 hlg;have HBV:aJ (AsnV w5 0 w5.heap.size (.agg #[.slice F x.facts.length e1,.slice G x.atoms.length e2]) x):=(AsnO.rj ⟨_,_,rfl,P1.o,P2.o⟩).mono (Nat.zero_le _) (Nat.le_refl _);(replace qk05:=k05.z;replace qk15:=k15.z;replace qkg5:=kg5.z);(go_wp2_with fail);refine (c_spec_Entails _ _ a x _ (hV.o.bz HB5.o) HBV.o).mono ?_;rintro e w6 ⟨rfl,hB6⟩;have HB6:=ax (bgo HB5.o hB6);have Q1:=ax (P1.o.bz hB6);have Q2:=ax (P2.o.bz hB6);have k06:=k05.nz hB6;have k16:=k15.nz hB6;have kg6:=kg5.nz hB6;clear hB6 HB5 P1 P2 k05 k15 kg5 qk05 qk15 qkg5 HBV;(replace qk16:=k16.cell;replace rk16:=k16.frozen;replace lk16:=k16.lt;replace qkg6:=kg6.z);cases hent:entF a x
      ·clear hent;(go_wp2_with fail)
       go_round
       case rel=>exact ⟨m+1,by omega,by go_num,k06,k16,HB6⟩
       case measure=>simp[intOf];omega
      ·clear hent;have hgn:g≠w.heap.size+1:=by omega
       (go_wp2_with fail);refine bodyPost_ret (v:=.tuple #[.agg #[.slice F x.facts.length e1,.slice G x.atoms.length e2],.bool true]) (by simp[results,Tryz.results172,go_sem,qk16]) rfl ⟨_,x,_,rfl,⟨_,_,rfl,?_,?_⟩,hx1,hx2,?_⟩
       ·exact (Q1.o.setT k16 (by decide) 0 _).setT (k16.set_ 0 _) (by decide) 1 _
       ·exact (Q2.o.setT k16 (by decide) 0 _).setT (k16.set_ 0 _) (by decide) 1 _
       ·exact (HB6.o.setCell (p:=⟨w.heap.size+1,0,none⟩) (by simp only;omega) _).setCell (p:=⟨w.heap.size+1,1,none⟩) (by simp only;omega) _
    ·obtain rfl:m=a.atoms.length:=by omega
     go_wp2_with fail
     go_round
     case rel=>exact ⟨n+1,by omega,by go_num,k0,k1,HB⟩
     case measure=>simp[intOf];omega
  ·obtain rfl:n=a.atoms.length:=by omega
   have hB:=HB.o;(go_wp2_with fail);refine bodyPost_ret (v:=.tuple #[.agg #[.slice none 0 0,.slice none 0 0],.bool false]) (by simp[results,Tryz.results172,go_sem,qk1]) rfl ⟨_,⟨[],[]⟩,_,rfl,AsnO.zero _ _,by simp,by simp,?_⟩;exact (hB.setCell (p:=⟨w.heap.size+1,0,none⟩) (by simp only;omega) _).setCell (p:=⟨w.heap.size+1,1,none⟩) (by simp only;omega) _
end
end Go.Proofs.YtjaohekkmlkinaaGreat
