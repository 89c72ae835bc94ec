/- Contracts: impl's cases. -/
import Derived.Test.YtgdfdmjnadnlnaaGreatMSubst
import Derived.RangeFuncWrites
import Derived.RangeFuncLeaves
import Derived.RangeFuncBound
import Derived.RangeFuncCalls
import Derived.WalkKit
import Derived.OwnWalkIn
import Derived.TacticsInMore
import Derived.LoopNIn
import Derived.LoopIn
import Derived.OrdersIn
import Derived.Deep.RegionHeld3
import Derived.Shelf.Abstract
import Derived.Deep.LoopGhost
set_option linter.unusedSimpArgs false
set_option linter.unusedVariables false
set_option maxRecDepth 100000
set_option maxHeartbeats 25600000
namespace Go.Proofs.YtgdfdmjnadnlnaaGreat
section
open Go Go.RowKit Go.Proofs
attribute [local go_sem ↓] Go.wp_at_zero Go.wp_at_succ
abbrev tTc:Nat:=141
theorem case_cell {w:World} {g:Nat} {c:List Int} {t:TypeId} (h:Blk w g t (encI c).toArray) {m:Nat} (hm:m<c.length):w.cell? ⟨g,m,none⟩=some (.int .i64 (cl c m)):=by
 rw[h.cell];simp[cl,List.getElem?_eq_getElem hm]
theorem c_impl_factHolds (f:Fct) (c:List Int) (g:Nat) (w:World) (hk:Blk w g tTc (encI c).toArray) (hc:c.length=9) (ha:0≤f.a∧f.a≤8) (hb:0≤f.b∧f.b≤8) :
  Calls Tryz.prog 261 #[.pointer (some ⟨g,0,none⟩),f.val] w fun e w'=>e=.returned (.bool (f.fits c))∧Below w.heap.size w w':=by
 obtain ⟨q,a,b⟩:=f;dsimp only at ha hb;obtain ⟨a,rfl⟩:=Int.eq_ofNat_of_zero_le ha.1;obtain ⟨b,rfl⟩:=Int.eq_ofNat_of_zero_le hb.1;have c1:=case_cell hk (m:=a) (by rw[hc];omega);have c2:=case_cell hk (m:=b) (by rw[hc];omega);have hlt:=hk.lt;have ha9:(a:Int)<9:=by omega
 have hb9:(b:Int)<9:=by omega
 clear ha hb;(go_enter Tryz.func261,Tryz.ntmps261);(go_wp2_with fail);(go_quiet (fail));go_wp2;go_ret;exact ⟨zjD rfl,bel⟩
theorem c_impl_isFilled (x:Atm) (c:List Int) (g:Nat) (w:World) (hk:Blk w g tTc (encI c).toArray) (hc:c.length=9) (ha:0≤x.a∧x.a≤8) (hb:0≤x.b∧x.b≤8) :
  Calls Tryz.prog 221 #[.pointer (some ⟨g,0,none⟩),x.val] w fun e w'=>e=.returned (.bool (x.fill c))∧Below w.heap.size w w':=by
 obtain ⟨q,a,b⟩:=x;dsimp only at ha hb;obtain ⟨a,rfl⟩:=Int.eq_ofNat_of_zero_le ha.1;obtain ⟨b,rfl⟩:=Int.eq_ofNat_of_zero_le hb.1;have c1:=case_cell hk (m:=a) (by rw[hc];omega);have c2:=case_cell hk (m:=b) (by rw[hc];omega);have hlt:=hk.lt;have ha9:(a:Int)<9:=by omega
 have hb9:(b:Int)<9:=by omega
 clear ha hb;cases hq:(q == 1)
 all_goals
  have HQ:=ax hq;(go_enter Tryz.func221,Tryz.ntmps221);(go_wp2_with fail);(go_quiet (fail));go_wp2;go_ret;exact ⟨zjD (by have:=HQ.o;(try simp at this);simp[Atm.fill,this];try rfl),bel⟩
theorem filledL_take (xs:List Atm) (c:List Int) (k:Nat) (hk:k<xs.length):filledL (xs.take (k+1)) c=filledL (xs.take k) c++if xs[k].fill c then [xs[k].cls c] else []:=by
 unfold filledL;rw[List.take_succ_eq_append_getElem hk,List.filter_append,List.map_append];cases h:xs[k].fill c<;>simp[h]
theorem filledL_len (xs:List Atm) (c:List Int):(filledL xs c).length≤xs.length:=by
 unfold filledL;rw[List.length_map];exact List.length_filter_le _ _
theorem c_impl_filled {lo hi:Nat} (A:Option Addr) (d:Nat) (xs:List Atm) (c:List Int) (g:Nat) (w:World) (h:AtomsV w lo hi A xs) (hk:Blk w g tTc (encI c).toArray) (hc:c.length=9) (hx:AtomsOk xs) :
  Calls Tryz.prog 173 #[.pointer (some ⟨g,0,none⟩),.slice A xs.length d] w fun e w'=>∃ r,e=.returned r∧AtomsO w' w.heap.size r (filledL xs c)∧Below w.heap.size w w':=by
 have hl:=h.le;have hgl:=hk.lt;(go_enter Tryz.func173,Tryz.ntmps173);(go_wp2_with fail)
 go_loopw [5,10] (fun r i wr=>∃ (k:Nat) (B:Option Addr) (n e:Nat),k≤xs.length∧i=.int .i64 k∧n=(filledL (xs.take k) c).length∧r=.slice B n e∧AtomsO wr w.heap.size (.slice B n e) (filledL (xs.take k) c)∧Below w.heap.size w wr) (fun _ i _=>xs.length - (intOf i).toNat)
 case atStart=>exact ⟨0,none,0,0,Nat.zero_le _,rfl,rfl,rfl,AtomsO.nil _ _,bel⟩
 case round=>
  obtain ⟨k,B,n,e,hkk,rfl,hn,rfl,of,hB⟩:=hrel;have HN:=ax hn
  have hnl:n≤k:=by
   rw[hn];exact Nat.le_trans (filledL_len _ _) (by simp;omega)
  clear hn;by_cases hlt:k<xs.length
  ·obtain ⟨b,off,rfl,hbl⟩:=h.blt hlt;obtain ⟨g0,g1,g2⟩:=(h.bz hB).cl hlt;have HT:=ax (filledL_take xs c k hlt);have hxk:=hx _ (List.getElem_mem hlt);obtain ⟨x,hxe⟩:∃ x,x=xs[k]:=⟨_,rfl⟩;have HX:=ax hxe;rw[←hxe] at g0 g1 g2 HT hxk;clear hxe;have kg:Blk wr g tTc (encI c).toArray:=hk.bz hB hgl;have hgr:=kg.lt;(go_wp2_with fail);refine (c_impl_isFilled x c g _ (kg.alloc _) hc hxk.1 hxk.2).mono ?_;rintro e w1 ⟨rfl,hB1⟩;have hBx:Below w.heap.size w w1:=bgo (w:=w) bel hB1;have hob:∀ g',(Value.slice B n e).ownBlock=some g'→g'<wr.heap.size:=fun g' e'=>(of.1.lt g' e').2;have kx:=(Blk.new wr tA #[.int .i64 x.kind,.int .i64 x.a,.int .i64 x.b]).nz hB1;replace of:=(of.bz (w':=wr.alloc (.cells #[.int .i64 x.kind,.int .i64 x.a,.int .i64 x.b] tA)) bel).bz hB1;replace kg:=(kg.alloc (.cells #[.int .i64 x.kind,.int .i64 x.a,.int .i64 x.b] tA)).nz hB1;have hw1:=hB1.size;simp only[World.size_alloc] at hw1;have hwz:=hB.size;clear hB1 g0 g1 g2;cases hf:x.fill c
   ·have HS:=ax (show filledL (xs.take (k+1)) c=filledL (xs.take k) c by rw[HT.o,hf];simp);clear hf;(go_wp2_with fail)
    go_round
    case rel=>exact ⟨k+1,B,n,e,by omega,by go_num,by rw[HS.o];exact HN.o,rfl,by rw[HS.o];exact of,hBx⟩
    case measure=>simp[intOf];omega
   ·have HS:=ax (show filledL (xs.take (k+1)) c=filledL (xs.take k) c++[x.cls c] by rw[HT.o,hf];simp);clear hf;obtain ⟨q,xa,xb⟩:=x;dsimp only at hxk kx;obtain ⟨⟨a1,a2⟩,⟨b1,b2⟩⟩:=hxk;obtain ⟨xa,rfl⟩:=Int.eq_ofNat_of_zero_le a1;obtain ⟨xb,rfl⟩:=Int.eq_ofNat_of_zero_le b1;have ha9:(xa:Int)<9:=by omega
    have hb9:(xb:Int)<9:=by omega
    have q1:∀ w':World,(∀ i,w'.cell? ⟨g,i,none⟩=(encI c).toArray[i]?)→w'.cell? ⟨g,xa,none⟩=some (.int .i64 (cl c xa)):=by
     intro w' hw';rw[hw'];simp[cl,List.getElem?_eq_getElem (show xa<c.length by omega)]
    have q2:∀ w':World,(∀ i,w'.cell? ⟨g,i,none⟩=(encI c).toArray[i]?)→w'.cell? ⟨g,xb,none⟩=some (.int .i64 (cl c xb)):=by
     intro w' hw';rw[hw'];simp[cl,List.getElem?_eq_getElem (show xb<c.length by omega)]
    have c1:=q1 _ kg.cell;have c2:=q2 _ kg.cell;have hnn:n+1≤1049600:=by omega
    clear a1 a2 b1 b2;(go_wp2_with fail);refine wp_region_noPanic ?_;refine wp_region_held_drew (S:=(fun w'=>w'.cell? ⟨g,xa,none⟩=some (.int .i64 (cl c xa))∧w'.cell? ⟨g,xb,none⟩=some (.int .i64 (cl c xb))∧(∀ i,w'.cell? ⟨wr.heap.size,i,none⟩=#[.int .i64 q,.int .i64 xa,.int .i64 xb][i]?))) (by kernel_rfl) (⟨c1,c2,Blk.cell blks⟩) (fun aH=>?_);refine tk2 0 rfl aH (h:=tk2 1 rfl aH (h:=tk2 2 rfl aH (h:=?_)));(try simp only[zz]);refine tk2 3 rfl aH (h:=tk2 4 rfl aH (h:=tk2 5 rfl aH (h:=?_)));(try simp only[zz]);refine tk2 6 rfl aH (h:=tk2 7 rfl aH (h:=tk2 8 rfl aH (h:=?_)));(try simp only[zz]);refine tk2 9 rfl aH (h:=tk2 10 rfl aH (h:=tk2 11 rfl aH (h:=?_)));(try simp only[zz]);refine tk2 12 rfl aH (h:=tk2 13 rfl aH (h:=tk2 14 rfl aH (h:=?_)));(try simp only[zz]);refine tk2 15 rfl aH (h:=?_);refine rdc 16 rfl fun K hK=>?_;(try simp only[zz]);go_simp;refine hK.out _ _ (⟨q1 _ (Blk.cell blks),q2 _ (Blk.cell blks),Blk.cell blks⟩) ?_;clear aH hK K;intro aH;(try simp only[zz]);refine rdc 17 rfl fun K hK=>?_;skip;(refine stepAL (base:=w.heap.size) (xs:=filledL (xs.take k) c) rfl _ _ rfl rfl (AtomsO.bz (w:=w1) of bel) rfl (AtomsV.one' blks) (by simp only[List.length_cons,List.length_nil];rw[←HN.o];omega) (by simp;omega) ?_;intro A' c' w2 of2 hg2 hB3;have z2:=Blk.zm (g:=g) (hg:=hg2) blks (AtomsO.bz (w:=w1) of bel).1 (by decide);have zf:Blk w2 wr.heap.size tA #[.int .i64 q,.int .i64 xa,.int .i64 xb]:=Blk.grown blks hg2 (fun e=>absurd (hob _ e.symm) (Nat.lt_irrefl _)));refine hK.out _ _ (⟨q1 _ z2.cell,q2 _ z2.cell,zf.cell⟩) ?_;clear aH hK K;intro aH;(try simp only[zz]);refine tk2 18 rfl aH (h:=?_);(try simp only[zz]);refine dn1 ?_;have hBw2:Below w.heap.size w w2:=Below.trans bel (hB3.mono (by omega));(go_wp2_with fail)
    go_round
    case rel=>exact ⟨k+1,A',_,c',by omega,by go_num,rfl,by rw[HS.o];simp,by rw[HS.o];exact of2,hBw2⟩
    case measure=>simp[intOf];omega
  ·obtain rfl:k=xs.length:=by omega
   (go_wp2_with fail);go_ret;refine ⟨_,rfl,?_,hB⟩;rw[List.take_length] at of;exact of
theorem possF_drop (c:List Int) (last:Int) (fs:List Fct) (k:Nat) (hk:k<fs.length):possF c last (fs.drop k)=(!(decide (fs[k].a≤last)&&decide (fs[k].b≤last) && !fs[k].fits c)&&possF c last (fs.drop (k+1))):=by
 unfold possF;rw[all_drop _ fs k hk]
theorem possA_drop (c:List Int) (last:Int) (seen:List Int) (xs:List Atm) (k:Nat) (hk:k<xs.length):possA c last seen (xs.drop k)=if inLast c last xs[k] then !decide (cl c xs[k].a=0) && !decide (cl c xs[k].a∈seen)&&possA c last (seen++[cl c xs[k].a]) (xs.drop (k+1)) else possA c last seen (xs.drop (k+1)):=by
 rw[List.drop_eq_getElem_cons hk];rfl
theorem tset_snoc (l:List Int) (t:Int):tset (l++[t])=tins (tset l) t:=by unfold tset;simp[List.foldl_append]
theorem c_impl_possible {lo hi:Nat} (v:Value) (a:Asn) (last:Int) (c:List Int) (g:Nat) (w:World) (h:AsnV w lo hi v a) (hk:Blk w g tTc (encI c).toArray) (hc:c.length=9) (hf:FactsOk a.facts) (hx:AtomsOk a.atoms)
  (hcl:∀ x∈a.atoms,x.a≤last→jq (cl c x.a)=true) :
  Calls Tryz.prog 252 #[.pointer (some ⟨g,0,none⟩),v,.int .i64 last] w fun e w'=>e=.returned (.bool (poss a c last))∧Below w.heap.size w w':=by
 obtain ⟨A1,c1,A2,c2,rfl,h1,h2⟩:=h;have hl1:=h1.le;have hl2:=h2.le;have hgl:=hk.lt;have HP:aJ (poss a c last=(possF c last a.facts&&possA c last [] a.atoms)):=rfl;have hFO:=ax hf;have hXO:=ax hx;have hCL:=ax hcl;clear hf hx hcl;(go_enter Tryz.func252,Tryz.ntmps252);(go_wp2_with fail)
 go_loopw [15] (fun i wr=>∃ k:Nat,k≤a.facts.length∧i=.int .i64 k∧aJ (possF c last a.facts=possF c last (a.facts.drop k))∧Blk wr w.heap.size 36 #[.slice A1 a.facts.length c1,.slice A2 a.atoms.length c2]∧Below w.heap.size w wr) (fun i _=>a.facts.length - (intOf i).toNat)
 case atStart=>exact ⟨0,Nat.zero_le _,rfl,rfl,blks,bel⟩
 case round=>
  obtain ⟨k,hkk,rfl,HA,kA,hB⟩:=hrel;have qA:=kA.cell;have lA:=kA.lt;by_cases hlt:k<a.facts.length
  ·obtain ⟨b,off,rfl,hbl⟩:=h1.blt hlt;obtain ⟨g0,g1,g2⟩:=(h1.bz hB).cl hlt;have HD:=ax (possF_drop c last a.facts k hlt);have hfk:=hFO.o _ (List.getElem_mem hlt);obtain ⟨f,hfe⟩:∃ f,f=a.facts[k]:=⟨_,rfl⟩;rw[←hfe] at g0 g1 g2 HD hfk;clear hfe;have kg:Blk wr g tTc (encI c).toArray:=hk.bz hB hgl;have hgr:=kg.lt;by_cases e1:f.a≤last
   ·by_cases e2:f.b≤last
    ·(go_wp2_with fail);refine (c_impl_factHolds f c g _ (kg.alloc _) hc hfk.1 hfk.2).mono ?_;rintro e w1 ⟨rfl,hB1⟩;have hBx:Below w.heap.size w w1:=bgo (w:=w) bel hB1;replace kA:=(kA.alloc (.cells #[.bool f.eq,.int .i64 f.a,.int .i64 f.b] tF)).nz hB1;cases hff:f.fits c
     ·have HZ:=ax (show possF c last a.facts=false by rw[HA.o,HD.o,hff,decide_eq_true e1,decide_eq_true e2];rfl);clear hff hB1 e1 e2;(go_wp2_with fail);go_ret;exact ⟨zjD (by rw[HP.o,HZ.o];rfl),hBx⟩
     ·have HZ:=ax (show possF c last (a.facts.drop k)=possF c last (a.facts.drop (k+1)) by rw[HD.o,hff];simp);clear hff hB1 e1 e2;(go_wp2_with fail)
      go_round
      case rel=>exact ⟨k+1,by omega,by go_num,by show _=_;rw[HA.o,HZ.o],kA,hBx⟩
      case measure=>simp[intOf];omega
    ·have HZ:=ax (show possF c last (a.facts.drop k)=possF c last (a.facts.drop (k+1)) by rw[HD.o,decide_eq_false e2];simp);(go_wp2_with fail)
     go_round
     case rel=>exact ⟨k+1,by omega,by go_num,by show _=_;rw[HA.o,HZ.o],blks,bel⟩
     case measure=>simp[intOf];omega
   ·have HZ:=ax (show possF c last (a.facts.drop k)=possF c last (a.facts.drop (k+1)) by rw[HD.o,decide_eq_false e1];simp);(go_wp2_with fail)
    go_round
    case rel=>exact ⟨k+1,by omega,by go_num,by show _=_;rw[HA.o,HZ.o],blks,bel⟩
    case measure=>simp[intOf];omega
  ·obtain rfl:k=a.facts.length:=by omega
   have HF:=ax (show poss a c last=possA c last [] a.atoms by rw[HP.o,HA.o,List.drop_length];rfl);clear HA HP;(go_wp2_with fail)
   go_loopw [9,39] (fun S i wr=>∃ (k:Nat) (seen:List Int),k≤a.atoms.length∧i=.int .i64 k∧S=.int .u16 (tset seen:Nat)∧aJ (poss a c last=possA c last seen (a.atoms.drop k))∧Below w.heap.size w wr) (fun _ i _=>a.atoms.length - (intOf i).toNat)
   case atStart=>exact ⟨0,[],Nat.zero_le _,rfl,by unfold tset;rfl,HF.o,hB⟩
   case round=>
    clear hB kA qA lA;obtain ⟨k,seen,hkk,rfl,rfl,HA,hB⟩:=hrel;have hT:=tset_lt seen;by_cases hlt:k<a.atoms.length
    ·obtain ⟨b,off,rfl,hbl⟩:=h2.blt hlt;obtain ⟨g0,g1,g2⟩:=(h2.bz hB).cl hlt;have HD:=ax (possA_drop c last seen a.atoms k hlt);have hxk:=hXO.o _ (List.getElem_mem hlt);have hcx:=hCL.o _ (List.getElem_mem hlt);obtain ⟨x,hxe⟩:∃ x,x=a.atoms[k]:=⟨_,rfl⟩;rw[←hxe] at g0 g1 g2 HD hxk hcx;clear hxe;have kg:Blk wr g tTc (encI c).toArray:=hk.bz hB hgl;have hgr:=kg.lt;have hno:x.a≤last→x.b≤last→x.fill c=true→inLast c last x=true:=fun h1 h2 h3=>by simp[inLast,h1,h2,h3]
     by_cases e1:x.a≤last
     ·by_cases e2:x.b≤last
      ·have hct:=hcx e1;(go_wp2_with fail);refine (c_impl_isFilled x c g _ (kg.alloc _) hc hxk.1 hxk.2).mono ?_;rintro e w1 ⟨rfl,hB1⟩;have hBx:Below w.heap.size w w1:=bgo (w:=w) bel hB1;have kx:=(Blk.new wr tA #[.int .i64 x.kind,.int .i64 x.a,.int .i64 x.b]).nz hB1;replace kg:=(kg.alloc (.cells #[.int .i64 x.kind,.int .i64 x.a,.int .i64 x.b] tA)).nz hB1;cases hff:x.fill c
       ·have HZ:=ax (show possA c last seen (a.atoms.drop k)=possA c last seen (a.atoms.drop (k+1)) by rw[HD.o,inLast,hff];simp);clear hff hB1;(go_wp2_with fail)
        go_round
        case rel=>exact ⟨k+1,seen,by omega,by go_num,rfl,by show _=_;rw[HA.o,HZ.o],hBx⟩
        case measure=>simp[intOf];omega
       ·have HI:=ax (hno e1 e2 hff);clear hff hB1 hno hcx;obtain ⟨vv,hvv⟩:∃ vv,vv=cl c x.a:=⟨_,rfl⟩;have HVV:=ax hvv;rw[←hvv] at hct
        have hbt:(tset seen).testBit vv.toNat=decide (vv∈seen):=by
         have:=zjA.1 hct;rw[tset_bit,decide_eq_decide];rw[Int.toNat_of_nonneg this.1];exact ⟨fun h=>h.2,fun h=>⟨hct,h⟩⟩
        obtain ⟨q,xa,xb⟩:=x;dsimp only at hxk kx e1 e2 hvv g0 g1 g2;obtain ⟨⟨a1,a2⟩,⟨b1,b2⟩⟩:=hxk;obtain ⟨xa,rfl⟩:=Int.eq_ofNat_of_zero_le a1;obtain ⟨xb,rfl⟩:=Int.eq_ofNat_of_zero_le b1;have hxa9:xa<9:=by omega
        have hxal:(xa:Int)<9:=by omega
        have cc:=case_cell kg (m:=xa) (by rw[hc];exact hxa9);rw[←hvv] at cc;have kxc:=kx.cell;clear hvv a1 a2 b1 b2;by_cases hz:vv=0
        ·have HZ:=ax (show poss a c last=false by rw[HA.o,HD.o,if_pos HI.o,←HVV.o,hz];simp);subst hz;(go_wp2_with fail);refine wp_region_noPanic ?_;refine wp_region_held_drew (S:=(fun w'=>w'.cell? ⟨g,xa,none⟩=some (.int .i64 0)∧(∀ i,w'.cell? ⟨wr.heap.size,i,none⟩=#[.int .i64 q,.int .i64 xa,.int .i64 xb][i]?))) (by kernel_rfl) (⟨cc,kxc⟩) (fun aH=>?_);refine tk2 0 rfl aH (h:=tk2 1 rfl aH (h:=tk2 2 rfl aH (h:=?_)));(try simp only[zz]);refine tk2 3 rfl aH (h:=tk2 4 rfl aH (h:=tk2 5 rfl aH (h:=?_)));(try simp only[zz]);refine tk2 6 rfl aH (h:=tk2 7 rfl aH (h:=?_));(try simp only[zz]);refine tku 8 rfl aH ?_;(try simp only[zz]);refine tku 9 rfl aH ?_;(try simp only[zz]);refine tku 10 rfl aH ?_;(try simp only[zz]);refine tku 11 rfl aH ?_;(try simp only[zz]);refine tku 12 rfl aH ?_;(try simp only[zz]);refine tku 13 rfl aH ?_;(try simp only[zz]);refine tku 14 rfl aH ?_;(try simp only[zz]);refine tku 15 rfl aH ?_;(try simp only[zz]);refine tk2 16 rfl aH (h:=?_);(try simp only[zz]);refine dn1 ?_;go_wp2;go_ret;exact ⟨zjD HZ.o.symm,bel⟩
        ·have hzb:(vv == 0)=false:=by simpa using hz
         have HNZ:=ax hz;clear hz;(go_wp2_with fail);(go_quiet ((go_at_call 142;exact Calls.quiet_of_same ((c_impl_tHas _ _ _ hT).mono fun _ _ ⟨a,b⟩=>⟨a,b.symm⟩))));have cc2:(w1.drewN nq).cell? ⟨g,xa,none⟩=some (.int .i64 vv):=cc;have kxc2:∀ i,(w1.drewN nq).cell? ⟨wr.heap.size,i,none⟩=#[.int .i64 q,.int .i64 xa,.int .i64 xb][i]?:=kxc;have hBx2:=below_drewN hBx nq;rw[hct,hbt];clear cc kxc kx kg hBx;generalize w1.drewN nq=w2 at cc2 kxc2 hBx2 ⊢;by_cases hse:vv∈seen
         ·have HZ:=ax (show poss a c last=false by rw[HA.o,HD.o,if_pos HI.o,←HVV.o,decide_eq_true hse];simp);go_wp2;go_ret;exact ⟨zjD HZ.o.symm,bel⟩
         ·have HZ:=ax (show poss a c last=possA c last (seen++[vv]) (a.atoms.drop (k+1)) by rw[HA.o,HD.o,if_pos HI.o,←HVV.o,decide_eq_false hse,decide_eq_false HNZ.o];simp);(go_wp2_with fail);(go_quiet ((go_at_call 125;exact Calls.quiet_of_same ((c_impl_with _ _ _ hT).mono fun _ _ ⟨a,b⟩=>⟨a,b.symm⟩))));(go_wp2_with fail)
          go_round
          case rel=>exact ⟨k+1,seen++[vv],by omega,by go_num,by rw[tset_snoc],HZ.o,bel⟩
          case measure=>simp[intOf];omega
      ·have HZ:=ax (show possA c last seen (a.atoms.drop k)=possA c last seen (a.atoms.drop (k+1)) by rw[HD.o,inLast,decide_eq_false e2];simp);(go_wp2_with fail)
       go_round
       case rel=>exact ⟨k+1,seen,by omega,by go_num,rfl,by show _=_;rw[HA.o,HZ.o],bel⟩
       case measure=>simp[intOf];omega
     ·have HZ:=ax (show possA c last seen (a.atoms.drop k)=possA c last seen (a.atoms.drop (k+1)) by rw[HD.o,inLast,decide_eq_false e1];simp);(go_wp2_with fail)
      go_round
      case rel=>exact ⟨k+1,seen,by omega,by go_num,rfl,by show _=_;rw[HA.o,HZ.o],bel⟩
      case measure=>simp[intOf];omega
    ·obtain rfl:k=a.atoms.length:=by omega
     (go_wp2_with fail);go_ret;exact ⟨zjD (by rw[HA.o,List.drop_length];rfl),hB⟩
theorem ints_cl {w : World} {lo hi b o : Nat} {c : List Int} (h : IntsV w lo hi (some ⟨b, o, none⟩) c) {m : Nat} (hm : m < c.length) : w.cell? ⟨b, o + m, none⟩ = some (.int .i64 (cl c m)) := by
  rw [h.cl hm]; simp [cl, List.getElem?_eq_getElem hm]

--@ spec.l5Fits
theorem fitsS_drop (c : List Int) (fs : List Fct) (k : Nat) (hk : k < fs.length) : fitsS c (fs.drop k) = (!(decide (0 ≤ cl c fs[k].a) && decide (0 ≤ cl c fs[k].b) && !fs[k].fits c) && fitsS c (fs.drop (k + 1))) := by
  unfold fitsS; rw [all_drop _ fs k hk]
theorem c_spec_l5Fits {lo hi lo' hi' : Nat} (A B : Option Addr) (c0 c1 : Nat) (fs : List Fct) (c : List Int) (w : World) (h : FactsV w lo hi A fs) (h' : IntsV w lo' hi' B c) (hc : c.length = 9) (hf : FactsOk fs) :
    Calls Tryz.prog 241 #[.slice A fs.length c0, .slice B c.length c1] w fun e w' => e = .returned (.bool (fitsS c fs)) ∧ w = w' := by
  have hl := h.le;obtain ⟨pb, ob, rfl, lpb⟩ := h'.blt (k := 0) (by omega);have HC := ax hc;have HF := ax hf;have H' := ax h';clear hf h';rw [hc];clear hc;(go_enter Tryz.func241, Tryz.ntmps241);(go_wp2_with fail)
  go_loop [5] (fun i => ∃ k : Nat, k ≤ fs.length ∧ i = .int .i64 k ∧ aJ (fitsS c fs = fitsS c (fs.drop k))) (fun i => fs.length - (intOf i).toNat)
  case atStart => exact ⟨0, Nat.zero_le _, rfl, rfl⟩
  case round =>
    obtain ⟨k, hk, rfl, HA⟩ := hrel;by_cases hlt : k < fs.length
    · obtain ⟨b, off, rfl, hbl⟩ := h.blt hlt
      obtain ⟨g0, g1, g2⟩ := h.cl hlt;have HD := ax (fitsS_drop c fs k hlt);have hfk := HF.o _ (List.getElem_mem hlt);obtain ⟨f, hfe⟩ : ∃ f, f = fs[k] := ⟨_, rfl⟩;rw [← hfe] at g0 g1 g2 HD hfk;clear hfe;obtain ⟨q, fa, fb⟩ := f;dsimp only at g0 g1 g2 hfk;obtain ⟨⟨a1, a2⟩, ⟨b1, b2⟩⟩ := hfk;obtain ⟨fa, rfl⟩ := Int.eq_ofNat_of_zero_le a1;obtain ⟨fb, rfl⟩ := Int.eq_ofNat_of_zero_le b1;have ha9 : (fa : Int) < 9 := by omega
      have hb9 : (fb : Int) < 9 := by omega
      have e1 := ints_cl H'.o (m := fa) (by rw [HC.o]; omega);have e2 := ints_cl H'.o (m := fb) (by rw [HC.o]; omega)
      have HQ : aJ (∀ u v : Int, u = cl c fa → v = cl c fb → fitsS c fs = (!(decide (0 ≤ u) && decide (0 ≤ v) && !((u == v) == q)) && fitsS c (fs.drop (k + 1)))) := by
        intro u v hu hv;rw [HA.o, HD.o, hu, hv]; rfl
      obtain ⟨u, hu⟩ : ∃ u, u = cl c fa := ⟨_, rfl⟩;obtain ⟨v, hv⟩ : ∃ v, v = cl c fb := ⟨_, rfl⟩;have HR := ax (HQ.o u v hu hv);rw [← hu] at e1;rw [← hv] at e2;clear hu hv HQ a1 a2 b1 b2;by_cases hu0 : 0 ≤ u
      · by_cases hv0 : 0 ≤ v
        · have HUV : aJ (∀ t : Bool, (u == v) = t → fitsS c fs = (!(!(t == q)) && fitsS c (fs.drop (k + 1)))) := by
            intro t ht;rw [HR.o, ht, decide_eq_true hu0, decide_eq_true hv0]; rfl
          cases huv : (u == v)
          case' false => have HZ := ax (HUV.o false huv)
          case' true => have HZ := ax (HUV.o true huv)
          all_goals
            cases q
            all_goals
              clear HUV HR;(go_wp2_with fail)
              first
                | (go_ret
                   exact ⟨zjD HZ.o.symm, rfl⟩)
                | (go_round
                   case rel => exact ⟨k + 1, by omega, by go_num, HZ.o⟩
                   case measure => simp [intOf]; omega)
        · have HZ : aJ (fitsS c fs = fitsS c (fs.drop (k + 1))) := by show _ = _; rw [HR.o, decide_eq_false hv0]; simp
          go_wp2_with fail
          go_round
          case rel => exact ⟨k + 1, by omega, by go_num, HZ⟩
          case measure => simp [intOf]; omega
      · have HZ : aJ (fitsS c fs = fitsS c (fs.drop (k + 1))) := by show _ = _; rw [HR.o, decide_eq_false hu0]; simp
        go_wp2_with fail
        go_round
        case rel => exact ⟨k + 1, by omega, by go_num, HZ⟩
        case measure => simp [intOf]; omega
    · obtain rfl : k = fs.length := by omega
      (go_wp2_with fail);go_ret;exact ⟨zjD (by rw [HA.o, List.drop_length]; rfl), rfl⟩

--@ spec.l5Early
theorem earlyF_drop (c : List Int) (seen : List Int) (xs : List Atm) (k : Nat) (hk : k < xs.length) : earlyF c seen (xs.drop k) = if decide (xs[k].kind = 1) && decide (0 ≤ cl c xs[k].a) then !decide (cl c xs[k].a = 0) && !decide (cl c xs[k].a ∈ seen) && earlyF c (seen ++ [cl c xs[k].a]) (xs.drop (k + 1)) else earlyF c seen (xs.drop (k + 1)) := by
  rw [List.drop_eq_getElem_cons hk]; rfl
theorem c_spec_l5Early {lo hi lo' hi' : Nat} (A B : Option Addr) (c0 c1 : Nat) (xs : List Atm) (c : List Int) (w : World) (h : AtomsV w lo hi A xs) (h' : IntsV w lo' hi' B c) (hc : c.length = 9) (hx : AtomsOk xs) (hcl : ∀ x ∈ xs, cl c x.a ≤ 8) :
    Calls Tryz.prog 242 #[.slice A xs.length c0, .slice B c.length c1] w fun e w' => e = .returned (.bool (earlyF c [] xs)) ∧ Below w.heap.size w w' := by
  have hl := h.le;obtain ⟨pb, ob, rfl, lpb⟩ := h'.blt (k := 0) (by omega);have HC := ax hc;have HX := ax hx;have HCL := ax hcl;have H' := ax h';have hmk := mkB9;clear hx h' hcl;rw [hc];clear hc;(go_enter Tryz.func242, Tryz.ntmps242);(go_wp2_with fail);clear hmk
  go_loopw [6] (fun i wr => ∃ (k : Nat) (seen : List Int), k ≤ xs.length ∧ i = .int .i64 k ∧ aJ (earlyF c [] xs = earlyF c seen (xs.drop k)) ∧ Blk wr w.heap.size tB (encB (zj (tset seen))).toArray ∧ Below w.heap.size w wr) (fun i _ => xs.length - (intOf i).toNat)
  case atStart => exact ⟨0, [], Nat.zero_le _, rfl, rfl, by rw [show tset [] = 0 from by unfold tset; rfl]; exact blks, bel⟩
  case round =>
    obtain ⟨k, seen, hk, rfl, HA, k0, hB⟩ := hrel;by_cases hlt : k < xs.length
    · obtain ⟨b, off, rfl, hbl⟩ := h.blt hlt
      obtain ⟨g0, g1, g2⟩ := (h.bz hB).cl hlt;have HD := ax (earlyF_drop c seen xs k hlt);have hxk := HX.o _ (List.getElem_mem hlt);have hck := HCL.o _ (List.getElem_mem hlt);obtain ⟨x, hxe⟩ : ∃ x, x = xs[k] := ⟨_, rfl⟩;rw [← hxe] at g0 g1 g2 HD hxk hck;clear hxe;obtain ⟨q, xa, xb⟩ := x;dsimp only at g0 g1 g2 hxk hck;obtain ⟨⟨a1, a2⟩, -⟩ := hxk;obtain ⟨xa, rfl⟩ := Int.eq_ofNat_of_zero_le a1;have ha9 : (xa : Int) < 9 := by omega
      have e1 := ints_cl (H'.o.bz hB) (m := xa) (by rw [HC.o]; omega);have HR : aJ (earlyF c [] xs = if decide (q = 1) && decide (0 ≤ cl c xa) then !decide (cl c xa = 0) && !decide (cl c xa ∈ seen) && earlyF c (seen ++ [cl c xa]) (xs.drop (k + 1)) else earlyF c seen (xs.drop (k + 1))) := by show _ = _; rw [HA.o, HD.o]
      obtain ⟨u, hu⟩ : ∃ u, u = cl c xa := ⟨_, rfl⟩;rw [← hu] at e1 HR hck;clear hu a1 a2 HD HA;cases hq : (q != 1)
      · have hq1 : q = 1 := by simpa using hq
        by_cases hu0 : 0 ≤ u
        · have HR2 : aJ (earlyF c [] xs = (!decide (u = 0) && !decide (u ∈ seen) && earlyF c (seen ++ [u]) (xs.drop (k + 1)))) := by show _ = _; rw [HR.o, hq1, decide_eq_true hu0]; rfl
          obtain ⟨m, rfl⟩ := Int.eq_ofNat_of_zero_le hu0;have m8 : m ≤ 8 := by omega
          have m8' : (m : Int) < 9 := by omega
          have hst : jq (m : Int) = true := by rw [zjA]; omega
          have hbt : (tset seen).testBit m = decide ((m : Int) ∈ seen) := by
            rw [tset_bit, decide_eq_decide]; exact ⟨fun h => h.2, fun h => ⟨hst, h⟩⟩
          have q3 : wr.cell? ⟨w.heap.size, m, none⟩ = some (.bool (decide ((m : Int) ∈ seen))) := (k0.cell m).trans ((flags_cell _ _ rfl (by omega)).trans (by rw [hbt]));have r3 := k0.frozen;have l3 := k0.lt;clear hst hbt;by_cases hz : (m : Int) = 0
          · have HZ := ax (show earlyF c [] xs = false by rw [HR2.o, decide_eq_true hz]; rfl)
            have hzb : ((m : Int) == 0) = true := by simpa using hz
            clear hq1 hz;(go_wp2_with fail);go_ret;exact ⟨zjD HZ.o.symm, hB⟩
          · have hzb : ((m : Int) == 0) = false := by simpa using hz
            by_cases hs : (m : Int) ∈ seen
            · have HZ := ax (show earlyF c [] xs = false by rw [HR2.o, decide_eq_true hs]; simp)
              rw [decide_eq_true hs] at q3;clear hq1 hz hs;(go_wp2_with fail);go_ret;exact ⟨zjD HZ.o.symm, hB⟩
            · have HZ := ax (show earlyF c [] xs = earlyF c (seen ++ [(m : Int)]) (xs.drop (k + 1)) by rw [HR2.o, decide_eq_false hs, decide_eq_false hz]; simp)
              rw [decide_eq_false hs] at q3;clear hq1 hz hs;(go_wp2_with fail)
              go_round
              case rel =>
                refine ⟨k + 1, seen ++ [(m : Int)], by omega, by go_num, HZ, ?_, bel⟩;rw [tset_snoc, ← tins_flags _ _ m8];exact k0.set_ _ _
              case measure => simp [intOf]; omega
        · have HZ := ax (show earlyF c [] xs = earlyF c seen (xs.drop (k + 1)) by rw [HR.o, decide_eq_false hu0]; simp)
          clear hq1;(go_wp2_with fail)
          go_round
          case rel => exact ⟨k + 1, seen, by omega, by go_num, HZ, k0, hB⟩
          case measure => simp [intOf]; omega
      · have hq1 : ¬ q = 1 := by simpa using hq
        have HZ := ax (show earlyF c [] xs = earlyF c seen (xs.drop (k + 1)) by rw [HR.o, decide_eq_false hq1]; simp);clear hq1;(go_wp2_with fail)
        go_round
        case rel => exact ⟨k + 1, seen, by omega, by go_num, HZ, k0, hB⟩
        case measure => simp [intOf]; omega
    · obtain rfl : k = xs.length := by omega
      (go_wp2_with fail);go_ret;exact ⟨zjD (by rw [HA.o, List.drop_length]; rfl), hB⟩

--@ spec.l5Apart
theorem apartF_at (xs : List Atm) (k : Nat) (hk : k < xs.length) : apartF ((xs.take k).map Atm.a) (xs.drop k) = (!decide (xs[k].a = 0) && !decide (xs[k].a ∈ (xs.take k).map Atm.a) && apartF ((xs.take (k + 1)).map Atm.a) (xs.drop (k + 1))) := by
  rw [List.drop_eq_getElem_cons hk, List.take_succ_eq_append_getElem hk, List.map_append]; rfl
theorem c_spec_l5Apart {lo hi : Nat} (A : Option Addr) (c0 : Nat) (xs : List Atm) (w : World) (h : AtomsV w lo hi A xs) :
    Calls Tryz.prog 243 #[.slice A xs.length c0] w fun e w' => e = .returned (.bool (apartF [] xs)) ∧ Below w.heap.size w w' := by
  have hl := h.le;(go_enter Tryz.func243, Tryz.ntmps243);(go_wp2_with fail)
  go_loopw [3] (fun i wr => ∃ k : Nat, k ≤ xs.length ∧ i = .int .i64 k ∧ aJ (apartF [] xs = apartF ((xs.take k).map Atm.a) (xs.drop k)) ∧ Below w.heap.size w wr) (fun i _ => xs.length - (intOf i).toNat)
  case atStart => exact ⟨0, Nat.zero_le _, rfl, rfl, bel⟩
  case round =>
    obtain ⟨k, hk, rfl, HA, hB⟩ := hrel;by_cases hlt : k < xs.length
    · obtain ⟨b, off, rfl, hbl⟩ := h.blt hlt
      obtain ⟨g0, g1, g2⟩ := (h.bz hB).cl hlt;have HD := ax (apartF_at xs k hlt);by_cases hz : xs[k].a = 0
      · have HZ := ax (show apartF [] xs = false by rw [HA.o, HD.o, decide_eq_true hz]; rfl)
        have hzb : (xs[k].a == 0) = true := by simpa using hz
        clear hz;(go_wp2_with fail);go_ret;exact ⟨zjD HZ.o.symm, hB⟩
      · have hzb : (xs[k].a == 0) = false := by simpa using hz
        have HNZ := ax hz;clear hz;(go_wp2_with fail)
        go_loopw [4] (fun i wr => ∃ j : Nat, j ≤ k ∧ i = .int .i64 j ∧ aJ (∀ n, n < j → ∀ hn : n < xs.length, xs[n].a ≠ xs[k].a) ∧ Below w.heap.size w wr) (fun i _ => k - (intOf i).toNat)
        case atStart => exact ⟨0, Nat.zero_le _, rfl, fun n hn => absurd hn (by omega), hB⟩
        case round =>
          clear hB g0 g1 g2;obtain ⟨j, hj, rfl, HJ, hB⟩ := hrel;by_cases hjl : j < k
          · have hjx : j < xs.length := by omega
            obtain ⟨g0, g1, g2⟩ := (h.bz hB).cl hlt;obtain ⟨e0, e1, e2⟩ := (h.bz hB).cl hjx;cases he : (xs[j].a == xs[k].a)
            all_goals
              have hjx2 : (j : Int) < (xs.length : Int) := by omega
              have hkx2 : (k : Int) < (xs.length : Int) := by omega
              (go_wp2_with fail);(go_quiet (fail));have hBq := below_drewN hB nq;generalize wr.drewN nq = w2 at hBq ⊢;(go_wp2_with fail)
            · go_round
              case rel =>
                refine ⟨j + 1, by omega, by go_num, fun n hn hx => ?_, hBq⟩;by_cases e : n = j
                · subst e; simpa using he
                · exact HJ.o n (by omega) hx
              case measure => simp [intOf]; omega
            · go_ret
              refine ⟨zjD ?_, hBq⟩;have hm : xs[k].a ∈ (xs.take k).map Atm.a := List.mem_map.2 ⟨xs[j], by rw [List.mem_take_iff_getElem]; exact ⟨j, by omega, rfl⟩, by simpa using he⟩;rw [HA.o, HD.o, decide_eq_true hm]; simp
          · obtain rfl : j = k := by omega
            have hm : xs[j].a ∉ (xs.take j).map Atm.a := fun hm => by
              obtain ⟨y, hy, ey⟩ := List.mem_map.1 hm;rw [List.mem_take_iff_getElem] at hy;obtain ⟨n, hn, en⟩ := hy;have hn' : n < j := by omega
              exact HJ.o n hn' (by omega) (by rw [en]; exact ey)
            have HZ := ax (show apartF [] xs = apartF ((xs.take (j + 1)).map Atm.a) (xs.drop (j + 1)) by rw [HA.o, HD.o, decide_eq_false hm, decide_eq_false HNZ.o]; simp);clear hm;(go_wp2_with fail)
            go_round
            case rel => exact ⟨j + 1, by omega, by go_num, HZ, hB⟩
            case measure => simp [intOf]; omega
    · obtain rfl : k = xs.length := by omega
      (go_wp2_with fail);go_ret;exact ⟨zjD (by rw [HA.o, List.drop_length]; rfl), hB⟩
theorem c_spec_l5Filled {lo hi lo' hi':Nat} (A B:Option Addr) (c0 c1:Nat) (xs:List Atm) (c:List Int) (w:World) (h:AtomsV w lo hi A xs) (h':IntsV w lo' hi' B c) (hc:c.length=9) (hx:AtomsOk xs) :
  Calls Tryz.prog 244 #[.slice A xs.length c0,.slice B c.length c1] w fun e w'=>∃ r,e=.returned r∧AtomsO w' w.heap.size r (filledL xs c)∧Below w.heap.size w w':=by
 have hl:=h.le;obtain ⟨pb,ob,rfl,lpb⟩:=h'.blt (k:=0) (by omega);have HC:=ax hc;have HX:=ax hx;have H':=ax h';clear hx h';rw[hc];clear hc;(go_enter Tryz.func244,Tryz.ntmps244);(go_wp2_with fail)
 go_loopw [5,6] (fun r i wr=>∃ (k:Nat) (D:Option Addr) (n e:Nat),k≤xs.length∧i=.int .i64 k∧n=(filledL (xs.take k) c).length∧r=.slice D n e∧AtomsO wr w.heap.size (.slice D n e) (filledL (xs.take k) c)∧Below w.heap.size w wr) (fun _ i _=>xs.length - (intOf i).toNat)
 case atStart=>exact ⟨0,some ⟨w.heap.size,0,none⟩,0,0,Nat.zero_le _,rfl,rfl,rfl,AtomsO.empty w,bel⟩
 case round=>
  obtain ⟨k,D,n,e,hkk,rfl,hn,rfl,of,hB⟩:=hrel;have HN:=ax hn
  have hnl:n≤k:=by
   rw[hn];exact Nat.le_trans (filledL_len _ _) (by simp;omega)
  clear hn;by_cases hlt:k<xs.length
  ·obtain ⟨b,off,rfl,hbl⟩:=h.blt hlt;have HH:=ax h;have HT:=ax (filledL_take xs c k hlt);have hxk:=HX.o _ (List.getElem_mem hlt);obtain ⟨x,hxe⟩:∃ x,x=xs[k]:=⟨_,rfl⟩;have HCL:aJ (∀ w':World,Below w.heap.size w w'→w'.cell? ⟨b,off+k*3,none⟩=some (.int .i64 x.kind)∧w'.cell? ⟨b,off+k*3+1,none⟩=some (.int .i64 x.a)∧w'.cell? ⟨b,off+k*3+2,none⟩=some (.int .i64 x.b)):=fun w' hw'=>by rw[hxe];exact (HH.o.bz hw').cl hlt
   rw[←hxe] at HT hxk;clear hxe;obtain ⟨q,xa,xb⟩:=x;dsimp only at hxk HCL;obtain ⟨⟨a1,a2⟩,⟨b1,b2⟩⟩:=hxk;obtain ⟨xa,rfl⟩:=Int.eq_ofNat_of_zero_le a1;obtain ⟨xb,rfl⟩:=Int.eq_ofNat_of_zero_le b1;have ha9:(xa:Int)<9:=by omega
   have hb9:(xb:Int)<9:=by omega
   have HCI:aJ (∀ w':World,Below w.heap.size w w'→w'.cell? ⟨pb,ob+xa,none⟩=some (.int .i64 (cl c xa))∧w'.cell? ⟨pb,ob+xb,none⟩=some (.int .i64 (cl c xb))):=fun w' hw'=>⟨ints_cl (H'.o.bz hw') (by rw[HC.o];omega),ints_cl (H'.o.bz hw') (by rw[HC.o];omega)⟩;have hwz:=hB.size;have hlx:(k:Int)<(xs.length:Int):=by omega
   clear a1 a2 b1 b2 h;have HS:aJ (∀ w':World,Below w.heap.size w w'→(w'.cell? ⟨b,off+k*3,none⟩=some (.int .i64 q)∧w'.cell? ⟨b,off+k*3+1,none⟩=some (.int .i64 xa)∧w'.cell? ⟨b,off+k*3+2,none⟩=some (.int .i64 xb))∧w'.cell? ⟨pb,ob+xa,none⟩=some (.int .i64 (cl c xa))∧w'.cell? ⟨pb,ob+xb,none⟩=some (.int .i64 (cl c xb))):=fun w' hw'=>⟨HCL.o w' hw',HCI.o w' hw'⟩;(go_wp2_with fail);refine wp_region_noPanic ?_;refine wp_region_held_drew (S:=(fun w'=>(w'.cell? ⟨b,off+k*3,none⟩=some (.int .i64 q)∧w'.cell? ⟨b,off+k*3+1,none⟩=some (.int .i64 xa)∧w'.cell? ⟨b,off+k*3+2,none⟩=some (.int .i64 xb))∧w'.cell? ⟨pb,ob+xa,none⟩=some (.int .i64 (cl c xa))∧w'.cell? ⟨pb,ob+xb,none⟩=some (.int .i64 (cl c xb)))) (by kernel_rfl) (HS.o _ bel) (fun aH=>?_);refine tk2 0 rfl aH (h:=tk2 1 rfl aH (h:=tk2 2 rfl aH (h:=?_)));(try simp only[zz]);refine tk2 3 rfl aH (h:=tk2 4 rfl aH (h:=tk2 5 rfl aH (h:=?_)));(try simp only[zz]);refine tk2 6 rfl aH (h:=tk2 7 rfl aH (h:=tk2 8 rfl aH (h:=?_)));(try simp only[zz]);refine tk2 9 rfl aH (h:=tk2 10 rfl aH (h:=tk2 11 rfl aH (h:=?_)));(try simp only[zz]);refine tk2 12 rfl aH (h:=tk2 13 rfl aH (h:=tk2 14 rfl aH (h:=?_)));(try simp only[zz]);refine tk2 15 rfl aH (h:=tk2 16 rfl aH (h:=tk2 17 rfl aH (h:=?_)));(try simp only[zz]);refine tk2 18 rfl aH (h:=tk2 19 rfl aH (h:=tk2 20 rfl aH (h:=?_)));(try simp only[zz]);refine tk2 21 rfl aH (h:=?_);refine rdc 22 rfl fun K hK=>?_;(try simp only[zz]);go_simp;refine hK.out _ _ (HS.o _ bel) ?_;clear aH hK K;intro aH;refine rdc 23 rfl fun K hK=>?_;(try simp only[zz]);go_simp;refine hK.out _ _ (HS.o _ bel) ?_;clear aH hK K;intro aH;(try simp only[zz]);refine dn1 ?_;clear aH;have kx:Blk (wr.alloc (.cells #[.int .i64 q,.int .i64 (cl c xa),.int .i64 (cl c xb)] tA)).drew wr.heap.size tA #[.int .i64 q,.int .i64 (cl c xa),.int .i64 (cl c xb)]:=blks;have hB2:Below w.heap.size w (wr.alloc (.cells #[.int .i64 q,.int .i64 (cl c xa),.int .i64 (cl c xb)] tA)).drew:=bel;have of2:=of.bz (w':=(wr.alloc (.cells #[.int .i64 q,.int .i64 (cl c xa),.int .i64 (cl c xb)] tA)).drew) bel;have hz2:wr.heap.size<(wr.alloc (.cells #[.int .i64 q,.int .i64 (cl c xa),.int .i64 (cl c xb)] tA)).drew.heap.size:=kx.lt;generalize (wr.alloc (.cells #[.int .i64 q,.int .i64 (cl c xa),.int .i64 (cl c xb)] tA)).drew=W2 at kx hB2 of2 hz2 ⊢
   have HF:aJ (∀ s t:Bool,(q == 1)=s→(cl c xa == cl c xb)=t→filledL (xs.take (k+1)) c=filledL (xs.take k) c++if (s || !t) then [⟨q,cl c xa,cl c xb⟩] else []):=by
    intro s t hs ht;rw[HT.o];have:Atm.fill c ⟨q,xa,xb⟩=(s || !t):=by rw[←hs,←ht];rfl
    rw[this];rfl
   have qx:=kx.cell;obtain ⟨u,hu⟩:∃ u,u=cl c xa:=⟨_,rfl⟩;obtain ⟨v,hv⟩:∃ v,v=cl c xb:=⟨_,rfl⟩;rw[←hu,←hv] at kx qx HF ⊢;clear hu hv HT HS HCI HCL of hB;cases hq:(q == 1)
   ·cases hab:(u == v)
    ·have HZ:aJ (filledL (xs.take (k+1)) c=filledL (xs.take k) c++[⟨q,u,v⟩]):=HF.o _ _ hq hab;(go_wp2_with (at_builtin;refine appAL rfl _ _ rfl (v:=.slice D n e) rfl (of2.bz (w':=W2.alloc (.cells #[.int .i64 q,.int .i64 u,.int .i64 v] tA)) bel) rfl (AtomsV.one' (Blk.newE rfl)) (by simp only[List.length_cons,List.length_nil];rw[←HN.o];omega) (by simp;omega) ?_;intro A' c' w2 of3 hg2 hB3))
     go_round
     case rel=>exact ⟨k+1,A',_,c',by omega,by go_num,rfl,by rw[HZ.o];simp,by rw[HZ.o];exact of3,Below.trans (bbox hB2 _) (hB3.mono (Nat.le_refl _))⟩
     case measure=>simp[intOf];omega
    ·have HZ:aJ (filledL (xs.take (k+1)) c=filledL (xs.take k) c++[]):=HF.o _ _ hq hab;(go_wp2_with fail)
     go_round
     case rel=>exact ⟨k+1,D,n,e,by omega,by go_num,by rw[HZ.o,List.append_nil];exact HN.o,rfl,by rw[HZ.o,List.append_nil];exact of2,hB2⟩
     case measure=>simp[intOf];omega
   ·have HZ:aJ (filledL (xs.take (k+1)) c=filledL (xs.take k) c++[⟨q,u,v⟩]):=HF.o _ _ hq rfl;(go_wp2_with (at_builtin;refine appAL rfl _ _ rfl (v:=.slice D n e) rfl (of2.bz (w':=W2.alloc (.cells #[.int .i64 q,.int .i64 u,.int .i64 v] tA)) bel) rfl (AtomsV.one' (Blk.newE rfl)) (by simp only[List.length_cons,List.length_nil];rw[←HN.o];omega) (by simp;omega) ?_;intro A' c' w2 of3 hg2 hB3))
    go_round
    case rel=>exact ⟨k+1,A',_,c',by omega,by go_num,rfl,by rw[HZ.o];simp,by rw[HZ.o];exact of3,Below.trans (bbox hB2 _) (hB3.mono (Nat.le_refl _))⟩
    case measure=>simp[intOf];omega
  ·obtain rfl:k=xs.length:=by omega
   (go_wp2_with fail);go_ret;refine ⟨_,rfl,?_,hB⟩;rw[List.take_length] at of;exact of
theorem opened_take (n:Nat) (h1:1≤n) (h9:n<9):opened.take (n+1)=opened.take n++[-1]:=by
 obtain rfl|rfl|rfl|rfl|rfl|rfl|rfl|rfl:n=1∨n=2∨n=3∨n=4∨n=5∨n=6∨n=7∨n=8:=by omega
 all_goals rfl
theorem c_spec_l5Open (w:World) :
  Calls Tryz.prog 195 #[] w fun e w'=>∃ r,e=.returned r∧IntsO w' w.heap.size r opened∧Below w.heap.size w w':=by
 (go_enter Tryz.func195,Tryz.ntmps195);(go_wp2_with fail)
 go_loopw [1] (fun r wr=>∃ (n:Nat) (D:Option Addr) (e:Nat),1≤n∧n≤9∧r=.slice D n e∧IntsO wr w.heap.size (.slice D n e) (opened.take n)∧Below w.heap.size w wr) (fun r _=>match r with | .slice _ n _=>9 - n|_=>0)
 case atStart=>exact ⟨1,some ⟨w.heap.size,0,none⟩,1,by omega,by omega,rfl,IntsO.one w 0 (Nat.le_refl _),bel⟩
 case round=>
  obtain ⟨n,D,e,h1,h9,rfl,o,hB⟩:=hrel;have hwz:=hB.size;by_cases hlt:n<9
  ·have hn8:(n:Int)≤8:=by omega
   have HT:=ax (opened_take n h1 hlt);have hll:aJ ((opened.take n).length=n):=by show _=_;rw[List.length_take];show min n 9=n;omega
   have o1:=o.bz (w':=wr.alloc (.cells #[.int .i64 (-1)] tI)) bel;(go_wp2_with (at_builtin;refine appI rfl _ _ rfl (v:=.slice D n e) rfl o1 wr.heap.size (-1) rfl (cell_box _ _ _) (by rw[hll.o];omega) (by simp;omega) ?_;intro g cc w2 o2 hg2 hB3;rw[hll.o,←HT.o] at o2;rw[hll.o]))
   go_round
   case rel=>exact ⟨n+1,_,_,by omega,by omega,rfl,o2,Below.trans bel hB3⟩
   case measure=>simp;omega
  ·obtain rfl:n=9:=by omega
   (go_wp2_with fail);go_ret;exact ⟨_,rfl,o,hB⟩
end
section
open Go Go.RowKit
def Turn (T : TypeId) (B : Nat) (W : World) (row : Option Nat) : Prop := ∀ r, row = some r → B ≤ r ∧ ∃ o : Obj, W.heap[r]? = some o ∧ (o.isCells = false ∨ ∃ cs, o = .cells cs T (0, 0))
def OwnT {β : Type} (T : TypeId) (B : Nat) (I : β → World → Prop) : Prop := ∀ s W W' row, I s W → W.grownBy W' row → Turn T B W row → I s W'
def TurnC (T : TypeId) (B : Nat) (W : World) (row : Option Nat) : Prop := ∀ r, row = some r → B ≤ r ∧ ∃ cs, W.heap[r]? = some (.cells cs T (0, 0))
def AbT {β : Type} (T : TypeId) (B : Nat) (J : β → World → Prop) : Prop := ∀ s W W' row, J s W → W.grownBy W' row → TurnC T B W row → J s W'
structure Kept (T1 T2 : TypeId) (n₀ : Nat) (W W' : World) : Prop where
  bz : Below n₀ W W'
  keep : ∀ (g : Nat) (t : TypeId) (cs : Array Value), (t = T1 ∨ t = T2) → Blk W g t cs → Blk W' g t cs
section
variable {T1 T2 T : TypeId} {n₀ B : Nat} {A W W' W2 : World}
theorem Kept.refl (W : World) : Kept T1 T2 n₀ W W := ⟨Below.refl _ _, fun _ _ _ _ h => h⟩
theorem Kept.trans (h : Kept T1 T2 n₀ A W) (k : Kept T1 T2 n₀ W W') : Kept T1 T2 n₀ A W' := ⟨h.bz.trans k.bz, fun g t cs ht hb => k.keep g t cs ht (h.keep g t cs ht hb)⟩
theorem Kept.nz (h : Below W.heap.size W W') (hn : n₀ ≤ W.heap.size) : Kept T1 T2 n₀ W W' := ⟨h.mono hn, fun _ _ _ _ hb => hb.nz h⟩
theorem Kept.alloc (hn : n₀ ≤ W.heap.size) (o : Obj) : Kept T1 T2 n₀ W (W.alloc o) := ⟨(Below.refl _ _).alloc hn _, fun _ _ _ _ hb => hb.alloc o⟩
theorem Kept.set {cs : Array Value} (hk : Blk W B T cs) (hn : n₀ ≤ B) (h1 : T ≠ T1) (h2 : T ≠ T2) (i : Nat) (u : Value) : Kept T1 T2 n₀ W (W.setCell ⟨B, i, none⟩ u) :=
  ⟨(Below.refl _ _).setCell (p := ⟨B, i, none⟩) hn _, fun g t cs ht hb => hb.far (p := ⟨B, i, none⟩) (by
    intro e;have e : g = B := e;subst e;rcases ht with rfl | rfl
    · exact (hb.ne_ hk (fun e => h1 e.symm)) rfl
    · exact (hb.ne_ hk (fun e => h2 e.symm)) rfl) _⟩
theorem Kept.put {l : Nat} {o : Obj} (o' : Obj) (hn : n₀ ≤ l) (hl : W.heap[l]? = some o) (ho : o.isCells = false) : Kept T1 T2 n₀ W (W.putObj l o') :=
  ⟨(Below.refl n₀ W).grown (grownBy_putObj' W l o') (by have := (Array.getElem?_eq_some_iff.1 hl).1; omega) (fun k e => by cases e; omega),
   fun g t cs _ hb => (World.putObj_heap_other (fun e => by subst e; unfold Blk at hb; rw [hl] at hb; cases hb; cases ho)).trans hb⟩
theorem OwnT.put {β : Type} {I : β → World → Prop} (h : OwnT T B I) {s : β} {l : Nat} {o : Obj} (o' : Obj) (hs : I s W) (hB : B ≤ l) (hl : W.heap[l]? = some o) (ho : o.isCells = false) : I s (W.putObj l o') :=
  h s W _ (some l) hs (grownBy_putObj' W l o') (fun r e => by cases e; exact ⟨hB, o, hl, Or.inl ho⟩)
theorem OwnT.alloc {β : Type} {I : β → World → Prop} (h : OwnT T B I) {s : β} (o : Obj) (hs : I s W) : I s (W.alloc o) :=
  h s W _ none hs (World.grownBy_alloc W o none) (fun r e => by cases e)
theorem grown_of_below {row : Option Nat} (h : Below W.heap.size W W') : W.grownBy W' row := ⟨h.os, h.tape, h.output, h.size, fun k hk _ => h.block k hk⟩
theorem AbT.nz {β : Type} {J : β → World → Prop} (h : AbT T B J) {s : β} (hs : J s W) (hb : Below W.heap.size W W') : J s W' := h s W W' none hs (grown_of_below hb) (fun r e => by cases e)
theorem AbT.set {β : Type} {J : β → World → Prop} (h : AbT T B J) {s : β} (hs : J s W) {g : Nat} {cs : Array Value} (hk : Blk W g T cs) (hg : B ≤ g) (i : Nat) (u : Value) : J s (W.setCell ⟨g, i, none⟩ u) :=
  h s W _ (some g) hs ⟨rfl, rfl, rfl, by simp, fun k hk' hne => Below.heap_setCell W ⟨g, i, none⟩ u k (fun e => hne (by rw [e]))⟩ (fun r e => by cases e; exact ⟨hg, cs, hk⟩)

theorem OwnT.and {β : Type} {I I' : β → World → Prop} (h : OwnT T B I) (h' : OwnT T B I') : OwnT T B (fun s W => I s W ∧ I' s W) := fun s W W' row hs hg hr => ⟨h s W W' row hs.1 hg hr, h' s W W' row hs.2 hg hr⟩
theorem Blk.turn {g : Nat} {t : TypeId} {cs : Array Value} {row : Option Nat} (h : Blk W g t cs) (hg : W.grownBy W' row) (hr : Turn T B W row) (ht : t ≠ T ∨ g < B) : Blk W' g t cs :=
  h.grown hg (fun e => by
    obtain ⟨hb, o, ho, hc⟩ := hr g e.symm;unfold Blk at h;rw [h] at ho;cases ho;rcases hc with hc | ⟨cs', hc⟩
    · cases hc
    · injection hc with _ e2
      rcases ht with ht | ht
      · exact ht e2
      · omega)
theorem Below.turn {row : Option Nat} (h : Below n₀ A W) (hg : W.grownBy W' row) (hr : Turn T B W row) (hn : n₀ ≤ B) (hw : n₀ ≤ W.heap.size) : Below n₀ A W' :=
  h.grown hg hw (fun k e => by have := (hr k e).1; omega)
end

def postT {α : Type} (B : Nat) (Kp : World → World → Prop) (I : List α → World → Prop) (Ix : Code → List α → World → Prop) (xs : List α) (W : World) : Exit → Act → World → Prop
  | .normal, _, W' => KeepsFrom B W W' ∧ Kp W W' ∧ I xs W'
  | .ret, _, W' => KeepsFrom B W W' ∧ Ix .ret xs W'
  | .exit id, _, W' => KeepsFrom B W W' ∧ Ix (.exit id) xs W'
  | .goto t, _, W' => KeepsFrom B W W' ∧ Ix (.goto t) xs W'
  | .panic _, _, _ => False
  | .outgrown, _, _ => False
def SeqT {α : Type} (P : Program) (g : Nat) (lb : Array Value) (encs : α → Array Value) (T : TypeId) (Kp : World → World → Prop) (Adm S Sp : List α → Prop) (w : World) : Prop :=
  ∀ (n l : Nat) (J Jx : List α → World → Prop) (W : World), Below w.heap.size w W → AbT T W.heap.size J → AbT T W.heap.size Jx →
    (∀ m pre x W1, J pre W1 → Adm (pre ++ [x]) → YieldAt Fence.wide m P l (encs x) W1 fun e W' =>
      (e = .returned (.bool true) ∧ J (pre ++ [x]) W' ∧ Kp W1 W') ∨ (e = .returned (.bool false) ∧ Jx (pre ++ [x]) W')) →
    J [] W →
    CallsIn Fence.wide n P g (#[.func (.yield l) #[] #[]] ++ lb) W fun e W' => (∃ v, e = .returned v) ∧ ((∃ xs, S xs ∧ J xs W') ∨ (∃ pre, Sp pre ∧ Jx pre W'))

variable {n : Nat} {P : Program}
theorem wp_rangeT {α : Type} {g : Operand} {ps : Array Tmp} {assign body : Code} {Q : Exit → Act → World → Prop} {a : Act} {w : World}
    {gf : Nat} {lb : Array Value} (hg : a.eval g = .func (.func gf) #[] lb) (eg : ∀ args w, (callFunc gf args).run P w = .ok (.enter gf args) w)
    {encs : α → Array Value} {T : TypeId} {Kp : World → World → Prop} {Adm S Sp : List α → Prop} {w0 : World} (hseq : SeqT P gf lb encs T Kp Adm S Sp w0)
    (hKt : ∀ {A B C : World}, Kp A B → Kp B C → Kp A C) (hKb : ∀ (W : World) (l : Nat) (o o' : Obj), w.heap.size ≤ l → W.heap[l]? = some o → o.isCells = false → Kp W (W.putObj l o')) (hb0 : Below w0.heap.size w0 w) (hps : ∀ x, (encs x).size = ps.size)
    (I : List α → World → Prop) (Ix : Code → List α → World → Prop) (hI : OwnT T w.heap.size I) (hIx : ∀ c, OwnT T w.heap.size (Ix c)) (h0 : I [] w)
    (hround : ∀ (l : Nat) (pre : List α) (x : α) (W : World), w.heap.size ≤ l → I pre W → Adm (pre ++ [x]) →
      assign.wpIn (Fence.wide.inRound l) (n - 1 - 1) P (Exit.then (fun a1 W1 => KeepsFrom w.heap.size W W1 ∧ Kp W W1 ∧ ∀ (o o' : Obj), W1.heap[l]? = some o → o.isCells = false →
        body.wpIn (Fence.wide.inRound l) (n - 1 - 1) P (postT w.heap.size Kp I Ix (pre ++ [x]) (W1.putObj l o')) a1 (W1.putObj l o')) (fun _ _ _ => False)) { tmps := (ps.zip (encs x)).foldl (fun t (p, v) => t.setIfInBounds p v) a.tmps, defers := [] } W)
    (hdone : ∀ (D : Nat) (xs : List α) (W : World), w.heap.size ≤ D → S xs → I xs W → W.heap[D]? = some (.deferred (some [])) → Q .normal { a with defers := { target := .collected D, args := #[] } :: a.defers } W)
    (hstop : ∀ (D : Nat) (c : Code) (pre : List α) (W : World), w.heap.size ≤ D → Sp pre → Ix c pre W → W.heap[D]? = some (.deferred (some [])) → c.wpIn Fence.wide n P Q { a with defers := { target := .collected D, args := #[] } :: a.defers } W) :
    (Code.rangeFunc g ps assign body).wpIn Fence.wide n P Q a w := by
  refine wpIn_rangeFunc fun fn hfn => ?_;show ∃ (l : Nat) (mark : List Deferred) (w₁ : World) (d : Deferred) (w₁' : World) (f : FuncId) (args : Array Value) (w₂ : World), (Instr.enterLoop fn a.tmps ps assign body none).run P w = .ok (l, mark) w₁ ∧ _
  let rec_ : LoopState → Option Code → Loop := fun st pe => { state := st, pending := pe, fn, tmps := a.tmps, params := ps, assign, body, defers := w.heap.size }
  let W1 := (w.alloc (.deferred (some []))).alloc (.loop (rec_ .ready none))
  have hL1 : W1.heap[w.heap.size + 1]? = some (.loop (rec_ .ready none)) := by
    have := World.alloc_heap_new (w.alloc (.deferred (some []))) (.loop (rec_ .ready none)); rwa [World.size_alloc] at this
  have hK1 : W1.heap[w.heap.size]? = some (.deferred (some [])) := (Below.heap_alloc _ _ _ (by simp)).trans (World.alloc_heap_new w _);have hs1 : W1.heap.size = w.heap.size + 1 + 1 := by simp [W1]
  have hcy : ∀ {X Y : World} {row : Option Nat}, TurnC T W1.heap.size X row → Turn T w.heap.size X row := fun h r e => by
    obtain ⟨h1, cs, h2⟩ := h r e;exact ⟨by omega, _, h2, Or.inr ⟨cs, rfl⟩⟩
  have hst : ∀ {X Y : World} {row : Option Nat} {k : Nat} {o : Obj}, X.grownBy Y row → TurnC T W1.heap.size X row → X.heap[k]? = some o → o.isCells = false → Y.heap[k]? = some o := fun hg' hr hk ho =>
    (hg'.block _ (Array.getElem?_eq_some_iff.1 hk).1 (fun e => by
      obtain ⟨-, cs, h2⟩ := hr _ e.symm
      rw [hk] at h2; cases h2; cases ho)).trans hk
  refine ⟨w.heap.size + 1, [{ target := .collected w.heap.size, args := #[] }], W1, { target := .fn (.func gf) lb, args := #[.func (.yield (w.heap.size + 1)) #[] #[]] }, W1, gf,
    #[.func (.yield (w.heap.size + 1)) #[] #[]] ++ lb, W1, run_enterLoop_outer _ _ _ _ _, ?_, fun _ _ => trivial, ?_, fun h => (by cases h), ?_⟩
  · simp only [resolve, hg]
    simp [go_sem]
  · simp [invoke, go_sem, eg]
  · refine (hseq (n - 1) (w.heap.size + 1)
      (fun pre W => I pre W ∧ W.heap[w.heap.size + 1]? = some (.loop (rec_ .ready none)) ∧ W.heap[w.heap.size]? = some (.deferred (some [])))
      (fun pre W => ∃ c, Ix c pre W ∧ W.heap[w.heap.size + 1]? = some (.loop (rec_ .done (some c))) ∧ W.heap[w.heap.size]? = some (.deferred (some [])))
      W1 (hb0.trans ((((Below.refl _ w).alloc (Nat.le_refl _) _).alloc (by simp) _).mono hb0.size))
      (fun s X Y row hs hg' hr => ⟨hI s X Y row hs.1 hg' (hcy (Y := Y) hr), hst hg' hr hs.2.1 rfl, hst hg' hr hs.2.2 rfl⟩)
      (fun s X Y row hs hg' hr => by
        obtain ⟨c, hc, hl, hk⟩ := hs
        exact ⟨c, hIx c s X Y row hc hg' (hcy (Y := Y) hr), hst hg' hr hl rfl, hst hg' hr hk rfl⟩)
      ?_ ⟨hI.alloc _ (hI.alloc _ h0), hL1, hK1⟩).mono ?_
    · rintro m pre x W ⟨hi, hl, hk⟩ hadm
      have hlt : w.heap.size + 1 < W.heap.size := (Array.getElem?_eq_some_iff.1 hl).1;have hy := run_yield (P := P) (args := encs x) hl (hps x);refine ⟨fn, _, assign, body, hy, ?_⟩
      have hdep : ∀ {m m' : Nat} {l : Nat} {f : FuncId} {tmps : Array Value} {assign body : Code} {w : World} {R : Ending → World → Prop}, RoundIn Fence.wide m P l f tmps assign body w R → RoundIn Fence.wide m' P l f tmps assign body w R :=
        fun h => ⟨h.1, fun c cs _ => h.2 c cs (room_wide _)⟩
      refine hdep (m := n - 1 - 1) (roundIn_of_wpIn trivial (wpIn_mono (hround (w.heap.size + 1) pre x W (by omega) hi hadm) ?_));rintro e a2 W2 hp
      cases e with
      | normal =>
        obtain ⟨hkf, hkp, hb⟩ := hp;have hl1 := hkf.same _ _ (by omega) hl rfl;have hk1 := hkf.same _ _ (Nat.le_refl _) hk rfl;refine ⟨_, run_beginRound hl1 rfl, ?_⟩;have hlt2 : w.heap.size + 1 < W2.heap.size := (Array.getElem?_eq_some_iff.1 hl1).1;have hl2 : (W2.putObj (w.heap.size + 1) (.loop { rec_ .ready none with state := .busy })).heap[w.heap.size + 1]? = some (.loop { rec_ .ready none with state := .busy }) := World.putObj_heap_same hlt2;have hk2 : (W2.putObj (w.heap.size + 1) (.loop { rec_ .ready none with state := .busy })).heap[w.heap.size]? = some (.deferred (some [])) := (World.putObj_heap_other (by omega)).trans hk1;have hw2 : Kp W2 (W2.putObj (w.heap.size + 1) (.loop { rec_ .ready none with state := .busy })) := hKb _ _ _ _ (by omega) hl1 rfl;refine wpIn_mono (hb _ (.loop { rec_ .ready none with state := .busy }) hl1 rfl) ?_
        have fin : ∀ (jump : Option Code) (W3 : World), KeepsFrom w.heap.size (W2.putObj (w.heap.size + 1) (.loop { rec_ .ready none with state := .busy })) W3 →
            (Instr.endRound (w.heap.size + 1) jump).run P W3 = .ok (.bool jump.isNone) (W3.putObj (w.heap.size + 1) (.loop (rec_ (if jump.isNone then .ready else .done) jump))) ∧
            W3.heap[w.heap.size + 1]? = some (.loop { rec_ .ready none with state := .busy }) ∧
            (W3.putObj (w.heap.size + 1) (.loop (rec_ (if jump.isNone then .ready else .done) jump))).heap[w.heap.size + 1]? = some (.loop (rec_ (if jump.isNone then .ready else .done) jump)) ∧
            (W3.putObj (w.heap.size + 1) (.loop (rec_ (if jump.isNone then .ready else .done) jump))).heap[w.heap.size]? = some (.deferred (some [])) := fun jump W3 hk3 => by
          have hl3 := hk3.same _ _ (by omega) hl2 rfl;exact ⟨run_endRound (P := P) jump hl3, hl3, World.putObj_heap_same (Array.getElem?_eq_some_iff.1 hl3).1, (World.putObj_heap_other (by omega)).trans (hk3.same _ _ (Nat.le_refl _) hk2 rfl)⟩
        rintro e a3 W3 hp
        cases e with
        | normal =>
          obtain ⟨hk3, hkp3, hi3⟩ := hp;obtain ⟨hr, hl3, hl4, hk4⟩ := fin none W3 hk3;exact ⟨_, _, hr, .inl ⟨rfl, ⟨hI.put _ hi3 (by omega) hl3 rfl, hl4, hk4⟩, hKt (hKt (hKt hkp hw2) hkp3) (hKb _ _ _ _ (by omega) hl3 rfl)⟩⟩
        | ret =>
          obtain ⟨hk3, hi3⟩ := hp;obtain ⟨hr, hl3, hl4, hk4⟩ := fin (some .ret) W3 hk3;exact ⟨_, _, hr, .inr ⟨rfl, .ret, (hIx _).put _ hi3 (by omega) hl3 rfl, hl4, hk4⟩⟩
        | exit id =>
          obtain ⟨hk3, hi3⟩ := hp;obtain ⟨hr, hl3, hl4, hk4⟩ := fin (some (.exit id)) W3 hk3;exact ⟨_, _, hr, .inr ⟨rfl, .exit id, (hIx _).put _ hi3 (by omega) hl3 rfl, hl4, hk4⟩⟩
        | goto t =>
          obtain ⟨hk3, hi3⟩ := hp;obtain ⟨hr, hl3, hl4, hk4⟩ := fin (some (.goto t)) W3 hk3;exact ⟨_, _, hr, .inr ⟨rfl, .goto t, (hIx _).put _ hi3 (by omega) hl3 rfl, hl4, hk4⟩⟩
        | panic ch => exact hp.elim
        | outgrown => exact hp.elim
      | ret => exact hp.elim
      | exit id => exact hp.elim
      | goto t => exact hp.elim
      | panic ch => exact hp.elim
      | outgrown => exact hp.elim
    · rintro e W2 ⟨⟨v, rfl⟩, (⟨xs, hS, hi, hl, hk⟩ | ⟨pre, hSp, c, hi, hl, hk⟩)⟩
      · exact ⟨none, _, run_endLoop (P := P) hl (by simp [rec_]), hdone _ xs _ (Nat.le_refl _) hS (hI.put _ hi (by omega) hl rfl) ((World.putObj_heap_other (by omega)).trans hk)⟩
      · exact ⟨some c, _, run_endLoop (P := P) hl (by simp [rec_]), hstop _ c pre _ (Nat.le_refl _) hSp ((hIx c).put _ hi (by omega) hl rfl) ((World.putObj_heap_other (by omega)).trans hk)⟩

/-! ### A region that draws its order, within a round -/
end
section
open Go Go.RowKit Go.Proofs
attribute [local go_sem ↓] Go.wp_at_zero Go.wp_at_succ
attribute [local go_sem] Oper.semAt_some
abbrev tAs:Nat:=36
abbrev case9 (c:List Int):Array Value:=#[.int .i64 (cl c 0),.int .i64 (cl c 1),.int .i64 (cl c 2),.int .i64 (cl c 3),.int .i64 (cl c 4),.int .i64 (cl c 5),.int .i64 (cl c 6),.int .i64 (cl c 7),.int .i64 (cl c 8)]
theorem case9_eq {c:List Int} (h:c.length=9):case9 c=(encI c).toArray:=by
 match c,h with
 | [c0,c1,c2,c3,c4,c5,c6,c7,c8],_=>rfl
theorem case9_set {c:List Int} (h:c.length=9) (m:Nat) (v:Int):(case9 c).setIfInBounds m (.int .i64 v)=case9 (c.set m v):=by
 rw[case9_eq h,case9_eq (by simpa using h)];simp[encI]
theorem Blk.case {w:World} {g:Nat} {t:TypeId} {c:List Int} (h:Blk w g t (case9 c)) (hc:c.length=9):Blk w g t (encI c).toArray:=by rw[←case9_eq hc];exact h
theorem Blk.caseSet {w:World} {g:Nat} {t:TypeId} {c:List Int} (h:Blk w g t (case9 c)) (hc:c.length=9) (m:Nat) (v:Int):Blk (w.setCell ⟨g,m,none⟩ (.int .i64 v)) g t (case9 (c.set m v)):=by
 rw[←case9_set hc];exact h.set_ _ _
theorem case9_cells {w:World} {g:Nat} {t:TypeId} {c:List Int} (h:Blk w g t (case9 c)) :
  w.cell? ⟨g,0,none⟩=some (.int .i64 (cl c 0))∧w.cell? ⟨g,1,none⟩=some (.int .i64 (cl c 1))∧w.cell? ⟨g,2,none⟩=some (.int .i64 (cl c 2))∧w.cell? ⟨g,3,none⟩=some (.int .i64 (cl c 3))∧w.cell? ⟨g,4,none⟩=some (.int .i64 (cl c 4))∧w.cell? ⟨g,5,none⟩=some (.int .i64 (cl c 5))∧w.cell? ⟨g,6,none⟩=some (.int .i64 (cl c 6))∧w.cell? ⟨g,7,none⟩=some (.int .i64 (cl c 7))∧w.cell? ⟨g,8,none⟩=some (.int .i64 (cl c 8)):=by
 have q:=h.cell;exact ⟨q 0,q 1,q 2,q 3,q 4,q 5,q 6,q 7,q 8⟩
theorem Rw.keepB {w w':World} {lo hi size n n₀:Nat} {A:Option Addr} {xs:List Value} (h:Rw w lo hi size A n xs) (hb:Below n₀ w w') (hh:hi≤n₀):Rw w' lo hi size A n xs:=h.keep fun b _ h2=>hb.block b (by omega)
theorem AsnV.keepB {w w':World} {lo hi n₀:Nat} {v:Value} {a:Asn} (h:AsnV w lo hi v a) (hb:Below n₀ w w') (hh:hi≤n₀):AsnV w' lo hi v a:=by
 obtain ⟨A1,c1,A2,c2,e,h1,h2⟩:=h;exact ⟨A1,c1,A2,c2,e,⟨h1.raw.keepB hb hh,h1.lim⟩,⟨h2.raw.keepB hb hh,h2.lim⟩⟩
abbrev CaseT (a:Asn) (S:Nat):={ c:List Int // c∈cases a S }
theorem CaseT.len {a:Asn} {S:Nat} (x:CaseT a S):x.1.length=9:=by
 have h:=x.2;unfold cases at h;exact (gen_ok S 9 zeros x.1 (by omega) rfl (List.mem_filter.1 h).1).1
theorem CaseT.pos {a:Asn} {S:Nat} (x:CaseT a S) (j:Nat) (hj:j<9):(S.testBit j=true→0≤cl x.1 j∧cl x.1 j≤j)∧(S.testBit j=false→cl x.1 j = -1):=by
 have h:=x.2;unfold cases at h;exact (gen_ok S 9 zeros x.1 (by omega) rfl (List.mem_filter.1 h).1).2.2 j (by omega) hj
def extAt (a:Asn) (S n:Nat) (c:List Int) (k:Nat):List (List Int):=if k<8 - n∧cl c k≠k then [] else if poss a (c.set (8 - n) k) (8 - n:Nat) then ext a S n (c.set (8 - n) k) else []
theorem ext_loop (a:Asn) (S n:Nat) (c:List Int) (h:S.testBit (8 - n)=true):ext a S (n+1) c=(List.range (9 - n)).flatMap (extAt a S n c):=by
 conv=>lhs;unfold ext
 rw[h,if_pos rfl];rfl
theorem range_pre {α:Type} {f:Nat→List α} {k n:Nat} (h:k<n) {ys:List α} (hy:ys <+: f k):(List.range k).flatMap f++ys <+: (List.range n).flatMap f:=by
 obtain ⟨zs,hz⟩:=hy;obtain ⟨m,rfl⟩:∃ m,n=k+(m+1):=⟨n - k - 1,by omega⟩;rw[List.range_add,List.range_succ_eq_map,List.map_cons,List.flatMap_append,List.flatMap_cons,Nat.add_zero,←hz];exact ⟨zs++(List.map (fun x=>k+x) (List.map Nat.succ (List.range m))).flatMap f,by simp[List.append_assoc]⟩
theorem Kept.setNew {T1 T2:TypeId} {n₀:Nat} {W W':World} (h:Kept T1 T2 n₀ W W') {p:Addr} (hp:W.heap.size≤p.block) (hn:n₀≤W.heap.size) (u:Value):Kept T1 T2 n₀ W (W'.setCell p u):=
 ⟨h.bz.setCell (by omega) _,fun g t cs ht hb=>(h.keep g t cs ht hb).far (by have:=hb.lt;omega) _⟩
theorem c_impl_extend {a:Asn} {S lo hi l n₀ B:Nat} {v:Value} (hv:a.valid=true) (hS:S<512) (hT:∀ t∈mz a,S.testBit t.toNat=true) (hhi:hi≤n₀)
  (J Jx:List (CaseT a S)→World→Prop) (hJ:AbT tTc B J)
  (hY:∀ m pre (x:CaseT a S) W,J pre W→(pre++[x]).map Subtype.val <+: cases a S→YieldAt Fence.wide m Tryz.prog l #[.agg (case9 x.1)] W fun e W'=>(e=.returned (.bool true)∧J (pre++[x]) W'∧Kept tTc tAs n₀ W W')∨(e=.returned (.bool false)∧Jx (pre++[x]) W')) :
  ∀ (n:Nat) (c:List Int) (pre:List (CaseT a S)) (W:World),n≤9→c.length=9→pre.map Subtype.val++ext a S n c <+: cases a S→(∀ j:Nat,j<9 - n→S.testBit j=true→0≤cl c j∧cl c j≤j)→AsnV W lo hi v a→B≤W.heap.size→n₀≤W.heap.size→J pre W→
   Calls Tryz.prog 220 #[.agg (case9 c),.int .i64 ((9 - n:Nat):Int),v,.int .u16 (S:Nat),.func (.yield l) #[] #[]] W fun e W'=>
    (e=.returned (.bool true)∧∃ ys:List (CaseT a S),ys.map Subtype.val=ext a S n c∧J (pre++ys) W'∧Kept tTc tAs n₀ W W')∨(e=.returned (.bool false)∧∃ ys:List (CaseT a S),ys.map Subtype.val <+: ext a S n c∧Jx (pre++ys) W'):=by
 intro n
 induction n with
 | zero=>
  intro c pre W _ hc hm _ hA hBW hn0 hJp;obtain ⟨A1,c1,A2,c2,rfl,-,-⟩:=hA;have hB0:Below W.heap.size W ((W.alloc (.cells (case9 c) tTc)).alloc (.cells #[.slice A1 a.facts.length c1,.slice A2 a.atoms.length c2] tAs)):=bel;have hJ1:=hJ.nz hJp hB0;have hx:c∈cases a S:=hm.subset (by simp[ext]);obtain ⟨fn,tmps,assign,body,hy,hR⟩:=hY 0 pre ⟨c,hx⟩ _ hJ1 (by simpa [ext] using hm);have hk0:=Kept.nz (T1:=tTc) (T2:=tAs) (n₀:=n₀) hB0 hn0;dsimp only at hy;have hR:=RoundIn.mono hR (R':=fun e W'=>(e=.returned (.bool true)∧J (pre++[⟨c,hx⟩]) W'∧Kept tTc tAs n₀ W W')∨(e=.returned (.bool false)∧Jx (pre++[⟨c,hx⟩]) W')) (fun e W' h=>h.elim (fun h=>Or.inl ⟨h.1,h.2.1,hk0.trans h.2.2⟩) Or.inr);clear hY hJ hk0 hJ1 hB0 hJp hm;refine (callsIn_wide (n:=1)).1 ?_;(refine callsIn_of_wp Tryz.func220 rfl trivial ?_ rfl;simp only[Tryz.ntmps220,List.size_toArray,List.length_cons,List.length_nil,Nat.reduceAdd,Nat.reduceSub,Array.replicate_succ,Array.replicate_zero,List.push_toArray,List.append_toArray,List.nil_append,List.cons_append])
  gi_wp2
  refine hR.mono ?_;rintro e W' (⟨rfl,h1,h2⟩|⟨rfl,h1⟩)
  ·gi_wp2
   go_ret;exact Or.inl ⟨rfl,[⟨c,hx⟩],by simp[ext],h1,h2⟩
  ·gi_wp2
   go_ret;exact Or.inr ⟨rfl,[⟨c,hx⟩],by simp[ext],h1⟩
 | succ n ih=>
  intro c pre W hn hc hm hcl hA hBW hn0 hJp;have hV:=ax hA;obtain ⟨A1,c1,A2,c2,rfl,-,-⟩:=hA;obtain ⟨m,hm8⟩:∃ m,m=8 - n:=⟨_,rfl⟩;have e1:((9 - n:Nat):Int)=(m:Int)+1:=by omega
  rw[show 9 - (n+1)=m from by omega] at hcl ⊢;have hmi:(m:Int)≤8:=by omega
  have hmi9:(m:Int)<9:=by omega
  have hit:jq (m:Int)=true:=by rw[zjA];omega
  have HO:=ax (Asn.valid_ok hv);have IH:=ax ih;have HJ:=ax hJ;have HJP:=ax hJp;have HM:=ax hm;have HCL:=ax hcl;have HM8:=ax hm8;have HT:=ax hT;have HC:=ax hc;have hmg:¬(8<(m:Int)):=by omega
  have hmn:=ax hn;have E1:=ax e1;clear ih hJ hJp hY hm hcl hT hm8 hc hn e1;obtain ⟨W2,hW2⟩:∃ W2,W2=((W.alloc (.cells (case9 c) tTc)).alloc (.cells #[.slice A1 a.facts.length c1,.slice A2 a.atoms.length c2] tAs)):=⟨_,rfl⟩;have k0:Blk W2 W.heap.size tTc (case9 c):=by rw[hW2];exact blks
  have k1:Blk W2 (W.heap.size+1) tAs #[.slice A1 a.facts.length c1,.slice A2 a.atoms.length c2]:=by rw[hW2];exact blks
  have hB:Below W.heap.size W W2:=by rw[hW2];exact bel
  have HW2:=ax hW2;clear hW2;(go_enter Tryz.func220,Tryz.ntmps220);(go_wp2_with fail);refine (c_impl_tHas S (m:Int) _ hS).mono ?_;rintro e W3 ⟨rfl,rfl⟩;rw[hit,Int.toNat_natCast,Bool.true_and,←HW2.o];have lk0:=k0.lt;have lk1:=k1.lt;have rk0:=k0.frozen;clear HW2;cases ht:S.testBit m
  ·have HTS:=ax ht
   have HE:aJ (ext a S (n+1) c=ext a S n (c.set m (-1))):=by
    show _=_
    conv=>lhs;unfold ext
    rw[←HM8.o,ht];rfl
   have k0':=k0.caseSet HC.o m (-1);obtain ⟨p0,p1,p2,p3,p4,p5,p6,p7,p8⟩:=case9_cells k0';have qm:W2.cell? ⟨W.heap.size,m,none⟩=some (.int .i64 (cl c m)):=case_cell (k0.case HC.o) (by rw[HC.o];omega);have qk1:=(k1.far (p:=⟨W.heap.size,m,none⟩) (by simp) (.int .i64 (-1))).cell;have hB3:Below W.heap.size W (W2.setCell ⟨W.heap.size,m,none⟩ (.int .i64 (-1))):=bel;have hz:=hB3.size;clear ht k0 k1 k0' hB;(go_wp2_with fail)
   have ih1:=IH.o (c.set m (-1)) pre _ (by have:=hmn.o;omega) (by simpa using HC.o) (by rw[←HE.o];exact HM.o) (fun j hj hSj=>by
    have:=HM8.o;rw[cl_set HC.o (by omega) _ (by omega)];by_cases ej:j=m
    ·subst ej;rw[HTS.o] at hSj;cases hSj
    ·rw[if_neg (by omega)];exact HCL.o j (by omega) hSj) (hV.o.bz hB3) (Nat.le_trans hBW hz) (Nat.le_trans hn0 hz) (HJ.o.nz HJP.o hB3)
   rw[E1.o] at ih1;refine ih1.mono ?_;clear ih1;rintro e W' (⟨rfl,ys,y1,y2,y3⟩|⟨rfl,ys,y1,y2⟩)
   ·have Y:=ax (⟨y1,y2,y3⟩:_∧_∧_);clear y1 y2 y3;(go_wp2_with fail);go_ret;exact Or.inl ⟨rfl,ys,by rw[HE.o];exact Y.o.1,Y.o.2.1,(Kept.nz hB3 hn0).trans Y.o.2.2⟩
   ·have Y:=ax (⟨y1,y2⟩:_∧_);clear y1 y2;(go_wp2_with fail);go_ret;exact Or.inr ⟨rfl,ys,by rw[HE.o];exact Y.o.1,Y.o.2⟩
  ·have HTS:=ax ht;have HE:=ax (ext_loop a S n c (by rw[←HM8.o];exact ht));clear ht;(go_wp2_with fail)
   go_loopw [11] (fun i wr=>∃ (k:Nat) (d:List Int) (ys:List (CaseT a S)),k≤m+1∧i=.int .i64 k∧aJ (d.length=9)∧aJ (∀ v,d.set m v=c.set m v)∧aJ (ys.map Subtype.val=(List.range k).flatMap (extAt a S n c))∧Blk wr W.heap.size tTc (case9 d)∧Blk wr (W.heap.size+1) tAs #[.slice A1 a.facts.length c1,.slice A2 a.atoms.length c2]∧aJ (J (pre++ys) wr)∧aJ (Kept tTc tAs n₀ W wr)) (fun i _=>9 - (intOf i).toNat)
   case atStart=>exact ⟨0,c,[],Nat.zero_le _,rfl,HC,fun _=>rfl,rfl,k0,k1,by rw[List.append_nil];exact HJ.o.nz HJP.o hB,Kept.nz hB hn0⟩
   case round=>
    clear k0 k1 lk0 lk1 rk0 hB;obtain ⟨k,d,ys,hk,rfl,HDL,HDS,HYS,k0,k1,HJW,HKW⟩:=hrel;have lk0:=k0.lt;have lk1:=k1.lt;have rk0:=k0.frozen;by_cases hlt:k≤m
    ·have hki:(k:Int)≤(m:Int):=by omega
     have hk9:(k:Int)<9:=by omega
     have hkc:wr.cell? ⟨W.heap.size,k,none⟩=some (.int .i64 (cl d k)):=case_cell (k0.case HDL.o) (by rw[HDL.o];omega);have HNX:aJ ((List.range (k+1)).flatMap (extAt a S n c)=(List.range k).flatMap (extAt a S n c)++extAt a S n c k):=by show _=_;rw[List.range_succ,List.flatMap_append];simp
     have hdc:k<m→cl d k=cl c k:=fun h=>by
      have h1:=cl_set HDL.o (t:=m) (by omega) 0 (j:=(k:Int)) (by omega);have h2:=cl_set HC.o (t:=m) (by omega) 0 (j:=(k:Int)) (by omega);rw[if_neg (by omega)] at h1 h2;rw[←h1,←h2,HDS.o]
     have HDC:=ax hdc;clear hdc;by_cases hskip:k<m∧cl c k≠k
     ·have HX:aJ (extAt a S n c k=[]):=by show _=_;rw[extAt,if_pos (by rw[←HM8.o];exact hskip)]
      have hkm:(k:Int)<(m:Int):=by omega
      have hne:(cl d k != (k:Int))=true:=by rw[HDC.o hskip.1];simpa using hskip.2
      clear hskip hki hlt;(go_wp2_with fail)
      go_round
      case rel=>exact ⟨k+1,d,ys,by omega,by go_num,HDL,HDS,by show _=_;rw[HNX.o,HX.o,List.append_nil];exact HYS.o,k0,k1,HJW,HKW⟩
      case measure=>simp[intOf];omega
     ·have hsk2:k<m→(cl d k != (k:Int))=false:=fun h=>by
       rw[HDC.o h]
       cases Int.decEq (cl c k) k with
       | isTrue h=>simp[h]
       | isFalse h'=>exact absurd ⟨h,h'⟩ hskip
      have HX:aJ (extAt a S n c k=if poss a (c.set m k) m then ext a S n (c.set m k) else []):=by
       show _=_;rw[extAt,←HM8.o,if_neg hskip]
      clear hskip;have k0':Blk (wr.setCell ⟨W.heap.size,m,none⟩ (.int .i64 k)) W.heap.size tTc (case9 (c.set m k)):=by rw[←HDS.o k];exact k0.caseSet HDL.o m k
      have k1':=k1.far (p:=⟨W.heap.size,m,none⟩) (by simp) (.int .i64 (k:Int));have qk1:=k1'.cell;have qm:wr.cell? ⟨W.heap.size,m,none⟩=some (.int .i64 (cl d m)):=case_cell (k0.case HDL.o) (by rw[HDL.o];omega);have HKW':=ax (HKW.o.setNew (p:=⟨W.heap.size,m,none⟩) (Nat.le_refl _) hn0 (.int .i64 (k:Int)));have HJW':=ax (HJ.o.set HJW.o k0 hBW m (.int .i64 (k:Int)));have HA':=ax (hV.o.keepB HKW'.o.bz hhi);have hcs:(c.set m (k:Int)).length=9:=by simpa using HC.o
      have HCS:=ax hcs
      have hcl':∀ j:Nat,j≤m→S.testBit j=true→0≤cl (c.set m (k:Int)) j∧cl (c.set m (k:Int)) j≤j:=fun j hj hSj=>by
       rw[cl_set HC.o (by omega) _ (by omega)]
       split
       ·omega
       ·exact HCL.o j (by omega) hSj
      have HCL':=ax hcl'
      have hpo:∀ x∈a.atoms,x.a≤(m:Int)→jq (cl (c.set m (k:Int)) x.a)=true:=fun x hx hxm=>by
       have h0:=(HO.o.2 x hx).1;obtain ⟨t,et⟩:=Int.eq_ofNat_of_zero_le h0.1;have hb:=HT.o x.a (by simp only[mz,List.mem_append,List.mem_flatMap];exact Or.inr ⟨x,hx,by simp[atomT]⟩);rw[et] at hb hxm ⊢;have:=hcl' t (by omega) (by simpa using hb);rw[zjA];omega
      have HPO:=ax hpo;clear hcl' hpo hcs k1;have K1':=ax k1';clear k1';have hwz:W.heap.size≤wr.heap.size:=by omega
      obtain hkm|hkm:k<m∨k=m:=by omega
      case' inl=>have h1:(k:Int)<(m:Int):=by omega
      case' inl=>have h2:=hsk2 hkm
      case' inr=>have h1:¬(k:Int)<(m:Int):=by omega
      all_goals
       clear hkm hsk2;(go_wp2_with fail);refine (c_impl_possible _ a (m:Int) (c.set m (k:Int)) W.heap.size _ HA'.o (k0'.case HCS.o) HCS.o HO.o.1 HO.o.2 HPO.o).mono ?_;rintro e w1 ⟨rfl,hB1⟩;have k0:=k0'.nz hB1;have k1:=K1'.o.nz hB1;replace qk1:=k1.cell;obtain ⟨p0,p1,p2,p3,p4,p5,p6,p7,p8⟩:=case9_cells k0;have hz:=hB1.size;simp only[World.size_setCell] at hz;have HKW1:=ax (HKW'.o.trans (Kept.nz hB1 (by simp only[World.size_setCell];omega)));have HJ1:=ax (HJ.o.nz HJW'.o hB1);have HA1:=ax (hV.o.keepB HKW1.o.bz hhi);clear hB1 qm k0' rk0;cases hps:poss a (c.set m (k:Int)) (m:Int)
       ·have HX2:=ax (show extAt a S n c k=[] by rw[HX.o,hps];rfl);clear hps;(go_wp2_with fail)
        go_round
        case rel=>exact ⟨k+1,c.set m (k:Int),ys,by omega,by go_num,HCS,fun v=>by rw[List.set_set],by show _=_;rw[HNX.o,HX2.o,List.append_nil];exact HYS.o,k0,k1,HJ1,HKW1⟩
        case measure=>simp[intOf];omega
       ·have HX2:=ax (show extAt a S n c k=ext a S n (c.set m (k:Int)) by rw[HX.o,hps];rfl);clear hps;have hk9n:k<9 - n:=by have:=HM8.o;have:=hmn.o;omega
        have ih1:=IH.o (c.set m (k:Int)) (pre++ys) w1 (by have:=hmn.o;omega) HCS.o (by
         refine List.IsPrefix.trans ?_ HM.o;rw[HE.o,List.map_append,HYS.o,List.append_assoc]
         exact (List.prefix_append_right_inj _).2 (range_pre hk9n (by rw[HX2.o];exact List.prefix_rfl))) (fun j hj=>HCL'.o j (by have:=HM8.o;have:=hmn.o;omega)) HA1.o (by omega) (by omega) HJ1.o
        rw[E1.o] at ih1;have IH1:=ax ih1;clear ih1;(go_wp2_with fail);refine IH1.o.mono ?_;rintro e W' (⟨rfl,ys2,y1,y2,y3⟩|⟨rfl,ys2,y1,y2⟩)
        ·have z0:=y3.keep _ _ _ (Or.inl rfl) k0;have z1:=y3.keep _ _ _ (Or.inr rfl) k1;have Y:=ax (⟨y1,y2,y3⟩:_∧_∧_);clear y1 y2 y3 k0 k1 qk1 p0 p1 p2 p3 p4 p5 p6 p7 p8;(go_wp2_with fail)
         go_round
         case rel=>exact ⟨k+1,c.set m (k:Int),ys++ys2,by omega,by go_num,HCS,fun v=>by rw[List.set_set],by show _=_;rw[HNX.o,HX2.o,List.map_append,Y.o.1,HYS.o],z0,z1,by rw[←List.append_assoc];exact Y.o.2.1,HKW1.o.trans Y.o.2.2⟩
         case measure=>simp[intOf];omega
        ·have Y:=ax (⟨y1,y2⟩:_∧_);clear y1 y2 k0 k1 qk1 p0 p1 p2 p3 p4 p5 p6 p7 p8;(go_wp2_with fail);go_ret;refine Or.inr ⟨rfl,ys++ys2,?_,by rw[←List.append_assoc];exact Y.o.2⟩;rw[HE.o,List.map_append,HYS.o];exact range_pre hk9n (by rw[HX2.o];exact Y.o.1)
    ·obtain rfl:k=m+1:=by omega
     (go_wp2_with fail);go_ret;refine Or.inl ⟨rfl,ys,?_,HJW.o,HKW.o⟩;rw[HE.o,HYS.o,show 9 - n=m+1 from by have:=HM8.o;have:=hmn.o;omega]
abbrev tTS:Nat:=103
def caseS (a:Asn) (F:Nat):Nat:=tins (tset (mz a)) 0|||F
theorem caseS_lt {a:Asn} {F:Nat} (h:F<512):caseS a F<512:=Nat.or_lt_two_pow (n:=9) (tins_lt (tset_lt _) 0) h
theorem caseS_bit (a:Asn) (F n:Nat):(caseS a F).testBit n=(decide (jq (n:Int)=true∧(n:Int)∈mz a) || decide (n=0) || F.testBit n):=by
 unfold caseS;rw[Nat.testBit_or,tins_bit,tset_bit]
 congr 2
 rw[decide_eq_decide];constructor
 ·rintro ⟨_,h⟩;omega
 ·intro h;subst h;exact ⟨by decide,rfl⟩
theorem caseS_zero (a:Asn) (F:Nat):(caseS a F).testBit 0=true:=by rw[caseS_bit];simp
theorem caseS_terms {a:Asn} (h:a.valid=true) (F:Nat):∀ t∈mz a,(caseS a F).testBit t.toNat=true:=by
 intro t ht;have hb:=termsL_ok h t ht;have:=zjA.1 hb;rw[caseS_bit];have e:((t.toNat:Nat):Int)=t:=by omega
 rw[e];simp[hb,ht]
theorem caseS_not {a:Asn} (h:a.valid=true) (F:Nat):∀ t:Nat,(caseS a F).testBit t=false→(∀ f∈a.facts,f.a≠t∧f.b≠t)∧(∀ x∈a.atoms,x.a≠t∧x.b≠t):=by
 intro t ht
 have key:(t:Int)∉mz a:=fun hm=>by
  have:=caseS_terms h F _ hm;rw[Int.toNat_natCast,ht] at this;cases this
 refine ⟨fun f hf=>⟨fun e=>key ?_,fun e=>key ?_⟩,fun x hx=>⟨fun e=>key ?_,fun e=>key ?_⟩⟩
 all_goals simp only[mz,List.mem_append,List.mem_flatMap]
 ·exact Or.inl ⟨f,hf,by simp[factT,e]⟩
 ·exact Or.inl ⟨f,hf,by simp[factT,e]⟩
 ·exact Or.inr ⟨x,hx,by simp[atomT,e]⟩
 ·exact Or.inr ⟨x,hx,by simp[atomT,e]⟩
theorem ext_caseS {a:Asn} (h:a.valid=true) (F:Nat):ext a (caseS a F) 9 zeros=cases a (caseS a F):=ext_cases (Asn.valid_ok h).1 (Asn.valid_ok h).2 (caseS_not h F)
theorem c_seq {a:Asn} {F lo hi n₀ gA gT:Nat} {A1 A2:Option Addr} {d1 d2:Nat} (w:World) (hv:a.valid=true) (hF:F<512) (hA:AsnV w lo hi (.agg #[.slice A1 a.facts.length d1,.slice A2 a.atoms.length d2]) a) (hhi:hi≤n₀) (hn:n₀≤w.heap.size)
  (kA:Blk w gA tAs #[.slice A1 a.facts.length d1,.slice A2 a.atoms.length d2]) (kT:Blk w gT tTS #[.int .u16 (caseS a F:Nat)]) :
  SeqT (α:=CaseT a (caseS a F)) Tryz.prog 219 #[.pointer (some ⟨gA,0,none⟩),.pointer (some ⟨gT,0,none⟩)] (fun x=>#[.agg (case9 x.1)]) tTc (Kept tTc tAs n₀) (fun p=>p.map Subtype.val <+: cases a (caseS a F)) (fun xs=>xs.map Subtype.val=cases a (caseS a F)) (fun pre=>pre.map Subtype.val <+: cases a (caseS a F)) w:=by
 intro n l J Jx W hW hJ hJx hY h0;have kA':=kA.nz hW;have kT':=kT.nz hW;have hA':=hA.bz hW;have hz:=hW.size;have hB1:Below W.heap.size W (W.alloc (.cells (case9 zeros) tTc)):=bel;have h1:=c_impl_extend hv (caseS_lt hF) (caseS_terms hv F) hhi J Jx hJ hY 9 zeros [] _ (by omega) rfl (by rw[ext_caseS hv];simp) (fun j hj=>by omega) (hA'.bz hB1) hB1.size (by have:=hB1.size;omega) (hJ.nz h0 hB1);rw[show ((9 - 9:Nat):Int)=0 from rfl,ext_caseS hv] at h1;have H1:=ax h1;have lA:=kA'.lt;have lT:=kT'.lt;have qA:=kA'.cell;have qT:=kT'.cell;clear h1 hY hJ hJx h0 hA' hA;refine callsIn_wide.2 ?_;(go_enter Tryz.func219,Tryz.ntmps219);(go_wp2_with fail);refine H1.o.mono ?_;rintro e W' (⟨rfl,ys,y1,y2,-⟩|⟨rfl,ys,y1,y2⟩)
 ·have Y:=ax (⟨y1,y2⟩:_∧_);clear y1 y2;(go_wp2_with fail)
  go_end0
  exact ⟨⟨_,rfl⟩,.inl ⟨ys,Y.o.1,Y.o.2⟩⟩
 ·have Y:=ax (⟨y1,y2⟩:_∧_);clear y1 y2;(go_wp2_with fail)
  go_end0
  exact ⟨⟨_,rfl⟩,.inr ⟨ys,Y.o.1,Y.o.2⟩⟩
theorem c_impl_possibleCases {lo hi:Nat} (A1 A2:Option Addr) (d1 d2:Nat) (a:Asn) (F:Nat) (w:World) (h:AsnV w lo hi (.agg #[.slice A1 a.facts.length d1,.slice A2 a.atoms.length d2]) a) (hF:F<512) :
  Calls Tryz.prog 172 #[.agg #[.slice A1 a.facts.length d1,.slice A2 a.atoms.length d2],.int .u16 (F:Nat)] w fun e w'=>∃ gA gT,e=.returned (.func (.func 219) #[] #[.pointer (some ⟨gA,0,none⟩),.pointer (some ⟨gT,0,none⟩)])∧
   w.heap.size≤gA∧w.heap.size≤gT∧Blk w' gA tAs #[.slice A1 a.facts.length d1,.slice A2 a.atoms.length d2]∧Blk w' gT tTS #[.int .u16 (caseS a F:Nat)]∧Below w.heap.size w w':=by
 have hV:=ax h;clear h;have hT:=tset_lt (mz a);have hT2:=tins_lt hT 0;have hU:=u16_or_nat (tins (tset (mz a)) 0) F (by omega) (by omega);(go_enter Tryz.func172,Tryz.ntmps172);(go_wp2_with fail);refine (c_impl_termsIn _ a _ (hV.o.bz bel)).mono ?_;rintro e w1 ⟨rfl,hB1⟩;have k0:Blk w1 w.heap.size tAs #[.slice A1 a.facts.length d1,.slice A2 a.atoms.length d2]:=Blk.nz blks hB1;have hB:Below w.heap.size w w1:=bgo (w:=w) bel hB1;have hz:=hB1.size;simp only[World.size_alloc] at hz;clear hB1;(go_wp2_with fail);refine (c_impl_with _ 0 _ hT).mono ?_;rintro e w2 ⟨rfl,rfl⟩;(go_wp2_with fail);go_ret;refine ⟨w.heap.size,w1.heap.size,rfl,Nat.le_refl _,by omega,k0.alloc _,?_,bel⟩;exact Blk.new _ _ _
theorem head_pre {y:List Int} {L:List (List Int)} (h:[y] <+: L):L.head?.getD zeros=y∧L.isEmpty=false:=by
 obtain ⟨zs,rfl⟩:=h;exact ⟨rfl,rfl⟩
abbrev set9 (w:World) (g:Nat) (v0 v1 v2 v3 v4 v5 v6 v7 v8:Value):World:=(((((((((w.setCell ⟨g,0,none⟩ v0).setCell ⟨g,1,none⟩ v1).setCell ⟨g,2,none⟩ v2).setCell ⟨g,3,none⟩ v3).setCell ⟨g,4,none⟩ v4).setCell ⟨g,5,none⟩ v5).setCell ⟨g,6,none⟩ v6).setCell ⟨g,7,none⟩ v7).setCell ⟨g,8,none⟩ v8)
theorem Blk.nine {w:World} {g:Nat} {t:TypeId} {a0 a1 a2 a3 a4 a5 a6 a7 a8 v0 v1 v2 v3 v4 v5 v6 v7 v8:Value} (h:Blk w g t #[a0,a1,a2,a3,a4,a5,a6,a7,a8]):Blk (set9 w g v0 v1 v2 v3 v4 v5 v6 v7 v8) g t #[v0,v1,v2,v3,v4,v5,v6,v7,v8]:=by
 have h0:=h.set_ 0 v0;simp only[List.setIfInBounds_toArray,List.set_cons_zero] at h0;have h1:=h0.set_ 1 v1;simp only[List.setIfInBounds_toArray,List.set_cons_zero,List.set_cons_succ] at h1;have h2:=h1.set_ 2 v2;simp only[List.setIfInBounds_toArray,List.set_cons_zero,List.set_cons_succ] at h2;have h3:=h2.set_ 3 v3;simp only[List.setIfInBounds_toArray,List.set_cons_zero,List.set_cons_succ] at h3;have h4:=h3.set_ 4 v4;simp only[List.setIfInBounds_toArray,List.set_cons_zero,List.set_cons_succ] at h4;have h5:=h4.set_ 5 v5;simp only[List.setIfInBounds_toArray,List.set_cons_zero,List.set_cons_succ] at h5;have h6:=h5.set_ 6 v6;simp only[List.setIfInBounds_toArray,List.set_cons_zero,List.set_cons_succ] at h6;have h7:=h6.set_ 7 v7;simp only[List.setIfInBounds_toArray,List.set_cons_zero,List.set_cons_succ] at h7;have h8:=h7.set_ 8 v8;simp only[List.setIfInBounds_toArray,List.set_cons_zero,List.set_cons_succ] at h8;exact h8
theorem Blk.nineFar {w:World} {g g2:Nat} {t:TypeId} {cs:Array Value} {v0 v1 v2 v3 v4 v5 v6 v7 v8:Value} (h:Blk w g2 t cs) (hn:g2≠g):Blk (set9 w g v0 v1 v2 v3 v4 v5 v6 v7 v8) g2 t cs:=
 ((((((((h.far (p:=⟨g,0,none⟩) hn v0).far (p:=⟨g,1,none⟩) hn v1).far (p:=⟨g,2,none⟩) hn v2).far (p:=⟨g,3,none⟩) hn v3).far (p:=⟨g,4,none⟩) hn v4).far (p:=⟨g,5,none⟩) hn v5).far (p:=⟨g,6,none⟩) hn v6).far (p:=⟨g,7,none⟩) hn v7).far (p:=⟨g,8,none⟩) hn v8
theorem below9 {w w0:World} {B g:Nat} {v0 v1 v2 v3 v4 v5 v6 v7 v8:Value} (h:Below B w0 w) (hn:B≤g):Below B w0 (set9 w g v0 v1 v2 v3 v4 v5 v6 v7 v8):=
 ((((((((h.setCell (p:=⟨g,0,none⟩) hn v0).setCell (p:=⟨g,1,none⟩) hn v1).setCell (p:=⟨g,2,none⟩) hn v2).setCell (p:=⟨g,3,none⟩) hn v3).setCell (p:=⟨g,4,none⟩) hn v4).setCell (p:=⟨g,5,none⟩) hn v5).setCell (p:=⟨g,6,none⟩) hn v6).setCell (p:=⟨g,7,none⟩) hn v7).setCell (p:=⟨g,8,none⟩) hn v8
theorem keeps9 {w:World} {g:Nat} {v0 v1 v2 v3 v4 v5 v6 v7 v8:Value}:KeepsOthers w (set9 w g v0 v1 v2 v3 v4 v5 v6 v7 v8):=
 ((((((((KeepsOthers.setCell _ _ _).trans (KeepsOthers.setCell _ _ _)).trans (KeepsOthers.setCell _ _ _)).trans (KeepsOthers.setCell _ _ _)).trans (KeepsOthers.setCell _ _ _)).trans (KeepsOthers.setCell _ _ _)).trans (KeepsOthers.setCell _ _ _)).trans (KeepsOthers.setCell _ _ _)).trans (KeepsOthers.setCell _ _ _)
theorem Kept.putl {T1 T2:TypeId} {n₀ B:Nat} (hn:n₀≤B) (W:World) (l:Nat) (o o':Obj) (hl:B≤l) (h:W.heap[l]? = some o) (hc:o.isCells=false):Kept T1 T2 n₀ W (W.putObj l o'):=Kept.put o' (by omega) h hc
theorem Blk.putl {W:World} {g l:Nat} {t:TypeId} {cs:Array Value} {o:Obj} (o':Obj) (hb:Blk W g t cs) (hl:W.heap[l]? = some o) (ho:o.isCells=false):Blk (W.putObj l o') g t cs:=
 (World.putObj_heap_other (fun e=>by subst e;unfold Blk at hb;rw[hl] at hb;cases hb;cases ho)).trans hb
theorem c_impl_firstCase {lo hi:Nat} (v:Value) (a:Asn) (w:World) (h:AsnV w lo hi v a) (hhi:hi≤w.heap.size) (hv:a.valid=true) :
  Calls Tryz.prog 105 #[v] w fun e w'=>e=.returned (.tuple #[.agg (case9 ((cases a (caseS a 0)).head?.getD zeros)),.bool (!(cases a (caseS a 0)).isEmpty)])∧Below w.heap.size w w':=by
 have hV:=ax h;obtain ⟨A1,c1,A2,c2,rfl,-,-⟩:=h;refine (callsIn_wide (n:=3)).1 ?_;(refine callsIn_of_wp_marks Tryz.func105 rfl trivial ?_ rfl;simp only[Tryz.ntmps105,List.size_toArray,List.length_cons,List.length_nil,Nat.reduceAdd,Nat.reduceSub,Array.replicate_succ,Array.replicate_zero,List.push_toArray,List.append_toArray,List.nil_append,List.cons_append])
 gi_wp2_with fail
 refine ⟨trivial,(callsIn_wide.2 (c_impl_possibleCases A1 A2 c1 c2 a 0 _ (hV.o.bz bel) (by decide))).mono ?_⟩;rintro e w1 ⟨gA,gT,rfl,hA,hT,kA,kT,hB1⟩;have kR0:Blk w1 (w.heap.size+1) tTc #[.int .i64 0,.int .i64 0,.int .i64 0,.int .i64 0,.int .i64 0,.int .i64 0,.int .i64 0,.int .i64 0,.int .i64 0]:=Blk.nz blks hB1;have kR:Blk w1 (w.heap.size+1) tTc (case9 zeros):=kR0;clear kR0;have kO:Blk w1 (w.heap.size+1+1) 4 #[.bool false]:=Blk.nz blks hB1;have hB:Below w.heap.size w w1:=bgo (w:=w) bel hB1;have hz:=hB1.size;simp only[World.size_alloc] at hz hA hT;have hAw:=hV.o.bz hB;clear hB1
 gi_wp2_with fail
 refine wp_rangeT (gf:=219) (lb:=#[.pointer (some ⟨gA,0,none⟩),.pointer (some ⟨gT,0,none⟩)]) rfl (enters_of Tryz.func219 (by kernel_rfl) rfl)
  (c_seq (n₀:=w.heap.size) w1 hv (by decide) hAw hhi (by omega) kA kT) (fun h k=>h.trans k) (Kept.putl (by omega)) (Below.refl _ _) (fun _=>rfl)
  (fun pre W=>pre=[]∧Blk W (w.heap.size+1) tTc (case9 zeros)∧Blk W (w.heap.size+1+1) 4 #[.bool false]∧Below w.heap.size w W)
  (fun c pre W=>∃ x,c=.ret∧pre=[x]∧Blk W (w.heap.size+1) tTc (case9 x.1)∧Blk W (w.heap.size+1+1) 4 #[.bool true]∧Below w.heap.size w W)
  (fun s X Y row hs hg hr=>⟨hs.1,hs.2.1.turn hg hr (Or.inr (by omega)),hs.2.2.1.turn hg hr (Or.inr (by omega)),Below.turn hs.2.2.2 hg hr (by omega) hs.2.2.2.size⟩)
  (fun c s X Y row hs hg hr=>by
   obtain ⟨x,e1,e2,k1,k2,k3⟩:=hs
   exact ⟨x,e1,e2,k1.turn hg hr (Or.inr (by omega)),k2.turn hg hr (Or.inr (by omega)),Below.turn k3 hg hr (by omega) k3.size⟩)
  ⟨rfl,kR,kO,hB⟩ ?round ?done ?stop
 case round=>
  rintro l pre x W hl ⟨rfl,kR,kO,hB⟩ -;have hwz:=hB.size
  gi_wp2
  refine ⟨(KeepsOthers.alloc _ _).from _,Kept.alloc (by omega) _,fun o o' ho hc=>?_⟩;have kX:=(Blk.new W tTc (case9 x.1)).putl o' ho hc;have lO:=kO.lt;replace kR:=(kR.alloc (.cells (case9 x.1) tTc)).putl o' ho hc;replace kO:=(kO.alloc (.cells (case9 x.1) tTc)).putl o' ho hc;have hB':=(bbox hB (.cells (case9 x.1) tTc)).trans (Kept.put (T1:=tTc) (T2:=tAs) (n₀:=w.heap.size) o' (by omega) ho hc).bz;clear ho;obtain ⟨V,hVe⟩:∃ V,V=(W.alloc (.cells (case9 x.1) tTc)).putObj l o':=⟨_,rfl⟩;rw[←hVe] at kX kR kO hB' ⊢;clear hVe hB;obtain ⟨p0,p1,p2,p3,p4,p5,p6,p7,p8⟩:=case9_cells kX;obtain ⟨q0,q1,q2,q3,q4,q5,q6,q7,q8⟩:=case9_cells kR;have rR:=kR.frozen;have qO:=kO.cell 0;have rO:=kO.frozen
  gi_wp2
  refine ⟨(keeps9.trans (KeepsOthers.setCell _ _ _)).from _,x,rfl,rfl,?_,?_,?_⟩
  ·exact (Blk.nine kR).far (p:=⟨w.heap.size+1+1,0,none⟩) (by simp) _
  ·exact (kO.nineFar (by omega)).set_ 0 (.bool true)
  ·exact (below9 hB' (by omega)).setCell (p:=⟨w.heap.size+1+1,0,none⟩) (by simp only;omega) _
 case done=>
  rintro D ys W hD hS ⟨rfl,kR,kO,hB⟩ hK;have E:cases a (caseS a 0)=[]:=hS.symm;obtain ⟨q0,q1,q2,q3,q4,q5,q6,q7,q8⟩:=case9_cells kR;have rR:=kR.frozen;have qO:=kO.cell 0;have rO:=kO.frozen;have lO:=kO.lt;have lR:=kR.lt
  gi_wp2
  have zR:=(Blk.nine (v0:=.int .i64 0) (v1:=.int .i64 0) (v2:=.int .i64 0) (v3:=.int .i64 0) (v4:=.int .i64 0) (v5:=.int .i64 0) (v6:=.int .i64 0) (v7:=.int .i64 0) (v8:=.int .i64 0) kR).far (p:=⟨w.heap.size+1+1,0,none⟩) (by simp) (.bool false);have zO:=(kO.nineFar (g:=w.heap.size+1) (v0:=.int .i64 0) (v1:=.int .i64 0) (v2:=.int .i64 0) (v3:=.int .i64 0) (v4:=.int .i64 0) (v5:=.int .i64 0) (v6:=.int .i64 0) (v7:=.int .i64 0) (v8:=.int .i64 0) (by omega)).set_ 0 (.bool false);have zB:=(below9 (g:=w.heap.size+1) (v0:=.int .i64 0) (v1:=.int .i64 0) (v2:=.int .i64 0) (v3:=.int .i64 0) (v4:=.int .i64 0) (v5:=.int .i64 0) (v6:=.int .i64 0) (v7:=.int .i64 0) (v8:=.int .i64 0) hB (by omega)).setCell (p:=⟨w.heap.size+1+1,0,none⟩) (by simp only;omega) (.bool false);have zK:=((keeps9 (w:=W) (g:=w.heap.size+1) (v0:=.int .i64 0) (v1:=.int .i64 0) (v2:=.int .i64 0) (v3:=.int .i64 0) (v4:=.int .i64 0) (v5:=.int .i64 0) (v6:=.int .i64 0) (v7:=.int .i64 0) (v8:=.int .i64 0)).trans (KeepsOthers.setCell _ ⟨w.heap.size+1+1,0,none⟩ (.bool false))).same D _ hK rfl;obtain ⟨V,hVe⟩:∃ V,V=((set9 W (w.heap.size+1) (.int .i64 0) (.int .i64 0) (.int .i64 0) (.int .i64 0) (.int .i64 0) (.int .i64 0) (.int .i64 0) (.int .i64 0) (.int .i64 0)).setCell ⟨w.heap.size+1+1,0,none⟩ (.bool false)):=⟨_,rfl⟩;rw[←hVe] at zR zO zB zK ⊢;refine ⟨by simp,.inl ⟨_,_,rfl,run_takeDeferred zK,?_⟩⟩;have yR:Blk _ _ _ (case9 zeros):=zR.putl (.deferred none) zK rfl;have yO:=zO.putl (.deferred none) zK rfl;obtain ⟨p0,p1,p2,p3,p4,p5,p6,p7,p8⟩:=case9_cells yR;have pO:=yO.cell 0;refine ⟨.tuple #[.agg (case9 zeros),.bool false],?_,by rw[E];rfl,zB.trans (belowK_b (w:=w) (Nat.le_refl _) V D _ _ (by omega) zK rfl rfl)⟩;simp[results,Tryz.f105,go_sem,p0,p1,p2,p3,p4,p5,p6,p7,p8,pO]
 case stop=>
  rintro D c pre W hD hS ⟨x,rfl,rfl,kR,kO,hB⟩ hK;obtain ⟨q0,q1,q2,q3,q4,q5,q6,q7,q8⟩:=case9_cells kR;have qO:=kO.cell 0;have lO:=kO.lt;have lR:=kR.lt
  gi_wp2
  refine ⟨by simp,.inl ⟨_,_,rfl,run_takeDeferred hK,?_⟩⟩;have yR:=kR.putl (.deferred none) hK rfl;have yO:=kO.putl (.deferred none) hK rfl;obtain ⟨p0,p1,p2,p3,p4,p5,p6,p7,p8⟩:=case9_cells yR;have pO:=yO.cell 0;have E:=head_pre hS;refine ⟨.tuple #[.agg (case9 x.1),.bool true],?_,by rw[E.1,E.2];rfl,hB.trans (belowK_b (w:=w) (Nat.le_refl _) W D _ _ (by omega) hK rfl rfl)⟩;simp[results,Tryz.f105,go_sem,p0,p1,p2,p3,p4,p5,p6,p7,p8,pO]
theorem c_impl_Consistent {lo hi:Nat} (v:Value) (a:Asn) (w:World) (h:AsnV w lo hi v a) (hhi:hi≤w.heap.size) :
  Calls Tryz.prog 203 #[v] w fun e w'=>e=.returned (.bool (a.valid && !(cases a (caseS a 0)).isEmpty))∧Below w.heap.size w w':=by
 have hV:=ax h;obtain ⟨A1,c1,A2,c2,rfl,-,-⟩:=h;(go_enter Tryz.func203,Tryz.ntmps203);(go_wp2_with fail);refine (jz _ a _ (hV.o.bz bel)).mono ?_;rintro e w1 ⟨rfl,hB1⟩;have k0:Blk w1 w.heap.size tAs #[.slice A1 a.facts.length c1,.slice A2 a.atoms.length c2]:=Blk.nz blks hB1;have hB:Below w.heap.size w w1:=bgo (w:=w) bel hB1;have hz:=hB1.size;simp only[World.size_alloc] at hz;clear hB1;have q0:=k0.cell;have l0:=k0.lt;cases hv:a.valid
 ·(go_wp2_with fail);go_ret;exact ⟨zjD (by simp[hv]),hB⟩
 ·have HV:=ax hv;(go_wp2_with fail);refine (c_impl_firstCase _ a _ (hV.o.bz hB) (by omega) HV.o).mono ?_;rintro e w2 ⟨rfl,hB2⟩;(go_wp2_with fail);go_ret;exact ⟨zjD (by simp[hv]),bbox (bgo hB hB2) _⟩
end
section
open Go Go.RowKit Go.Proofs
attribute [local go_sem ↓] Go.wp_at_zero Go.wp_at_succ
theorem IntsO.open_ {w:World} {base:Nat} {A:Option Addr} {n c k:Nat} {fs:List Int} (h:IntsO w base (.slice A n c) fs) (hk:k<fs.length):∃ g cur,n=fs.length∧A=some ⟨g,0,none⟩∧base≤g∧Blk w g tI cur∧cur[k]? = some (.int .i64 fs[k])∧
  (∀ v:Int,IntsO (w.setCell ⟨g,k,none⟩ (.int .i64 v)) base (.slice A n c) (fs.set k v)):=by
 obtain ⟨⟨hl,h2⟩,hL⟩:=h;rcases h2 with ⟨e,hn⟩|⟨g,cap,cur,e,hb,hh,hn,hm,hs,ht⟩
 ·omega
 ·injection e with e1 e2 e3;subst e1 e2 e3;have hK:Blk w g tI cur:=hh
  have hP:Pre cur (encI fs) (fs.length * 1):=by
   intro j hj;rw[←ht,List.getElem?_take,if_pos hj];simp
  refine ⟨g,cur,rfl,rfl,hb,hK,(hP _ (by omega)).trans (by simp[List.getElem?_eq_getElem hk]),?_⟩;intro v;refine ⟨?_,by rw[List.length_set];exact hL⟩;rw[show encI (fs.set k v)=(encI fs).set k (.int .i64 v) from by simp[encI,List.map_set],List.length_set];exact own_of_blk (hK.set_ k (.int .i64 v)) hb (by rw[List.length_set,hl]) (hP.setL k (.int .i64 v) (by rw[hs];exact Nat.mul_le_mul hn (Nat.le_refl _)) (by rw[hl];exact Nat.le_refl _)) hn hm (by simpa using hs)
def seekAt (a:Asn) (S n:Nat) (c:List Int) (k:Nat):List (List Int):=if k<8 - n∧cl c k≠k then [] else seek a S n (c.set (8 - n) k)
theorem seek_cut {a:Asn} {S:Nat} (n:Nat) {c:List Int} (h:(fitsS c a.facts&&earlyF c [] a.atoms)=false):seek a S n c=[]:=by
 cases n<;>(unfold seek;rw[h];rfl)
theorem seek_leaf {a:Asn} {S:Nat} {c:List Int} (h:(fitsS c a.facts&&earlyF c [] a.atoms)=true):seek a S 0 c=if apartF [] (filledL a.atoms c) then [c] else []:=by
 unfold seek;rw[h,if_pos rfl]
theorem seek_step {a:Asn} {S n:Nat} {c:List Int} (h:(fitsS c a.facts&&earlyF c [] a.atoms)=true):seek a S (n+1) c=if S.testBit (8 - n) then (List.range (9 - n)).flatMap (seekAt a S n c) else seek a S n c:=by
 conv=>lhs;unfold seek
 rw[h,if_pos rfl];rfl
theorem flatMap_first {α:Type} {f:Nat→List α} {k N:Nat} (hk:k<N) (h:(List.range k).flatMap f=[]) (hne:f k≠[]):∃ y,(f k).head? = some y∧((List.range N).flatMap f).head? = some y:=by
 obtain ⟨m,rfl⟩:∃ m,N=k+(m+1):=⟨N - k - 1,by omega⟩;rw[List.range_add,List.range_succ_eq_map,List.map_cons,List.flatMap_append,List.flatMap_cons,Nat.add_zero,h,List.nil_append]
 cases e:f k with
 | nil=>exact absurd e hne
 | cons y ys=>exact ⟨y,rfl,rfl⟩
def firstI (L:List (List Int)):List Int:=L.head?.getD []
theorem c_fits9 {lo hi lo' hi':Nat} (A B:Option Addr) (c0 c1:Nat) (fs:List Fct) (c:List Int) (w:World) (h:FactsV w lo hi A fs) (h':IntsV w lo' hi' B c) (hc:c.length=9) (hf:FactsOk fs) :
  Calls Tryz.prog 241 #[.slice A fs.length c0,.slice B 9 c1] w fun e w'=>e=.returned (.bool (fitsS c fs))∧w=w':=by
 have:=c_spec_l5Fits A B c0 c1 fs c w h h' hc hf;rwa [hc] at this
theorem c_early9 {lo hi lo' hi':Nat} (A B:Option Addr) (c0 c1:Nat) (xs:List Atm) (c:List Int) (w:World) (h:AtomsV w lo hi A xs) (h':IntsV w lo' hi' B c) (hc:c.length=9) (hx:AtomsOk xs) (hcl:∀ x∈xs,cl c x.a≤8) :
  Calls Tryz.prog 242 #[.slice A xs.length c0,.slice B 9 c1] w fun e w'=>e=.returned (.bool (earlyF c [] xs))∧Below w.heap.size w w':=by
 have:=c_spec_l5Early A B c0 c1 xs c w h h' hc hx hcl;rwa [hc] at this
theorem c_filled9 {lo hi lo' hi':Nat} (A B:Option Addr) (c0 c1:Nat) (xs:List Atm) (c:List Int) (w:World) (h:AtomsV w lo hi A xs) (h':IntsV w lo' hi' B c) (hc:c.length=9) (hx:AtomsOk xs) :
  Calls Tryz.prog 244 #[.slice A xs.length c0,.slice B 9 c1] w fun e w'=>∃ r,e=.returned r∧AtomsO w' w.heap.size r (filledL xs c)∧Below w.heap.size w w':=by
 have:=c_spec_l5Filled A B c0 c1 xs c w h h' hc hx;rwa [hc] at this
theorem c_spec_l5FirstG {a:Asn} {S lo hi lo2 hi2:Nat} {A1 A2:Option Addr} {d1 d2:Nat} (T:Option Addr) (tc:Nat) (hOK:aJ (FactsOk a.facts∧AtomsOk a.atoms)) (hvl0:aJ (a.facts.length≤40∧a.atoms.length≤6)) :
  ∀ (n:Nat) (c:List Int) (B:Option Addr) (cc lo' hi':Nat) (w:World),n≤8→c.length=9→(∀ j:Nat,j<9 - n→S.testBit j=true→0≤cl c j∧cl c j≤j)→(∀ j:Nat,j<9→cl c j≤8)→
   AsnV w lo hi (.agg #[.slice A1 a.facts.length d1,.slice A2 a.atoms.length d2]) a→BoolsV w lo2 hi2 T (zj S)→IntsV w lo' hi' B c→
   Calls Tryz.prog 216 #[.agg #[.slice A1 a.facts.length d1,.slice A2 a.atoms.length d2],.slice T 9 tc,.slice B 9 cc,.int .i64 ((9 - n:Nat):Int)] w fun e w'=>
    ∃ r,e=.returned (.tuple #[r,.bool (!(seek a S n c).isEmpty)])∧IntsO w' w.heap.size r (firstI (seek a S n c))∧Below w.heap.size w w':=by
 intro n
 induction n with
 | zero=>
  intro c B cc lo' hi' w hn hc _ hc8 hA hT hI;have HO:=hOK;have hV:=ax hA;have HC:=ax hc;have HI:=ax hI
  have HCL:aJ (∀ x∈a.atoms,cl c x.a≤8):=fun x hx=>by
   have:=(HO.o.2 x hx).1;obtain ⟨t,et⟩:=Int.eq_ofNat_of_zero_le this.1;rw[et];exact hc8 t (by omega)
  obtain ⟨B1,e1,B2,e2,he,h1,h2⟩:=hA;injection he with he;injection he with he;injection he with he1 he2;injection he2 with he2 he3;injection he1 with he1 _ he4;injection he2 with he2 _ he5;subst he1 he4 he2 he5;have H1:=ax h1;have H2:=ax h2;have hvl:=hvl0.o;clear h1 h2 hc hc8 hT hI he3;(go_enter Tryz.func216,Tryz.ntmps216);(go_wp2_with fail);refine (c_fits9 A1 B d1 cc a.facts c _ (H1.o.bz bel) (HI.o.bz bel) HC.o HO.o.1).mono ?_;rintro e w1 ⟨rfl,rfl⟩;cases hf:fitsS c a.facts
  ·have E:=ax (seek_cut (a:=a) (S:=S) 0 (c:=c) (by rw[hf];rfl));clear hf;(go_wp2_with fail);go_ret2;exact ⟨_,by rw[E.o];rfl,by rw[E.o];exact IntsO.bq (IntsO.empty _ (by simp)) (by simp),bel⟩
  have HF:=ax hf;clear hf;(go_wp2_with fail);refine (c_early9 A2 B d2 cc a.atoms c _ (H2.o.bz bel) (HI.o.bz bel) HC.o HO.o.2 HCL.o).mono ?_;rintro e w2 ⟨rfl,hB2⟩;have hB:Below w.heap.size w w2:=bgo (w:=w) bel hB2;have k0:Blk w2 w.heap.size tAs #[.slice A1 a.facts.length d1,.slice A2 a.atoms.length d2]:=Blk.nz blks hB2;have q0:=k0.cell;have l0:=k0.lt;clear hB2;cases he:earlyF c [] a.atoms
  ·have E:=ax (seek_cut (a:=a) (S:=S) 0 (c:=c) (by rw[HF.o,he];rfl));clear he;(go_wp2_with fail);go_ret2;exact ⟨_,by rw[E.o];rfl,by rw[E.o];exact IntsO.bq (IntsO.empty _ rfl) (by omega),bel⟩
  have E0:=ax (seek_leaf (a:=a) (S:=S) (c:=c) (by rw[HF.o,he];rfl));clear he;(go_wp2_with fail);refine (c_filled9 A2 B d2 cc a.atoms c _ (H2.o.bz hB) (HI.o.bz hB) HC.o HO.o.2).mono ?_;rintro e w3 ⟨r3,rfl,o3,hB3⟩;obtain ⟨R3,e3,rfl,v3⟩:=o3.rj;have hBB:Below w.heap.size w w3:=bgo hB hB3;(go_wp2_with fail);refine (c_spec_l5Apart R3 e3 (filledL a.atoms c) _ v3).mono ?_;rintro e w4 ⟨rfl,hB4⟩;have hB5:Below w.heap.size w w4:=bgo hBB hB4;have hz:=hB5.size;clear o3 v3 hB3 hB4 hBB q0 l0 k0 hB;cases hap:apartF [] (filledL a.atoms c)
  ·have E:=ax (show seek a S 0 c=[] by rw[E0.o,hap];rfl);clear hap;(go_wp2_with fail);go_ret2;exact ⟨_,by rw[E.o];rfl,by rw[E.o];exact IntsO.bq (IntsO.empty _ rfl) (by omega),bel⟩
  ·have E:=ax (show seek a S 0 c=[c] by rw[E0.o,hap];rfl);clear hap;(go_wp2_with (at_builtin;refine appIL (ys:=c) rfl _ _ rfl (v:=.slice (some ⟨w4.heap.size,0,none⟩) 0 0) rfl (IntsO.empty w4 rfl) (by rw[HC.o];rfl) (HI.o.bz bel) (by rw[HC.o];simp) (by simp) ?_;intro A' c' w5 o5 hg5 hB6;rw[List.nil_append,HC.o]));go_ret2;exact ⟨_,by rw[E.o];rfl,by rw[E.o];rw[List.nil_append,HC.o] at o5;exact o5.bq hz,Below.trans bel (hB6.mono hz)⟩
 | succ n ih=>
  intro c B cc lo' hi' w hn hc hcl hc8 hA hT hI;have HO:=hOK;have hV:=ax hA;have HC:=ax hc;have HI:=ax hI;have HTT:=ax hT;have HC8:=ax hc8;have HCL0:=ax hcl;have IH:=ax ih
  have HCL:aJ (∀ x∈a.atoms,cl c x.a≤8):=fun x hx=>by
   have:=(HO.o.2 x hx).1;obtain ⟨t,et⟩:=Int.eq_ofNat_of_zero_le this.1;rw[et];exact hc8 t (by omega)
  obtain ⟨B1,e1,B2,e2,he,h1,h2⟩:=hA;injection he with he;injection he with he;injection he with he1 he2;injection he2 with he2 he3;injection he1 with he1 _ he4;injection he2 with he2 _ he5;subst he1 he4 he2 he5;have H1:=ax h1;have H2:=ax h2;obtain ⟨tb,tz0,rfl,ltb⟩:=flags_addr hT;obtain ⟨pb,ob,rfl,lpb⟩:=hI.blt (k:=0) (by omega);obtain ⟨m,hm8⟩:∃ m,m=8 - n:=⟨_,rfl⟩;have E1:aJ (((9 - n:Nat):Int)=(m:Int)+1):=by show _=_;omega
  rw[show 9 - (n+1)=m from by omega] at HCL0 ⊢;have HM8:=ax hm8;have HN:=ax hn;have hmg:¬(8<(m:Int)):=by omega
  have hmi9:(m:Int)<9:=by omega
  clear h1 h2 hc hc8 hcl hT hI he3 ih hm8 hn;(go_enter Tryz.func216,Tryz.ntmps216);(go_wp2_with fail);refine (c_fits9 A1 _ d1 cc a.facts c _ (H1.o.bz bel) (HI.o.bz bel) HC.o HO.o.1).mono ?_;rintro e w1 ⟨rfl,rfl⟩;cases hf:fitsS c a.facts
  ·have E:=ax (seek_cut (a:=a) (S:=S) (n+1) (c:=c) (by rw[hf];rfl));clear hf;(go_wp2_with fail);go_ret2;exact ⟨_,by rw[E.o];rfl,by rw[E.o];exact IntsO.bq (IntsO.empty _ (by simp)) (by simp),bel⟩
  have HF:=ax hf;clear hf;(go_wp2_with fail);refine (c_early9 A2 _ d2 cc a.atoms c _ (H2.o.bz bel) (HI.o.bz bel) HC.o HO.o.2 HCL.o).mono ?_;rintro e w2 ⟨rfl,hB2⟩;have hB:Below w.heap.size w w2:=bgo (w:=w) bel hB2;have k0:Blk w2 w.heap.size tAs #[.slice A1 a.facts.length d1,.slice A2 a.atoms.length d2]:=Blk.nz blks hB2;have q0:=k0.cell;have l0:=k0.lt;clear hB2;cases he:earlyF c [] a.atoms
  ·have E:=ax (seek_cut (a:=a) (S:=S) (n+1) (c:=c) (by rw[HF.o,he];rfl));clear he;(go_wp2_with fail);go_ret2;exact ⟨_,by rw[E.o];rfl,by rw[E.o];exact IntsO.bq (IntsO.empty _ rfl) (by omega),bel⟩
  have E0:=ax (seek_step (a:=a) (S:=S) (n:=n) (c:=c) (by rw[HF.o,he];rfl));clear he;have qt:=flags_at (HTT.o.bz hB) (m:=m) (by omega);cases ht:S.testBit m
  ·rw[ht] at qt;have E:aJ (seek a S (n+1) c=seek a S n c):=by show _=_;rw[E0.o,←HM8.o,ht];rfl
   have ih1:=IH.o c _ cc _ _ w2 (by have:=HN.o;omega) HC.o (fun j hj hS=>by
    by_cases e:j=m
    ·subst e;rw[ht] at hS;cases hS
    ·exact HCL0.o j (by have:=HM8.o;have:=HN.o;omega) hS) HC8.o (hV.o.bz hB) (HTT.o.bz hB) (HI.o.bz hB)
   rw[E1.o] at ih1;have IH1:=ax ih1;clear ih1 ht;(go_wp2_with fail);refine IH1.o.mono ?_;rintro e w3 ⟨r,rfl,o3,hB3⟩;have O3:=ax o3;have hz:=hB.size;clear o3;(go_wp2_with fail);go_ret2;exact ⟨r,by rw[E.o];rfl,by rw[E.o];exact O3.o.bq hz,bgo hB hB3⟩
  ·rw[ht] at qt;have E:aJ (seek a S (n+1) c=(List.range (9 - n)).flatMap (seekAt a S n c)):=by show _=_;rw[E0.o,←HM8.o,ht];rfl
   clear ht;(go_wp2_with fail)
   go_loopw [10] (fun i wr=>∃ k:Nat,k≤m+1∧i=.int .i64 k∧aJ ((List.range k).flatMap (seekAt a S n c)=[])∧Blk wr w.heap.size tAs #[.slice A1 a.facts.length d1,.slice A2 a.atoms.length d2]∧Below w.heap.size w wr) (fun i _=>9 - (intOf i).toNat)
   case atStart=>exact ⟨0,Nat.zero_le _,rfl,rfl,k0,hB⟩
   case round=>
    clear k0 hB q0 l0 qt;obtain ⟨k,hk,rfl,HP,k0,hB⟩:=hrel;have q0:=k0.cell;have l0:=k0.lt;have hz:=hB.size;by_cases hlt:k≤m
    ·have hki:(k:Int)≤(m:Int):=by omega
     have hk9:(k:Int)<9:=by omega
     have hkc:=ints_cl (HI.o.bz hB) (m:=k) (by rw[HC.o];omega);have HNX:aJ ((List.range (k+1)).flatMap (seekAt a S n c)=seekAt a S n c k):=by show _=_;rw[List.range_succ,List.flatMap_append,HP.o];simp
     by_cases hskip:k<m∧cl c k≠k
     ·have HX:aJ (seekAt a S n c k=[]):=by show _=_;rw[seekAt,if_pos (by rw[←HM8.o];exact hskip)]
      have hkm:(k:Int)<(m:Int):=by omega
      have hne:(cl c k != (k:Int))=true:=by simpa using hskip.2
      clear hskip hki hlt;(go_wp2_with fail)
      go_round
      case rel=>exact ⟨k+1,by omega,by go_num,by show _=_;rw[HNX.o,HX.o],k0,hB⟩
      case measure=>simp[intOf];omega
     ·have hsk2:k<m→(cl c k != (k:Int))=false:=fun h=>by
       cases Int.decEq (cl c k) k with
       | isTrue h=>simp[h]
       | isFalse h'=>exact absurd ⟨h,h'⟩ hskip
      have HX:aJ (seekAt a S n c k=seek a S n (c.set m k)):=by
       show _=_;rw[seekAt,←HM8.o,if_neg hskip]
      clear hskip;have hcs:(c.set m (k:Int)).length=9:=by simpa using HC.o
      have HCS:=ax hcs
      have hcl':∀ j:Nat,j<9 - n→S.testBit j=true→0≤cl (c.set m (k:Int)) j∧cl (c.set m (k:Int)) j≤j:=fun j hj hSj=>by
       have:=HM8.o;have:=HN.o;rw[cl_set HC.o (by omega) _ (by omega)]
       split
       ·omega
       ·exact HCL0.o j (by omega) hSj
      have HCL':=ax hcl'
      have hc8':∀ j:Nat,j<9→cl (c.set m (k:Int)) j≤8:=fun j hj=>by
       rw[cl_set HC.o (by omega) _ (by omega)]
       split
       ·omega
       ·exact HC8.o j hj
      have HC8':=ax hc8';clear hcl' hc8' hcs;obtain hkm|hkm:k<m∨k=m:=by omega
      case' inl=>have h1:(k:Int)<(m:Int):=by omega
      case' inl=>have h2:=hsk2 hkm
      case' inr=>have h1:¬(k:Int)<(m:Int):=by omega
      all_goals
       clear hkm hsk2;(go_wp2_with (at_builtin;refine appIL (ys:=c) (base:=wr.heap.size) rfl _ _ rfl (v:=.slice (some ⟨wr.heap.size,0,none⟩) 0 0) rfl (IntsO.empty wr rfl) (by rw[HC.o];rfl) (HI.o.bz bel) (by rw[HC.o];simp) (by simp) ?_;intro A' c' w5 o5 hg5 hB6;rw[List.nil_append,HC.o] at o5 ⊢;obtain ⟨g,cur,-,rfl,hgb,kg,hcm,hset⟩:=o5.open_ (k:=m) (by rw[HC.o];omega);have qg:=(kg.cell m).trans hcm;have rg:=kg.frozen;have lg:=kg.lt;have HSET:=ax (hset k);have k5:=Blk.bz (g:=w.heap.size) (w:=wr.alloc (.cells #[] tI)) (k0.alloc _) hB6 l0;have hB5:Below w.heap.size w w5:=Below.trans bel (hB6.mono (by omega));have k6:=k5.far (p:=⟨g,m,none⟩) (by simp only;omega) (.int .i64 k);have q6:=k6.cell;clear hset o5 kg hcm q0 hg5));have hB7:Below w.heap.size w (w5.setCell ⟨g,m,none⟩ (.int .i64 k)):=hB5.setCell (p:=⟨g,m,none⟩) (by simp only;omega) _;have hz7:=hB7.size;have v7:=HSET.o.readsI.2;have ih1:=IH.o (c.set m (k:Int)) _ c' _ _ _ (by have:=HN.o;omega) HCS.o HCL'.o HC8'.o (hV.o.bz hB7) (HTT.o.bz hB7) v7;rw[E1.o] at ih1;refine ih1.mono ?_;clear ih1 v7 q6 k5 qg rg;rintro e w8 ⟨r,rfl,o8,hB8⟩;have O8:=ax o8;have k8:=k6.nz hB8;have hBn:=bgo hB7 hB8;clear o8 hB8 k6 hB7 hB5 hB6;cases hem:(seek a S n (c.set m (k:Int))).isEmpty
       ·have hne:seekAt a S n c k≠[]:=by rw[HX.o];intro h;rw[h] at hem;cases hem
        obtain ⟨y,y1,y2⟩:=flatMap_first (N:=9 - n) (by have:=HM8.o;have:=HN.o;omega) HP.o hne;rw[HX.o] at y1
        have E2:aJ ((seek a S (n+1) c).isEmpty=false∧firstI (seek a S (n+1) c)=firstI (seek a S n (c.set m (k:Int)))):=by
         refine ⟨?_,?_⟩
         ·rw[E.o]
          cases h:(List.range (9 - n)).flatMap (seekAt a S n c) with
          | nil=>rw[h] at y2;cases y2
          | cons _ _=>rfl
         ·unfold firstI;rw[E.o,y1,y2]
        clear hem hne y1 y2;(go_wp2_with fail);go_ret2;exact ⟨r,by rw[E2.o.1];rfl,by rw[E2.o.2];exact O8.o.bq hz7,hBn⟩
       ·have HX2:aJ (seekAt a S n c k=[]):=by show _=_;rw[HX.o];simpa using hem
        clear hem;(go_wp2_with fail)
        go_round
        case rel=>exact ⟨k+1,by omega,by go_num,by show _=_;rw[HNX.o,HX2.o],k8,hBn⟩
        case measure=>simp[intOf];omega
    ·obtain rfl:k=m+1:=by omega
     have E2:aJ (seek a S (n+1) c=[]):=by show _=_;rw[E.o,show 9 - n=m+1 from by have:=HM8.o;have:=HN.o;omega];exact HP.o
     (go_wp2_with fail);go_ret2;exact ⟨_,by rw[E2.o];rfl,by rw[E2.o];exact IntsO.bq (IntsO.empty _ rfl) (by omega),bel⟩
theorem c_spec_l5First {a:Asn} {S lo hi lo2 hi2:Nat} {A1 A2:Option Addr} {d1 d2:Nat} (T:Option Addr) (tc:Nat) (hv:a.valid=true) :
  ∀ (n:Nat) (c:List Int) (B:Option Addr) (cc lo' hi':Nat) (w:World),n≤8→c.length=9→(∀ j:Nat,j<9 - n→S.testBit j=true→0≤cl c j∧cl c j≤j)→(∀ j:Nat,j<9→cl c j≤8)→
   AsnV w lo hi (.agg #[.slice A1 a.facts.length d1,.slice A2 a.atoms.length d2]) a→BoolsV w lo2 hi2 T (zj S)→IntsV w lo' hi' B c→
   Calls Tryz.prog 216 #[.agg #[.slice A1 a.facts.length d1,.slice A2 a.atoms.length d2],.slice T 9 tc,.slice B 9 cc,.int .i64 ((9 - n:Nat):Int)] w fun e w'=>
    ∃ r,e=.returned (.tuple #[r,.bool (!(seek a S n c).isEmpty)])∧IntsO w' w.heap.size r (firstI (seek a S n c))∧Below w.heap.size w w':=
 c_spec_l5FirstG T tc (ax (Asn.valid_ok hv)) (ax (by have:=zjC hv;omega))
theorem openedB:(∀ j:Nat,j<9→cl opened j≤8)∧∀ (S:Nat) (j:Nat),j<9 - 8→S.testBit j=true→0≤cl opened j∧cl opened j≤j:=by
 refine ⟨fun j hj=>?_,fun S j hj _=>?_⟩
 ·obtain rfl|rfl|rfl|rfl|rfl|rfl|rfl|rfl|rfl:j=0∨j=1∨j=2∨j=3∨j=4∨j=5∨j=6∨j=7∨j=8:=by omega
  all_goals decide
 ·obtain rfl:j=0:=by omega
  decide
theorem seek_congr (a:Asn) {S S':Nat} (h:∀ j,1≤j→j<9→S.testBit j=S'.testBit j):∀ (n:Nat) (c:List Int),n≤8→seek a S n c=seek a S' n c:=by
 intro n
 induction n with
 | zero=>intro c _;rfl
 | succ n ih=>
  intro c hn;unfold seek;rw[h (8 - n) (by omega) (by omega)];have e:∀ c',seek a S n c'=seek a S' n c':=fun c'=>ih c' (by omega)
  split
  ·split
   ·apply flatMap_congr';intro k _;rw[e]
   ·exact e _
  ·rfl
theorem seek_caseS {a:Asn} (hv:a.valid=true) (F S:Nat) (h:∀ j,1≤j→j<9→S.testBit j=(caseS a F).testBit j):seek a S 8 opened=cases a (caseS a F):=by
 rw[seek_congr a h 8 opened (by omega)];exact seek_cases (Asn.valid_ok hv).1 (Asn.valid_ok hv).2 (caseS_zero a F) (caseS_not hv F)
theorem seek_terms {a:Asn} (hv:a.valid=true):seek a (tset (mz a)) 8 opened=cases a (caseS a 0):=by
 refine seek_caseS hv 0 _ fun j h1 h2=>?_;rw[caseS_bit,tset_bit];have:¬j=0:=by omega
 simp[this]
theorem c_spec_Consistent {lo hi:Nat} (v:Value) (a:Asn) (w:World) (h:AsnV w lo hi v a) :
  Calls Tryz.prog 166 #[v] w fun e w'=>e=.returned (.bool (a.valid && !(cases a (caseS a 0)).isEmpty))∧Below w.heap.size w w':=by
 have hV:=ax h;obtain ⟨A1,c1,A2,c2,rfl,-,-⟩:=h;(go_enter Tryz.func166,Tryz.ntmps166);(go_wp2_with fail);refine (vz _ a _ (hV.o.bz bel)).mono ?_;rintro e w1 ⟨rfl,hB1⟩;have k0:Blk w1 w.heap.size tAs #[.slice A1 a.facts.length c1,.slice A2 a.atoms.length c2]:=Blk.nz blks hB1;have hB:Below w.heap.size w w1:=bgo (w:=w) bel hB1;clear hB1;have q0:=k0.cell;have l0:=k0.lt;cases hv:a.valid
 ·(go_wp2_with fail);go_ret;exact ⟨zjD (by simp[hv]),hB⟩
 ·have HV:=ax hv;have HT:=ax (termsL_ok hv);have HS:=ax (seek_terms hv);have HOP:=ax openedB;clear hv;(go_wp2_with fail);refine wp_region_noPanic ?_;refine wp_region_held_drew (S:=(fun w'=>∀ i,w'.cell? ⟨w.heap.size,i,none⟩=#[.slice A1 a.facts.length c1,.slice A2 a.atoms.length c2][i]?)) (by kernel_rfl) (Blk.cell blks) (fun aH=>?_);refine tk2 0 rfl aH (h:=tk2 1 rfl aH (h:=?_));refine rdc 2 rfl fun K hK=>?_;(try simp only[zz]);(go_simp;refine (c_spec_l3Terms _ a _ (hV.o.bz bel) HT.o).mono ?_;rintro e w3 ⟨r3,rfl,o3,hB3⟩;obtain ⟨Tb,ct,rfl,fT⟩:=o3.rj;rw[zjB];have hB':=bgo (w:=w) bel hB3;replace k0:=Blk.nz (g:=w.heap.size) blks hB3);refine hK.out _ _ (Blk.cell blks) ?_;clear aH hK K;intro aH;refine rdc 3 rfl fun K hK=>?_;(try simp only[zz]);(go_simp;refine (c_spec_l5Open _).mono ?_;rintro e w4 ⟨r4,rfl,o4,hB4⟩;obtain ⟨Cb,cc,rfl,fC⟩:=o4.rj;have hB2:=bgo hB' hB4;have fT4:=fT.bz hB4;replace k0:=Blk.nz (g:=w.heap.size) blks hB4);refine hK.out _ _ (Blk.cell blks) ?_;clear aH hK K;intro aH;refine rdc 4 rfl fun K hK=>?_;(try simp only[zz]);(go_simp;refine (c_spec_l5First Tb ct HV.o 8 opened Cb cc _ _ _ (by omega) rfl (HOP.o.2 _) HOP.o.1 (hV.o.bz bel) (fT4.bz bel) (fC.bz bel)).mono ?_;rintro e w5 ⟨r5,rfl,o5,hB5⟩;have hB6:=bgo (w:=w) bel hB5;replace k0:=Blk.nz (g:=w.heap.size) blks hB5);refine hK.out _ _ (Blk.cell blks) ?_;clear aH hK K;intro aH;(try simp only[zz]);refine tk2 5 rfl aH (h:=tk2 6 rfl aH (h:=tk2 7 rfl aH (h:=?_)));(try simp only[zz]);refine tk2 8 rfl aH (h:=tk2 9 rfl aH (h:=?_));(try simp only[zz]);refine dn1 ?_;(go_wp2_with fail);go_ret;exact ⟨zjD (by rw[HS.o,HV.o];rfl),bel⟩
def addF (a:Asn) (f:Fct):Asn:=⟨a.facts++[f],a.atoms⟩
theorem c_impl_withFact {lo hi:Nat} (v:Value) (a:Asn) (f:Fct) (w:World) (h:AsnV w lo hi v a) (hn:a.facts.length+1≤1049600) :
  Calls Tryz.prog 202 #[v,f.val] w fun e w'=>∃ r,e=.returned r∧AsnO w' w.heap.size r (addF a f)∧Below w.heap.size w w':=by
 obtain ⟨A1,c1,A2,c2,rfl,h1,h2⟩:=h;have l2:=h2.le;(go_enter Tryz.func202,Tryz.ntmps202);obtain ⟨k0,k1,k2⟩:=blk3 w 36 61 36 #[.slice A1 a.facts.length c1,.slice A2 a.atoms.length c2] #[.bool f.eq,.int .i64 f.a,.int .i64 f.b] #[.slice none 0 0,.slice none 0 0];(go_wp2_with fail);refine wp_region_noPanic ?_;refine wp_region_held_drew (S:=(fun w'=>(∀ i,w'.cell? ⟨w.heap.size,i,none⟩=#[.slice A1 a.facts.length c1,.slice A2 a.atoms.length c2][i]?)∧(∀ i,w'.cell? ⟨w.heap.size+1,i,none⟩=#[.bool f.eq,.int .i64 f.a,.int .i64 f.b][i]?))) (by kernel_rfl) (⟨Blk.cell blks,Blk.cell blks⟩) (fun aH=>?_);refine tk2 0 rfl aH (h:=tk2 1 rfl aH (h:=tk2 2 rfl aH (h:=?_)));(try simp only[zz]);refine tk2 5 rfl aH (h:=tk2 6 rfl aH (h:=?_));refine rdc 3 rfl fun K hK=>?_;(try simp only[zz]);go_simp;refine hK.out _ _ (⟨Blk.cell blks,Blk.cell blks⟩) ?_;clear aH hK K;intro aH;refine rdc 4 rfl fun K hK=>?_;(try simp only[zz]);(go_simp;refine (c_joinF A1 _ c1 1 a.facts [f] _ (h1.bz bel) (FactsV.one (f:=f) blks) (by simpa using hn)).mono ?_;rintro e w1 ⟨r1,rfl,o1,hB1⟩;obtain ⟨F1,e1,rfl,-⟩:=o1.rj;have hB:=bgo (w:=w) bel hB1;replace k0:=Blk.nz (g:=w.heap.size) blks hB1;replace k1:=Blk.nz (g:=w.heap.size+1) blks hB1;replace k2:=Blk.nz (g:=w.heap.size+1+1) blks hB1);refine hK.out _ _ (⟨Blk.cell blks,Blk.cell blks⟩) ?_;clear aH hK K;intro aH;refine rdc 7 rfl fun K hK=>?_;(try simp only[zz]);(go_simp;refine (c_joinA A2 none c2 0 a.atoms [] _ (h2.bz bel) (Rd.nil _ 0 0 _ _) (by simpa using l2)).mono ?_;rintro e w2 ⟨r2,rfl,o2,hB2⟩;obtain ⟨F2,e2,rfl,-⟩:=o2.rj;have hBB:=bgo hB hB2;have o1':=o1.bz hB2;replace k0:=Blk.nz (g:=w.heap.size) blks hB2;replace k1:=Blk.nz (g:=w.heap.size+1) blks hB2;replace k2:=Blk.nz (g:=w.heap.size+1+1) blks hB2;have q2:=k2.cell;have f2:=k2.frozen);refine hK.out _ _ (⟨Blk.cell blks,Blk.cell blks⟩) ?_;clear aH hK K;intro aH;(try simp only[zz]);refine tk2 8 rfl aH (h:=?_);refine rdc 9 rfl fun K hK=>?_;(try simp only[zz]);go_simp;refine hK.out _ _ (⟨Blk.cell blks,Blk.cell blks⟩) ?_;clear aH hK K;intro aH;(try simp only[zz]);refine dn1 ?_;clear aH;(go_wp2_with fail);have p1:=o1'.bq (base':=w.heap.size) (by (try simp)<;>omega);have p2:=o2.bq (base':=w.heap.size) hB.size;rw[show (a.facts++[f]).length=a.facts.length+1 from by simp] at p1;rw[List.append_nil] at p2;refine bodyPost_ret (v:=.agg #[.slice F1 (a.facts.length+1) e1,.slice F2 a.atoms.length e2]) (by simp[results,Tryz.results202,go_sem,q2]) rfl ⟨_,rfl,⟨_,_,rfl,?_,?_⟩,bel⟩
 ·exact (p1.setT k2 (by decide) 0 (.slice F1 (a.facts.length+1) e1)).setT (k2.set_ 0 _) (by decide) 1 (.slice F2 a.atoms.length e2)
 ·exact (p2.setT k2 (by decide) 0 (.slice F1 (a.facts.length+1) e1)).setT (k2.set_ 0 _) (by decide) 1 (.slice F2 a.atoms.length e2)
end
section
open Go Go.RowKit Go.Proofs
theorem Merge {G T:Prop} (h:G) (f:aJ G→T):T:=f h
theorem absThen {K:Act→World→Prop} {Q:Exit→Act→World→Prop} {e:Exit} {a:Act} {V:World} (h:∀ V',V'=V→Exit.then K Q e a V'):Exit.then K Q e a V:=h V rfl
theorem AsnI.setT {w:World} {lo hi:Nat} {v:Value} {x:Asn} (h:AsnI w lo hi v x) {g:Nat} {t:TypeId} {cs:Array Value} (hk:Blk w g t cs) (h1:t≠tF) (h2:t≠tA) (i:Nat) (u:Value):AsnI (w.setCell ⟨g,i,none⟩ u) lo hi v x:=by
 obtain ⟨fv,av,e,p1,p2⟩:=h;exact ⟨fv,av,e,⟨p1.1.setT hk h1 i u,p1.2⟩,⟨p2.1.setT hk h2 i u,p2.2⟩⟩
theorem IntsI.setT {w:World} {lo hi:Nat} {v:Value} {x:List Int} (h:IntsI w lo hi v x) {g:Nat} {t:TypeId} {cs:Array Value} (hk:Blk w g t cs) (h1:t≠tI) (i:Nat) (u:Value):IntsI (w.setCell ⟨g,i,none⟩ u) lo hi v x:=⟨h.1.setT hk h1 i u,h.2⟩
abbrev tIS:Nat:=27
theorem infoIS:(Tryz.prog.info? tIS).map (fun i=>(i.zero,i.size,i.bytes))=some (some (.slice none 0 0),1,24):=by kernel_rfl
def tot (xss:List (List Int)):Nat:=(xss.map List.length).sum
section
variable {w w':World} {base base':Nat} {v:Value} {vs:List Value} {xss:List (List Int)}
theorem own_turn {w w':World} {T:TypeId} {B base size n:Nat} {e:TypeId} {v:Value} {xs:List Value} {row:Option Nat} (h:w.ownsRow base e size v n xs) (hg:w.grownBy w' row) (hr:Turn T B w row) (ht:e≠T):w'.ownsRow base e size v n xs:=by
 obtain ⟨h1,h2⟩:=h;refine ⟨h1,?_⟩;rcases h2 with h2|⟨k,cap,cur,hv,hg',hh,r⟩
 ·exact Or.inl h2
 ·exact Or.inr ⟨k,cap,cur,hv,hg',Blk.turn (g:=k) hh hg hr (Or.inl ht),r⟩
end
section
variable {w w':World} {lo hi a b:Nat} {v:Value} {xss:List (List Int)}
end
theorem own_ne {w:World} {b b' s s' n n':Nat} {e e':TypeId} {v v':Value} {xs xs':List Value} (h:w.ownsRow b e s v n xs) (h':w.ownsRow b' e' s' v' n' xs') (ht:e≠e'):∀ g,v.ownBlock=some g→v'.ownBlock≠some g:=by
 intro g hg hg';rcases h.2 with ⟨rfl,-⟩|⟨k,cap,cur,rfl,-,hh,-⟩
 ·cases hg
 ·rcases h'.2 with ⟨rfl,-⟩|⟨k',cap',cur',rfl,-,hh',-⟩
  ·cases hg'
  ·have e1:k=g:=by simpa [Value.ownBlock] using hg
   have e2:k'=g:=by simpa [Value.ownBlock] using hg'
   subst e1;subst e2;exact (Blk.ne_ (g:=k') hh hh' ht) rfl
end
section
open Go Go.RowKit Go.Proofs
attribute [local go_sem ↓] Go.wp_at_zero Go.wp_at_succ
attribute [local go_sem] Oper.semAt_some
structure KX (w w':World):Prop where
 os:w'.os=w.os
 tape:w'.tape=w.tape
 output:w'.output=w.output
 size:w.heap.size≤w'.heap.size
 keep:∀ (k:Nat) (o:Obj),w.heap[k]? = some o→(∀ cs,o≠.cells cs tIS (0,0))→w'.heap[k]? = some o
section
variable {w w' w1:World}
theorem KX.of (h:Below w.heap.size w w'):KX w w':=⟨h.os,h.tape,h.output,h.size,fun k o hk _=>(h.block k (Array.getElem?_eq_some_iff.1 hk).1).trans hk⟩
theorem KX.trans (h:KX w w1) (k:KX w1 w'):KX w w':=⟨k.os.trans h.os,k.tape.trans h.tape,k.output.trans h.output,Nat.le_trans h.size k.size,fun i o hi ho=>k.keep i o (h.keep i o hi ho) ho⟩
theorem KX.set (h:KX w w1) {p:Addr} (hp:w.heap.size≤p.block) (u:Value):KX w (w1.setCell p u):=
 ⟨h.os,h.tape,h.output,by have:=h.size;simpa using this,fun k o hk ho=>(Below.heap_setCell w1 p u k (by have:=(Array.getElem?_eq_some_iff.1 hk).1;omega)).trans (h.keep k o hk ho)⟩
theorem KX.blk (h:KX w w') {g:Nat} {t:TypeId} {cs:Array Value} (hb:Blk w g t cs) (ht:t≠tIS):Blk w' g t cs:=h.keep g _ hb fun c e=>by injection e with _ e2;exact ht e2
theorem KX.ints (h:KX w w') {base:Nat} {v:Value} {xs:List Int} (ho:IntsO w base v xs):IntsO w' base v xs:=by
 obtain ⟨⟨h1,h2⟩,h3⟩:=ho;refine ⟨⟨h1,?_⟩,h3⟩;rcases h2 with h2|⟨k,cap,cur,hv,hg,hh,r⟩
 ·exact Or.inl h2
 ·exact Or.inr ⟨k,cap,cur,hv,hg,h.blk (g:=k) hh (by decide),r⟩
end
theorem KX.keeps {w w':World} (h:KX w w'):KeepsOthers w w':=⟨h.size,fun k o hk ho=>h.keep k o hk fun cs e=>by subst e;cases ho⟩
theorem KX.kept {T1 T2:TypeId} {n₀:Nat} {w w':World} (h:KX w w') (hb:Below n₀ w w') (h1:T1≠tIS) (h2:T2≠tIS):Kept T1 T2 n₀ w w':=⟨hb,fun g t cs ht hk=>h.blk hk (by rcases ht with rfl|rfl;exact h1;exact h2)⟩
section
variable {P:Program} {n:Nat}
end
section
variable {ops:Array Oper} {rest:List Oper} {o:Oper} {a:Act} {Q:Exit→Act→World→Prop} {w w0:World} {base:Nat} {v:Value} {vs:List Value} {xss:List (List Int)}
theorem rwS {w:World} {g:Nat} {sv:Value} (h:Blk w g tIS #[sv]):Rw w g (g+1) 1 (some ⟨g,0,none⟩) 1 [sv]:=
 ⟨rfl,fun _=>⟨g,0,rfl,Nat.le_refl _,Nat.lt_succ_self _,fun j u hu=>by
  match j,hu with
  | 0,hu=>simp at hu;subst hu;exact h.cell 0⟩⟩
end
end
section
open Go Go.RowKit Go.Proofs
attribute [local go_sem ↓] Go.wp_at_zero Go.wp_at_succ
theorem fits_drop (c:List Int) (fs:List Fct) (k:Nat) (hk:k<fs.length):(fs.drop k).all (Fct.fits c)=(fs[k].fits c&&(fs.drop (k+1)).all (Fct.fits c)):=by
 rw[List.drop_eq_getElem_cons hk];rfl
theorem c_impl_factsHold {lo hi:Nat} (A:Option Addr) (d:Nat) (fs:List Fct) (c:List Int) (g:Nat) (w:World) (h:FactsV w lo hi A fs) (hk:Blk w g tTc (encI c).toArray) (hc:c.length=9) (hf:FactsOk fs) :
  Calls Tryz.prog 233 #[.pointer (some ⟨g,0,none⟩),.slice A fs.length d] w fun e w'=>e=.returned (.bool (fs.all (Fct.fits c)))∧Below w.heap.size w w':=by
 have hl:=h.le;have hgl:=hk.lt;have HF:=ax hf;have H:=ax h;clear hf h;(go_enter Tryz.func233,Tryz.ntmps233);(go_wp2_with fail)
 go_loopw [9] (fun i wr=>∃ k:Nat,k≤fs.length∧i=.int .i64 k∧aJ (fs.all (Fct.fits c)=(fs.drop k).all (Fct.fits c))∧Below w.heap.size w wr) (fun i _=>fs.length - (intOf i).toNat)
 case atStart=>exact ⟨0,Nat.zero_le _,rfl,rfl,bel⟩
 case round=>
  obtain ⟨k,hkk,rfl,HA,hB⟩:=hrel;by_cases hlt:k<fs.length
  ·obtain ⟨b,off,rfl,hbl⟩:=H.o.blt hlt;obtain ⟨g0,g1,g2⟩:=(H.o.bz hB).cl hlt;have HD:=ax (fits_drop c fs k hlt);have hfk:=HF.o _ (List.getElem_mem hlt);obtain ⟨f,hfe⟩:∃ f,f=fs[k]:=⟨_,rfl⟩;rw[←hfe] at g0 g1 g2 HD hfk;clear hfe;have kg:Blk wr g tTc (encI c).toArray:=hk.bz hB hgl;have hgr:=kg.lt;(go_wp2_with fail);refine (c_impl_factHolds f c g _ (kg.alloc _) hc hfk.1 hfk.2).mono ?_;rintro e w1 ⟨rfl,hB1⟩;have hBx:Below w.heap.size w w1:=bgo (w:=w) bel hB1;cases hff:f.fits c
   ·have HZ:=ax (show fs.all (Fct.fits c)=false by rw[HA.o,HD.o,hff];rfl);clear hff hB1;(go_wp2_with fail);go_ret;exact ⟨zjD (by rw[HZ.o]),hBx⟩
   ·have HZ:=ax (show (fs.drop k).all (Fct.fits c)=(fs.drop (k+1)).all (Fct.fits c) by rw[HD.o,hff];rfl);clear hff hB1;(go_wp2_with fail)
    go_round
    case rel=>exact ⟨k+1,by omega,by go_num,by show _=_;rw[HA.o,HZ.o],hBx⟩
    case measure=>simp[intOf];omega
  ·obtain rfl:k=fs.length:=by omega
   have HZ:aJ (fs.all (Fct.fits c)=true):=by show _=_;rw[HA.o,List.drop_length];rfl
   (go_wp2_with fail);go_ret;exact ⟨zjD (by rw[HZ.o]),hB⟩
theorem any_drop (p:Atm→Bool) (xs:List Atm) (k:Nat) (hk:k<xs.length):(xs.drop k).any p=(p xs[k] || (xs.drop (k+1)).any p):=by
 rw[List.drop_eq_getElem_cons hk];rfl
def begB (xs:List Atm) (b:Int):Bool:=xs.any fun x=>decide (x.a=b)
theorem c_impl_beginsAt {lo hi:Nat} (A:Option Addr) (d:Nat) (xs:List Atm) (b:Int) (w:World) (h:AtomsV w lo hi A xs) :
  Calls Tryz.prog 264 #[.slice A xs.length d,.int .i64 b] w fun e w'=>e=.returned (.bool (begB xs b))∧Below w.heap.size w w':=by
 have hl:=h.le;have H:=ax h;clear h;(go_enter Tryz.func264,Tryz.ntmps264);(go_wp2_with fail)
 go_loopw [9] (fun i wr=>∃ k:Nat,k≤xs.length∧i=.int .i64 k∧aJ (begB xs b=begB (xs.drop k) b)∧Below w.heap.size w wr) (fun i _=>xs.length - (intOf i).toNat)
 case atStart=>exact ⟨0,Nat.zero_le _,rfl,rfl,bel⟩
 case round=>
  obtain ⟨k,hkk,rfl,HA,hB⟩:=hrel;by_cases hlt:k<xs.length
  ·obtain ⟨bb,off,rfl,hbl⟩:=H.o.blt hlt;obtain ⟨g0,g1,g2⟩:=(H.o.bz hB).cl hlt;have HD:=ax (any_drop (fun x=>decide (x.a=b)) xs k hlt);obtain ⟨x,hxe⟩:∃ x,x=xs[k]:=⟨_,rfl⟩;rw[←hxe] at g0 g1 g2 HD;clear hxe;by_cases he:x.a=b
   ·have HZ:aJ (begB xs b=true):=by show _=_;rw[HA.o];unfold begB;rw[HD.o,decide_eq_true he];rfl
    have he':(x.a == b)=true:=by simpa using he
    clear he;(go_wp2_with fail);go_ret;exact ⟨zjD (by rw[HZ.o]),bel⟩
   ·have HZ:aJ (begB xs b=begB (xs.drop (k+1)) b):=by show _=_;rw[HA.o];unfold begB;rw[HD.o,decide_eq_false he];rfl
    have he':(x.a == b)=false:=by simpa using he
    clear he;(go_wp2_with fail)
    go_round
    case rel=>exact ⟨k+1,by omega,by go_num,HZ,bel⟩
    case measure=>simp[intOf];omega
  ·obtain rfl:k=xs.length:=by omega
   have HZ:aJ (begB xs b=false):=by show _=_;rw[HA.o,List.drop_length];rfl
   (go_wp2_with fail);go_ret;exact ⟨zjD (by rw[HZ.o]),hB⟩
abbrev tMt:Nat:=259
def ub (used:List Bool) (k:Nat):Bool:=(used[k]?).getD false
abbrev cmC (V:Value) (used:List Bool) (cnt:Nat):Array Value:=#[V,.bool (ub used 0),.bool (ub used 1),.bool (ub used 2),.bool (ub used 3),.bool (ub used 4),.bool (ub used 5),.int .i64 (cnt:Int)]
theorem cm_used {w:World} {g cnt:Nat} {t:TypeId} {V:Value} {used:List Bool} (h:Blk w g t (cmC V used cnt)) {k:Nat} (hk:k<6):w.cell? ⟨g,1+k,none⟩=some (.bool (ub used k)):=by
 rw[h.cell];obtain rfl|rfl|rfl|rfl|rfl|rfl:k=0∨k=1∨k=2∨k=3∨k=4∨k=5:=by omega
 all_goals rfl
theorem freeAt_of {xs:List Atm} {used:List Bool} {c:Int} {k:Nat} (hk:k<xs.length) (hu:used.length=xs.length):freeAt xs used c k=(decide (xs[k].a=c) && !ub used k):=by
 unfold freeAt ub;rw[List.getElem?_eq_getElem hk,List.getElem?_eq_getElem (by omega)];rfl
theorem c_impl_unusedAt {lo hi:Nat} (A:Option Addr) (d cnt:Nat) (xs:List Atm) (used:List Bool) (b:Int) (g:Nat) (w:World) (h:AtomsV w lo hi A xs) (hk:Blk w g tMt (cmC (.slice A xs.length d) used cnt)) (hl6:xs.length≤6) (hu:used.length=xs.length) :
  Calls Tryz.prog 262 #[.pointer (some ⟨g,0,none⟩),.int .i64 b] w fun e w'=>e=.returned (.tuple #[.int .i64 ((findU xs used b).getD 0:Nat),.bool (findU xs used b).isSome])∧Below w.heap.size w w':=by
 have hgl:=hk.lt;have H:=ax h;have HU:=ax hu;have q0:=hk.cell 0;have HK:=ax hk;clear h hu hk;(go_enter Tryz.func262,Tryz.ntmps262);(go_wp2_with fail)
 go_loopw [13] (fun i wr=>∃ k:Nat,k≤xs.length∧i=.int .i64 k∧aJ (∀ j,j<k→freeAt xs used b j=false)∧Below w.heap.size w wr) (fun i _=>xs.length - (intOf i).toNat)
 case atStart=>exact ⟨0,Nat.zero_le _,rfl,fun j hj=>absurd hj (Nat.not_lt_zero _),bel⟩
 case round=>
  clear q0;obtain ⟨k,hkk,rfl,HA,hB⟩:=hrel;have kg:Blk wr g tMt (cmC (.slice A xs.length d) used cnt):=HK.o.bz hB hgl;by_cases hlt:k<xs.length
  ·obtain ⟨bb,off,rfl,hbl⟩:=H.o.blt hlt;obtain ⟨g0,g1,g2⟩:=(H.o.bz hB).cl hlt;have HD:=ax (freeAt_of (c:=b) hlt HU.o);have qu:=cm_used kg (k:=k) (by omega);have hgr:=kg.lt;have hk6:(k:Int)<6:=by omega
   obtain ⟨x,hxe⟩:∃ x,x=xs[k]:=⟨_,rfl⟩;rw[←hxe] at g0 g1 g2 HD;clear hxe;clear kg;cases hff:freeAt xs used b k
   ·have HZ:aJ (∀ j,j<k+1→freeAt xs used b j=false):=fun j hj=>by
     by_cases e:j=k
     ·rw[e];exact hff
     ·exact HA.o j (by omega)
    rw[HD.o] at hff;by_cases he:x.a=b
    ·have he':(x.a == b)=true:=by simpa using he
     have hub:ub used k=true:=by rw[decide_eq_true he] at hff;simpa using hff
     rw[hub] at qu;clear he hff hub;(go_wp2_with fail)
     go_round
     case rel=>exact ⟨k+1,by omega,by go_num,HZ,bel⟩
     case measure=>simp[intOf];omega
    ·have he':(x.a == b)=false:=by simpa using he
     clear he hff;(go_wp2_with fail)
     go_round
     case rel=>exact ⟨k+1,by omega,by go_num,HZ,bel⟩
     case measure=>simp[intOf];omega
   ·have HZ:aJ (findU xs used b=some k):=range_find_some hlt hff HA.o;rw[HD.o,Bool.and_eq_true,decide_eq_true_eq] at hff;have he':(x.a == b)=true:=by simpa using hff.1
    have hub:ub used k=false:=by simpa using hff.2
    rw[hub] at qu;clear hff hub;(go_wp2_with fail);go_ret2;exact ⟨by rw[HZ.o];rfl,bel⟩
  ·obtain rfl:k=xs.length:=by omega
   have HZ:aJ (findU xs used b=none):=range_find_none HA.o;(go_wp2_with fail);go_ret2;exact ⟨by rw[HZ.o];rfl,hB⟩
theorem ub_set {used:List Bool} {k:Nat} (hk:k<used.length) (j:Nat):ub (used.set k true) j=if k=j then true else ub used j:=by
 unfold ub;rw[List.getElem?_set];by_cases e:k=j
 ·subst e;simp[hk]
 ·simp[e]
theorem cm_take {V:Value} {used:List Bool} {cnt k:Nat} (hk:k<used.length) (h6:k<6):((cmC V used cnt).setIfInBounds (1+k) (.bool true)).setIfInBounds 7 (.int .i64 ((cnt:Int)+1))=cmC V (used.set k true) (cnt+1):=by
 unfold cmC;simp only[ub_set hk];obtain rfl|rfl|rfl|rfl|rfl|rfl:k=0∨k=1∨k=2∨k=3∨k=4∨k=5:=by omega
 all_goals simp
abbrev cmU (V:Value) (used:List Bool):Array Value:=cmC V used (used.count true)
theorem c_impl_take {V:Value} {used:List Bool} (k g:Nat) (w:World) (hk:Blk w g tMt (cmU V used)) (hku:used[k]? = some false) (h6:used.length≤6) :
  Calls Tryz.prog 263 #[.pointer (some ⟨g,0,none⟩),.int .i64 k] w fun e w'=>(∃ v,e=.returned v)∧Blk w' g tMt (cmU V (used.set k true))∧Mk (fun h=>h=g) w w':=by
 have hgl:=hk.lt;have hkl:k<used.length:=(List.getElem?_eq_some_iff.1 hku).1;have hcnt:=List.count_le_length (a:=true) (l:=used);obtain ⟨cnt,hcn⟩:∃ n,n=used.count true:=⟨_,rfl⟩;have HE:aJ ((used.set k true).count true=cnt+1):=by show _=_;rw[count_take hku,hcn]
 unfold cmU at hk;rw[←hcn] at hk hcnt;have qu:=cm_used hk (k:=k) (by omega);have q7:w.cell? ⟨g,7,none⟩=some (.int .i64 (cnt:Int)):=hk.cell 7;have r:=hk.frozen;have hk6:(k:Int)<6:=by omega
 have HT:=ax (cm_take (V:=V) (cnt:=cnt) hkl (by omega));have HK:=ax hk;have hne:¬(1+k=7):=by omega
 have hne':¬(7=1+k):=by omega
 clear hk hku hcn;(go_enter Tryz.func263,Tryz.ntmps263);(go_wp2_with fail)
 go_end0
 refine ⟨⟨_,rfl⟩,?_,((Mk.refl (fun h=>h=g) _).set (x:=⟨g,1+k,none⟩) rfl _).set (x:=⟨g,7,none⟩) rfl _⟩;show Blk _ _ _ (cmC V (used.set k true) ((used.set k true).count true));rw[HE.o,←HT.o];exact (HK.o.set_ _ _).set_ _ _
def cellF (xs:List Atm) (used:List Bool) (x:Atm):Option (List Bool):=(findU xs used x.a).bind fun k=>if (xs[k]?).getD default=x then some (used.set k true) else none
theorem AtomsV.keepM {w w':World} {lo hi g:Nat} {A:Option Addr} {xs:List Atm} (h:AtomsV w lo hi A xs) (hm:Mk (fun h=>h=g) w w') (hg:hi≤g) (hw:g≤w.heap.size):AtomsV w' lo hi A xs:=h.keepB (hm.bz (lo:=g) (fun k e=>by omega) hw) hg
theorem c_impl_useCell {lo hi:Nat} (A:Option Addr) (d:Nat) (xs:List Atm) (used:List Bool) (x:Atm) (g:Nat) (w:World) (h:AtomsV w lo hi A xs) (hhi:hi≤g) (hk:Blk w g tMt (cmU (.slice A xs.length d) used)) (hl6:xs.length≤6) (hu:used.length=xs.length) :
  Calls Tryz.prog 234 #[.pointer (some ⟨g,0,none⟩),x.val] w fun e w'=>∃ r ys,e=.returned (.tuple #[r,.bool (cellF xs used x).isSome])∧IntsO w' w.heap.size r ys∧Mk (fun h=>h=g) w w'∧(∀ u,cellF xs used x=some u→Blk w' g tMt (cmU (.slice A xs.length d) u)):=by
 have hgl:=hk.lt;have H:=ax h;have HU:=ax hu;have HK:=ax hk;clear h hu hk;(go_enter Tryz.func234,Tryz.ntmps234);(go_wp2_with fail);refine (c_impl_unusedAt A d _ xs used x.a g _ (H.o.bz bel) (HK.o.alloc _) hl6 HU.o).mono ?_;rintro e w1 ⟨rfl,hB1⟩;have hB:Below w.heap.size w w1:=bgo (w:=w) bel hB1;have kg:=HK.o.bz hB hgl;have k0:Blk w1 w.heap.size tA #[.int .i64 x.kind,.int .i64 x.a,.int .i64 x.b]:=Blk.nz blks hB1;have q0:=k0.cell;have l0:=k0.lt;have gl1:=kg.lt;clear hB1;cases hf:findU xs used x.a
 ·have E:aJ (cellF xs used x=none):=by show _=_;unfold cellF;rw[hf];rfl
  clear hf;(go_wp2_with fail);(go_quiet (fail));(go_wp2_with fail);go_ret2;exact ⟨_,[],by rw[E.o];rfl,IntsO.nil _ _,Mk.below_ bel,fun u hu=>by rw[E.o] at hu;cases hu⟩
 ·rename_i k;obtain ⟨hkl,hfr⟩:=findU_some hf;have hfu:=freeAt_used hfr;obtain ⟨b,off,rfl,hbl⟩:=H.o.blt hkl;obtain ⟨g0,g1,g2⟩:=(H.o.bz hB).cl hkl;rw[freeAt_of hkl HU.o,Bool.and_eq_true,decide_eq_true_eq] at hfr;have q1:w1.cell? ⟨g,0,none⟩=some (.slice (some ⟨b,off,none⟩) xs.length d):=kg.cell 0;have E:aJ (cellF xs used x=if xs[k]=x then some (used.set k true) else none):=by show _=_;unfold cellF;rw[hf];simp only[Option.bind_some,List.getElem?_eq_getElem hkl,Option.getD_some]
  obtain ⟨y,hy⟩:∃ y,y=xs[k]:=⟨_,rfl⟩;rw[←hy] at g0 g1 g2 E hfr;have hya:=hfr.1;have hkx:(k:Int)<(xs.length:Int):=by omega
  have HKG:=ax kg;have HFU:=ax hfu;clear hf hy hfr kg hfu;have hq2:∀ i,w1.cell? ⟨w.heap.size,i,none⟩=#[.int .i64 x.kind,.int .i64 x.a,.int .i64 x.b][i]?:=q0;rw[hya] at g1;have e2:(x.a == x.a)=true:=by simp
  by_cases f1:y.kind=x.kind
  ·by_cases f3:y.b=x.b
   ·have E2:aJ (cellF xs used x=some (used.set k true)):=by
     show _=_;rw[E.o,if_pos];cases y;cases x;simp_all
    rw[f1] at g0;rw[f3] at g2;(go_wp2_with fail);(go_quiet (fail));(go_wp2_with fail);have kg:=HKG.o;refine (c_impl_take k g _ (used:=used) (V:=.slice (some ⟨b,off,none⟩) xs.length d) blks HFU.o.2 (by rw[HU.o];exact hl6)).mono ?_;rintro e w3 ⟨⟨v,rfl⟩,k3,hM⟩;have hMM:Mk (fun h=>h=g) w w3:=Mk.trans (Mk.below_ (w:=w) bel) hM;have hz3:=hMM.size;clear kg;(go_wp2_with fail);go_ret2;exact ⟨_,[(k:Int)],by rw[E2.o];rfl,IntsO.one w3 k hz3,hMM.trans (Mk.below_ bel),fun u hu=>by rw[E2.o] at hu;cases hu;exact k3.alloc _⟩
   ·have e3:(y.b == x.b)=false:=by simpa using f3
    have E2:aJ (cellF xs used x=none):=by show _=_;rw[E.o,if_neg (fun e=>f3 (by rw[e]))]
    rw[f1] at g0;(go_wp2_with fail);(go_quiet (fail));(go_wp2_with fail);go_ret2;exact ⟨_,[],by rw[E2.o];rfl,IntsO.nil _ _,Mk.below_ bel,fun u hu=>by rw[E2.o] at hu;cases hu⟩
  ·have e1:(y.kind == x.kind)=false:=by simpa using f1
   have E2:aJ (cellF xs used x=none):=by show _=_;rw[E.o,if_neg (fun e=>f1 (by rw[e]))]
   (go_wp2_with fail);(go_quiet (fail));(go_wp2_with fail);go_ret2;exact ⟨_,[],by rw[E2.o];rfl,IntsO.nil _ _,Mk.below_ bel,fun u hu=>by rw[E2.o] at hu;cases hu⟩
theorem c_spec_l5Begins {lo hi:Nat} (A:Option Addr) (d:Nat) (xs:List Atm) (b:Int) (w:World) (h:AtomsV w lo hi A xs) :
  Calls Tryz.prog 277 #[.slice A xs.length d,.int .i64 b] w fun e w'=>e=.returned (.bool (begB xs b))∧w=w':=by
 have hl:=h.le;have H:=ax h;clear h;(go_enter Tryz.func277,Tryz.ntmps277);(go_wp2_with fail)
 go_loop [5] (fun i=>∃ k:Nat,k≤xs.length∧i=.int .i64 k∧aJ (begB xs b=begB (xs.drop k) b)) (fun i=>xs.length - (intOf i).toNat)
 case atStart=>exact ⟨0,Nat.zero_le _,rfl,rfl⟩
 case round=>
  obtain ⟨k,hkk,rfl,HA⟩:=hrel;by_cases hlt:k<xs.length
  ·obtain ⟨bb,off,rfl,hbl⟩:=H.o.blt hlt;obtain ⟨g0,g1,g2⟩:=H.o.cl hlt;have HD:=ax (any_drop (fun x=>decide (x.a=b)) xs k hlt);obtain ⟨x,hxe⟩:∃ x,x=xs[k]:=⟨_,rfl⟩;rw[←hxe] at g0 g1 g2 HD;clear hxe;by_cases he:x.a=b
   ·have HZ:aJ (begB xs b=true):=by show _=_;rw[HA.o];unfold begB;rw[HD.o,decide_eq_true he];rfl
    have he':(x.a == b)=true:=by simpa using he
    clear he;(go_wp2_with fail);go_ret;exact ⟨zjD (by rw[HZ.o]),rfl⟩
   ·have HZ:aJ (begB xs b=begB (xs.drop (k+1)) b):=by show _=_;rw[HA.o];unfold begB;rw[HD.o,decide_eq_false he];rfl
    have he':(x.a == b)=false:=by simpa using he
    clear he;(go_wp2_with fail)
    go_round
    case rel=>exact ⟨k+1,by omega,by go_num,HZ⟩
    case measure=>simp[intOf];omega
  ·obtain rfl:k=xs.length:=by omega
   have HZ:aJ (begB xs b=false):=by show _=_;rw[HA.o,List.drop_length];rfl
   (go_wp2_with fail);go_ret;exact ⟨zjD (by rw[HZ.o]),rfl⟩
def fndI (o:Option Nat):Int:=match o with|some k=>k|none=>-1
theorem c_spec_l6Find {lo hi lo2 hi2:Nat} (A B:Option Addr) (d e:Nat) (xs:List Atm) (used:List Bool) (b:Int) (w:World) (h:AtomsV w lo hi A xs) (h':BoolsV w lo2 hi2 B used) (hu:used.length=xs.length) :
  Calls Tryz.prog 275 #[.slice A xs.length d,.slice B xs.length e,.int .i64 b] w fun e w'=>e=.returned (.int .i64 (fndI (findU xs used b)))∧w=w':=by
 have hl:=h.le;have H:=ax h;have H':=ax h';have HU:=ax hu;clear h h' hu;(go_enter Tryz.func275,Tryz.ntmps275);(go_wp2_with fail)
 go_loop [7] (fun i=>∃ k:Nat,k≤xs.length∧i=.int .i64 k∧aJ (∀ j,j<k→freeAt xs used b j=false)) (fun i=>xs.length - (intOf i).toNat)
 case atStart=>exact ⟨0,Nat.zero_le _,rfl,fun j hj=>absurd hj (Nat.not_lt_zero _)⟩
 case round=>
  obtain ⟨k,hkk,rfl,HA⟩:=hrel;by_cases hlt:k<xs.length
  ·obtain ⟨bb,off,rfl,hbl⟩:=H.o.blt hlt;obtain ⟨g0,g1,g2⟩:=H.o.cl hlt;obtain ⟨b2,off2,rfl,hbl2⟩:=H'.o.blt (k:=k) (by rw[HU.o];exact hlt);have qu:w.cell? ⟨b2,off2+k,none⟩=some (.bool (ub used k)):=by rw[H'.o.cl (k:=k) (by rw[HU.o];exact hlt)];unfold ub;rw[List.getElem?_eq_getElem];rfl
   have HD:=ax (freeAt_of (c:=b) hlt HU.o);obtain ⟨x,hxe⟩:∃ x,x=xs[k]:=⟨_,rfl⟩;rw[←hxe] at g0 g1 g2 HD;clear hxe;cases hff:freeAt xs used b k
   ·have HZ:aJ (∀ j,j<k+1→freeAt xs used b j=false):=fun j hj=>by
     by_cases e:j=k
     ·rw[e];exact hff
     ·exact HA.o j (by omega)
    rw[HD.o] at hff;cases hub:ub used k
    ·rw[hub] at qu hff;have he':(x.a == b)=false:=by simpa using hff
     clear hff hub;(go_wp2_with fail)
     go_round
     case rel=>exact ⟨k+1,by omega,by go_num,HZ⟩
     case measure=>simp[intOf];omega
    ·rw[hub] at qu;clear hff hub;(go_wp2_with fail)
     go_round
     case rel=>exact ⟨k+1,by omega,by go_num,HZ⟩
     case measure=>simp[intOf];omega
   ·have HZ:aJ (findU xs used b=some k):=range_find_some hlt hff HA.o;rw[HD.o,Bool.and_eq_true,decide_eq_true_eq] at hff;have he':(x.a == b)=true:=by simpa using hff.1
    have hub:ub used k=false:=by simpa using hff.2
    rw[hub] at qu;clear hff hub;(go_wp2_with fail);go_ret;exact ⟨by rw[HZ.o];rfl,rfl⟩
  ·obtain rfl:k=xs.length:=by omega
   have HZ:aJ (findU xs used b=none):=range_find_none HA.o;(go_wp2_with fail);go_ret;exact ⟨by rw[HZ.o];rfl,rfl⟩
theorem BoolsO.open_ {w:World} {base:Nat} {A:Option Addr} {n c k:Nat} {fs:List Bool} (h:BoolsO w base (.slice A n c) fs) (hk:k<fs.length):∃ g cur,n=fs.length∧A=some ⟨g,0,none⟩∧base≤g∧Blk w g tB cur∧cur[k]? = some (.bool fs[k])∧
  (∀ v:Bool,BoolsO (w.setCell ⟨g,k,none⟩ (.bool v)) base (.slice A n c) (fs.set k v)):=by
 obtain ⟨⟨hl,h2⟩,hL⟩:=h;rcases h2 with ⟨e,hn⟩|⟨g,cap,cur,e,hb,hh,hn,hm,hs,ht⟩
 ·omega
 ·injection e with e1 e2 e3;subst e1 e2 e3;have hK:Blk w g tB cur:=hh
  have hP:Pre cur (encB fs) (fs.length * 1):=by
   intro j hj;rw[←ht,List.getElem?_take,if_pos hj];simp
  refine ⟨g,cur,rfl,rfl,hb,hK,(hP _ (by omega)).trans (by simp[List.getElem?_eq_getElem hk]),?_⟩;intro v;refine ⟨?_,by rw[List.length_set];exact hL⟩;rw[show encB (fs.set k v)=(encB fs).set k (.bool v) from by simp[encB,List.map_set],List.length_set];exact own_of_blk (hK.set_ k (.bool v)) hb (by rw[List.length_set,hl]) (hP.setL k (.bool v) (by rw[hs];exact Nat.mul_le_mul hn (Nat.le_refl _)) (by rw[hl];exact Nat.le_refl _)) hn hm (by simpa using hs)
def chainG (xs:List Atm) (b:Int) (n:Nat) (used:List Bool) (c:Int):Option (List Bool):=if c=b then some used else chainF xs b n used c
def cutB (xs:List Atm) (y:Atm) (b:Int):Bool:=decide (y.kind=2) && !decide (y.b=b) && !decide (b=0) && !begB xs b
theorem cut_cases (xs:List Atm) (y:Atm) (b:Int):(cutB xs y b=true∧(y.kind == 2)=true∧(y.b != b)=true∧(b != 0)=true∧begB xs b=false)∨
  ((cutB xs y b=false∧(y.kind == 2)=false)∨(cutB xs y b=false∧(y.kind == 2)=true∧(y.b != b)=false)∨(cutB xs y b=false∧(y.kind == 2)=true∧(y.b != b)=true∧(b != 0)=false)∨(cutB xs y b=false∧(y.kind == 2)=true∧(y.b != b)=true∧(b != 0)=true∧begB xs b=true)):=by
 unfold cutB;by_cases h1:y.kind=2<;>by_cases h2:y.b=b<;>by_cases h3:b=0<;>cases h4:begB xs b<;>simp_all
theorem closed_beg (xs:List Atm) (b:Int):closedB xs b=(decide (b=0) || begB xs b):=rfl
theorem chainG_none {xs:List Atm} {b:Int} {n:Nat} {used:List Bool} {c:Int} (h:c≠b) (hf:findU xs used c=none):chainG xs b n used c=none:=by
 unfold chainG;rw[if_neg h]
 cases n with
 | zero=>rfl
 | succ n=>unfold chainF;rw[hf];rfl
theorem chainG_some {xs:List Atm} {b:Int} {n:Nat} {used:List Bool} {c:Int} {k:Nat} (h:c≠b) (hf:findU xs used c=some k) (hk:k<xs.length):chainG xs b (n+1) used c=if cutB xs xs[k] b then none else chainG xs b n (used.set k true) xs[k].b:=by
 unfold chainG;rw[if_neg h];rw[show chainF xs b (n+1) used c=(findU xs used c).bind (fun k=>if ((xs[k]?).getD default).b=b then some (used.set k true) else if ((xs[k]?).getD default).kind=2∧closedB xs b=false then none else chainF xs b n (used.set k true) ((xs[k]?).getD default).b) from rfl,hf];simp only[Option.bind_some,List.getElem?_eq_getElem hk,Option.getD_some];unfold cutB;rw[closed_beg];generalize chainF xs b n (used.set k true) xs[k].b=R;generalize xs[k]=y;generalize decide (b=0)=t;generalize begB xs b=s;by_cases h1:y.b=b<;>by_cases h2:y.kind=2<;>cases t<;>cases s<;>simp[h1,h2]
theorem AtomsV.hi_ {w:World} {lo hi b o k:Nat} {xs:List Atm} (h:AtomsV w lo hi (some ⟨b,o,none⟩) xs) (hk:k<xs.length):b<hi:=by
 obtain ⟨g,o',e,h1,h2,-⟩:=h.raw.2 (by omega);injection e with e;injection e with e1;omega
theorem c_spec_l6Chain {lo hi base:Nat} (A B:Option Addr) (d e:Nat) (xs:List Atm) (used:List Bool) (c b:Int) (w:World) (h:AtomsV w lo hi A xs) (h':BoolsO w base (.slice B xs.length e) used) (hu:used.length=xs.length) (hhi:hi≤base) (hbw:base≤w.heap.size) :
  Calls Tryz.prog 274 #[.slice A xs.length d,.slice B xs.length e,.int .i64 c,.int .i64 b] w fun e' w'=>e'=.returned (.bool (chainG xs b (xs.length+1) used c).isSome)∧(∀ u,chainG xs b (xs.length+1) used c=some u→BoolsO w' base (.slice B xs.length e) u∧u.length=xs.length)∧Mk (fun g=>(Value.slice B xs.length e).ownBlock=some g) w w':=by
 have hl:=h.le;have hown:∀ g,(Value.slice B xs.length e).ownBlock=some g→base≤g:=fun g hg=>(h'.1.lt g hg).1;have H:=ax h;have HO:=ax h';have HU:=ax hu;have HW:=ax hown;clear h h' hu hown;(go_enter Tryz.func274,Tryz.ntmps274);(go_wp2_with fail)
 go_loopg [2] (xs.length - used.count true) (fun gh s2 wr=>∃ (u:List Bool) (n:Nat) (at_:Int),s2=.int .i64 at_∧aJ (xs.length - u.count true≤gh)∧aJ (chainG xs b (xs.length+1) used c=chainG xs b n u at_)∧aJ (xs.length<n+u.count true)∧aJ (u.length=xs.length)∧aJ (BoolsO wr base (.slice B xs.length e) u)∧aJ (Mk (fun g=>(Value.slice B xs.length e).ownBlock=some g) w wr))
 case atStart=>exact ⟨used,xs.length+1,c,rfl,Nat.le_refl _,rfl,by show _<_;omega,HU.o,HO.o,Mk.refl _ _⟩
 case round=>
  obtain ⟨u,n,at_,rfl,HG,HC,HN,HL,HB,HM⟩:=hrel;have hA:aJ (AtomsV wr lo hi A xs):=H.o.keepB (HM.o.bz (lo:=base) (fun k e=>HW.o k e) hbw) hhi;by_cases hat:at_=b
  ·have E:aJ (chainG xs b (xs.length+1) used c=some u):=by show _=_;rw[HC.o];unfold chainG;rw[if_pos hat]
   have hne:(at_ != b)=false:=by simpa using hat
   clear hat;(go_wp2_with fail);go_ret;exact ⟨zjD (by rw[E.o];rfl),fun u' hu'=>(by rw[E.o] at hu';cases hu';exact ⟨HB.o,HL.o⟩),HM.o⟩
  ·have hne:(at_ != b)=true:=by simpa using hat
   obtain ⟨BB,eB,eqB,hBV⟩:=HB.o.rj;injection eqB with eB1 eB2 eB3;subst eB1;clear eB2 eB3;(go_wp2_with fail);refine (c_spec_l6Find A B d e xs u at_ _ hA.o (by simpa using hBV) HL.o).mono ?_;rintro e w1 ⟨rfl,rfl⟩;cases hf:findU xs u at_
   ·have E:aJ (chainG xs b (xs.length+1) used c=none):=by show _=_;rw[HC.o];exact chainG_none hat hf
    clear hf hat;simp only[fndI];(go_wp2_with fail);go_ret;exact ⟨zjD (by rw[E.o];rfl),fun u' hu'=>(by rw[E.o] at hu';cases hu'),HM.o⟩
   ·rename_i k;obtain ⟨hkl,hfr⟩:=findU_some hf;have hfu:=freeAt_used hfr;have hct:=count_take hfu.2;have hcl:=List.count_le_length (a:=true) (l:=u.set k true);rw[List.length_set,HL.o] at hcl;obtain ⟨m,rfl⟩:∃ m,n=m+1:=⟨n - 1,by have:=HN.o;omega⟩;have HS:=ax (chainG_some (n:=m) hat hf hkl);obtain ⟨g,cur,-,rfl,hgb,kg,hcm,hset⟩:=HB.o.open_ (k:=k) hfu.1;have qg:wr.cell? ⟨g,k,none⟩=some (.bool false):=(kg.cell k).trans (hcm.trans (by rw[(List.getElem?_eq_some_iff.1 hfu.2).2]));have rg:=kg.frozen;have HSET:=ax (hset true);obtain ⟨bb,off,rfl,hbl⟩:=hA.o.blt hkl;obtain ⟨g0,g1,g2⟩:=hA.o.cl hkl;have hbg:bb<g:=by have:=hA.o.hi_ hkl;omega
    have hbn:¬(bb=g):=by omega
    have hbn':¬(g=bb):=by omega
    obtain ⟨y,hy⟩:∃ y,y=xs[k]:=⟨_,rfl⟩;rw[←hy] at g0 g1 g2 HS;have HCT:=ax hct;have HCL:=ax hcl;have hkx:(k:Int)<(xs.length:Int):=by omega
    have hk0:¬(k:Int)<0:=by omega
    have HAK:=ax hA.o;clear hf hat hy hfr hfu hct hcl hset kg hcm;simp only[fndI];rcases cut_cases xs y b with ⟨hc,f1,f2,f3,f4⟩|hcc
    ·have E:aJ (chainG xs b (xs.length+1) used c=none):=by show _=_;rw[HC.o,HS.o,hc];rfl
     clear hc;(go_wp2_with (refine (c_spec_l5Begins _ _ xs b _ HAK.o).mono ?_;rintro e2 w2 ⟨rfl,rfl⟩));go_ret;exact ⟨zjD (by rw[E.o];rfl),fun u' hu'=>(by rw[E.o] at hu';cases hu'),HM.o⟩
    ·have E:aJ (cutB xs y b=false→chainG xs b (xs.length+1) used c=chainG xs b m (u.set k true) y.b):=fun hc=>by rw[HC.o,HS.o,hc];rfl
     rcases hcc with ⟨hc,f1⟩|⟨hc,f1,f2⟩|⟨hc,f1,f2,f3⟩|⟨hc,f1,f2,f3,f4⟩
     all_goals
      have E2:=ax (E.o hc);clear hc;(go_wp2_with (refine (c_spec_l5Begins _ _ xs b _ HAK.o).mono ?_;rintro e2 w2 ⟨rfl,rfl⟩))
      go_roundg (xs.length - (u.set k true).count true)
      case rel=>exact ⟨u.set k true,m,y.b,rfl,Nat.le_refl _,E2.o,by show _<_;have:=HN.o;have:=HCT.o;omega,by show _=_;rw[List.length_set];exact HL.o,HSET.o,HM.o.set (x:=⟨g,k,none⟩) rfl _⟩
      case measure=>have:=HG.o;have:=HCT.o;have:=HCL.o;omega
theorem Mk.thenB {p:Nat→Prop} {w a b:World} (h:Mk p w a) (hb:Below w.heap.size a b):Mk p w b:=⟨hb.os.trans h.os,hb.tape.trans h.tape,hb.output.trans h.output,Nat.le_trans h.size hb.size,fun k hk hp=>(hb.block k hk).trans (h.block k hk hp)⟩
theorem chainF_none {xs:List Atm} {b:Int} {n:Nat} {used:List Bool} {c:Int} (hf:findU xs used c=none):chainF xs b n used c=none:=by
 cases n with
 | zero=>rfl
 | succ n=>unfold chainF;rw[hf];rfl
theorem chainF_some {xs:List Atm} {b:Int} {n:Nat} {used:List Bool} {c:Int} {k:Nat} (hf:findU xs used c=some k) (hk:k<xs.length):chainF xs b (n+1) used c=if xs[k].b=b then some (used.set k true) else if xs[k].kind=2∧closedB xs b=false then none else chainF xs b n (used.set k true) xs[k].b:=by
 rw[show chainF xs b (n+1) used c=(findU xs used c).bind (fun k=>if ((xs[k]?).getD default).b=b then some (used.set k true) else if ((xs[k]?).getD default).kind=2∧closedB xs b=false then none else chainF xs b n (used.set k true) ((xs[k]?).getD default).b) from rfl,hf];simp only[Option.bind_some,List.getElem?_eq_getElem hk,Option.getD_some]
theorem c_impl_useChain {lo hi:Nat} (A:Option Addr) (d:Nat) (xs:List Atm) (used:List Bool) (x:Atm) (g:Nat) (w:World) (h:AtomsV w lo hi A xs) (hhi:hi≤g) (hk:Blk w g tMt (cmU (.slice A xs.length d) used)) (hl6:xs.length≤6) (hu:used.length=xs.length) :
  Calls Tryz.prog 235 #[.pointer (some ⟨g,0,none⟩),x.val] w fun e w'=>∃ r ys,e=.returned (.tuple #[r,.bool (chainF xs x.b (xs.length+1) used x.a).isSome])∧IntsO w' w.heap.size r ys∧Mk (fun h=>h=g) w w'∧(∀ u,chainF xs x.b (xs.length+1) used x.a=some u→Blk w' g tMt (cmU (.slice A xs.length d) u)):=by
 have hgl:=hk.lt;have H:=ax h;have HU:=ax hu;have HK:=ax hk;clear h hu hk;(go_enter Tryz.func235,Tryz.ntmps235);(go_wp2_with fail);have k0:=Blk.new w tA #[.int .i64 x.kind,.int .i64 x.a,.int .i64 x.b];have kg:=HK.o.alloc (.cells #[.int .i64 x.kind,.int .i64 x.a,.int .i64 x.b] tA);cases hb0:(x.b == 0)
 case' false=>
  refine wp_region_noPanic ?_;refine wp_region_held_drew (S:=(fun w'=>(∀ i,w'.cell? ⟨w.heap.size,i,none⟩=#[.int .i64 x.kind,.int .i64 x.a,.int .i64 x.b][i]?)∧w'.cell? ⟨g,0,none⟩=some (.slice A xs.length d))) (by kernel_rfl) (⟨Blk.cell blks,(show Blk _ g tMt (cmU (.slice A xs.length d) used) from blks).cell 0⟩) (fun aH=>?_);refine tk2 0 rfl aH (h:=tk2 1 rfl aH (h:=tk2 2 rfl aH (h:=?_)));(try simp only[zz]);refine tk2 3 rfl aH (h:=tk2 4 rfl aH (h:=tk2 5 rfl aH (h:=?_)));(try simp only[zz]);refine tk2 6 rfl aH (h:=tk2 7 rfl aH (h:=tk2 8 rfl aH (h:=?_)));(try simp only[zz]);refine tk2 9 rfl aH (h:=?_);refine rdc 10 rfl fun K hK=>?_;(try simp only[zz]);(go_simp;refine (c_impl_beginsAt A d xs x.b _ (H.o.bz bel)).mono ?_;rintro e w1 ⟨rfl,hB1⟩;have hB:=bgo (w:=w) bel hB1;replace k0:=Blk.nz (g:=w.heap.size) blks hB1;replace kg:=Blk.nz (g:=g) blks hB1);refine hK.out _ _ (⟨k0.cell,kg.cell 0⟩) ?_;clear aH hK K;intro aH;(try simp only[zz]);refine tk2 11 rfl aH (h:=tk2 12 rfl aH (h:=?_));(try simp only[zz]);refine dn1 ?_;have HCB:aJ (closedB xs x.b=begB xs x.b):=by show _=_;unfold closedB;rw[decide_eq_false (by simpa using hb0)];rfl
  obtain ⟨cb,hcb⟩:∃ t,t=begB xs x.b:=⟨_,rfl⟩;rw[←hcb] at HCB ⊢;clear hcb
 case' true=>
  refine wp_region_noPanic ?_;refine wp_region_held_drew (S:=(fun w'=>(∀ i,w'.cell? ⟨w.heap.size,i,none⟩=#[.int .i64 x.kind,.int .i64 x.a,.int .i64 x.b][i]?)∧w'.cell? ⟨g,0,none⟩=some (.slice A xs.length d))) (by kernel_rfl) (⟨Blk.cell blks,(show Blk _ g tMt (cmU (.slice A xs.length d) used) from blks).cell 0⟩) (fun aH=>?_);refine tk2 0 rfl aH (h:=tk2 1 rfl aH (h:=tk2 2 rfl aH (h:=?_)));(try simp only[zz]);refine tk2 3 rfl aH (h:=?_);(try simp only[zz]);refine tku 4 rfl aH ?_;(try simp only[zz]);refine tku 5 rfl aH ?_;(try simp only[zz]);refine tku 6 rfl aH ?_;(try simp only[zz]);refine tku 7 rfl aH ?_;(try simp only[zz]);refine tku 8 rfl aH ?_;(try simp only[zz]);refine tku 9 rfl aH ?_;(try simp only[zz]);refine tku 10 rfl aH ?_;(try simp only[zz]);refine tk2 11 rfl aH (h:=tk2 12 rfl aH (h:=?_));(try simp only[zz]);refine dn1 ?_;have HCB0:aJ (closedB xs x.b=true):=by show _=_;unfold closedB;rw[decide_eq_true (by simpa using hb0)];rfl
  obtain ⟨cb,hcb⟩:∃ t,t=true:=⟨_,rfl⟩;rw[←hcb] at HCB0;have HCB:=HCB0;clear HCB0;obtain ⟨w1,hw1⟩:∃ X,X=(w.alloc (.cells #[.int .i64 x.kind,.int .i64 x.a,.int .i64 x.b] tA)).drew:=⟨_,rfl⟩;have hB:Below w.heap.size w w1:=by rw[hw1];exact bel
  replace k0:Blk w1 w.heap.size tA #[.int .i64 x.kind,.int .i64 x.a,.int .i64 x.b]:=by rw[hw1];exact blks
  replace kg:Blk w1 g tMt (cmU (.slice A xs.length d) used):=by rw[hw1];exact blks
  rw[←hw1];clear hw1;(try rw[←hcb]);clear hcb
 all_goals
  have gl1:=kg.lt;have l0:=k0.lt;have q0:=k0.cell;have qg:=kg.cell 0;have hz1:=hB.size;(go_wp2_with fail)
  go_loopw [7,8] (fun s7 s8 wr=>∃ (u:List Bool) (n:Nat) (at_:Int) (U:Option Addr) (uc:Nat) (ys:List Int),s7=.slice U ys.length uc∧s8=.int .i64 at_∧aJ (chainF xs x.b (xs.length+1) used x.a=chainF xs x.b n u at_)∧aJ (xs.length<n+u.count true)∧aJ (u.length=xs.length)∧aJ (ys.length≤u.count true)∧aJ (IntsO wr w.heap.size (.slice U ys.length uc) ys)∧Blk wr w.heap.size tA #[.int .i64 x.kind,.int .i64 x.a,.int .i64 x.b]∧Blk wr g tMt (cmU (.slice A xs.length d) u)∧aJ (Mk (fun h=>h=g) w wr)) (fun s7 _ _=>match s7 with | .slice _ n _=>7 - n|_=>0)
  case atStart=>exact ⟨used,xs.length+1,x.a,none,0,[],rfl,rfl,rfl,by show _<_;omega,HU.o,Nat.zero_le _,IntsO.nil _ _,k0,kg,Mk.below_ hB⟩
  case round=>
   clear k0 kg hB gl1 l0 hz1 q0 qg;obtain ⟨u,n,at_,U,uc,ys,rfl,rfl,HC,HN,HL,HY,HO,k0,kg,HM⟩:=hrel;have hA:aJ (AtomsV wr lo hi A xs):=H.o.keepM HM.o hhi (by omega);have gl1:=kg.lt;have l0:=k0.lt;have qg:=kg.cell 0;have hzw:=HM.o.size;(go_wp2_with fail);refine (c_impl_unusedAt A d _ xs u at_ g _ (hA.o.bz bel) kg hl6 HL.o).mono ?_;rintro e w2 ⟨rfl,hB1⟩;replace k0:=k0.nz hB1;replace kg:=kg.nz hB1;have HM2:aJ (Mk (fun h=>h=g) w w2):=HM.o.trans (Mk.below_ hB1);have HO2:aJ (IntsO w2 w.heap.size (.slice U ys.length uc) ys):=HO.o.bz hB1;have hA2:aJ (AtomsV w2 lo hi A xs):=hA.o.bz hB1;have gl2:=kg.lt;have l2:=k0.lt;have hz2:=HM2.o.size;clear hB1 HO HM hA;cases hf:findU xs u at_
   ·have E:aJ (chainF xs x.b (xs.length+1) used x.a=none):=by show _=_;rw[HC.o];exact chainF_none hf
    clear hf;simp only[Option.getD_none,Option.isSome_none];(go_wp2_with fail);go_ret2;exact ⟨_,[],by rw[E.o];rfl,IntsO.nil _ _,HM2.o,fun u' hu'=>by rw[E.o] at hu';cases hu'⟩
   ·rename_i k;obtain ⟨hkl,hfr⟩:=findU_some hf;have hfu:=freeAt_used hfr;have hct:=count_take hfu.2;have hcl:=List.count_le_length (a:=true) (l:=u.set k true);rw[List.length_set,HL.o] at hcl;obtain ⟨m,rfl⟩:∃ m,n=m+1:=⟨n - 1,by have:=HN.o;omega⟩;have HS:=ax (chainF_some (n:=m) (b:=x.b) hf hkl);have HFU:=ax hfu;have HCT:=ax hct;have HCL:=ax hcl;have hkx:(k:Int)<(xs.length:Int):=by omega
    have hyl:ys.length≤5:=by have:=HY.o;omega
    clear hf hfr hfu hct hcl;simp only[Option.getD_some,Option.isSome_some];(go_wp2_with fail);refine (c_impl_take k g _ kg HFU.o.2 (by rw[HL.o];exact hl6)).mono ?_;rintro e w3 ⟨⟨v,rfl⟩,kg3,hM3⟩;have k3:=hM3.blk k0 (by omega);have HM3:aJ (Mk (fun h=>h=g) w w3):=HM2.o.trans hM3;have hA3:aJ (AtomsV w3 lo hi A xs):=hA2.o.keepM hM3 hhi (by omega);have HO3:aJ (IntsO w3 w.heap.size (.slice U ys.length uc) ys):=HO2.o.mk hM3 fun h e1 e2=>by have:=(HO2.o.1.lt h e1).1;omega
    have hz3:=HM3.o.size;clear k0 kg hM3 HM2 HO2 hA2;obtain ⟨bb,off,rfl,hbl⟩:=hA3.o.blt hkl;obtain ⟨g0,g1,g2⟩:=hA3.o.cl hkl;obtain ⟨y,hy⟩:∃ y,y=xs[k]:=⟨_,rfl⟩;rw[←hy] at g0 g1 g2 HS;have qg:=kg3.cell 0;have q3:=k3.cell;have lg3:=kg3.lt;have l3:=k3.lt;have HYE:=ax hy;clear hy g0 g1 g2;obtain f1|⟨f1,f2,rfl⟩|⟨f1,f2⟩|⟨f1,f2,rfl⟩:((y.b == x.b)=true)∨((y.b == x.b)=false∧(y.kind == 2)=true∧cb=false)∨((y.b == x.b)=false∧(y.kind == 2)=false)∨((y.b == x.b)=false∧(y.kind == 2)=true∧cb=true):=by cases (y.b == x.b)<;>cases (y.kind == 2)<;>cases cb<;>simp
    ·have E:aJ (chainF xs x.b (xs.length+1) used x.a=some (u.set k true)):=by show _=_;rw[HC.o,HS.o,if_pos (by simpa using f1)]
     (go_wp2_with (at_builtin;refine appI rfl _ _ rfl (v:=.slice U ys.length uc) rfl (IntsO.bz HO3.o bel) w3.heap.size k rfl (cell_box _ _ _) (by omega) (by simp;omega) ?_;intro A' c' w4 o4 hg4 hB4;have kg4:=Blk.zm (g:=g) (hg:=hg4) (kg3.alloc _) (IntsO.bz (w:=w3) HO3.o bel).1 (by decide);have k4:=Blk.zm (g:=w.heap.size) (hg:=hg4) (k3.alloc _) (IntsO.bz (w:=w3) HO3.o bel).1 (by decide);have qg4:=kg4.cell 0;have q4:=k4.cell;have lg4:=kg4.lt;have l4:=k4.lt;have hB34:Below w.heap.size w3 w4:=Below.trans (btoB (w:=w3) bel hz3) hB4;have hA4:aJ (AtomsV w4 lo hi (some ⟨bb,off,none⟩) xs):=hA3.o.keepB hB34 (by omega);obtain ⟨g0,g1,g2⟩:=hA4.o.cl hkl;rw[←HYE.o] at g0 g1 g2;clear qg q3));go_ret2;exact ⟨_,ys++[(k:Int)],by rw[E.o];rfl,o4,HM3.o.thenB hB34,fun u' hu'=>by rw[E.o] at hu';cases hu';exact kg4⟩
    ·have E:aJ (chainF xs x.b (xs.length+1) used x.a=none):=by show _=_;rw[HC.o,HS.o,if_neg (by simpa using f1),if_pos ⟨by simpa using f2,HCB.o⟩]
     (go_wp2_with (at_builtin;refine appI rfl _ _ rfl (v:=.slice U ys.length uc) rfl (IntsO.bz HO3.o bel) w3.heap.size k rfl (cell_box _ _ _) (by omega) (by simp;omega) ?_;intro A' c' w4 o4 hg4 hB4;have kg4:=Blk.zm (g:=g) (hg:=hg4) (kg3.alloc _) (IntsO.bz (w:=w3) HO3.o bel).1 (by decide);have k4:=Blk.zm (g:=w.heap.size) (hg:=hg4) (k3.alloc _) (IntsO.bz (w:=w3) HO3.o bel).1 (by decide);have qg4:=kg4.cell 0;have q4:=k4.cell;have lg4:=kg4.lt;have l4:=k4.lt;have hB34:Below w.heap.size w3 w4:=Below.trans (btoB (w:=w3) bel hz3) hB4;have hA4:aJ (AtomsV w4 lo hi (some ⟨bb,off,none⟩) xs):=hA3.o.keepB hB34 (by omega);obtain ⟨g0,g1,g2⟩:=hA4.o.cl hkl;rw[←HYE.o] at g0 g1 g2;clear qg q3));go_ret2;exact ⟨_,[],by rw[E.o];rfl,IntsO.nil _ _,HM3.o.thenB hB34,fun u' hu'=>by rw[E.o] at hu';cases hu'⟩
    ·have E:aJ (chainF xs x.b (xs.length+1) used x.a=chainF xs x.b m (u.set k true) y.b):=by show _=_;rw[HC.o,HS.o,if_neg (by simpa using f1),if_neg (fun h=>by simp[h.1] at f2)]
     go_wp2_with (at_builtin;refine appI rfl _ _ rfl (v:=.slice U ys.length uc) rfl (IntsO.bz HO3.o bel) w3.heap.size k rfl (cell_box _ _ _) (by omega) (by simp;omega) ?_;intro A' c' w4 o4 hg4 hB4;have kg4:=Blk.zm (g:=g) (hg:=hg4) (kg3.alloc _) (IntsO.bz (w:=w3) HO3.o bel).1 (by decide);have k4:=Blk.zm (g:=w.heap.size) (hg:=hg4) (k3.alloc _) (IntsO.bz (w:=w3) HO3.o bel).1 (by decide);have qg4:=kg4.cell 0;have q4:=k4.cell;have lg4:=kg4.lt;have l4:=k4.lt;have hB34:Below w.heap.size w3 w4:=Below.trans (btoB (w:=w3) bel hz3) hB4;have hA4:aJ (AtomsV w4 lo hi (some ⟨bb,off,none⟩) xs):=hA3.o.keepB hB34 (by omega);obtain ⟨g0,g1,g2⟩:=hA4.o.cl hkl;rw[←HYE.o] at g0 g1 g2;clear qg q3)
     go_round
     case rel=>exact ⟨u.set k true,m,y.b,some ⟨A',0,none⟩,c',ys++[(k:Int)],by simp,rfl,E,by show _<_;have:=HN.o;have:=HCT.o;omega,by show _=_;rw[List.length_set];exact HL.o,by show _≤_;have:=HY.o;have:=HCT.o;simp;omega,by show IntsO _ _ _ _;simpa using o4,k4,kg4,HM3.o.thenB hB34⟩
     case measure=>simp;omega
    ·have E:aJ (chainF xs x.b (xs.length+1) used x.a=chainF xs x.b m (u.set k true) y.b):=by show _=_;rw[HC.o,HS.o,if_neg (by simpa using f1),if_neg (fun h=>by have:=HCB.o;rw[this] at h;cases h.2)]
     go_wp2_with (at_builtin;refine appI rfl _ _ rfl (v:=.slice U ys.length uc) rfl (IntsO.bz HO3.o bel) w3.heap.size k rfl (cell_box _ _ _) (by omega) (by simp;omega) ?_;intro A' c' w4 o4 hg4 hB4;have kg4:=Blk.zm (g:=g) (hg:=hg4) (kg3.alloc _) (IntsO.bz (w:=w3) HO3.o bel).1 (by decide);have k4:=Blk.zm (g:=w.heap.size) (hg:=hg4) (k3.alloc _) (IntsO.bz (w:=w3) HO3.o bel).1 (by decide);have qg4:=kg4.cell 0;have q4:=k4.cell;have lg4:=kg4.lt;have l4:=k4.lt;have hB34:Below w.heap.size w3 w4:=Below.trans (btoB (w:=w3) bel hz3) hB4;have hA4:aJ (AtomsV w4 lo hi (some ⟨bb,off,none⟩) xs):=hA3.o.keepB hB34 (by omega);obtain ⟨g0,g1,g2⟩:=hA4.o.cl hkl;rw[←HYE.o] at g0 g1 g2;clear qg q3)
     go_round
     case rel=>exact ⟨u.set k true,m,y.b,some ⟨A',0,none⟩,c',ys++[(k:Int)],by simp,rfl,E,by show _<_;have:=HN.o;have:=HCT.o;omega,by show _=_;rw[List.length_set];exact HL.o,by show _≤_;have:=HY.o;have:=HCT.o;simp;omega,by show IntsO _ _ _ _;simpa using o4,k4,kg4,HM3.o.thenB hB34⟩
     case measure=>simp;omega
theorem useOne_eq (xs:List Atm) (u:List Bool) (x:Atm):useOne xs u x=if x.kind=1 then cellF xs u x else chainF xs x.b (xs.length+1) u x.a:=rfl
theorem cm_new (V:Value) (n:Nat) : #[V,.bool false,.bool false,.bool false,.bool false,.bool false,.bool false,.int .i64 0]=cmU V (List.replicate n false):=by
 have h:∀ j,ub (List.replicate n false) j=false:=by
  intro j;unfold ub;rw[List.getElem?_replicate]
  split<;>rfl
 unfold cmU cmC;simp only[h];simp[List.count_replicate]
theorem matchF_drop (xs:List Atm) (u:List Bool) (goal:List Atm) (k:Nat) (hk:k<goal.length):matchF xs u (goal.drop k)=(useOne xs u goal[k]).bind fun u'=>matchF xs u' (goal.drop (k+1)):=by
 rw[List.drop_eq_getElem_cons hk];rfl
theorem matchF_end (xs:List Atm) (u:List Bool) (goal:List Atm):matchF xs u (goal.drop goal.length)=some u:=by rw[List.drop_length];rfl
section
variable {ops:Array Oper} {rest:List Oper} {o:Oper} {a:Act} {Q:Exit→Act→World→Prop} {w:World} {base:Nat} {v:Value} {vs:List Value}
theorem appOwn (hgd:o.guard=none) (s x:Operand) (ho:o.op=.call { callee:=.builtin .append,args:=#[s,x],argTypes:=#[215,215] })
  (hs:a.eval s=v) (h0:w.ownsRow base tIS 1 v vs.length vs) (hbase:base≤w.heap.size) {g:Nat} {A:Option Addr} {n c:Nat} (hg:Blk w g tIS #[.slice A n c]) (hx:a.eval x=.slice (some ⟨g,0,none⟩) 1 1) (hl:vs.length+1≤1049600)
  (h:∀ A' c' w',w'.ownsRow base tIS 1 (.slice A' (vs.length+1) c') (vs.length+1) (vs++[.slice A n c])→w.grownBy w' v.ownBlock→Below base w w'→wpList Tryz.prog ops Q rest (a.put o.dst (.slice A' (vs.length+1) c')) w'):wpList Tryz.prog ops Q (o :: rest) a w:=by
 refine wpList_appL hgd s x 215 ho Tryz.underlying215 infoIS rfl (by decide) (by decide) hs h0 hx (rwS hg) (by intro u hu;simp at hu;subst hu;rfl) (by omega) hbase ?_;intro v' w' h1 h2 h3;obtain ⟨A',c',rfl,-⟩:=own_reads (by simpa using h1:w'.ownsRow base tIS 1 v' (vs++[Value.slice A n c]).length (vs++[Value.slice A n c])) (by simp[Lim];omega);simp only[List.length_append,List.length_cons,List.length_nil,Nat.zero_add] at h1 ⊢;exact h A' c' w' h1 h2 h3
end
theorem AtomsO.readsU {w:World} {base hi n c:Nat} {A:Option Addr} {xs:List Atm} (h:AtomsO w base (.slice A n c) xs) (hu:Und (.slice A n c) hi):AtomsV w base hi A xs:=by
 obtain ⟨A',c',e,h1⟩:=h.rj;injection e with e1 e2 e3;subst e1;refine ⟨⟨h1.raw.1,fun hn=>?_⟩,h1.lim⟩;obtain ⟨b,o,e,h2,-,h4⟩:=h1.raw.2 hn;subst e;exact ⟨b,o,rfl,h2,hu b rfl,h4⟩
theorem own_blk_ne {w:World} {base size n g:Nat} {e t:TypeId} {v:Value} {xs:List Value} {cs:Array Value} (h:w.ownsRow base e size v n xs) (hk:Blk w g t cs) (ht:t≠e):v.ownBlock≠some g:=by
 intro hg;rcases h.2 with ⟨rfl,-⟩|⟨k,cap,cur,rfl,-,hh,-⟩
 ·cases hg
 ·have e1:k=g:=by simpa [Value.ownBlock] using hg
  subst e1;exact (Blk.ne_ (g:=k) hk hh ht) rfl
theorem c_impl_matchCase {lo hi lo' hi':Nat} (v v':Value) (a b:Asn) (c:List Int) (w:World) (h:AsnV w lo hi v a) (h':AsnV w lo' hi' v' b) (ha:a.valid=true) (hb:b.valid=true) (hc:c.length=9) :
  Calls Tryz.prog 187 #[v,v',.agg (case9 c)] w fun e w'=>∃ r,e=.returned (.tuple #[r,.bool (entB a b c)])∧Below w.heap.size w w':=by
 have HA:=ax (Asn.valid_ok ha);have HBV:=ax (Asn.valid_ok hb);have HC:=ax hc
 have hal:a.atoms.length≤6:=by
  simp only[Asn.valid,Bool.and_eq_true,decide_eq_true_eq] at ha;exact ha.2.1
 have hbl:b.atoms.length≤6:=by
  simp only[Asn.valid,Bool.and_eq_true,decide_eq_true_eq] at hb;exact hb.2.1
 obtain ⟨A1,c1,A2,c2,rfl,h1,h2⟩:=h;obtain ⟨A3,c3,A4,c4,rfl,h3,h4⟩:=h';have H2:=ax h2;have H3:=ax h3;have H4:=ax h4;have HE:aJ (entB a b c=(b.facts.all (Fct.fits c)&&matchB (filledL a.atoms c) (filledL b.atoms c))):=rfl;clear h1 h2 h3 h4 ha hb hc;(go_enter Tryz.func187,Tryz.ntmps187);obtain ⟨k0,k1,k2⟩:=blk3 w tAs tAs tTc #[.slice A1 a.facts.length c1,.slice A2 a.atoms.length c2] #[.slice A3 b.facts.length c3,.slice A4 b.atoms.length c4] (case9 c);(go_wp2_with fail);refine (c_impl_factsHold A3 c3 b.facts c (w.heap.size+1+1) _ (H3.o.bz bel) (k2.case HC.o) HC.o HBV.o.1).mono ?_;rintro e w1 ⟨rfl,hB1⟩;have hB:Below w.heap.size w w1:=bgo (w:=w) bel hB1;replace k0:=k0.nz hB1;replace k1:=k1.nz hB1;replace k2:=k2.nz hB1;(replace qk0:=k0.z;replace qk1:=k1.z;replace qk2:=k2.z);clear hB1;cases hf:b.facts.all (Fct.fits c)
 ·have E:aJ (entB a b c=false):=by show _=_;rw[HE.o,hf];rfl
  clear hf;(go_wp2_with fail);go_ret2;exact ⟨_,by rw[E.o];rfl,hB⟩
 ·have E:aJ (entB a b c=matchB (filledL a.atoms c) (filledL b.atoms c)):=by show _=_;rw[HE.o,hf];rfl
  clear hf;(go_wp2_with fail);refine (c_impl_filled A2 c2 a.atoms c (w.heap.size+1+1) _ (H2.o.bz hB) (k2.case HC.o) HC.o HA.o.2).mono ?_;rintro e w2 ⟨r2,rfl,o2,hB2⟩;obtain ⟨X,xc,rfl,xV⟩:=o2.rj;have hxl:=filledL_len a.atoms c;obtain ⟨xs,hxs⟩:∃ xs,xs=filledL a.atoms c:=⟨_,rfl⟩;have HXS:=ax hxs;rw[←hxs] at o2 xV hxl ⊢;have XV:=ax xV;have hBB:=bgo hB hB2;replace k0:=k0.nz hB2;replace k1:=k1.nz hB2;replace k2:=k2.nz hB2;(replace qk0:=k0.z;replace qk1:=k1.z;replace qk2:=k2.z);have HUX:aJ (Und (.slice X xs.length xc) w2.heap.size):=fun h hh=>(o2.1.lt h hh).2;have hz1:=hB.size;have hz2:=hBB.size;have o2l:=o2.bq (base':=w.heap.size) hz1;clear hB2 hB xV hxs o2;(go_wp2_with fail);refine (c_impl_filled A4 c4 b.atoms c (w.heap.size+1+1) _ (H4.o.bz bel) (Blk.case (c:=c) blks HC.o) HC.o HBV.o.2).mono ?_;rintro e w3 ⟨r3,rfl,o3,hB3⟩;have km0:Blk w3 w2.heap.size tMt #[.slice X xs.length xc,.bool false,.bool false,.bool false,.bool false,.bool false,.bool false,.int .i64 0]:=Blk.nz blks hB3;have km:Blk w3 w2.heap.size tMt (cmU (.slice X xs.length xc) (List.replicate xs.length false)):=by rw[←cm_new];exact km0
  obtain ⟨G,gc,rfl,-⟩:=o3.rj;have hgl:=filledL_len b.atoms c;obtain ⟨goal,hgo⟩:∃ goal,goal=filledL b.atoms c:=⟨_,rfl⟩;have HGO:=ax hgo;rw[←hgo] at o3 hgl ⊢;have HXO:aJ (AtomsO w3 w.heap.size (.slice X xs.length xc) xs):=(o2l.bz (w':=w2.alloc (.cells #[.slice X xs.length xc,.bool false,.bool false,.bool false,.bool false,.bool false,.bool false,.int .i64 0] tMt)) bel).bz hB3;have HG:aJ (AtomsO w3 (w2.heap.size+1) (.slice G goal.length gc) goal):=o3.bq (by simp);have HB3:aJ (Below w.heap.size w w3):=bgo (w:=w) bel hB3;have E2:aJ (entB a b c=matchB xs goal):=by show _=_;rw[E.o,HXS.o,HGO.o]
  clear hB3 km0 o3 o2l hgo hBB k0 k1 k2 qk0 qk1 qk2 XV;obtain ⟨g,hge⟩:∃ g,g=w2.heap.size:=⟨_,rfl⟩;rw[←hge] at km HG HUX hz2 ⊢;clear hge;(go_wp2_with fail)
  go_loopw [9,26] (fun s9 s26 wr=>∃ (k:Nat) (u:List Bool) (U:Option Addr) (uc:Nat) (vs:List Value),k≤goal.length∧s26=.int .i64 k∧s9=.slice U vs.length uc∧vs.length=k∧aJ (matchF xs (List.replicate xs.length false) goal=matchF xs u (goal.drop k))∧aJ (u.length=xs.length)∧aJ (wr.ownsRow w.heap.size tIS 1 (.slice U vs.length uc) vs.length vs)∧Blk wr g tMt (cmU (.slice X xs.length xc) u)∧aJ (AtomsO wr (g+1) (.slice G goal.length gc) goal)∧aJ (AtomsO wr w.heap.size (.slice X xs.length xc) xs)∧aJ (Below w.heap.size w wr)) (fun _ i _=>goal.length - (intOf i).toNat)
  case atStart=>exact ⟨0,List.replicate xs.length false,none,0,[],Nat.zero_le _,rfl,rfl,rfl,rfl,by show _=_;simp,World.ownsRow_nil _ _ _ _,km,HG,HXO,HB3⟩
  case round=>
   clear km HG HXO HB3;obtain ⟨k,u,U,uc,vs,hk,rfl,rfl,hvk,HM,HL,HO,km,HG,HXO,HB⟩:=hrel;have hzr:=HB.o.size;have lm:=km.lt;by_cases hlt:k<goal.length
   ·obtain ⟨G',gc',eG,gV⟩:=HG.o.rj;injection eG with eG1 eG2 eG3;subst eG1;clear eG2 eG3;obtain ⟨gb,go_,rfl,lgb⟩:=gV.blt hlt;obtain ⟨g0,g1,g2⟩:=gV.cl hlt;have HMD:=ax (matchF_drop xs u goal k hlt);obtain ⟨x,hx⟩:∃ x,x=goal[k]:=⟨_,rfl⟩;rw[←hx] at g0 g1 g2 HMD;have HXV:aJ (AtomsV wr w.heap.size g X xs):=HXO.o.readsU HUX.o;clear hx gV;cases hkd:(x.kind == 1)
    case' false=>have e0:useOne xs u x=chainF xs x.b (xs.length+1) u x.a:=by rw[useOne_eq,if_neg (by simpa using hkd)]
    case' true=>have e0:useOne xs u x=cellF xs u x:=by rw[useOne_eq,if_pos (by simpa using hkd)]
    all_goals have HE0:=ax e0
    all_goals clear e0
    case' false=>
     (go_wp2_with fail);refine (c_impl_useChain X xc xs u x g _ (HXV.o.bz bel) (Nat.le_refl _) (km.alloc _) (by omega) HL.o).mono ?_;rintro e w4 ⟨r,ys,rfl,oy,hM,hu⟩
    case' true=>
     (go_wp2_with fail);refine (c_impl_useCell X xc xs u x g _ (HXV.o.bz bel) (Nat.le_refl _) (km.alloc _) (by omega) HL.o).mono ?_;rintro e w4 ⟨r,ys,rfl,oy,hM,hu⟩
    all_goals
     rw[←HE0.o] at hu ⊢;obtain ⟨R,rc,rfl,-⟩:=oy.rj;have HU1:=ax hu;have HO4:aJ (w4.ownsRow w.heap.size tIS 1 (.slice U vs.length uc) vs.length vs):=own_mk (own_below (w':=wr.alloc (.cells #[.int .i64 x.kind,.int .i64 x.a,.int .i64 x.b] tA)) HO.o bel) hM fun h e1 e2=>own_blk_ne HO.o km (by decide) (by rw[e1,e2]);have HG4:aJ (AtomsO w4 (g+1) (.slice (some ⟨gb,go_,none⟩) goal.length gc) goal):=(HG.o.bz (w':=wr.alloc (.cells #[.int .i64 x.kind,.int .i64 x.a,.int .i64 x.b] tA)) bel).mk hM fun h e1 e2=>by have:=(HG.o.1.lt h e1).1;omega
     have HX4:aJ (AtomsO w4 w.heap.size (.slice X xs.length xc) xs):=(HXO.o.bz (w':=wr.alloc (.cells #[.int .i64 x.kind,.int .i64 x.a,.int .i64 x.b] tA)) bel).mk hM fun h e1 e2=>by have:=HUX.o h e1;omega
     have HB4:aJ (Below w.heap.size w w4):=(bbox HB.o _).trans (hM.bz (lo:=w.heap.size) (fun h e=>by omega) (by simp;omega));have hz4:=HB4.o.size;clear hu hM oy HO HG HXO HB km HXV g0 g1 g2;cases hres:useOne xs u x
     ·have E3:aJ (entB a b c=false):=by show _=_;rw[E2.o];unfold matchB;rw[HM.o,HMD.o,hres];rfl
      clear hres;simp only[Option.isSome_none];(go_wp2_with fail);go_ret2;exact ⟨_,by rw[E3.o];rfl,HB4.o⟩
     ·rename_i u';have km4:=HU1.o u' hres;have lm4:=km4.lt;have HMS:aJ (matchF xs (List.replicate xs.length false) goal=matchF xs u' (goal.drop (k+1))):=by show _=_;rw[HM.o,HMD.o,hres];rfl
      have HL':aJ (u'.length=xs.length):=by show _=_;rw[useOne_len hres];exact HL.o
      clear hres;simp only[Option.isSome_some];have hvl:vs.length+1≤1049600:=by omega
      go_wp2_with (at_builtin;refine appOwn (v:=.slice U vs.length uc) (base:=w.heap.size) rfl _ _ rfl rfl (own_below HO4.o bel) (by simp;omega) (Blk.new w4 tIS _) rfl hvl ?_;intro A' c' w5 o5 hg5 hB5;have oo:=own_below (w':=w4.alloc (.cells #[.slice R ys.length rc] tIS)) HO4.o bel;have km5:=Blk.zm (g:=g) (hg:=hg5) (km4.alloc _) oo (by decide);have HG5:aJ (AtomsO w5 (g+1) (.slice (some ⟨gb,go_,none⟩) goal.length gc) goal):=⟨own_grownO (own_below (w':=w4.alloc (.cells #[.slice R ys.length rc] tIS)) HG4.o.1 bel) oo hg5 (by decide),HG4.o.2⟩;have HX5:aJ (AtomsO w5 w.heap.size (.slice X xs.length xc) xs):=⟨own_grownO (own_below (w':=w4.alloc (.cells #[.slice R ys.length rc] tIS)) HX4.o.1 bel) oo hg5 (by decide),HX4.o.2⟩;have HB5:aJ (Below w.heap.size w w5):=(bbox HB4.o _).trans hB5;have HO5:=ax o5;clear o5 oo hB5 hg5)
      go_round
      case rel=>exact ⟨k+1,u',A',c',vs++[.slice R ys.length rc],by omega,by go_num,by simp<;>omega,by simp;omega,HMS,HL',by show World.ownsRow _ _ _ _ _ _ _;simpa using HO5.o,km5,HG5,HX5,HB5⟩
      case measure=>simp[intOf];omega
   ·obtain rfl:k=goal.length:=by omega
    have E3:aJ (entB a b c=u.all id):=by show _=_;rw[E2.o];unfold matchB;rw[HM.o,matchF_end]
    have q0:wr.cell? ⟨g,0,none⟩=some (.slice X xs.length xc):=km.cell 0;have q7:wr.cell? ⟨g,7,none⟩=some (.int .i64 ((u.count true:Nat):Int)):=km.cell 7;by_cases hcc:u.count true=xs.length
    ·have E4:aJ (entB a b c=true):=by show _=_;rw[E3.o];exact count_all.1 (by rw[hcc,HL.o])
     rw[hcc] at q7;clear hcc km;(go_wp2_with fail);go_ret2;exact ⟨_,by rw[E4.o];rfl,HB.o⟩
    ·have E4:aJ (entB a b c=false):=by
      show _=_;rw[E3.o];cases hall:u.all id
      ·rfl
      ·exact absurd (by rw[count_all.2 hall];exact HL.o) hcc
     obtain ⟨cnt,hcn⟩:∃ n,n=u.count true:=⟨_,rfl⟩;rw[←hcn] at q7 hcc;have hne:((cnt:Int) != (xs.length:Int))=true:=by simp;omega
     clear hcc hcn km;(go_wp2_with fail);go_ret2;exact ⟨_,by rw[E4.o];rfl,HB.o⟩
end
end Go.Proofs.YtgdfdmjnadnlnaaGreat
