/- Contracts: impl's cases. -/
import Derived.Test.YtjaohekkmlkinaaGreatMaSubst
import Derived.RangeFuncWrites
import Derived.RangeFuncLeaves
import Derived.RangeFuncBound
import Derived.RangeFuncCalls
import Derived.WalkKit
import Derived.OwnWalkIn
import Derived.TacticsInMore
import Derived.LoopNIn
import Derived.LoopIn
import Derived.OrdersIn
import Derived.Deep.RegionHeld3
import Derived.Shelf.Abstract
set_option linter.unusedSimpArgs false
set_option linter.unusedVariables false
set_option maxRecDepth 100000
set_option maxHeartbeats 25600000
namespace Go.Proofs.YtjaohekkmlkinaaGreat
section
open Go Go.RowKit Go.Proofs
attribute [local go_sem ↓] Go.wp_at_zero Go.wp_at_succ
abbrev tTc:Nat:=131
theorem case_cell {w:World} {g:Nat} {c:List Int} {t:TypeId} (h:Blk w g t (encI c).toArray) {m:Nat} (hm:m<c.length):w.cell? ⟨g,m,none⟩=some (.int .i64 (cl c m)):=by
 rw[h.cell];simp[cl,List.getElem?_eq_getElem hm]
theorem c_impl_factHolds (f:Fct) (c:List Int) (g:Nat) (w:World) (hk:Blk w g tTc (encI c).toArray) (hc:c.length=9) (ha:0≤f.a∧f.a≤8) (hb:0≤f.b∧f.b≤8) :
  Calls Tryz.prog 249 #[.pointer (some ⟨g,0,none⟩),f.val] w fun e w'=>e=.returned (.bool (f.fits c))∧Below w.heap.size w w':=by
 obtain ⟨q,a,b⟩:=f;dsimp only at ha hb;obtain ⟨a,rfl⟩:=Int.eq_ofNat_of_zero_le ha.1;obtain ⟨b,rfl⟩:=Int.eq_ofNat_of_zero_le hb.1;have c1:=case_cell hk (m:=a) (by rw[hc];omega);have c2:=case_cell hk (m:=b) (by rw[hc];omega);have hlt:=hk.lt;have ha9:(a:Int)<9:=by omega
 have hb9:(b:Int)<9:=by omega
 clear ha hb;(go_enter Tryz.func249,Tryz.ntmps249);(go_wp2_with fail);(go_quiet (fail));go_wp2;go_ret;exact ⟨zjD rfl,bel⟩
theorem c_impl_isFilled (x:Atm) (c:List Int) (g:Nat) (w:World) (hk:Blk w g tTc (encI c).toArray) (hc:c.length=9) (ha:0≤x.a∧x.a≤8) (hb:0≤x.b∧x.b≤8) :
  Calls Tryz.prog 250 #[.pointer (some ⟨g,0,none⟩),x.val] w fun e w'=>e=.returned (.bool (x.fill c))∧Below w.heap.size w w':=by
 obtain ⟨q,a,b⟩:=x;dsimp only at ha hb;obtain ⟨a,rfl⟩:=Int.eq_ofNat_of_zero_le ha.1;obtain ⟨b,rfl⟩:=Int.eq_ofNat_of_zero_le hb.1;have c1:=case_cell hk (m:=a) (by rw[hc];omega);have c2:=case_cell hk (m:=b) (by rw[hc];omega);have hlt:=hk.lt;have ha9:(a:Int)<9:=by omega
 have hb9:(b:Int)<9:=by omega
 clear ha hb;cases hq:(q == 1)
 all_goals
  have HQ:=ax hq;(go_enter Tryz.func250,Tryz.ntmps250);(go_wp2_with fail);(go_quiet (fail));go_wp2;go_ret;exact ⟨zjD (by have:=HQ.o;(try simp at this);simp[Atm.fill,this];try rfl),bel⟩
theorem filledL_take (xs:List Atm) (c:List Int) (k:Nat) (hk:k<xs.length):filledL (xs.take (k+1)) c=filledL (xs.take k) c++if xs[k].fill c then [xs[k].cls c] else []:=by
 unfold filledL;rw[List.take_succ_eq_append_getElem hk,List.filter_append,List.map_append];cases h:xs[k].fill c<;>simp[h]
theorem filledL_len (xs:List Atm) (c:List Int):(filledL xs c).length≤xs.length:=by
 unfold filledL;rw[List.length_map];exact List.length_filter_le _ _
theorem c_impl_filled {lo hi:Nat} (A:Option Addr) (d:Nat) (xs:List Atm) (c:List Int) (g:Nat) (w:World) (h:AtomsV w lo hi A xs) (hk:Blk w g tTc (encI c).toArray) (hc:c.length=9) (hx:AtomsOk xs) :
  Calls Tryz.prog 204 #[.pointer (some ⟨g,0,none⟩),.slice A xs.length d] w fun e w'=>∃ r,e=.returned r∧AtomsO w' w.heap.size r (filledL xs c)∧Below w.heap.size w w':=by
 have hl:=h.le;have hgl:=hk.lt;(go_enter Tryz.func204,Tryz.ntmps204);(go_wp2_with fail)
 go_loopw [5,10] (fun r i wr=>∃ (k:Nat) (B:Option Addr) (n e:Nat),k≤xs.length∧i=.int .i64 k∧n=(filledL (xs.take k) c).length∧r=.slice B n e∧AtomsO wr w.heap.size (.slice B n e) (filledL (xs.take k) c)∧Below w.heap.size w wr) (fun _ i _=>xs.length - (intOf i).toNat)
 case atStart=>exact ⟨0,none,0,0,Nat.zero_le _,rfl,rfl,rfl,AtomsO.nil _ _,bel⟩
 case round=>
  obtain ⟨k,B,n,e,hkk,rfl,hn,rfl,of,hB⟩:=hrel;have HN:=ax hn
  have hnl:n≤k:=by
   rw[hn];exact Nat.le_trans (filledL_len _ _) (by simp;omega)
  clear hn;by_cases hlt:k<xs.length
  ·obtain ⟨b,off,rfl,hbl⟩:=h.blt hlt;obtain ⟨g0,g1,g2⟩:=(h.bz hB).cl hlt;have HT:=ax (filledL_take xs c k hlt);have hxk:=hx _ (List.getElem_mem hlt);obtain ⟨x,hxe⟩:∃ x,x=xs[k]:=⟨_,rfl⟩;have HX:=ax hxe;rw[←hxe] at g0 g1 g2 HT hxk;clear hxe;have kg:Blk wr g tTc (encI c).toArray:=hk.bz hB hgl;have hgr:=kg.lt;(go_wp2_with fail);refine (c_impl_isFilled x c g _ (kg.alloc _) hc hxk.1 hxk.2).mono ?_;rintro e w1 ⟨rfl,hB1⟩;have hBx:Below w.heap.size w w1:=bgo (w:=w) bel hB1;have hob:∀ g',(Value.slice B n e).ownBlock=some g'→g'<wr.heap.size:=fun g' e'=>(of.1.lt g' e').2;have kx:=(Blk.new wr tA #[.int .i64 x.kind,.int .i64 x.a,.int .i64 x.b]).nz hB1;replace of:=(of.bz (w':=wr.alloc (.cells #[.int .i64 x.kind,.int .i64 x.a,.int .i64 x.b] tA)) bel).bz hB1;replace kg:=(kg.alloc (.cells #[.int .i64 x.kind,.int .i64 x.a,.int .i64 x.b] tA)).nz hB1;have hw1:=hB1.size;simp only[World.size_alloc] at hw1;have hwz:=hB.size;clear hB1 g0 g1 g2;cases hf:x.fill c
   ·have HS:=ax (show filledL (xs.take (k+1)) c=filledL (xs.take k) c by rw[HT.o,hf];simp);clear hf;(go_wp2_with fail)
    go_round
    case rel=>exact ⟨k+1,B,n,e,by omega,by go_num,by rw[HS.o];exact HN.o,rfl,by rw[HS.o];exact of,hBx⟩
    case measure=>simp[intOf];omega
   ·have HS:=ax (show filledL (xs.take (k+1)) c=filledL (xs.take k) c++[x.cls c] by rw[HT.o,hf];simp);clear hf;obtain ⟨q,xa,xb⟩:=x;dsimp only at hxk kx;obtain ⟨⟨a1,a2⟩,⟨b1,b2⟩⟩:=hxk;obtain ⟨xa,rfl⟩:=Int.eq_ofNat_of_zero_le a1;obtain ⟨xb,rfl⟩:=Int.eq_ofNat_of_zero_le b1;have ha9:(xa:Int)<9:=by omega
    have hb9:(xb:Int)<9:=by omega
    have q1:∀ w':World,(∀ i,w'.cell? ⟨g,i,none⟩=(encI c).toArray[i]?)→w'.cell? ⟨g,xa,none⟩=some (.int .i64 (cl c xa)):=by
     intro w' hw';rw[hw'];simp[cl,List.getElem?_eq_getElem (show xa<c.length by omega)]
    have q2:∀ w':World,(∀ i,w'.cell? ⟨g,i,none⟩=(encI c).toArray[i]?)→w'.cell? ⟨g,xb,none⟩=some (.int .i64 (cl c xb)):=by
     intro w' hw';rw[hw'];simp[cl,List.getElem?_eq_getElem (show xb<c.length by omega)]
    have c1:=q1 _ kg.cell;have c2:=q2 _ kg.cell;have hnn:n+1≤1049600:=by omega
    clear a1 a2 b1 b2;(go_wp2_with fail);refine wp_region_noPanic ?_;refine wp_region_held_drew (S:=(fun w'=>w'.cell? ⟨g,xa,none⟩=some (.int .i64 (cl c xa))∧w'.cell? ⟨g,xb,none⟩=some (.int .i64 (cl c xb))∧(∀ i,w'.cell? ⟨wr.heap.size,i,none⟩=#[.int .i64 q,.int .i64 xa,.int .i64 xb][i]?))) (by kernel_rfl) (⟨c1,c2,Blk.cell blks⟩) (fun aH=>?_);refine tk2 0 rfl aH (h:=tk2 1 rfl aH (h:=tk2 2 rfl aH (h:=?_)));(try simp only[zz]);refine tk2 3 rfl aH (h:=tk2 4 rfl aH (h:=tk2 5 rfl aH (h:=?_)));(try simp only[zz]);refine tk2 6 rfl aH (h:=tk2 7 rfl aH (h:=tk2 8 rfl aH (h:=?_)));(try simp only[zz]);refine tk2 9 rfl aH (h:=tk2 10 rfl aH (h:=tk2 11 rfl aH (h:=?_)));(try simp only[zz]);refine tk2 12 rfl aH (h:=tk2 13 rfl aH (h:=tk2 14 rfl aH (h:=?_)));(try simp only[zz]);refine tk2 15 rfl aH (h:=?_);refine rdc 16 rfl fun K hK=>?_;(try simp only[zz]);go_simp;refine hK.out _ _ (⟨q1 _ (Blk.cell blks),q2 _ (Blk.cell blks),Blk.cell blks⟩) ?_;clear aH hK K;intro aH;(try simp only[zz]);refine rdc 17 rfl fun K hK=>?_;skip;(refine stepAL (base:=w.heap.size) (xs:=filledL (xs.take k) c) rfl _ _ rfl rfl (AtomsO.bz (w:=w1) of bel) rfl (AtomsV.one' blks) (by simp only[List.length_cons,List.length_nil];rw[←HN.o];omega) (by simp;omega) ?_;intro A' c' w2 of2 hg2 hB3;have z2:=Blk.zm (g:=g) (hg:=hg2) blks (AtomsO.bz (w:=w1) of bel).1 (by decide);have zf:Blk w2 wr.heap.size tA #[.int .i64 q,.int .i64 xa,.int .i64 xb]:=Blk.grown blks hg2 (fun e=>absurd (hob _ e.symm) (Nat.lt_irrefl _)));refine hK.out _ _ (⟨q1 _ z2.cell,q2 _ z2.cell,zf.cell⟩) ?_;clear aH hK K;intro aH;(try simp only[zz]);refine tk2 18 rfl aH (h:=?_);(try simp only[zz]);refine dn1 ?_;have hBw2:Below w.heap.size w w2:=Below.trans bel (hB3.mono (by omega));(go_wp2_with fail)
    go_round
    case rel=>exact ⟨k+1,A',_,c',by omega,by go_num,rfl,by rw[HS.o];simp,by rw[HS.o];exact of2,hBw2⟩
    case measure=>simp[intOf];omega
  ·obtain rfl:k=xs.length:=by omega
   (go_wp2_with fail);go_ret;refine ⟨_,rfl,?_,hB⟩;rw[List.take_length] at of;exact of
theorem possF_drop (c:List Int) (last:Int) (fs:List Fct) (k:Nat) (hk:k<fs.length):possF c last (fs.drop k)=(!(decide (fs[k].a≤last)&&decide (fs[k].b≤last) && !fs[k].fits c)&&possF c last (fs.drop (k+1))):=by
 unfold possF;rw[all_drop _ fs k hk]
theorem possA_drop (c:List Int) (last:Int) (seen:List Int) (xs:List Atm) (k:Nat) (hk:k<xs.length):possA c last seen (xs.drop k)=if inLast c last xs[k] then !decide (cl c xs[k].a=0) && !decide (cl c xs[k].a∈seen)&&possA c last (seen++[cl c xs[k].a]) (xs.drop (k+1)) else possA c last seen (xs.drop (k+1)):=by
 rw[List.drop_eq_getElem_cons hk];rfl
theorem tset_snoc (l:List Int) (t:Int):tset (l++[t])=tins (tset l) t:=by unfold tset;simp[List.foldl_append]
theorem c_impl_possible {lo hi:Nat} (v:Value) (a:Asn) (last:Int) (c:List Int) (g:Nat) (w:World) (h:AsnV w lo hi v a) (hk:Blk w g tTc (encI c).toArray) (hc:c.length=9) (hf:FactsOk a.facts) (hx:AtomsOk a.atoms)
  (hcl:∀ x∈a.atoms,x.a≤last→jq (cl c x.a)=true) :
  Calls Tryz.prog 248 #[.pointer (some ⟨g,0,none⟩),v,.int .i64 last] w fun e w'=>e=.returned (.bool (poss a c last))∧Below w.heap.size w w':=by
 obtain ⟨A1,c1,A2,c2,rfl,h1,h2⟩:=h;have hl1:=h1.le;have hl2:=h2.le;have hgl:=hk.lt;have HP:aJ (poss a c last=(possF c last a.facts&&possA c last [] a.atoms)):=rfl;have hFO:=ax hf;have hXO:=ax hx;have hCL:=ax hcl;clear hf hx hcl;(go_enter Tryz.func248,Tryz.ntmps248);(go_wp2_with fail)
 go_loopw [15] (fun i wr=>∃ k:Nat,k≤a.facts.length∧i=.int .i64 k∧aJ (possF c last a.facts=possF c last (a.facts.drop k))∧Blk wr w.heap.size 37 #[.slice A1 a.facts.length c1,.slice A2 a.atoms.length c2]∧Below w.heap.size w wr) (fun i _=>a.facts.length - (intOf i).toNat)
 case atStart=>exact ⟨0,Nat.zero_le _,rfl,rfl,blks,bel⟩
 case round=>
  obtain ⟨k,hkk,rfl,HA,kA,hB⟩:=hrel;have qA:=kA.cell;have lA:=kA.lt;by_cases hlt:k<a.facts.length
  ·obtain ⟨b,off,rfl,hbl⟩:=h1.blt hlt;obtain ⟨g0,g1,g2⟩:=(h1.bz hB).cl hlt;have HD:=ax (possF_drop c last a.facts k hlt);have hfk:=hFO.o _ (List.getElem_mem hlt);obtain ⟨f,hfe⟩:∃ f,f=a.facts[k]:=⟨_,rfl⟩;rw[←hfe] at g0 g1 g2 HD hfk;clear hfe;have kg:Blk wr g tTc (encI c).toArray:=hk.bz hB hgl;have hgr:=kg.lt;by_cases e1:f.a≤last
   ·by_cases e2:f.b≤last
    ·(go_wp2_with fail);refine (c_impl_factHolds f c g _ (kg.alloc _) hc hfk.1 hfk.2).mono ?_;rintro e w1 ⟨rfl,hB1⟩;have hBx:Below w.heap.size w w1:=bgo (w:=w) bel hB1;replace kA:=(kA.alloc (.cells #[.bool f.eq,.int .i64 f.a,.int .i64 f.b] tF)).nz hB1;cases hff:f.fits c
     ·have HZ:=ax (show possF c last a.facts=false by rw[HA.o,HD.o,hff,decide_eq_true e1,decide_eq_true e2];rfl);clear hff hB1 e1 e2;(go_wp2_with fail);go_ret;exact ⟨zjD (by rw[HP.o,HZ.o];rfl),hBx⟩
     ·have HZ:=ax (show possF c last (a.facts.drop k)=possF c last (a.facts.drop (k+1)) by rw[HD.o,hff];simp);clear hff hB1 e1 e2;(go_wp2_with fail)
      go_round
      case rel=>exact ⟨k+1,by omega,by go_num,by show _=_;rw[HA.o,HZ.o],kA,hBx⟩
      case measure=>simp[intOf];omega
    ·have HZ:=ax (show possF c last (a.facts.drop k)=possF c last (a.facts.drop (k+1)) by rw[HD.o,decide_eq_false e2];simp);(go_wp2_with fail)
     go_round
     case rel=>exact ⟨k+1,by omega,by go_num,by show _=_;rw[HA.o,HZ.o],blks,bel⟩
     case measure=>simp[intOf];omega
   ·have HZ:=ax (show possF c last (a.facts.drop k)=possF c last (a.facts.drop (k+1)) by rw[HD.o,decide_eq_false e1];simp);(go_wp2_with fail)
    go_round
    case rel=>exact ⟨k+1,by omega,by go_num,by show _=_;rw[HA.o,HZ.o],blks,bel⟩
    case measure=>simp[intOf];omega
  ·obtain rfl:k=a.facts.length:=by omega
   have HF:=ax (show poss a c last=possA c last [] a.atoms by rw[HP.o,HA.o,List.drop_length];rfl);clear HA HP;(go_wp2_with fail)
   go_loopw [9,39] (fun S i wr=>∃ (k:Nat) (seen:List Int),k≤a.atoms.length∧i=.int .i64 k∧S=.int .u16 (tset seen:Nat)∧aJ (poss a c last=possA c last seen (a.atoms.drop k))∧Below w.heap.size w wr) (fun _ i _=>a.atoms.length - (intOf i).toNat)
   case atStart=>exact ⟨0,[],Nat.zero_le _,rfl,by unfold tset;rfl,HF.o,hB⟩
   case round=>
    clear hB kA qA lA;obtain ⟨k,seen,hkk,rfl,rfl,HA,hB⟩:=hrel;have hT:=tset_lt seen;by_cases hlt:k<a.atoms.length
    ·obtain ⟨b,off,rfl,hbl⟩:=h2.blt hlt;obtain ⟨g0,g1,g2⟩:=(h2.bz hB).cl hlt;have HD:=ax (possA_drop c last seen a.atoms k hlt);have hxk:=hXO.o _ (List.getElem_mem hlt);have hcx:=hCL.o _ (List.getElem_mem hlt);obtain ⟨x,hxe⟩:∃ x,x=a.atoms[k]:=⟨_,rfl⟩;rw[←hxe] at g0 g1 g2 HD hxk hcx;clear hxe;have kg:Blk wr g tTc (encI c).toArray:=hk.bz hB hgl;have hgr:=kg.lt;have hno:x.a≤last→x.b≤last→x.fill c=true→inLast c last x=true:=fun h1 h2 h3=>by simp[inLast,h1,h2,h3]
     by_cases e1:x.a≤last
     ·by_cases e2:x.b≤last
      ·have hct:=hcx e1;(go_wp2_with fail);refine (c_impl_isFilled x c g _ (kg.alloc _) hc hxk.1 hxk.2).mono ?_;rintro e w1 ⟨rfl,hB1⟩;have hBx:Below w.heap.size w w1:=bgo (w:=w) bel hB1;have kx:=(Blk.new wr tA #[.int .i64 x.kind,.int .i64 x.a,.int .i64 x.b]).nz hB1;replace kg:=(kg.alloc (.cells #[.int .i64 x.kind,.int .i64 x.a,.int .i64 x.b] tA)).nz hB1;cases hff:x.fill c
       ·have HZ:=ax (show possA c last seen (a.atoms.drop k)=possA c last seen (a.atoms.drop (k+1)) by rw[HD.o,inLast,hff];simp);clear hff hB1;(go_wp2_with fail)
        go_round
        case rel=>exact ⟨k+1,seen,by omega,by go_num,rfl,by show _=_;rw[HA.o,HZ.o],hBx⟩
        case measure=>simp[intOf];omega
       ·have HI:=ax (hno e1 e2 hff);clear hff hB1 hno hcx;obtain ⟨vv,hvv⟩:∃ vv,vv=cl c x.a:=⟨_,rfl⟩;have HVV:=ax hvv;rw[←hvv] at hct
        have hbt:(tset seen).testBit vv.toNat=decide (vv∈seen):=by
         have:=zjA.1 hct;rw[tset_bit,decide_eq_decide];rw[Int.toNat_of_nonneg this.1];exact ⟨fun h=>h.2,fun h=>⟨hct,h⟩⟩
        obtain ⟨q,xa,xb⟩:=x;dsimp only at hxk kx e1 e2 hvv g0 g1 g2;obtain ⟨⟨a1,a2⟩,⟨b1,b2⟩⟩:=hxk;obtain ⟨xa,rfl⟩:=Int.eq_ofNat_of_zero_le a1;obtain ⟨xb,rfl⟩:=Int.eq_ofNat_of_zero_le b1;have hxa9:xa<9:=by omega
        have hxal:(xa:Int)<9:=by omega
        have cc:=case_cell kg (m:=xa) (by rw[hc];exact hxa9);rw[←hvv] at cc;have kxc:=kx.cell;clear hvv a1 a2 b1 b2;by_cases hz:vv=0
        ·have HZ:=ax (show poss a c last=false by rw[HA.o,HD.o,if_pos HI.o,←HVV.o,hz];simp);subst hz;(go_wp2_with fail);refine wp_region_noPanic ?_;refine wp_region_held_drew (S:=(fun w'=>w'.cell? ⟨g,xa,none⟩=some (.int .i64 0)∧(∀ i,w'.cell? ⟨wr.heap.size,i,none⟩=#[.int .i64 q,.int .i64 xa,.int .i64 xb][i]?))) (by kernel_rfl) (⟨cc,kxc⟩) (fun aH=>?_);refine tk2 0 rfl aH (h:=tk2 1 rfl aH (h:=tk2 2 rfl aH (h:=?_)));(try simp only[zz]);refine tk2 3 rfl aH (h:=tk2 4 rfl aH (h:=tk2 5 rfl aH (h:=?_)));(try simp only[zz]);refine tk2 6 rfl aH (h:=tk2 7 rfl aH (h:=?_));(try simp only[zz]);refine tku 8 rfl aH ?_;(try simp only[zz]);refine tku 9 rfl aH ?_;(try simp only[zz]);refine tku 10 rfl aH ?_;(try simp only[zz]);refine tku 11 rfl aH ?_;(try simp only[zz]);refine tku 12 rfl aH ?_;(try simp only[zz]);refine tku 13 rfl aH ?_;(try simp only[zz]);refine tku 14 rfl aH ?_;(try simp only[zz]);refine tku 15 rfl aH ?_;(try simp only[zz]);refine tk2 16 rfl aH (h:=?_);(try simp only[zz]);refine dn1 ?_;go_wp2;go_ret;exact ⟨zjD HZ.o.symm,bel⟩
        ·have hzb:(vv == 0)=false:=by simpa using hz
         have HNZ:=ax hz;clear hz;(go_wp2_with fail);(go_quiet ((go_at_call 140;exact Calls.quiet_of_same ((c_impl_tHas _ _ _ hT).mono fun _ _ ⟨a,b⟩=>⟨a,b.symm⟩))));have cc2:(w1.drewN nq).cell? ⟨g,xa,none⟩=some (.int .i64 vv):=cc;have kxc2:∀ i,(w1.drewN nq).cell? ⟨wr.heap.size,i,none⟩=#[.int .i64 q,.int .i64 xa,.int .i64 xb][i]?:=kxc;have hBx2:=below_drewN hBx nq;rw[hct,hbt];clear cc kxc kx kg hBx;generalize w1.drewN nq=w2 at cc2 kxc2 hBx2 ⊢;by_cases hse:vv∈seen
         ·have HZ:=ax (show poss a c last=false by rw[HA.o,HD.o,if_pos HI.o,←HVV.o,decide_eq_true hse];simp);go_wp2;go_ret;exact ⟨zjD HZ.o.symm,bel⟩
         ·have HZ:=ax (show poss a c last=possA c last (seen++[vv]) (a.atoms.drop (k+1)) by rw[HA.o,HD.o,if_pos HI.o,←HVV.o,decide_eq_false hse,decide_eq_false HNZ.o];simp);(go_wp2_with fail);(go_quiet ((go_at_call 135;exact Calls.quiet_of_same ((c_impl_with _ _ _ hT).mono fun _ _ ⟨a,b⟩=>⟨a,b.symm⟩))));(go_wp2_with fail)
          go_round
          case rel=>exact ⟨k+1,seen++[vv],by omega,by go_num,by rw[tset_snoc],HZ.o,bel⟩
          case measure=>simp[intOf];omega
      ·have HZ:=ax (show possA c last seen (a.atoms.drop k)=possA c last seen (a.atoms.drop (k+1)) by rw[HD.o,inLast,decide_eq_false e2];simp);(go_wp2_with fail)
       go_round
       case rel=>exact ⟨k+1,seen,by omega,by go_num,rfl,by show _=_;rw[HA.o,HZ.o],bel⟩
       case measure=>simp[intOf];omega
     ·have HZ:=ax (show possA c last seen (a.atoms.drop k)=possA c last seen (a.atoms.drop (k+1)) by rw[HD.o,inLast,decide_eq_false e1];simp);(go_wp2_with fail)
      go_round
      case rel=>exact ⟨k+1,seen,by omega,by go_num,rfl,by show _=_;rw[HA.o,HZ.o],bel⟩
      case measure=>simp[intOf];omega
    ·obtain rfl:k=a.atoms.length:=by omega
     (go_wp2_with fail);go_ret;exact ⟨zjD (by rw[HA.o,List.drop_length];rfl),hB⟩
theorem ints_cl {w : World} {lo hi b o : Nat} {c : List Int} (h : IntsV w lo hi (some ⟨b, o, none⟩) c) {m : Nat} (hm : m < c.length) : w.cell? ⟨b, o + m, none⟩ = some (.int .i64 (cl c m)) := by
  rw [h.cl hm]; simp [cl, List.getElem?_eq_getElem hm]

--@ spec.l5Fits
theorem fitsS_drop (c : List Int) (fs : List Fct) (k : Nat) (hk : k < fs.length) : fitsS c (fs.drop k) = (!(decide (0 ≤ cl c fs[k].a) && decide (0 ≤ cl c fs[k].b) && !fs[k].fits c) && fitsS c (fs.drop (k + 1))) := by
  unfold fitsS; rw [all_drop _ fs k hk]
theorem c_spec_l5Fits {lo hi lo' hi' : Nat} (A B : Option Addr) (c0 c1 : Nat) (fs : List Fct) (c : List Int) (w : World) (h : FactsV w lo hi A fs) (h' : IntsV w lo' hi' B c) (hc : c.length = 9) (hf : FactsOk fs) :
    Calls Tryz.prog 244 #[.slice A fs.length c0, .slice B c.length c1] w fun e w' => e = .returned (.bool (fitsS c fs)) ∧ w = w' := by
  have hl := h.le;obtain ⟨pb, ob, rfl, lpb⟩ := h'.blt (k := 0) (by omega);have HC := ax hc;have HF := ax hf;have H' := ax h';clear hf h';rw [hc];clear hc;(go_enter Tryz.func244, Tryz.ntmps244);(go_wp2_with fail)
  go_loop [5] (fun i => ∃ k : Nat, k ≤ fs.length ∧ i = .int .i64 k ∧ aJ (fitsS c fs = fitsS c (fs.drop k))) (fun i => fs.length - (intOf i).toNat)
  case atStart => exact ⟨0, Nat.zero_le _, rfl, rfl⟩
  case round =>
    obtain ⟨k, hk, rfl, HA⟩ := hrel;by_cases hlt : k < fs.length
    · obtain ⟨b, off, rfl, hbl⟩ := h.blt hlt
      obtain ⟨g0, g1, g2⟩ := h.cl hlt;have HD := ax (fitsS_drop c fs k hlt);have hfk := HF.o _ (List.getElem_mem hlt);obtain ⟨f, hfe⟩ : ∃ f, f = fs[k] := ⟨_, rfl⟩;rw [← hfe] at g0 g1 g2 HD hfk;clear hfe;obtain ⟨q, fa, fb⟩ := f;dsimp only at g0 g1 g2 hfk;obtain ⟨⟨a1, a2⟩, ⟨b1, b2⟩⟩ := hfk;obtain ⟨fa, rfl⟩ := Int.eq_ofNat_of_zero_le a1;obtain ⟨fb, rfl⟩ := Int.eq_ofNat_of_zero_le b1;have ha9 : (fa : Int) < 9 := by omega
      have hb9 : (fb : Int) < 9 := by omega
      have e1 := ints_cl H'.o (m := fa) (by rw [HC.o]; omega);have e2 := ints_cl H'.o (m := fb) (by rw [HC.o]; omega)
      have HQ : aJ (∀ u v : Int, u = cl c fa → v = cl c fb → fitsS c fs = (!(decide (0 ≤ u) && decide (0 ≤ v) && !((u == v) == q)) && fitsS c (fs.drop (k + 1)))) := by
        intro u v hu hv;rw [HA.o, HD.o, hu, hv]; rfl
      obtain ⟨u, hu⟩ : ∃ u, u = cl c fa := ⟨_, rfl⟩;obtain ⟨v, hv⟩ : ∃ v, v = cl c fb := ⟨_, rfl⟩;have HR := ax (HQ.o u v hu hv);rw [← hu] at e1;rw [← hv] at e2;clear hu hv HQ a1 a2 b1 b2;by_cases hu0 : 0 ≤ u
      · by_cases hv0 : 0 ≤ v
        · have HUV : aJ (∀ t : Bool, (u == v) = t → fitsS c fs = (!(!(t == q)) && fitsS c (fs.drop (k + 1)))) := by
            intro t ht;rw [HR.o, ht, decide_eq_true hu0, decide_eq_true hv0]; rfl
          cases huv : (u == v)
          case' false => have HZ := ax (HUV.o false huv)
          case' true => have HZ := ax (HUV.o true huv)
          all_goals
            cases q
            all_goals
              clear HUV HR;(go_wp2_with fail)
              first
                | (go_ret
                   exact ⟨zjD HZ.o.symm, rfl⟩)
                | (go_round
                   case rel => exact ⟨k + 1, by omega, by go_num, HZ.o⟩
                   case measure => simp [intOf]; omega)
        · have HZ : aJ (fitsS c fs = fitsS c (fs.drop (k + 1))) := by show _ = _; rw [HR.o, decide_eq_false hv0]; simp
          go_wp2_with fail
          go_round
          case rel => exact ⟨k + 1, by omega, by go_num, HZ⟩
          case measure => simp [intOf]; omega
      · have HZ : aJ (fitsS c fs = fitsS c (fs.drop (k + 1))) := by show _ = _; rw [HR.o, decide_eq_false hu0]; simp
        go_wp2_with fail
        go_round
        case rel => exact ⟨k + 1, by omega, by go_num, HZ⟩
        case measure => simp [intOf]; omega
    · obtain rfl : k = fs.length := by omega
      (go_wp2_with fail);go_ret;exact ⟨zjD (by rw [HA.o, List.drop_length]; rfl), rfl⟩

--@ spec.l5Early
theorem earlyF_drop (c : List Int) (seen : List Int) (xs : List Atm) (k : Nat) (hk : k < xs.length) : earlyF c seen (xs.drop k) = if decide (xs[k].kind = 1) && decide (0 ≤ cl c xs[k].a) then !decide (cl c xs[k].a = 0) && !decide (cl c xs[k].a ∈ seen) && earlyF c (seen ++ [cl c xs[k].a]) (xs.drop (k + 1)) else earlyF c seen (xs.drop (k + 1)) := by
  rw [List.drop_eq_getElem_cons hk]; rfl
theorem c_spec_l5Early {lo hi lo' hi' : Nat} (A B : Option Addr) (c0 c1 : Nat) (xs : List Atm) (c : List Int) (w : World) (h : AtomsV w lo hi A xs) (h' : IntsV w lo' hi' B c) (hc : c.length = 9) (hx : AtomsOk xs) (hcl : ∀ x ∈ xs, cl c x.a ≤ 8) :
    Calls Tryz.prog 245 #[.slice A xs.length c0, .slice B c.length c1] w fun e w' => e = .returned (.bool (earlyF c [] xs)) ∧ Below w.heap.size w w' := by
  have hl := h.le;obtain ⟨pb, ob, rfl, lpb⟩ := h'.blt (k := 0) (by omega);have HC := ax hc;have HX := ax hx;have HCL := ax hcl;have H' := ax h';have hmk := mkB9;clear hx h' hcl;rw [hc];clear hc;(go_enter Tryz.func245, Tryz.ntmps245);(go_wp2_with fail);clear hmk
  go_loopw [6] (fun i wr => ∃ (k : Nat) (seen : List Int), k ≤ xs.length ∧ i = .int .i64 k ∧ aJ (earlyF c [] xs = earlyF c seen (xs.drop k)) ∧ Blk wr w.heap.size tB (encB (zj (tset seen))).toArray ∧ Below w.heap.size w wr) (fun i _ => xs.length - (intOf i).toNat)
  case atStart => exact ⟨0, [], Nat.zero_le _, rfl, rfl, by rw [show tset [] = 0 from by unfold tset; rfl]; exact blks, bel⟩
  case round =>
    obtain ⟨k, seen, hk, rfl, HA, k0, hB⟩ := hrel;by_cases hlt : k < xs.length
    · obtain ⟨b, off, rfl, hbl⟩ := h.blt hlt
      obtain ⟨g0, g1, g2⟩ := (h.bz hB).cl hlt;have HD := ax (earlyF_drop c seen xs k hlt);have hxk := HX.o _ (List.getElem_mem hlt);have hck := HCL.o _ (List.getElem_mem hlt);obtain ⟨x, hxe⟩ : ∃ x, x = xs[k] := ⟨_, rfl⟩;rw [← hxe] at g0 g1 g2 HD hxk hck;clear hxe;obtain ⟨q, xa, xb⟩ := x;dsimp only at g0 g1 g2 hxk hck;obtain ⟨⟨a1, a2⟩, -⟩ := hxk;obtain ⟨xa, rfl⟩ := Int.eq_ofNat_of_zero_le a1;have ha9 : (xa : Int) < 9 := by omega
      have e1 := ints_cl (H'.o.bz hB) (m := xa) (by rw [HC.o]; omega);have HR : aJ (earlyF c [] xs = if decide (q = 1) && decide (0 ≤ cl c xa) then !decide (cl c xa = 0) && !decide (cl c xa ∈ seen) && earlyF c (seen ++ [cl c xa]) (xs.drop (k + 1)) else earlyF c seen (xs.drop (k + 1))) := by show _ = _; rw [HA.o, HD.o]
      obtain ⟨u, hu⟩ : ∃ u, u = cl c xa := ⟨_, rfl⟩;rw [← hu] at e1 HR hck;clear hu a1 a2 HD HA;cases hq : (q != 1)
      · have hq1 : q = 1 := by simpa using hq
        by_cases hu0 : 0 ≤ u
        · have HR2 : aJ (earlyF c [] xs = (!decide (u = 0) && !decide (u ∈ seen) && earlyF c (seen ++ [u]) (xs.drop (k + 1)))) := by show _ = _; rw [HR.o, hq1, decide_eq_true hu0]; rfl
          obtain ⟨m, rfl⟩ := Int.eq_ofNat_of_zero_le hu0;have m8 : m ≤ 8 := by omega
          have m8' : (m : Int) < 9 := by omega
          have hst : jq (m : Int) = true := by rw [zjA]; omega
          have hbt : (tset seen).testBit m = decide ((m : Int) ∈ seen) := by
            rw [tset_bit, decide_eq_decide]; exact ⟨fun h => h.2, fun h => ⟨hst, h⟩⟩
          have q3 : wr.cell? ⟨w.heap.size, m, none⟩ = some (.bool (decide ((m : Int) ∈ seen))) := (k0.cell m).trans ((flags_cell _ _ rfl (by omega)).trans (by rw [hbt]));have r3 := k0.frozen;have l3 := k0.lt;clear hst hbt;by_cases hz : (m : Int) = 0
          · have HZ := ax (show earlyF c [] xs = false by rw [HR2.o, decide_eq_true hz]; rfl)
            have hzb : ((m : Int) == 0) = true := by simpa using hz
            clear hq1 hz;(go_wp2_with fail);go_ret;exact ⟨zjD HZ.o.symm, hB⟩
          · have hzb : ((m : Int) == 0) = false := by simpa using hz
            by_cases hs : (m : Int) ∈ seen
            · have HZ := ax (show earlyF c [] xs = false by rw [HR2.o, decide_eq_true hs]; simp)
              rw [decide_eq_true hs] at q3;clear hq1 hz hs;(go_wp2_with fail);go_ret;exact ⟨zjD HZ.o.symm, hB⟩
            · have HZ := ax (show earlyF c [] xs = earlyF c (seen ++ [(m : Int)]) (xs.drop (k + 1)) by rw [HR2.o, decide_eq_false hs, decide_eq_false hz]; simp)
              rw [decide_eq_false hs] at q3;clear hq1 hz hs;(go_wp2_with fail)
              go_round
              case rel =>
                refine ⟨k + 1, seen ++ [(m : Int)], by omega, by go_num, HZ, ?_, bel⟩;rw [tset_snoc, ← tins_flags _ _ m8];exact k0.set_ _ _
              case measure => simp [intOf]; omega
        · have HZ := ax (show earlyF c [] xs = earlyF c seen (xs.drop (k + 1)) by rw [HR.o, decide_eq_false hu0]; simp)
          clear hq1;(go_wp2_with fail)
          go_round
          case rel => exact ⟨k + 1, seen, by omega, by go_num, HZ, k0, hB⟩
          case measure => simp [intOf]; omega
      · have hq1 : ¬ q = 1 := by simpa using hq
        have HZ := ax (show earlyF c [] xs = earlyF c seen (xs.drop (k + 1)) by rw [HR.o, decide_eq_false hq1]; simp);clear hq1;(go_wp2_with fail)
        go_round
        case rel => exact ⟨k + 1, seen, by omega, by go_num, HZ, k0, hB⟩
        case measure => simp [intOf]; omega
    · obtain rfl : k = xs.length := by omega
      (go_wp2_with fail);go_ret;exact ⟨zjD (by rw [HA.o, List.drop_length]; rfl), hB⟩

--@ spec.l5Apart
theorem apartF_at (xs : List Atm) (k : Nat) (hk : k < xs.length) : apartF ((xs.take k).map Atm.a) (xs.drop k) = (!decide (xs[k].a = 0) && !decide (xs[k].a ∈ (xs.take k).map Atm.a) && apartF ((xs.take (k + 1)).map Atm.a) (xs.drop (k + 1))) := by
  rw [List.drop_eq_getElem_cons hk, List.take_succ_eq_append_getElem hk, List.map_append]; rfl
theorem c_spec_l5Apart {lo hi : Nat} (A : Option Addr) (c0 : Nat) (xs : List Atm) (w : World) (h : AtomsV w lo hi A xs) :
    Calls Tryz.prog 246 #[.slice A xs.length c0] w fun e w' => e = .returned (.bool (apartF [] xs)) ∧ Below w.heap.size w w' := by
  have hl := h.le;(go_enter Tryz.func246, Tryz.ntmps246);(go_wp2_with fail)
  go_loopw [3] (fun i wr => ∃ k : Nat, k ≤ xs.length ∧ i = .int .i64 k ∧ aJ (apartF [] xs = apartF ((xs.take k).map Atm.a) (xs.drop k)) ∧ Below w.heap.size w wr) (fun i _ => xs.length - (intOf i).toNat)
  case atStart => exact ⟨0, Nat.zero_le _, rfl, rfl, bel⟩
  case round =>
    obtain ⟨k, hk, rfl, HA, hB⟩ := hrel;by_cases hlt : k < xs.length
    · obtain ⟨b, off, rfl, hbl⟩ := h.blt hlt
      obtain ⟨g0, g1, g2⟩ := (h.bz hB).cl hlt;have HD := ax (apartF_at xs k hlt);by_cases hz : xs[k].a = 0
      · have HZ := ax (show apartF [] xs = false by rw [HA.o, HD.o, decide_eq_true hz]; rfl)
        have hzb : (xs[k].a == 0) = true := by simpa using hz
        clear hz;(go_wp2_with fail);go_ret;exact ⟨zjD HZ.o.symm, hB⟩
      · have hzb : (xs[k].a == 0) = false := by simpa using hz
        have HNZ := ax hz;clear hz;(go_wp2_with fail)
        go_loopw [4] (fun i wr => ∃ j : Nat, j ≤ k ∧ i = .int .i64 j ∧ aJ (∀ n, n < j → ∀ hn : n < xs.length, xs[n].a ≠ xs[k].a) ∧ Below w.heap.size w wr) (fun i _ => k - (intOf i).toNat)
        case atStart => exact ⟨0, Nat.zero_le _, rfl, fun n hn => absurd hn (by omega), hB⟩
        case round =>
          clear hB g0 g1 g2;obtain ⟨j, hj, rfl, HJ, hB⟩ := hrel;by_cases hjl : j < k
          · have hjx : j < xs.length := by omega
            obtain ⟨g0, g1, g2⟩ := (h.bz hB).cl hlt;obtain ⟨e0, e1, e2⟩ := (h.bz hB).cl hjx;cases he : (xs[j].a == xs[k].a)
            all_goals
              have hjx2 : (j : Int) < (xs.length : Int) := by omega
              have hkx2 : (k : Int) < (xs.length : Int) := by omega
              (go_wp2_with fail);(go_quiet (fail));have hBq := below_drewN hB nq;generalize wr.drewN nq = w2 at hBq ⊢;(go_wp2_with fail)
            · go_round
              case rel =>
                refine ⟨j + 1, by omega, by go_num, fun n hn hx => ?_, hBq⟩;by_cases e : n = j
                · subst e; simpa using he
                · exact HJ.o n (by omega) hx
              case measure => simp [intOf]; omega
            · go_ret
              refine ⟨zjD ?_, hBq⟩;have hm : xs[k].a ∈ (xs.take k).map Atm.a := List.mem_map.2 ⟨xs[j], by rw [List.mem_take_iff_getElem]; exact ⟨j, by omega, rfl⟩, by simpa using he⟩;rw [HA.o, HD.o, decide_eq_true hm]; simp
          · obtain rfl : j = k := by omega
            have hm : xs[j].a ∉ (xs.take j).map Atm.a := fun hm => by
              obtain ⟨y, hy, ey⟩ := List.mem_map.1 hm;rw [List.mem_take_iff_getElem] at hy;obtain ⟨n, hn, en⟩ := hy;have hn' : n < j := by omega
              exact HJ.o n hn' (by omega) (by rw [en]; exact ey)
            have HZ := ax (show apartF [] xs = apartF ((xs.take (j + 1)).map Atm.a) (xs.drop (j + 1)) by rw [HA.o, HD.o, decide_eq_false hm, decide_eq_false HNZ.o]; simp);clear hm;(go_wp2_with fail)
            go_round
            case rel => exact ⟨j + 1, by omega, by go_num, HZ, hB⟩
            case measure => simp [intOf]; omega
    · obtain rfl : k = xs.length := by omega
      (go_wp2_with fail);go_ret;exact ⟨zjD (by rw [HA.o, List.drop_length]; rfl), hB⟩
theorem c_spec_l5Filled {lo hi lo' hi':Nat} (A B:Option Addr) (c0 c1:Nat) (xs:List Atm) (c:List Int) (w:World) (h:AtomsV w lo hi A xs) (h':IntsV w lo' hi' B c) (hc:c.length=9) (hx:AtomsOk xs) :
  Calls Tryz.prog 209 #[.slice A xs.length c0,.slice B c.length c1] w fun e w'=>∃ r,e=.returned r∧AtomsO w' w.heap.size r (filledL xs c)∧Below w.heap.size w w':=by
 have hl:=h.le;obtain ⟨pb,ob,rfl,lpb⟩:=h'.blt (k:=0) (by omega);have HC:=ax hc;have HX:=ax hx;have H':=ax h';clear hx h';rw[hc];clear hc;(go_enter Tryz.func209,Tryz.ntmps209);(go_wp2_with fail)
 go_loopw [5,6] (fun r i wr=>∃ (k:Nat) (D:Option Addr) (n e:Nat),k≤xs.length∧i=.int .i64 k∧n=(filledL (xs.take k) c).length∧r=.slice D n e∧AtomsO wr w.heap.size (.slice D n e) (filledL (xs.take k) c)∧Below w.heap.size w wr) (fun _ i _=>xs.length - (intOf i).toNat)
 case atStart=>exact ⟨0,some ⟨w.heap.size,0,none⟩,0,0,Nat.zero_le _,rfl,rfl,rfl,AtomsO.empty w,bel⟩
 case round=>
  obtain ⟨k,D,n,e,hkk,rfl,hn,rfl,of,hB⟩:=hrel;have HN:=ax hn
  have hnl:n≤k:=by
   rw[hn];exact Nat.le_trans (filledL_len _ _) (by simp;omega)
  clear hn;by_cases hlt:k<xs.length
  ·obtain ⟨b,off,rfl,hbl⟩:=h.blt hlt;have HH:=ax h;have HT:=ax (filledL_take xs c k hlt);have hxk:=HX.o _ (List.getElem_mem hlt);obtain ⟨x,hxe⟩:∃ x,x=xs[k]:=⟨_,rfl⟩;have HCL:aJ (∀ w':World,Below w.heap.size w w'→w'.cell? ⟨b,off+k*3,none⟩=some (.int .i64 x.kind)∧w'.cell? ⟨b,off+k*3+1,none⟩=some (.int .i64 x.a)∧w'.cell? ⟨b,off+k*3+2,none⟩=some (.int .i64 x.b)):=fun w' hw'=>by rw[hxe];exact (HH.o.bz hw').cl hlt
   rw[←hxe] at HT hxk;clear hxe;obtain ⟨q,xa,xb⟩:=x;dsimp only at hxk HCL;obtain ⟨⟨a1,a2⟩,⟨b1,b2⟩⟩:=hxk;obtain ⟨xa,rfl⟩:=Int.eq_ofNat_of_zero_le a1;obtain ⟨xb,rfl⟩:=Int.eq_ofNat_of_zero_le b1;have ha9:(xa:Int)<9:=by omega
   have hb9:(xb:Int)<9:=by omega
   have HCI:aJ (∀ w':World,Below w.heap.size w w'→w'.cell? ⟨pb,ob+xa,none⟩=some (.int .i64 (cl c xa))∧w'.cell? ⟨pb,ob+xb,none⟩=some (.int .i64 (cl c xb))):=fun w' hw'=>⟨ints_cl (H'.o.bz hw') (by rw[HC.o];omega),ints_cl (H'.o.bz hw') (by rw[HC.o];omega)⟩;have hwz:=hB.size;have hlx:(k:Int)<(xs.length:Int):=by omega
   clear a1 a2 b1 b2 h;have HS:aJ (∀ w':World,Below w.heap.size w w'→(w'.cell? ⟨b,off+k*3,none⟩=some (.int .i64 q)∧w'.cell? ⟨b,off+k*3+1,none⟩=some (.int .i64 xa)∧w'.cell? ⟨b,off+k*3+2,none⟩=some (.int .i64 xb))∧w'.cell? ⟨pb,ob+xa,none⟩=some (.int .i64 (cl c xa))∧w'.cell? ⟨pb,ob+xb,none⟩=some (.int .i64 (cl c xb))):=fun w' hw'=>⟨HCL.o w' hw',HCI.o w' hw'⟩;(go_wp2_with fail);refine wp_region_noPanic ?_;refine wp_region_held_drew (S:=(fun w'=>(w'.cell? ⟨b,off+k*3,none⟩=some (.int .i64 q)∧w'.cell? ⟨b,off+k*3+1,none⟩=some (.int .i64 xa)∧w'.cell? ⟨b,off+k*3+2,none⟩=some (.int .i64 xb))∧w'.cell? ⟨pb,ob+xa,none⟩=some (.int .i64 (cl c xa))∧w'.cell? ⟨pb,ob+xb,none⟩=some (.int .i64 (cl c xb)))) (by kernel_rfl) (HS.o _ bel) (fun aH=>?_);refine tk2 0 rfl aH (h:=tk2 1 rfl aH (h:=tk2 2 rfl aH (h:=?_)));(try simp only[zz]);refine tk2 3 rfl aH (h:=tk2 4 rfl aH (h:=tk2 5 rfl aH (h:=?_)));(try simp only[zz]);refine tk2 6 rfl aH (h:=tk2 7 rfl aH (h:=tk2 8 rfl aH (h:=?_)));(try simp only[zz]);refine tk2 9 rfl aH (h:=tk2 10 rfl aH (h:=tk2 11 rfl aH (h:=?_)));(try simp only[zz]);refine tk2 12 rfl aH (h:=tk2 13 rfl aH (h:=tk2 14 rfl aH (h:=?_)));(try simp only[zz]);refine tk2 15 rfl aH (h:=tk2 16 rfl aH (h:=tk2 17 rfl aH (h:=?_)));(try simp only[zz]);refine tk2 18 rfl aH (h:=tk2 19 rfl aH (h:=tk2 20 rfl aH (h:=?_)));(try simp only[zz]);refine tk2 21 rfl aH (h:=?_);refine rdc 22 rfl fun K hK=>?_;(try simp only[zz]);go_simp;refine hK.out _ _ (HS.o _ bel) ?_;clear aH hK K;intro aH;refine rdc 23 rfl fun K hK=>?_;(try simp only[zz]);go_simp;refine hK.out _ _ (HS.o _ bel) ?_;clear aH hK K;intro aH;(try simp only[zz]);refine dn1 ?_;clear aH;have kx:Blk (wr.alloc (.cells #[.int .i64 q,.int .i64 (cl c xa),.int .i64 (cl c xb)] tA)).drew wr.heap.size tA #[.int .i64 q,.int .i64 (cl c xa),.int .i64 (cl c xb)]:=blks;have hB2:Below w.heap.size w (wr.alloc (.cells #[.int .i64 q,.int .i64 (cl c xa),.int .i64 (cl c xb)] tA)).drew:=bel;have of2:=of.bz (w':=(wr.alloc (.cells #[.int .i64 q,.int .i64 (cl c xa),.int .i64 (cl c xb)] tA)).drew) bel;have hz2:wr.heap.size<(wr.alloc (.cells #[.int .i64 q,.int .i64 (cl c xa),.int .i64 (cl c xb)] tA)).drew.heap.size:=kx.lt;generalize (wr.alloc (.cells #[.int .i64 q,.int .i64 (cl c xa),.int .i64 (cl c xb)] tA)).drew=W2 at kx hB2 of2 hz2 ⊢
   have HF:aJ (∀ s t:Bool,(q == 1)=s→(cl c xa == cl c xb)=t→filledL (xs.take (k+1)) c=filledL (xs.take k) c++if (s || !t) then [⟨q,cl c xa,cl c xb⟩] else []):=by
    intro s t hs ht;rw[HT.o];have:Atm.fill c ⟨q,xa,xb⟩=(s || !t):=by rw[←hs,←ht];rfl
    rw[this];rfl
   have qx:=kx.cell;obtain ⟨u,hu⟩:∃ u,u=cl c xa:=⟨_,rfl⟩;obtain ⟨v,hv⟩:∃ v,v=cl c xb:=⟨_,rfl⟩;rw[←hu,←hv] at kx qx HF ⊢;clear hu hv HT HS HCI HCL of hB;cases hq:(q == 1)
   ·cases hab:(u == v)
    ·have HZ:aJ (filledL (xs.take (k+1)) c=filledL (xs.take k) c++[⟨q,u,v⟩]):=HF.o _ _ hq hab;(go_wp2_with (at_builtin;refine appAL rfl _ _ rfl (v:=.slice D n e) rfl (of2.bz (w':=W2.alloc (.cells #[.int .i64 q,.int .i64 u,.int .i64 v] tA)) bel) rfl (AtomsV.one' (Blk.newE rfl)) (by simp only[List.length_cons,List.length_nil];rw[←HN.o];omega) (by simp;omega) ?_;intro A' c' w2 of3 hg2 hB3))
     go_round
     case rel=>exact ⟨k+1,A',_,c',by omega,by go_num,rfl,by rw[HZ.o];simp,by rw[HZ.o];exact of3,Below.trans (bbox hB2 _) (hB3.mono (Nat.le_refl _))⟩
     case measure=>simp[intOf];omega
    ·have HZ:aJ (filledL (xs.take (k+1)) c=filledL (xs.take k) c++[]):=HF.o _ _ hq hab;(go_wp2_with fail)
     go_round
     case rel=>exact ⟨k+1,D,n,e,by omega,by go_num,by rw[HZ.o,List.append_nil];exact HN.o,rfl,by rw[HZ.o,List.append_nil];exact of2,hB2⟩
     case measure=>simp[intOf];omega
   ·have HZ:aJ (filledL (xs.take (k+1)) c=filledL (xs.take k) c++[⟨q,u,v⟩]):=HF.o _ _ hq rfl;(go_wp2_with (at_builtin;refine appAL rfl _ _ rfl (v:=.slice D n e) rfl (of2.bz (w':=W2.alloc (.cells #[.int .i64 q,.int .i64 u,.int .i64 v] tA)) bel) rfl (AtomsV.one' (Blk.newE rfl)) (by simp only[List.length_cons,List.length_nil];rw[←HN.o];omega) (by simp;omega) ?_;intro A' c' w2 of3 hg2 hB3))
    go_round
    case rel=>exact ⟨k+1,A',_,c',by omega,by go_num,rfl,by rw[HZ.o];simp,by rw[HZ.o];exact of3,Below.trans (bbox hB2 _) (hB3.mono (Nat.le_refl _))⟩
    case measure=>simp[intOf];omega
  ·obtain rfl:k=xs.length:=by omega
   (go_wp2_with fail);go_ret;refine ⟨_,rfl,?_,hB⟩;rw[List.take_length] at of;exact of
theorem opened_take (n:Nat) (h1:1≤n) (h9:n<9):opened.take (n+1)=opened.take n++[-1]:=by
 obtain rfl|rfl|rfl|rfl|rfl|rfl|rfl|rfl:n=1∨n=2∨n=3∨n=4∨n=5∨n=6∨n=7∨n=8:=by omega
 all_goals rfl
theorem c_spec_l5Open (w:World) :
  Calls Tryz.prog 200 #[] w fun e w'=>∃ r,e=.returned r∧IntsO w' w.heap.size r opened∧Below w.heap.size w w':=by
 (go_enter Tryz.func200,Tryz.ntmps200);(go_wp2_with fail)
 go_loopw [1] (fun r wr=>∃ (n:Nat) (D:Option Addr) (e:Nat),1≤n∧n≤9∧r=.slice D n e∧IntsO wr w.heap.size (.slice D n e) (opened.take n)∧Below w.heap.size w wr) (fun r _=>match r with | .slice _ n _=>9 - n|_=>0)
 case atStart=>exact ⟨1,some ⟨w.heap.size,0,none⟩,1,by omega,by omega,rfl,IntsO.one w 0 (Nat.le_refl _),bel⟩
 case round=>
  obtain ⟨n,D,e,h1,h9,rfl,o,hB⟩:=hrel;have hwz:=hB.size;by_cases hlt:n<9
  ·have hn8:(n:Int)≤8:=by omega
   have HT:=ax (opened_take n h1 hlt);have hll:aJ ((opened.take n).length=n):=by show _=_;rw[List.length_take];show min n 9=n;omega
   have o1:=o.bz (w':=wr.alloc (.cells #[.int .i64 (-1)] tI)) bel;(go_wp2_with (at_builtin;refine appI rfl _ _ rfl (v:=.slice D n e) rfl o1 wr.heap.size (-1) rfl (cell_box _ _ _) (by rw[hll.o];omega) (by simp;omega) ?_;intro g cc w2 o2 hg2 hB3;rw[hll.o,←HT.o] at o2;rw[hll.o]))
   go_round
   case rel=>exact ⟨n+1,_,_,by omega,by omega,rfl,o2,Below.trans bel hB3⟩
   case measure=>simp;omega
  ·obtain rfl:n=9:=by omega
   (go_wp2_with fail);go_ret;exact ⟨_,rfl,o,hB⟩
end
section
open Go Go.RowKit
def Turn (T : TypeId) (B : Nat) (W : World) (row : Option Nat) : Prop := ∀ r, row = some r → B ≤ r ∧ ∃ o : Obj, W.heap[r]? = some o ∧ (o.isCells = false ∨ ∃ cs, o = .cells cs T (0, 0))
def OwnT {β : Type} (T : TypeId) (B : Nat) (I : β → World → Prop) : Prop := ∀ s W W' row, I s W → W.grownBy W' row → Turn T B W row → I s W'
def TurnC (T : TypeId) (B : Nat) (W : World) (row : Option Nat) : Prop := ∀ r, row = some r → B ≤ r ∧ ∃ cs, W.heap[r]? = some (.cells cs T (0, 0))
def AbT {β : Type} (T : TypeId) (B : Nat) (J : β → World → Prop) : Prop := ∀ s W W' row, J s W → W.grownBy W' row → TurnC T B W row → J s W'
structure Kept (T1 T2 : TypeId) (n₀ : Nat) (W W' : World) : Prop where
  bz : Below n₀ W W'
  keep : ∀ (g : Nat) (t : TypeId) (cs : Array Value), (t = T1 ∨ t = T2) → Blk W g t cs → Blk W' g t cs
section
variable {T1 T2 T : TypeId} {n₀ B : Nat} {A W W' W2 : World}
theorem Kept.refl (W : World) : Kept T1 T2 n₀ W W := ⟨Below.refl _ _, fun _ _ _ _ h => h⟩
theorem Kept.trans (h : Kept T1 T2 n₀ A W) (k : Kept T1 T2 n₀ W W') : Kept T1 T2 n₀ A W' := ⟨h.bz.trans k.bz, fun g t cs ht hb => k.keep g t cs ht (h.keep g t cs ht hb)⟩
theorem Kept.nz (h : Below W.heap.size W W') (hn : n₀ ≤ W.heap.size) : Kept T1 T2 n₀ W W' := ⟨h.mono hn, fun _ _ _ _ hb => hb.nz h⟩
theorem Kept.alloc (hn : n₀ ≤ W.heap.size) (o : Obj) : Kept T1 T2 n₀ W (W.alloc o) := ⟨(Below.refl _ _).alloc hn _, fun _ _ _ _ hb => hb.alloc o⟩
theorem Kept.set {cs : Array Value} (hk : Blk W B T cs) (hn : n₀ ≤ B) (h1 : T ≠ T1) (h2 : T ≠ T2) (i : Nat) (u : Value) : Kept T1 T2 n₀ W (W.setCell ⟨B, i, none⟩ u) :=
  ⟨(Below.refl _ _).setCell (p := ⟨B, i, none⟩) hn _, fun g t cs ht hb => hb.far (p := ⟨B, i, none⟩) (by
    intro e;have e : g = B := e;subst e;rcases ht with rfl | rfl
    · exact (hb.ne_ hk (fun e => h1 e.symm)) rfl
    · exact (hb.ne_ hk (fun e => h2 e.symm)) rfl) _⟩
theorem Kept.put {l : Nat} {o : Obj} (o' : Obj) (hn : n₀ ≤ l) (hl : W.heap[l]? = some o) (ho : o.isCells = false) : Kept T1 T2 n₀ W (W.putObj l o') :=
  ⟨(Below.refl n₀ W).grown (grownBy_putObj' W l o') (by have := (Array.getElem?_eq_some_iff.1 hl).1; omega) (fun k e => by cases e; omega),
   fun g t cs _ hb => (World.putObj_heap_other (fun e => by subst e; unfold Blk at hb; rw [hl] at hb; cases hb; cases ho)).trans hb⟩
theorem OwnT.put {β : Type} {I : β → World → Prop} (h : OwnT T B I) {s : β} {l : Nat} {o : Obj} (o' : Obj) (hs : I s W) (hB : B ≤ l) (hl : W.heap[l]? = some o) (ho : o.isCells = false) : I s (W.putObj l o') :=
  h s W _ (some l) hs (grownBy_putObj' W l o') (fun r e => by cases e; exact ⟨hB, o, hl, Or.inl ho⟩)
theorem OwnT.alloc {β : Type} {I : β → World → Prop} (h : OwnT T B I) {s : β} (o : Obj) (hs : I s W) : I s (W.alloc o) :=
  h s W _ none hs (World.grownBy_alloc W o none) (fun r e => by cases e)
theorem grown_of_below {row : Option Nat} (h : Below W.heap.size W W') : W.grownBy W' row := ⟨h.os, h.tape, h.output, h.size, fun k hk _ => h.block k hk⟩
theorem AbT.nz {β : Type} {J : β → World → Prop} (h : AbT T B J) {s : β} (hs : J s W) (hb : Below W.heap.size W W') : J s W' := h s W W' none hs (grown_of_below hb) (fun r e => by cases e)
theorem AbT.set {β : Type} {J : β → World → Prop} (h : AbT T B J) {s : β} (hs : J s W) {g : Nat} {cs : Array Value} (hk : Blk W g T cs) (hg : B ≤ g) (i : Nat) (u : Value) : J s (W.setCell ⟨g, i, none⟩ u) :=
  h s W _ (some g) hs ⟨rfl, rfl, rfl, by simp, fun k hk' hne => Below.heap_setCell W ⟨g, i, none⟩ u k (fun e => hne (by rw [e]))⟩ (fun r e => by cases e; exact ⟨hg, cs, hk⟩)

theorem OwnT.and {β : Type} {I I' : β → World → Prop} (h : OwnT T B I) (h' : OwnT T B I') : OwnT T B (fun s W => I s W ∧ I' s W) := fun s W W' row hs hg hr => ⟨h s W W' row hs.1 hg hr, h' s W W' row hs.2 hg hr⟩
theorem Blk.turn {g : Nat} {t : TypeId} {cs : Array Value} {row : Option Nat} (h : Blk W g t cs) (hg : W.grownBy W' row) (hr : Turn T B W row) (ht : t ≠ T ∨ g < B) : Blk W' g t cs :=
  h.grown hg (fun e => by
    obtain ⟨hb, o, ho, hc⟩ := hr g e.symm;unfold Blk at h;rw [h] at ho;cases ho;rcases hc with hc | ⟨cs', hc⟩
    · cases hc
    · injection hc with _ e2
      rcases ht with ht | ht
      · exact ht e2
      · omega)
theorem Below.turn {row : Option Nat} (h : Below n₀ A W) (hg : W.grownBy W' row) (hr : Turn T B W row) (hn : n₀ ≤ B) (hw : n₀ ≤ W.heap.size) : Below n₀ A W' :=
  h.grown hg hw (fun k e => by have := (hr k e).1; omega)
end

def postT {α : Type} (B : Nat) (Kp : World → World → Prop) (I : List α → World → Prop) (Ix : Code → List α → World → Prop) (xs : List α) (W : World) : Exit → Act → World → Prop
  | .normal, _, W' => KeepsFrom B W W' ∧ Kp W W' ∧ I xs W'
  | .ret, _, W' => KeepsFrom B W W' ∧ Ix .ret xs W'
  | .exit id, _, W' => KeepsFrom B W W' ∧ Ix (.exit id) xs W'
  | .goto t, _, W' => KeepsFrom B W W' ∧ Ix (.goto t) xs W'
  | .panic _, _, _ => False
  | .outgrown, _, _ => False
def SeqT {α : Type} (P : Program) (g : Nat) (lb : Array Value) (encs : α → Array Value) (T : TypeId) (Kp : World → World → Prop) (Adm S Sp : List α → Prop) (w : World) : Prop :=
  ∀ (n l : Nat) (J Jx : List α → World → Prop) (W : World), Below w.heap.size w W → AbT T W.heap.size J → AbT T W.heap.size Jx →
    (∀ m pre x W1, J pre W1 → Adm (pre ++ [x]) → YieldAt Fence.wide m P l (encs x) W1 fun e W' =>
      (e = .returned (.bool true) ∧ J (pre ++ [x]) W' ∧ Kp W1 W') ∨ (e = .returned (.bool false) ∧ Jx (pre ++ [x]) W')) →
    J [] W →
    CallsIn Fence.wide n P g (#[.func (.yield l) #[] #[]] ++ lb) W fun e W' => (∃ v, e = .returned v) ∧ ((∃ xs, S xs ∧ J xs W') ∨ (∃ pre, Sp pre ∧ Jx pre W'))

variable {n : Nat} {P : Program}
theorem wp_rangeT {α : Type} {g : Operand} {ps : Array Tmp} {assign body : Code} {Q : Exit → Act → World → Prop} {a : Act} {w : World}
    {gf : Nat} {lb : Array Value} (hg : a.eval g = .func (.func gf) #[] lb) (eg : ∀ args w, (callFunc gf args).run P w = .ok (.enter gf args) w)
    {encs : α → Array Value} {T : TypeId} {Kp : World → World → Prop} {Adm S Sp : List α → Prop} {w0 : World} (hseq : SeqT P gf lb encs T Kp Adm S Sp w0)
    (hKt : ∀ {A B C : World}, Kp A B → Kp B C → Kp A C) (hKb : ∀ (W : World) (l : Nat) (o o' : Obj), w.heap.size ≤ l → W.heap[l]? = some o → o.isCells = false → Kp W (W.putObj l o')) (hb0 : Below w0.heap.size w0 w) (hps : ∀ x, (encs x).size = ps.size)
    (I : List α → World → Prop) (Ix : Code → List α → World → Prop) (hI : OwnT T w.heap.size I) (hIx : ∀ c, OwnT T w.heap.size (Ix c)) (h0 : I [] w)
    (hround : ∀ (l : Nat) (pre : List α) (x : α) (W : World), w.heap.size ≤ l → I pre W → Adm (pre ++ [x]) →
      assign.wpIn (Fence.wide.inRound l) (n - 1 - 1) P (Exit.then (fun a1 W1 => KeepsFrom w.heap.size W W1 ∧ Kp W W1 ∧ ∀ (o o' : Obj), W1.heap[l]? = some o → o.isCells = false →
        body.wpIn (Fence.wide.inRound l) (n - 1 - 1) P (postT w.heap.size Kp I Ix (pre ++ [x]) (W1.putObj l o')) a1 (W1.putObj l o')) (fun _ _ _ => False)) { tmps := (ps.zip (encs x)).foldl (fun t (p, v) => t.setIfInBounds p v) a.tmps, defers := [] } W)
    (hdone : ∀ (D : Nat) (xs : List α) (W : World), w.heap.size ≤ D → S xs → I xs W → W.heap[D]? = some (.deferred (some [])) → Q .normal { a with defers := { target := .collected D, args := #[] } :: a.defers } W)
    (hstop : ∀ (D : Nat) (c : Code) (pre : List α) (W : World), w.heap.size ≤ D → Sp pre → Ix c pre W → W.heap[D]? = some (.deferred (some [])) → c.wpIn Fence.wide n P Q { a with defers := { target := .collected D, args := #[] } :: a.defers } W) :
    (Code.rangeFunc g ps assign body).wpIn Fence.wide n P Q a w := by
  refine wpIn_rangeFunc fun fn hfn => ?_;show ∃ (l : Nat) (mark : List Deferred) (w₁ : World) (d : Deferred) (w₁' : World) (f : FuncId) (args : Array Value) (w₂ : World), (Instr.enterLoop fn a.tmps ps assign body none).run P w = .ok (l, mark) w₁ ∧ _
  let rec_ : LoopState → Option Code → Loop := fun st pe => { state := st, pending := pe, fn, tmps := a.tmps, params := ps, assign, body, defers := w.heap.size }
  let W1 := (w.alloc (.deferred (some []))).alloc (.loop (rec_ .ready none))
  have hL1 : W1.heap[w.heap.size + 1]? = some (.loop (rec_ .ready none)) := by
    have := World.alloc_heap_new (w.alloc (.deferred (some []))) (.loop (rec_ .ready none)); rwa [World.size_alloc] at this
  have hK1 : W1.heap[w.heap.size]? = some (.deferred (some [])) := (Below.heap_alloc _ _ _ (by simp)).trans (World.alloc_heap_new w _);have hs1 : W1.heap.size = w.heap.size + 1 + 1 := by simp [W1]
  have hcy : ∀ {X Y : World} {row : Option Nat}, TurnC T W1.heap.size X row → Turn T w.heap.size X row := fun h r e => by
    obtain ⟨h1, cs, h2⟩ := h r e;exact ⟨by omega, _, h2, Or.inr ⟨cs, rfl⟩⟩
  have hst : ∀ {X Y : World} {row : Option Nat} {k : Nat} {o : Obj}, X.grownBy Y row → TurnC T W1.heap.size X row → X.heap[k]? = some o → o.isCells = false → Y.heap[k]? = some o := fun hg' hr hk ho =>
    (hg'.block _ (Array.getElem?_eq_some_iff.1 hk).1 (fun e => by
      obtain ⟨-, cs, h2⟩ := hr _ e.symm
      rw [hk] at h2; cases h2; cases ho)).trans hk
  refine ⟨w.heap.size + 1, [{ target := .collected w.heap.size, args := #[] }], W1, { target := .fn (.func gf) lb, args := #[.func (.yield (w.heap.size + 1)) #[] #[]] }, W1, gf,
    #[.func (.yield (w.heap.size + 1)) #[] #[]] ++ lb, W1, run_enterLoop_outer _ _ _ _ _, ?_, fun _ _ => trivial, ?_, fun h => (by cases h), ?_⟩
  · simp only [resolve, hg]
    simp [go_sem]
  · simp [invoke, go_sem, eg]
  · refine (hseq (n - 1) (w.heap.size + 1)
      (fun pre W => I pre W ∧ W.heap[w.heap.size + 1]? = some (.loop (rec_ .ready none)) ∧ W.heap[w.heap.size]? = some (.deferred (some [])))
      (fun pre W => ∃ c, Ix c pre W ∧ W.heap[w.heap.size + 1]? = some (.loop (rec_ .done (some c))) ∧ W.heap[w.heap.size]? = some (.deferred (some [])))
      W1 (hb0.trans ((((Below.refl _ w).alloc (Nat.le_refl _) _).alloc (by simp) _).mono hb0.size))
      (fun s X Y row hs hg' hr => ⟨hI s X Y row hs.1 hg' (hcy (Y := Y) hr), hst hg' hr hs.2.1 rfl, hst hg' hr hs.2.2 rfl⟩)
      (fun s X Y row hs hg' hr => by
        obtain ⟨c, hc, hl, hk⟩ := hs
        exact ⟨c, hIx c s X Y row hc hg' (hcy (Y := Y) hr), hst hg' hr hl rfl, hst hg' hr hk rfl⟩)
      ?_ ⟨hI.alloc _ (hI.alloc _ h0), hL1, hK1⟩).mono ?_
    · rintro m pre x W ⟨hi, hl, hk⟩ hadm
      have hlt : w.heap.size + 1 < W.heap.size := (Array.getElem?_eq_some_iff.1 hl).1;have hy := run_yield (P := P) (args := encs x) hl (hps x);refine ⟨fn, _, assign, body, hy, ?_⟩
      have hdep : ∀ {m m' : Nat} {l : Nat} {f : FuncId} {tmps : Array Value} {assign body : Code} {w : World} {R : Ending → World → Prop}, RoundIn Fence.wide m P l f tmps assign body w R → RoundIn Fence.wide m' P l f tmps assign body w R :=
        fun h => ⟨h.1, fun c cs _ => h.2 c cs (room_wide _)⟩
      refine hdep (m := n - 1 - 1) (roundIn_of_wpIn trivial (wpIn_mono (hround (w.heap.size + 1) pre x W (by omega) hi hadm) ?_));rintro e a2 W2 hp
      cases e with
      | normal =>
        obtain ⟨hkf, hkp, hb⟩ := hp;have hl1 := hkf.same _ _ (by omega) hl rfl;have hk1 := hkf.same _ _ (Nat.le_refl _) hk rfl;refine ⟨_, run_beginRound hl1 rfl, ?_⟩;have hlt2 : w.heap.size + 1 < W2.heap.size := (Array.getElem?_eq_some_iff.1 hl1).1;have hl2 : (W2.putObj (w.heap.size + 1) (.loop { rec_ .ready none with state := .busy })).heap[w.heap.size + 1]? = some (.loop { rec_ .ready none with state := .busy }) := World.putObj_heap_same hlt2;have hk2 : (W2.putObj (w.heap.size + 1) (.loop { rec_ .ready none with state := .busy })).heap[w.heap.size]? = some (.deferred (some [])) := (World.putObj_heap_other (by omega)).trans hk1;have hw2 : Kp W2 (W2.putObj (w.heap.size + 1) (.loop { rec_ .ready none with state := .busy })) := hKb _ _ _ _ (by omega) hl1 rfl;refine wpIn_mono (hb _ (.loop { rec_ .ready none with state := .busy }) hl1 rfl) ?_
        have fin : ∀ (jump : Option Code) (W3 : World), KeepsFrom w.heap.size (W2.putObj (w.heap.size + 1) (.loop { rec_ .ready none with state := .busy })) W3 →
            (Instr.endRound (w.heap.size + 1) jump).run P W3 = .ok (.bool jump.isNone) (W3.putObj (w.heap.size + 1) (.loop (rec_ (if jump.isNone then .ready else .done) jump))) ∧
            W3.heap[w.heap.size + 1]? = some (.loop { rec_ .ready none with state := .busy }) ∧
            (W3.putObj (w.heap.size + 1) (.loop (rec_ (if jump.isNone then .ready else .done) jump))).heap[w.heap.size + 1]? = some (.loop (rec_ (if jump.isNone then .ready else .done) jump)) ∧
            (W3.putObj (w.heap.size + 1) (.loop (rec_ (if jump.isNone then .ready else .done) jump))).heap[w.heap.size]? = some (.deferred (some [])) := fun jump W3 hk3 => by
          have hl3 := hk3.same _ _ (by omega) hl2 rfl;exact ⟨run_endRound (P := P) jump hl3, hl3, World.putObj_heap_same (Array.getElem?_eq_some_iff.1 hl3).1, (World.putObj_heap_other (by omega)).trans (hk3.same _ _ (Nat.le_refl _) hk2 rfl)⟩
        rintro e a3 W3 hp
        cases e with
        | normal =>
          obtain ⟨hk3, hkp3, hi3⟩ := hp;obtain ⟨hr, hl3, hl4, hk4⟩ := fin none W3 hk3;exact ⟨_, _, hr, .inl ⟨rfl, ⟨hI.put _ hi3 (by omega) hl3 rfl, hl4, hk4⟩, hKt (hKt (hKt hkp hw2) hkp3) (hKb _ _ _ _ (by omega) hl3 rfl)⟩⟩
        | ret =>
          obtain ⟨hk3, hi3⟩ := hp;obtain ⟨hr, hl3, hl4, hk4⟩ := fin (some .ret) W3 hk3;exact ⟨_, _, hr, .inr ⟨rfl, .ret, (hIx _).put _ hi3 (by omega) hl3 rfl, hl4, hk4⟩⟩
        | exit id =>
          obtain ⟨hk3, hi3⟩ := hp;obtain ⟨hr, hl3, hl4, hk4⟩ := fin (some (.exit id)) W3 hk3;exact ⟨_, _, hr, .inr ⟨rfl, .exit id, (hIx _).put _ hi3 (by omega) hl3 rfl, hl4, hk4⟩⟩
        | goto t =>
          obtain ⟨hk3, hi3⟩ := hp;obtain ⟨hr, hl3, hl4, hk4⟩ := fin (some (.goto t)) W3 hk3;exact ⟨_, _, hr, .inr ⟨rfl, .goto t, (hIx _).put _ hi3 (by omega) hl3 rfl, hl4, hk4⟩⟩
        | panic ch => exact hp.elim
        | outgrown => exact hp.elim
      | ret => exact hp.elim
      | exit id => exact hp.elim
      | goto t => exact hp.elim
      | panic ch => exact hp.elim
      | outgrown => exact hp.elim
    · rintro e W2 ⟨⟨v, rfl⟩, (⟨xs, hS, hi, hl, hk⟩ | ⟨pre, hSp, c, hi, hl, hk⟩)⟩
      · exact ⟨none, _, run_endLoop (P := P) hl (by simp [rec_]), hdone _ xs _ (Nat.le_refl _) hS (hI.put _ hi (by omega) hl rfl) ((World.putObj_heap_other (by omega)).trans hk)⟩
      · exact ⟨some c, _, run_endLoop (P := P) hl (by simp [rec_]), hstop _ c pre _ (Nat.le_refl _) hSp ((hIx c).put _ hi (by omega) hl rfl) ((World.putObj_heap_other (by omega)).trans hk)⟩

/-! ### A region that draws its order, within a round -/
end
section
open Go Go.RowKit Go.Proofs
attribute [local go_sem ↓] Go.wp_at_zero Go.wp_at_succ
attribute [local go_sem] Oper.semAt_some
abbrev tAs:Nat:=37
abbrev case9 (c:List Int):Array Value:=#[.int .i64 (cl c 0),.int .i64 (cl c 1),.int .i64 (cl c 2),.int .i64 (cl c 3),.int .i64 (cl c 4),.int .i64 (cl c 5),.int .i64 (cl c 6),.int .i64 (cl c 7),.int .i64 (cl c 8)]
theorem case9_eq {c:List Int} (h:c.length=9):case9 c=(encI c).toArray:=by
 match c,h with
 | [c0,c1,c2,c3,c4,c5,c6,c7,c8],_=>rfl
theorem case9_set {c:List Int} (h:c.length=9) (m:Nat) (v:Int):(case9 c).setIfInBounds m (.int .i64 v)=case9 (c.set m v):=by
 rw[case9_eq h,case9_eq (by simpa using h)];simp[encI]
theorem Blk.case {w:World} {g:Nat} {t:TypeId} {c:List Int} (h:Blk w g t (case9 c)) (hc:c.length=9):Blk w g t (encI c).toArray:=by rw[←case9_eq hc];exact h
theorem Blk.caseSet {w:World} {g:Nat} {t:TypeId} {c:List Int} (h:Blk w g t (case9 c)) (hc:c.length=9) (m:Nat) (v:Int):Blk (w.setCell ⟨g,m,none⟩ (.int .i64 v)) g t (case9 (c.set m v)):=by
 rw[←case9_set hc];exact h.set_ _ _
theorem case9_cells {w:World} {g:Nat} {t:TypeId} {c:List Int} (h:Blk w g t (case9 c)) :
  w.cell? ⟨g,0,none⟩=some (.int .i64 (cl c 0))∧w.cell? ⟨g,1,none⟩=some (.int .i64 (cl c 1))∧w.cell? ⟨g,2,none⟩=some (.int .i64 (cl c 2))∧w.cell? ⟨g,3,none⟩=some (.int .i64 (cl c 3))∧w.cell? ⟨g,4,none⟩=some (.int .i64 (cl c 4))∧w.cell? ⟨g,5,none⟩=some (.int .i64 (cl c 5))∧w.cell? ⟨g,6,none⟩=some (.int .i64 (cl c 6))∧w.cell? ⟨g,7,none⟩=some (.int .i64 (cl c 7))∧w.cell? ⟨g,8,none⟩=some (.int .i64 (cl c 8)):=by
 have q:=h.cell;exact ⟨q 0,q 1,q 2,q 3,q 4,q 5,q 6,q 7,q 8⟩
theorem Rw.keepB {w w':World} {lo hi size n n₀:Nat} {A:Option Addr} {xs:List Value} (h:Rw w lo hi size A n xs) (hb:Below n₀ w w') (hh:hi≤n₀):Rw w' lo hi size A n xs:=h.keep fun b _ h2=>hb.block b (by omega)
theorem AsnV.keepB {w w':World} {lo hi n₀:Nat} {v:Value} {a:Asn} (h:AsnV w lo hi v a) (hb:Below n₀ w w') (hh:hi≤n₀):AsnV w' lo hi v a:=by
 obtain ⟨A1,c1,A2,c2,e,h1,h2⟩:=h;exact ⟨A1,c1,A2,c2,e,⟨h1.raw.keepB hb hh,h1.lim⟩,⟨h2.raw.keepB hb hh,h2.lim⟩⟩
abbrev CaseT (a:Asn) (S:Nat):={ c:List Int // c∈cases a S }
theorem CaseT.len {a:Asn} {S:Nat} (x:CaseT a S):x.1.length=9:=by
 have h:=x.2;unfold cases at h;exact (gen_ok S 9 zeros x.1 (by omega) rfl (List.mem_filter.1 h).1).1
theorem CaseT.pos {a:Asn} {S:Nat} (x:CaseT a S) (j:Nat) (hj:j<9):(S.testBit j=true→0≤cl x.1 j∧cl x.1 j≤j)∧(S.testBit j=false→cl x.1 j = -1):=by
 have h:=x.2;unfold cases at h;exact (gen_ok S 9 zeros x.1 (by omega) rfl (List.mem_filter.1 h).1).2.2 j (by omega) hj
def extAt (a:Asn) (S n:Nat) (c:List Int) (k:Nat):List (List Int):=if k<8 - n∧cl c k≠k then [] else if poss a (c.set (8 - n) k) (8 - n:Nat) then ext a S n (c.set (8 - n) k) else []
theorem ext_loop (a:Asn) (S n:Nat) (c:List Int) (h:S.testBit (8 - n)=true):ext a S (n+1) c=(List.range (9 - n)).flatMap (extAt a S n c):=by
 conv=>lhs;unfold ext
 rw[h,if_pos rfl];rfl
theorem range_pre {α:Type} {f:Nat→List α} {k n:Nat} (h:k<n) {ys:List α} (hy:ys <+: f k):(List.range k).flatMap f++ys <+: (List.range n).flatMap f:=by
 obtain ⟨zs,hz⟩:=hy;obtain ⟨m,rfl⟩:∃ m,n=k+(m+1):=⟨n - k - 1,by omega⟩;rw[List.range_add,List.range_succ_eq_map,List.map_cons,List.flatMap_append,List.flatMap_cons,Nat.add_zero,←hz];exact ⟨zs++(List.map (fun x=>k+x) (List.map Nat.succ (List.range m))).flatMap f,by simp[List.append_assoc]⟩
theorem Kept.setNew {T1 T2:TypeId} {n₀:Nat} {W W':World} (h:Kept T1 T2 n₀ W W') {p:Addr} (hp:W.heap.size≤p.block) (hn:n₀≤W.heap.size) (u:Value):Kept T1 T2 n₀ W (W'.setCell p u):=
 ⟨h.bz.setCell (by omega) _,fun g t cs ht hb=>(h.keep g t cs ht hb).far (by have:=hb.lt;omega) _⟩
theorem c_impl_extend {a:Asn} {S lo hi l n₀ B:Nat} {v:Value} (hv:a.valid=true) (hS:S<512) (hT:∀ t∈mz a,S.testBit t.toNat=true) (hhi:hi≤n₀)
  (J Jx:List (CaseT a S)→World→Prop) (hJ:AbT tTc B J)
  (hY:∀ m pre (x:CaseT a S) W,J pre W→(pre++[x]).map Subtype.val <+: cases a S→YieldAt Fence.wide m Tryz.prog l #[.agg (case9 x.1)] W fun e W'=>(e=.returned (.bool true)∧J (pre++[x]) W'∧Kept tTc tAs n₀ W W')∨(e=.returned (.bool false)∧Jx (pre++[x]) W')) :
  ∀ (n:Nat) (c:List Int) (pre:List (CaseT a S)) (W:World),n≤9→c.length=9→pre.map Subtype.val++ext a S n c <+: cases a S→(∀ j:Nat,j<9 - n→S.testBit j=true→0≤cl c j∧cl c j≤j)→AsnV W lo hi v a→B≤W.heap.size→n₀≤W.heap.size→J pre W→
   Calls Tryz.prog 202 #[.agg (case9 c),.int .i64 ((9 - n:Nat):Int),v,.int .u16 (S:Nat),.func (.yield l) #[] #[]] W fun e W'=>
    (e=.returned (.bool true)∧∃ ys:List (CaseT a S),ys.map Subtype.val=ext a S n c∧J (pre++ys) W'∧Kept tTc tAs n₀ W W')∨(e=.returned (.bool false)∧∃ ys:List (CaseT a S),ys.map Subtype.val <+: ext a S n c∧Jx (pre++ys) W'):=by
 intro n
 induction n with
 | zero=>
  intro c pre W _ hc hm _ hA hBW hn0 hJp;obtain ⟨A1,c1,A2,c2,rfl,-,-⟩:=hA;have hB0:Below W.heap.size W ((W.alloc (.cells (case9 c) tTc)).alloc (.cells #[.slice A1 a.facts.length c1,.slice A2 a.atoms.length c2] tAs)):=bel;have hJ1:=hJ.nz hJp hB0;have hx:c∈cases a S:=hm.subset (by simp[ext]);obtain ⟨fn,tmps,assign,body,hy,hR⟩:=hY 0 pre ⟨c,hx⟩ _ hJ1 (by simpa[ext] using hm);have hk0:=Kept.nz (T1:=tTc) (T2:=tAs) (n₀:=n₀) hB0 hn0;dsimp only at hy;have hR:=RoundIn.mono hR (R':=fun e W'=>(e=.returned (.bool true)∧J (pre++[⟨c,hx⟩]) W'∧Kept tTc tAs n₀ W W')∨(e=.returned (.bool false)∧Jx (pre++[⟨c,hx⟩]) W')) (fun e W' h=>h.elim (fun h=>Or.inl ⟨h.1,h.2.1,hk0.trans h.2.2⟩) Or.inr);clear hY hJ hk0 hJ1 hB0 hJp hm;refine (callsIn_wide (n:=1)).1 ?_;(refine callsIn_of_wp Tryz.func202 rfl trivial ?_ rfl;simp only[Tryz.ntmps202,List.size_toArray,List.length_cons,List.length_nil,Nat.reduceAdd,Nat.reduceSub,Array.replicate_succ,Array.replicate_zero,List.push_toArray,List.append_toArray,List.nil_append,List.cons_append])
  gi_wp2
  refine hR.mono ?_;rintro e W' (⟨rfl,h1,h2⟩|⟨rfl,h1⟩)
  ·gi_wp2
   go_ret;exact Or.inl ⟨rfl,[⟨c,hx⟩],by simp[ext],h1,h2⟩
  ·gi_wp2
   go_ret;exact Or.inr ⟨rfl,[⟨c,hx⟩],by simp[ext],h1⟩
 | succ n ih=>
  intro c pre W hn hc hm hcl hA hBW hn0 hJp;have hV:=ax hA;obtain ⟨A1,c1,A2,c2,rfl,-,-⟩:=hA;obtain ⟨m,hm8⟩:∃ m,m=8 - n:=⟨_,rfl⟩;have e1:((9 - n:Nat):Int)=(m:Int)+1:=by omega
  rw[show 9 - (n+1)=m from by omega] at hcl ⊢;have hmi:(m:Int)≤8:=by omega
  have hmi9:(m:Int)<9:=by omega
  have hit:jq (m:Int)=true:=by rw[zjA];omega
  have HO:=ax (Asn.valid_ok hv);have IH:=ax ih;have HJ:=ax hJ;have HJP:=ax hJp;have HM:=ax hm;have HCL:=ax hcl;have HM8:=ax hm8;have HT:=ax hT;have HC:=ax hc;have hmg:¬(8<(m:Int)):=by omega
  have hmn:=ax hn;have E1:=ax e1;clear ih hJ hJp hY hm hcl hT hm8 hc hn e1;obtain ⟨W2,hW2⟩:∃ W2,W2=((W.alloc (.cells (case9 c) tTc)).alloc (.cells #[.slice A1 a.facts.length c1,.slice A2 a.atoms.length c2] tAs)):=⟨_,rfl⟩;have k0:Blk W2 W.heap.size tTc (case9 c):=by rw[hW2];exact blks
  have k1:Blk W2 (W.heap.size+1) tAs #[.slice A1 a.facts.length c1,.slice A2 a.atoms.length c2]:=by rw[hW2];exact blks
  have hB:Below W.heap.size W W2:=by rw[hW2];exact bel
  have HW2:=ax hW2;clear hW2;(go_enter Tryz.func202,Tryz.ntmps202);(go_wp2_with fail);refine (c_impl_tHas S (m:Int) _ hS).mono ?_;rintro e W3 ⟨rfl,rfl⟩;rw[hit,Int.toNat_natCast,Bool.true_and,←HW2.o];have lk0:=k0.lt;have lk1:=k1.lt;have rk0:=k0.frozen;clear HW2;cases ht:S.testBit m
  ·have HTS:=ax ht
   have HE:aJ (ext a S (n+1) c=ext a S n (c.set m (-1))):=by
    show _=_
    conv=>lhs;unfold ext
    rw[←HM8.o,ht];rfl
   have k0':=k0.caseSet HC.o m (-1);obtain ⟨p0,p1,p2,p3,p4,p5,p6,p7,p8⟩:=case9_cells k0';have qm:W2.cell? ⟨W.heap.size,m,none⟩=some (.int .i64 (cl c m)):=case_cell (k0.case HC.o) (by rw[HC.o];omega);have qk1:=(k1.far (p:=⟨W.heap.size,m,none⟩) (by simp) (.int .i64 (-1))).cell;have hB3:Below W.heap.size W (W2.setCell ⟨W.heap.size,m,none⟩ (.int .i64 (-1))):=bel;have hz:=hB3.size;clear ht k0 k1 k0' hB;(go_wp2_with fail)
   have ih1:=IH.o (c.set m (-1)) pre _ (by have:=hmn.o;omega) (by simpa using HC.o) (by rw[←HE.o];exact HM.o) (fun j hj hSj=>by
    have:=HM8.o;rw[cl_set HC.o (by omega) _ (by omega)];by_cases ej:j=m
    ·subst ej;rw[HTS.o] at hSj;cases hSj
    ·rw[if_neg (by omega)];exact HCL.o j (by omega) hSj) (hV.o.bz hB3) (Nat.le_trans hBW hz) (Nat.le_trans hn0 hz) (HJ.o.nz HJP.o hB3)
   rw[E1.o] at ih1;refine ih1.mono ?_;clear ih1;rintro e W' (⟨rfl,ys,y1,y2,y3⟩|⟨rfl,ys,y1,y2⟩)
   ·have Y:=ax (⟨y1,y2,y3⟩:_∧_∧_);clear y1 y2 y3;(go_wp2_with fail);go_ret;exact Or.inl ⟨rfl,ys,by rw[HE.o];exact Y.o.1,Y.o.2.1,(Kept.nz hB3 hn0).trans Y.o.2.2⟩
   ·have Y:=ax (⟨y1,y2⟩:_∧_);clear y1 y2;(go_wp2_with fail);go_ret;exact Or.inr ⟨rfl,ys,by rw[HE.o];exact Y.o.1,Y.o.2⟩
  ·have HTS:=ax ht;have HE:=ax (ext_loop a S n c (by rw[←HM8.o];exact ht));clear ht;(go_wp2_with fail)
   go_loopw [11] (fun i wr=>∃ (k:Nat) (d:List Int) (ys:List (CaseT a S)),k≤m+1∧i=.int .i64 k∧aJ (d.length=9)∧aJ (∀ v,d.set m v=c.set m v)∧aJ (ys.map Subtype.val=(List.range k).flatMap (extAt a S n c))∧Blk wr W.heap.size tTc (case9 d)∧Blk wr (W.heap.size+1) tAs #[.slice A1 a.facts.length c1,.slice A2 a.atoms.length c2]∧aJ (J (pre++ys) wr)∧aJ (Kept tTc tAs n₀ W wr)) (fun i _=>9 - (intOf i).toNat)
   case atStart=>exact ⟨0,c,[],Nat.zero_le _,rfl,HC,fun _=>rfl,rfl,k0,k1,by rw[List.append_nil];exact HJ.o.nz HJP.o hB,Kept.nz hB hn0⟩
   case round=>
    clear k0 k1 lk0 lk1 rk0 hB;obtain ⟨k,d,ys,hk,rfl,HDL,HDS,HYS,k0,k1,HJW,HKW⟩:=hrel;have lk0:=k0.lt;have lk1:=k1.lt;have rk0:=k0.frozen;by_cases hlt:k≤m
    ·have hki:(k:Int)≤(m:Int):=by omega
     have hk9:(k:Int)<9:=by omega
     have hkc:wr.cell? ⟨W.heap.size,k,none⟩=some (.int .i64 (cl d k)):=case_cell (k0.case HDL.o) (by rw[HDL.o];omega);have HNX:aJ ((List.range (k+1)).flatMap (extAt a S n c)=(List.range k).flatMap (extAt a S n c)++extAt a S n c k):=by show _=_;rw[List.range_succ,List.flatMap_append];simp
     have hdc:k<m→cl d k=cl c k:=fun h=>by
      have h1:=cl_set HDL.o (t:=m) (by omega) 0 (j:=(k:Int)) (by omega);have h2:=cl_set HC.o (t:=m) (by omega) 0 (j:=(k:Int)) (by omega);rw[if_neg (by omega)] at h1 h2;rw[←h1,←h2,HDS.o]
     have HDC:=ax hdc;clear hdc;by_cases hskip:k<m∧cl c k≠k
     ·have HX:aJ (extAt a S n c k=[]):=by show _=_;rw[extAt,if_pos (by rw[←HM8.o];exact hskip)]
      have hkm:(k:Int)<(m:Int):=by omega
      have hne:(cl d k != (k:Int))=true:=by rw[HDC.o hskip.1];simpa using hskip.2
      clear hskip hki hlt;(go_wp2_with fail)
      go_round
      case rel=>exact ⟨k+1,d,ys,by omega,by go_num,HDL,HDS,by show _=_;rw[HNX.o,HX.o,List.append_nil];exact HYS.o,k0,k1,HJW,HKW⟩
      case measure=>simp[intOf];omega
     ·have hsk2:k<m→(cl d k != (k:Int))=false:=fun h=>by
       rw[HDC.o h]
       cases Int.decEq (cl c k) k with
       | isTrue h=>simp[h]
       | isFalse h'=>exact absurd ⟨h,h'⟩ hskip
      have HX:aJ (extAt a S n c k=if poss a (c.set m k) m then ext a S n (c.set m k) else []):=by
       show _=_;rw[extAt,←HM8.o,if_neg hskip]
      clear hskip;have k0':Blk (wr.setCell ⟨W.heap.size,m,none⟩ (.int .i64 k)) W.heap.size tTc (case9 (c.set m k)):=by rw[←HDS.o k];exact k0.caseSet HDL.o m k
      have k1':=k1.far (p:=⟨W.heap.size,m,none⟩) (by simp) (.int .i64 (k:Int));have qk1:=k1'.cell;have qm:wr.cell? ⟨W.heap.size,m,none⟩=some (.int .i64 (cl d m)):=case_cell (k0.case HDL.o) (by rw[HDL.o];omega);have HKW':=ax (HKW.o.setNew (p:=⟨W.heap.size,m,none⟩) (Nat.le_refl _) hn0 (.int .i64 (k:Int)));have HJW':=ax (HJ.o.set HJW.o k0 hBW m (.int .i64 (k:Int)));have HA':=ax (hV.o.keepB HKW'.o.bz hhi);have hcs:(c.set m (k:Int)).length=9:=by simpa using HC.o
      have HCS:=ax hcs
      have hcl':∀ j:Nat,j≤m→S.testBit j=true→0≤cl (c.set m (k:Int)) j∧cl (c.set m (k:Int)) j≤j:=fun j hj hSj=>by
       rw[cl_set HC.o (by omega) _ (by omega)]
       split
       ·omega
       ·exact HCL.o j (by omega) hSj
      have HCL':=ax hcl'
      have hpo:∀ x∈a.atoms,x.a≤(m:Int)→jq (cl (c.set m (k:Int)) x.a)=true:=fun x hx hxm=>by
       have h0:=(HO.o.2 x hx).1;obtain ⟨t,et⟩:=Int.eq_ofNat_of_zero_le h0.1;have hb:=HT.o x.a (by simp only[mz,List.mem_append,List.mem_flatMap];exact Or.inr ⟨x,hx,by simp[atomT]⟩);rw[et] at hb hxm ⊢;have:=hcl' t (by omega) (by simpa using hb);rw[zjA];omega
      have HPO:=ax hpo;clear hcl' hpo hcs k1;have K1':=ax k1';clear k1';have hwz:W.heap.size≤wr.heap.size:=by omega
      obtain hkm|hkm:k<m∨k=m:=by omega
      case' inl=>have h1:(k:Int)<(m:Int):=by omega
      case' inl=>have h2:=hsk2 hkm
      case' inr=>have h1:¬(k:Int)<(m:Int):=by omega
      all_goals
       clear hkm hsk2;(go_wp2_with fail);refine (c_impl_possible _ a (m:Int) (c.set m (k:Int)) W.heap.size _ HA'.o (k0'.case HCS.o) HCS.o HO.o.1 HO.o.2 HPO.o).mono ?_;rintro e w1 ⟨rfl,hB1⟩;have k0:=k0'.nz hB1;have k1:=K1'.o.nz hB1;replace qk1:=k1.cell;obtain ⟨p0,p1,p2,p3,p4,p5,p6,p7,p8⟩:=case9_cells k0;have hz:=hB1.size;simp only[World.size_setCell] at hz;have HKW1:=ax (HKW'.o.trans (Kept.nz hB1 (by simp only[World.size_setCell];omega)));have HJ1:=ax (HJ.o.nz HJW'.o hB1);have HA1:=ax (hV.o.keepB HKW1.o.bz hhi);clear hB1 qm k0' rk0;cases hps:poss a (c.set m (k:Int)) (m:Int)
       ·have HX2:=ax (show extAt a S n c k=[] by rw[HX.o,hps];rfl);clear hps;(go_wp2_with fail)
        go_round
        case rel=>exact ⟨k+1,c.set m (k:Int),ys,by omega,by go_num,HCS,fun v=>by rw[List.set_set],by show _=_;rw[HNX.o,HX2.o,List.append_nil];exact HYS.o,k0,k1,HJ1,HKW1⟩
        case measure=>simp[intOf];omega
       ·have HX2:=ax (show extAt a S n c k=ext a S n (c.set m (k:Int)) by rw[HX.o,hps];rfl);clear hps;have hk9n:k<9 - n:=by have:=HM8.o;have:=hmn.o;omega
        have ih1:=IH.o (c.set m (k:Int)) (pre++ys) w1 (by have:=hmn.o;omega) HCS.o (by
         refine List.IsPrefix.trans ?_ HM.o;rw[HE.o,List.map_append,HYS.o,List.append_assoc]
         exact (List.prefix_append_right_inj _).2 (range_pre hk9n (by rw[HX2.o];exact List.prefix_rfl))) (fun j hj=>HCL'.o j (by have:=HM8.o;have:=hmn.o;omega)) HA1.o (by omega) (by omega) HJ1.o
        rw[E1.o] at ih1;have IH1:=ax ih1;clear ih1;(go_wp2_with fail);refine IH1.o.mono ?_;rintro e W' (⟨rfl,ys2,y1,y2,y3⟩|⟨rfl,ys2,y1,y2⟩)
        ·have z0:=y3.keep _ _ _ (Or.inl rfl) k0;have z1:=y3.keep _ _ _ (Or.inr rfl) k1;have Y:=ax (⟨y1,y2,y3⟩:_∧_∧_);clear y1 y2 y3 k0 k1 qk1 p0 p1 p2 p3 p4 p5 p6 p7 p8;(go_wp2_with fail)
         go_round
         case rel=>exact ⟨k+1,c.set m (k:Int),ys++ys2,by omega,by go_num,HCS,fun v=>by rw[List.set_set],by show _=_;rw[HNX.o,HX2.o,List.map_append,Y.o.1,HYS.o],z0,z1,by rw[←List.append_assoc];exact Y.o.2.1,HKW1.o.trans Y.o.2.2⟩
         case measure=>simp[intOf];omega
        ·have Y:=ax (⟨y1,y2⟩:_∧_);clear y1 y2 k0 k1 qk1 p0 p1 p2 p3 p4 p5 p6 p7 p8;(go_wp2_with fail);go_ret;refine Or.inr ⟨rfl,ys++ys2,?_,by rw[←List.append_assoc];exact Y.o.2⟩;rw[HE.o,List.map_append,HYS.o];exact range_pre hk9n (by rw[HX2.o];exact Y.o.1)
    ·obtain rfl:k=m+1:=by omega
     (go_wp2_with fail);go_ret;refine Or.inl ⟨rfl,ys,?_,HJW.o,HKW.o⟩;rw[HE.o,HYS.o,show 9 - n=m+1 from by have:=HM8.o;have:=hmn.o;omega]
abbrev tTS:Nat:=100
def caseS (a:Asn) (F:Nat):Nat:=tins (tset (mz a)) 0|||F
theorem caseS_lt {a:Asn} {F:Nat} (h:F<512):caseS a F<512:=Nat.or_lt_two_pow (n:=9) (tins_lt (tset_lt _) 0) h
theorem caseS_bit (a:Asn) (F n:Nat):(caseS a F).testBit n=(decide (jq (n:Int)=true∧(n:Int)∈mz a) || decide (n=0) || F.testBit n):=by
 unfold caseS;rw[Nat.testBit_or,tins_bit,tset_bit]
 congr 2
 rw[decide_eq_decide];constructor
 ·rintro ⟨_,h⟩;omega
 ·intro h;subst h;exact ⟨by decide,rfl⟩
theorem caseS_zero (a:Asn) (F:Nat):(caseS a F).testBit 0=true:=by rw[caseS_bit];simp
theorem caseS_terms {a:Asn} (h:a.valid=true) (F:Nat):∀ t∈mz a,(caseS a F).testBit t.toNat=true:=by
 intro t ht;have hb:=termsL_ok h t ht;have:=zjA.1 hb;rw[caseS_bit];have e:((t.toNat:Nat):Int)=t:=by omega
 rw[e];simp[hb,ht]
theorem caseS_not {a:Asn} (h:a.valid=true) (F:Nat):∀ t:Nat,(caseS a F).testBit t=false→(∀ f∈a.facts,f.a≠t∧f.b≠t)∧(∀ x∈a.atoms,x.a≠t∧x.b≠t):=by
 intro t ht
 have key:(t:Int)∉mz a:=fun hm=>by
  have:=caseS_terms h F _ hm;rw[Int.toNat_natCast,ht] at this;cases this
 refine ⟨fun f hf=>⟨fun e=>key ?_,fun e=>key ?_⟩,fun x hx=>⟨fun e=>key ?_,fun e=>key ?_⟩⟩
 all_goals simp only[mz,List.mem_append,List.mem_flatMap]
 ·exact Or.inl ⟨f,hf,by simp[factT,e]⟩
 ·exact Or.inl ⟨f,hf,by simp[factT,e]⟩
 ·exact Or.inr ⟨x,hx,by simp[atomT,e]⟩
 ·exact Or.inr ⟨x,hx,by simp[atomT,e]⟩
theorem ext_caseS {a:Asn} (h:a.valid=true) (F:Nat):ext a (caseS a F) 9 zeros=cases a (caseS a F):=ext_cases (Asn.valid_ok h).1 (Asn.valid_ok h).2 (caseS_not h F)
theorem c_seq {a:Asn} {F lo hi n₀ gA gT:Nat} {A1 A2:Option Addr} {d1 d2:Nat} (w:World) (hv:a.valid=true) (hF:F<512) (hA:AsnV w lo hi (.agg #[.slice A1 a.facts.length d1,.slice A2 a.atoms.length d2]) a) (hhi:hi≤n₀) (hn:n₀≤w.heap.size)
  (kA:Blk w gA tAs #[.slice A1 a.facts.length d1,.slice A2 a.atoms.length d2]) (kT:Blk w gT tTS #[.int .u16 (caseS a F:Nat)]) :
  SeqT (α:=CaseT a (caseS a F)) Tryz.prog 201 #[.pointer (some ⟨gA,0,none⟩),.pointer (some ⟨gT,0,none⟩)] (fun x=>#[.agg (case9 x.1)]) tTc (Kept tTc tAs n₀) (fun p=>p.map Subtype.val <+: cases a (caseS a F)) (fun xs=>xs.map Subtype.val=cases a (caseS a F)) (fun pre=>pre.map Subtype.val <+: cases a (caseS a F)) w:=by
 intro n l J Jx W hW hJ hJx hY h0;have kA':=kA.nz hW;have kT':=kT.nz hW;have hA':=hA.bz hW;have hz:=hW.size;have hB1:Below W.heap.size W (W.alloc (.cells (case9 zeros) tTc)):=bel;have h1:=c_impl_extend hv (caseS_lt hF) (caseS_terms hv F) hhi J Jx hJ hY 9 zeros [] _ (by omega) rfl (by rw[ext_caseS hv];simp) (fun j hj=>by omega) (hA'.bz hB1) hB1.size (by have:=hB1.size;omega) (hJ.nz h0 hB1);rw[show ((9 - 9:Nat):Int)=0 from rfl,ext_caseS hv] at h1;have H1:=ax h1;have lA:=kA'.lt;have lT:=kT'.lt;have qA:=kA'.cell;have qT:=kT'.cell;clear h1 hY hJ hJx h0 hA' hA;refine callsIn_wide.2 ?_;(go_enter Tryz.func201,Tryz.ntmps201);(go_wp2_with fail);refine H1.o.mono ?_;rintro e W' (⟨rfl,ys,y1,y2,-⟩|⟨rfl,ys,y1,y2⟩)
 ·have Y:=ax (⟨y1,y2⟩:_∧_);clear y1 y2;(go_wp2_with fail)
  go_end0
  exact ⟨⟨_,rfl⟩,.inl ⟨ys,Y.o.1,Y.o.2⟩⟩
 ·have Y:=ax (⟨y1,y2⟩:_∧_);clear y1 y2;(go_wp2_with fail)
  go_end0
  exact ⟨⟨_,rfl⟩,.inr ⟨ys,Y.o.1,Y.o.2⟩⟩
theorem c_impl_possibleCases {lo hi:Nat} (A1 A2:Option Addr) (d1 d2:Nat) (a:Asn) (F:Nat) (w:World) (h:AsnV w lo hi (.agg #[.slice A1 a.facts.length d1,.slice A2 a.atoms.length d2]) a) (hF:F<512) :
  Calls Tryz.prog 152 #[.agg #[.slice A1 a.facts.length d1,.slice A2 a.atoms.length d2],.int .u16 (F:Nat)] w fun e w'=>∃ gA gT,e=.returned (.func (.func 201) #[] #[.pointer (some ⟨gA,0,none⟩),.pointer (some ⟨gT,0,none⟩)])∧
   w.heap.size≤gA∧w.heap.size≤gT∧Blk w' gA tAs #[.slice A1 a.facts.length d1,.slice A2 a.atoms.length d2]∧Blk w' gT tTS #[.int .u16 (caseS a F:Nat)]∧Below w.heap.size w w':=by
 have hV:=ax h;clear h;have hT:=tset_lt (mz a);have hT2:=tins_lt hT 0;have hU:=u16_or_nat (tins (tset (mz a)) 0) F (by omega) (by omega);(go_enter Tryz.func152,Tryz.ntmps152);(go_wp2_with fail);refine (c_impl_termsIn _ a _ (hV.o.bz bel)).mono ?_;rintro e w1 ⟨rfl,hB1⟩;have k0:Blk w1 w.heap.size tAs #[.slice A1 a.facts.length d1,.slice A2 a.atoms.length d2]:=Blk.nz blks hB1;have hB:Below w.heap.size w w1:=bgo (w:=w) bel hB1;have hz:=hB1.size;simp only[World.size_alloc] at hz;clear hB1;(go_wp2_with fail);refine (c_impl_with _ 0 _ hT).mono ?_;rintro e w2 ⟨rfl,rfl⟩;(go_wp2_with fail);go_ret;refine ⟨w.heap.size,w1.heap.size,rfl,Nat.le_refl _,by omega,k0.alloc _,?_,bel⟩;exact Blk.new _ _ _
theorem head_pre {y:List Int} {L:List (List Int)} (h:[y] <+: L):L.head?.getD zeros=y∧L.isEmpty=false:=by
 obtain ⟨zs,rfl⟩:=h;exact ⟨rfl,rfl⟩
abbrev set9 (w:World) (g:Nat) (v0 v1 v2 v3 v4 v5 v6 v7 v8:Value):World:=(((((((((w.setCell ⟨g,0,none⟩ v0).setCell ⟨g,1,none⟩ v1).setCell ⟨g,2,none⟩ v2).setCell ⟨g,3,none⟩ v3).setCell ⟨g,4,none⟩ v4).setCell ⟨g,5,none⟩ v5).setCell ⟨g,6,none⟩ v6).setCell ⟨g,7,none⟩ v7).setCell ⟨g,8,none⟩ v8)
theorem Blk.nine {w:World} {g:Nat} {t:TypeId} {a0 a1 a2 a3 a4 a5 a6 a7 a8 v0 v1 v2 v3 v4 v5 v6 v7 v8:Value} (h:Blk w g t #[a0,a1,a2,a3,a4,a5,a6,a7,a8]):Blk (set9 w g v0 v1 v2 v3 v4 v5 v6 v7 v8) g t #[v0,v1,v2,v3,v4,v5,v6,v7,v8]:=by
 have h0:=h.set_ 0 v0;simp only[List.setIfInBounds_toArray,List.set_cons_zero] at h0;have h1:=h0.set_ 1 v1;simp only[List.setIfInBounds_toArray,List.set_cons_zero,List.set_cons_succ] at h1;have h2:=h1.set_ 2 v2;simp only[List.setIfInBounds_toArray,List.set_cons_zero,List.set_cons_succ] at h2;have h3:=h2.set_ 3 v3;simp only[List.setIfInBounds_toArray,List.set_cons_zero,List.set_cons_succ] at h3;have h4:=h3.set_ 4 v4;simp only[List.setIfInBounds_toArray,List.set_cons_zero,List.set_cons_succ] at h4;have h5:=h4.set_ 5 v5;simp only[List.setIfInBounds_toArray,List.set_cons_zero,List.set_cons_succ] at h5;have h6:=h5.set_ 6 v6;simp only[List.setIfInBounds_toArray,List.set_cons_zero,List.set_cons_succ] at h6;have h7:=h6.set_ 7 v7;simp only[List.setIfInBounds_toArray,List.set_cons_zero,List.set_cons_succ] at h7;have h8:=h7.set_ 8 v8;simp only[List.setIfInBounds_toArray,List.set_cons_zero,List.set_cons_succ] at h8;exact h8
theorem Blk.nineFar {w:World} {g g2:Nat} {t:TypeId} {cs:Array Value} {v0 v1 v2 v3 v4 v5 v6 v7 v8:Value} (h:Blk w g2 t cs) (hn:g2≠g):Blk (set9 w g v0 v1 v2 v3 v4 v5 v6 v7 v8) g2 t cs:=
 ((((((((h.far (p:=⟨g,0,none⟩) hn v0).far (p:=⟨g,1,none⟩) hn v1).far (p:=⟨g,2,none⟩) hn v2).far (p:=⟨g,3,none⟩) hn v3).far (p:=⟨g,4,none⟩) hn v4).far (p:=⟨g,5,none⟩) hn v5).far (p:=⟨g,6,none⟩) hn v6).far (p:=⟨g,7,none⟩) hn v7).far (p:=⟨g,8,none⟩) hn v8
theorem below9 {w w0:World} {B g:Nat} {v0 v1 v2 v3 v4 v5 v6 v7 v8:Value} (h:Below B w0 w) (hn:B≤g):Below B w0 (set9 w g v0 v1 v2 v3 v4 v5 v6 v7 v8):=
 ((((((((h.setCell (p:=⟨g,0,none⟩) hn v0).setCell (p:=⟨g,1,none⟩) hn v1).setCell (p:=⟨g,2,none⟩) hn v2).setCell (p:=⟨g,3,none⟩) hn v3).setCell (p:=⟨g,4,none⟩) hn v4).setCell (p:=⟨g,5,none⟩) hn v5).setCell (p:=⟨g,6,none⟩) hn v6).setCell (p:=⟨g,7,none⟩) hn v7).setCell (p:=⟨g,8,none⟩) hn v8
theorem keeps9 {w:World} {g:Nat} {v0 v1 v2 v3 v4 v5 v6 v7 v8:Value}:KeepsOthers w (set9 w g v0 v1 v2 v3 v4 v5 v6 v7 v8):=
 ((((((((KeepsOthers.setCell _ _ _).trans (KeepsOthers.setCell _ _ _)).trans (KeepsOthers.setCell _ _ _)).trans (KeepsOthers.setCell _ _ _)).trans (KeepsOthers.setCell _ _ _)).trans (KeepsOthers.setCell _ _ _)).trans (KeepsOthers.setCell _ _ _)).trans (KeepsOthers.setCell _ _ _)).trans (KeepsOthers.setCell _ _ _)
theorem Kept.putl {T1 T2:TypeId} {n₀ B:Nat} (hn:n₀≤B) (W:World) (l:Nat) (o o':Obj) (hl:B≤l) (h:W.heap[l]? = some o) (hc:o.isCells=false):Kept T1 T2 n₀ W (W.putObj l o'):=Kept.put o' (by omega) h hc
theorem Blk.putl {W:World} {g l:Nat} {t:TypeId} {cs:Array Value} {o:Obj} (o':Obj) (hb:Blk W g t cs) (hl:W.heap[l]? = some o) (ho:o.isCells=false):Blk (W.putObj l o') g t cs:=
 (World.putObj_heap_other (fun e=>by subst e;unfold Blk at hb;rw[hl] at hb;cases hb;cases ho)).trans hb
theorem c_impl_firstCase {lo hi:Nat} (v:Value) (a:Asn) (w:World) (h:AsnV w lo hi v a) (hhi:hi≤w.heap.size) (hv:a.valid=true) :
  Calls Tryz.prog 238 #[v] w fun e w'=>e=.returned (.tuple #[.agg (case9 ((cases a (caseS a 0)).head?.getD zeros)),.bool (!(cases a (caseS a 0)).isEmpty)])∧Below w.heap.size w w':=by
 have hV:=ax h;obtain ⟨A1,c1,A2,c2,rfl,-,-⟩:=h;refine (callsIn_wide (n:=3)).1 ?_;(refine callsIn_of_wp_marks Tryz.func238 rfl trivial ?_ rfl;simp only[Tryz.ntmps238,List.size_toArray,List.length_cons,List.length_nil,Nat.reduceAdd,Nat.reduceSub,Array.replicate_succ,Array.replicate_zero,List.push_toArray,List.append_toArray,List.nil_append,List.cons_append])
 gi_wp2_with fail
 refine ⟨trivial,(callsIn_wide.2 (c_impl_possibleCases A1 A2 c1 c2 a 0 _ (hV.o.bz bel) (by decide))).mono ?_⟩;rintro e w1 ⟨gA,gT,rfl,hA,hT,kA,kT,hB1⟩;have kR0:Blk w1 (w.heap.size+1) tTc #[.int .i64 0,.int .i64 0,.int .i64 0,.int .i64 0,.int .i64 0,.int .i64 0,.int .i64 0,.int .i64 0,.int .i64 0]:=Blk.nz blks hB1;have kR:Blk w1 (w.heap.size+1) tTc (case9 zeros):=kR0;clear kR0;have kO:Blk w1 (w.heap.size+1+1) 4 #[.bool false]:=Blk.nz blks hB1;have hB:Below w.heap.size w w1:=bgo (w:=w) bel hB1;have hz:=hB1.size;simp only[World.size_alloc] at hz hA hT;have hAw:=hV.o.bz hB;clear hB1
 gi_wp2_with fail
 refine wp_rangeT (gf:=201) (lb:=#[.pointer (some ⟨gA,0,none⟩),.pointer (some ⟨gT,0,none⟩)]) rfl (enters_of Tryz.func201 (by kernel_rfl) rfl)
  (c_seq (n₀:=w.heap.size) w1 hv (by decide) hAw hhi (by omega) kA kT) (fun h k=>h.trans k) (Kept.putl (by omega)) (Below.refl _ _) (fun _=>rfl)
  (fun pre W=>pre=[]∧Blk W (w.heap.size+1) tTc (case9 zeros)∧Blk W (w.heap.size+1+1) 4 #[.bool false]∧Below w.heap.size w W)
  (fun c pre W=>∃ x,c=.ret∧pre=[x]∧Blk W (w.heap.size+1) tTc (case9 x.1)∧Blk W (w.heap.size+1+1) 4 #[.bool true]∧Below w.heap.size w W)
  (fun s X Y row hs hg hr=>⟨hs.1,hs.2.1.turn hg hr (Or.inr (by omega)),hs.2.2.1.turn hg hr (Or.inr (by omega)),Below.turn hs.2.2.2 hg hr (by omega) hs.2.2.2.size⟩)
  (fun c s X Y row hs hg hr=>by
   obtain ⟨x,e1,e2,k1,k2,k3⟩:=hs
   exact ⟨x,e1,e2,k1.turn hg hr (Or.inr (by omega)),k2.turn hg hr (Or.inr (by omega)),Below.turn k3 hg hr (by omega) k3.size⟩)
  ⟨rfl,kR,kO,hB⟩ ?round ?done ?stop
 case round=>
  rintro l pre x W hl ⟨rfl,kR,kO,hB⟩ -;have hwz:=hB.size
  gi_wp2
  refine ⟨(KeepsOthers.alloc _ _).from _,Kept.alloc (by omega) _,fun o o' ho hc=>?_⟩;have kX:=(Blk.new W tTc (case9 x.1)).putl o' ho hc;have lO:=kO.lt;replace kR:=(kR.alloc (.cells (case9 x.1) tTc)).putl o' ho hc;replace kO:=(kO.alloc (.cells (case9 x.1) tTc)).putl o' ho hc;have hB':=(bbox hB (.cells (case9 x.1) tTc)).trans (Kept.put (T1:=tTc) (T2:=tAs) (n₀:=w.heap.size) o' (by omega) ho hc).bz;clear ho;obtain ⟨V,hVe⟩:∃ V,V=(W.alloc (.cells (case9 x.1) tTc)).putObj l o':=⟨_,rfl⟩;rw[←hVe] at kX kR kO hB' ⊢;clear hVe hB;obtain ⟨p0,p1,p2,p3,p4,p5,p6,p7,p8⟩:=case9_cells kX;obtain ⟨q0,q1,q2,q3,q4,q5,q6,q7,q8⟩:=case9_cells kR;have rR:=kR.frozen;have qO:=kO.cell 0;have rO:=kO.frozen
  gi_wp2
  refine ⟨(keeps9.trans (KeepsOthers.setCell _ _ _)).from _,x,rfl,rfl,?_,?_,?_⟩
  ·exact (Blk.nine kR).far (p:=⟨w.heap.size+1+1,0,none⟩) (by simp) _
  ·exact (kO.nineFar (by omega)).set_ 0 (.bool true)
  ·exact (below9 hB' (by omega)).setCell (p:=⟨w.heap.size+1+1,0,none⟩) (by simp only;omega) _
 case done=>
  rintro D ys W hD hS ⟨rfl,kR,kO,hB⟩ hK;have E:cases a (caseS a 0)=[]:=hS.symm;obtain ⟨q0,q1,q2,q3,q4,q5,q6,q7,q8⟩:=case9_cells kR;have rR:=kR.frozen;have qO:=kO.cell 0;have rO:=kO.frozen;have lO:=kO.lt;have lR:=kR.lt
  gi_wp2
  have zR:=(Blk.nine (v0:=.int .i64 0) (v1:=.int .i64 0) (v2:=.int .i64 0) (v3:=.int .i64 0) (v4:=.int .i64 0) (v5:=.int .i64 0) (v6:=.int .i64 0) (v7:=.int .i64 0) (v8:=.int .i64 0) kR).far (p:=⟨w.heap.size+1+1,0,none⟩) (by simp) (.bool false);have zO:=(kO.nineFar (g:=w.heap.size+1) (v0:=.int .i64 0) (v1:=.int .i64 0) (v2:=.int .i64 0) (v3:=.int .i64 0) (v4:=.int .i64 0) (v5:=.int .i64 0) (v6:=.int .i64 0) (v7:=.int .i64 0) (v8:=.int .i64 0) (by omega)).set_ 0 (.bool false);have zB:=(below9 (g:=w.heap.size+1) (v0:=.int .i64 0) (v1:=.int .i64 0) (v2:=.int .i64 0) (v3:=.int .i64 0) (v4:=.int .i64 0) (v5:=.int .i64 0) (v6:=.int .i64 0) (v7:=.int .i64 0) (v8:=.int .i64 0) hB (by omega)).setCell (p:=⟨w.heap.size+1+1,0,none⟩) (by simp only;omega) (.bool false);have zK:=((keeps9 (w:=W) (g:=w.heap.size+1) (v0:=.int .i64 0) (v1:=.int .i64 0) (v2:=.int .i64 0) (v3:=.int .i64 0) (v4:=.int .i64 0) (v5:=.int .i64 0) (v6:=.int .i64 0) (v7:=.int .i64 0) (v8:=.int .i64 0)).trans (KeepsOthers.setCell _ ⟨w.heap.size+1+1,0,none⟩ (.bool false))).same D _ hK rfl;obtain ⟨V,hVe⟩:∃ V,V=((set9 W (w.heap.size+1) (.int .i64 0) (.int .i64 0) (.int .i64 0) (.int .i64 0) (.int .i64 0) (.int .i64 0) (.int .i64 0) (.int .i64 0) (.int .i64 0)).setCell ⟨w.heap.size+1+1,0,none⟩ (.bool false)):=⟨_,rfl⟩;rw[←hVe] at zR zO zB zK ⊢;refine ⟨by simp,.inl ⟨_,_,rfl,run_takeDeferred zK,?_⟩⟩;have yR:Blk _ _ _ (case9 zeros):=zR.putl (.deferred none) zK rfl;have yO:=zO.putl (.deferred none) zK rfl;obtain ⟨p0,p1,p2,p3,p4,p5,p6,p7,p8⟩:=case9_cells yR;have pO:=yO.cell 0;refine ⟨.tuple #[.agg (case9 zeros),.bool false],?_,by rw[E];rfl,zB.trans (belowK_b (w:=w) (Nat.le_refl _) V D _ _ (by omega) zK rfl rfl)⟩;simp[results,Tryz.f238,go_sem,p0,p1,p2,p3,p4,p5,p6,p7,p8,pO]
 case stop=>
  rintro D c pre W hD hS ⟨x,rfl,rfl,kR,kO,hB⟩ hK;obtain ⟨q0,q1,q2,q3,q4,q5,q6,q7,q8⟩:=case9_cells kR;have qO:=kO.cell 0;have lO:=kO.lt;have lR:=kR.lt
  gi_wp2
  refine ⟨by simp,.inl ⟨_,_,rfl,run_takeDeferred hK,?_⟩⟩;have yR:=kR.putl (.deferred none) hK rfl;have yO:=kO.putl (.deferred none) hK rfl;obtain ⟨p0,p1,p2,p3,p4,p5,p6,p7,p8⟩:=case9_cells yR;have pO:=yO.cell 0;have E:=head_pre hS;refine ⟨.tuple #[.agg (case9 x.1),.bool true],?_,by rw[E.1,E.2];rfl,hB.trans (belowK_b (w:=w) (Nat.le_refl _) W D _ _ (by omega) hK rfl rfl)⟩;simp[results,Tryz.f238,go_sem,p0,p1,p2,p3,p4,p5,p6,p7,p8,pO]
theorem c_impl_Consistent {lo hi:Nat} (v:Value) (a:Asn) (w:World) (h:AsnV w lo hi v a) (hhi:hi≤w.heap.size) :
  Calls Tryz.prog 188 #[v] w fun e w'=>e=.returned (.bool (a.valid && !(cases a (caseS a 0)).isEmpty))∧Below w.heap.size w w':=by
 have hV:=ax h;obtain ⟨A1,c1,A2,c2,rfl,-,-⟩:=h;(go_enter Tryz.func188,Tryz.ntmps188);(go_wp2_with fail);refine (jz _ a _ (hV.o.bz bel)).mono ?_;rintro e w1 ⟨rfl,hB1⟩;have k0:Blk w1 w.heap.size tAs #[.slice A1 a.facts.length c1,.slice A2 a.atoms.length c2]:=Blk.nz blks hB1;have hB:Below w.heap.size w w1:=bgo (w:=w) bel hB1;have hz:=hB1.size;simp only[World.size_alloc] at hz;clear hB1;have q0:=k0.cell;have l0:=k0.lt;cases hv:a.valid
 ·(go_wp2_with fail);go_ret;exact ⟨zjD (by simp[hv]),hB⟩
 ·have HV:=ax hv;(go_wp2_with fail);refine (c_impl_firstCase _ a _ (hV.o.bz hB) (by omega) HV.o).mono ?_;rintro e w2 ⟨rfl,hB2⟩;(go_wp2_with fail);go_ret;exact ⟨zjD (by simp[hv]),bbox (bgo hB hB2) _⟩
end
end Go.Proofs.YtjaohekkmlkinaaGreat
