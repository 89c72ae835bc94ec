/- Contracts: impl's cases. -/
import Derived.Test.YtjaohekkmlkinaaGreatMbSubst
set_option linter.unusedSimpArgs false
set_option linter.unusedVariables false
set_option maxRecDepth 100000
set_option maxHeartbeats 25600000
namespace Go.Proofs.YtjaohekkmlkinaaGreat
section
open Go Go.RowKit Go.Proofs
attribute [local go_sem ↓] Go.wp_at_zero Go.wp_at_succ
abbrev tTc:Nat:=131
theorem case_cell {w:World} {g:Nat} {c:List Int} {t:TypeId} (h:Blk w g t (encI c).toArray) {m:Nat} (hm:m<c.length):w.cell? ⟨g,m,none⟩=some (.int .i64 (cl c m)):=by
 rw[h.cell];simp[cl,List.getElem?_eq_getElem hm]
theorem c_impl_factHolds (f:Fct) (c:List Int) (g:Nat) (w:World) (hk:Blk w g tTc (encI c).toArray) (hc:c.length=9) (ha:0≤f.a∧f.a≤8) (hb:0≤f.b∧f.b≤8) :
  Calls Tryz.prog 249 #[.pointer (some ⟨g,0,none⟩),f.val] w fun e w'=>e=.returned (.bool (f.fits c))∧Below w.heap.size w w':=by
 obtain ⟨q,a,b⟩:=f;dsimp only at ha hb;obtain ⟨a,rfl⟩:=Int.eq_ofNat_of_zero_le ha.1;obtain ⟨b,rfl⟩:=Int.eq_ofNat_of_zero_le hb.1;have c1:=case_cell hk (m:=a) (by rw[hc];omega);have c2:=case_cell hk (m:=b) (by rw[hc];omega);have hlt:=hk.lt;have ha9:(a:Int)<9:=by omega
 have hb9:(b:Int)<9:=by omega
 clear ha hb;(go_enter Tryz.func249,Tryz.ntmps249);(go_wp2_with fail);(go_quiet (fail));go_wp2;go_ret;exact ⟨zjD rfl,bel⟩
theorem c_impl_isFilled (x:Atm) (c:List Int) (g:Nat) (w:World) (hk:Blk w g tTc (encI c).toArray) (hc:c.length=9) (ha:0≤x.a∧x.a≤8) (hb:0≤x.b∧x.b≤8) :
  Calls Tryz.prog 250 #[.pointer (some ⟨g,0,none⟩),x.val] w fun e w'=>e=.returned (.bool (x.fill c))∧Below w.heap.size w w':=by
 obtain ⟨q,a,b⟩:=x;dsimp only at ha hb;obtain ⟨a,rfl⟩:=Int.eq_ofNat_of_zero_le ha.1;obtain ⟨b,rfl⟩:=Int.eq_ofNat_of_zero_le hb.1;have c1:=case_cell hk (m:=a) (by rw[hc];omega);have c2:=case_cell hk (m:=b) (by rw[hc];omega);have hlt:=hk.lt;have ha9:(a:Int)<9:=by omega
 have hb9:(b:Int)<9:=by omega
 clear ha hb;cases hq:(q == 1)
 all_goals
  have HQ:=ax hq;(go_enter Tryz.func250,Tryz.ntmps250);(go_wp2_with fail);(go_quiet (fail));go_wp2;go_ret;exact ⟨zjD (by have:=HQ.o;(try simp at this);simp[Atm.fill,this];try rfl),bel⟩
theorem filledL_take (xs:List Atm) (c:List Int) (k:Nat) (hk:k<xs.length):filledL (xs.take (k+1)) c=filledL (xs.take k) c++if xs[k].fill c then [xs[k].cls c] else []:=by
 unfold filledL;rw[List.take_succ_eq_append_getElem hk,List.filter_append,List.map_append];cases h:xs[k].fill c<;>simp[h]
theorem filledL_len (xs:List Atm) (c:List Int):(filledL xs c).length≤xs.length:=by
 unfold filledL;rw[List.length_map];exact List.length_filter_le _ _
theorem c_impl_filled {lo hi:Nat} (A:Option Addr) (d:Nat) (xs:List Atm) (c:List Int) (g:Nat) (w:World) (h:AtomsV w lo hi A xs) (hk:Blk w g tTc (encI c).toArray) (hc:c.length=9) (hx:AtomsOk xs) :
  Calls Tryz.prog 204 #[.pointer (some ⟨g,0,none⟩),.slice A xs.length d] w fun e w'=>∃ r,e=.returned r∧AtomsO w' w.heap.size r (filledL xs c)∧Below w.heap.size w w':=by
 have hl:=h.le;have hgl:=hk.lt;(go_enter Tryz.func204,Tryz.ntmps204);(go_wp2_with fail)
 go_loopw [5,10] (fun r i wr=>∃ (k:Nat) (B:Option Addr) (n e:Nat),k≤xs.length∧i=.int .i64 k∧n=(filledL (xs.take k) c).length∧r=.slice B n e∧AtomsO wr w.heap.size (.slice B n e) (filledL (xs.take k) c)∧Below w.heap.size w wr) (fun _ i _=>xs.length - (intOf i).toNat)
 case atStart=>exact ⟨0,none,0,0,Nat.zero_le _,rfl,rfl,rfl,AtomsO.nil _ _,bel⟩
 case round=>
  obtain ⟨k,B,n,e,hkk,rfl,hn,rfl,of,hB⟩:=hrel;have HN:=ax hn
  have hnl:n≤k:=by
   rw[hn];exact Nat.le_trans (filledL_len _ _) (by simp;omega)
  clear hn;by_cases hlt:k<xs.length
  ·obtain ⟨b,off,rfl,hbl⟩:=h.blt hlt;obtain ⟨g0,g1,g2⟩:=(h.bz hB).cl hlt;have HT:=ax (filledL_take xs c k hlt);have hxk:=hx _ (List.getElem_mem hlt);obtain ⟨x,hxe⟩:∃ x,x=xs[k]:=⟨_,rfl⟩;have HX:=ax hxe;rw[←hxe] at g0 g1 g2 HT hxk;clear hxe;have kg:Blk wr g tTc (encI c).toArray:=hk.bz hB hgl;have hgr:=kg.lt;(go_wp2_with fail);refine (c_impl_isFilled x c g _ (kg.alloc _) hc hxk.1 hxk.2).mono ?_;rintro e w1 ⟨rfl,hB1⟩;have hBx:Below w.heap.size w w1:=bgo (w:=w) bel hB1;have hob:∀ g',(Value.slice B n e).ownBlock=some g'→g'<wr.heap.size:=fun g' e'=>(of.1.lt g' e').2;have kx:=(Blk.new wr tA #[.int .i64 x.kind,.int .i64 x.a,.int .i64 x.b]).nz hB1;replace of:=(of.bz (w':=wr.alloc (.cells #[.int .i64 x.kind,.int .i64 x.a,.int .i64 x.b] tA)) bel).bz hB1;replace kg:=(kg.alloc (.cells #[.int .i64 x.kind,.int .i64 x.a,.int .i64 x.b] tA)).nz hB1;have hw1:=hB1.size;simp only[World.size_alloc] at hw1;have hwz:=hB.size;clear hB1 g0 g1 g2;cases hf:x.fill c
   ·have HS:=ax (show filledL (xs.take (k+1)) c=filledL (xs.take k) c by rw[HT.o,hf];simp);clear hf;(go_wp2_with fail)
    go_round
    case rel=>exact ⟨k+1,B,n,e,by omega,by go_num,by rw[HS.o];exact HN.o,rfl,by rw[HS.o];exact of,hBx⟩
    case measure=>simp[intOf];omega
   ·have HS:=ax (show filledL (xs.take (k+1)) c=filledL (xs.take k) c++[x.cls c] by rw[HT.o,hf];simp);clear hf;obtain ⟨q,xa,xb⟩:=x;dsimp only at hxk kx;obtain ⟨⟨a1,a2⟩,⟨b1,b2⟩⟩:=hxk;obtain ⟨xa,rfl⟩:=Int.eq_ofNat_of_zero_le a1;obtain ⟨xb,rfl⟩:=Int.eq_ofNat_of_zero_le b1;have ha9:(xa:Int)<9:=by omega
    have hb9:(xb:Int)<9:=by omega
    have q1:∀ w':World,(∀ i,w'.cell? ⟨g,i,none⟩=(encI c).toArray[i]?)→w'.cell? ⟨g,xa,none⟩=some (.int .i64 (cl c xa)):=by
     intro w' hw';rw[hw'];simp[cl,List.getElem?_eq_getElem (show xa<c.length by omega)]
    have q2:∀ w':World,(∀ i,w'.cell? ⟨g,i,none⟩=(encI c).toArray[i]?)→w'.cell? ⟨g,xb,none⟩=some (.int .i64 (cl c xb)):=by
     intro w' hw';rw[hw'];simp[cl,List.getElem?_eq_getElem (show xb<c.length by omega)]
    have c1:=q1 _ kg.cell;have c2:=q2 _ kg.cell;have hnn:n+1≤1049600:=by omega
    clear a1 a2 b1 b2;(go_wp2_with fail);refine wp_region_noPanic ?_;refine wp_region_held_drew (S:=(fun w'=>w'.cell? ⟨g,xa,none⟩=some (.int .i64 (cl c xa))∧w'.cell? ⟨g,xb,none⟩=some (.int .i64 (cl c xb))∧(∀ i,w'.cell? ⟨wr.heap.size,i,none⟩=#[.int .i64 q,.int .i64 xa,.int .i64 xb][i]?))) (by kernel_rfl) (⟨c1,c2,Blk.cell blks⟩) (fun aH=>?_);refine tk2 0 rfl aH (h:=tk2 1 rfl aH (h:=tk2 2 rfl aH (h:=?_)));(try simp only[zz]);refine tk2 3 rfl aH (h:=tk2 4 rfl aH (h:=tk2 5 rfl aH (h:=?_)));(try simp only[zz]);refine tk2 6 rfl aH (h:=tk2 7 rfl aH (h:=tk2 8 rfl aH (h:=?_)));(try simp only[zz]);refine tk2 9 rfl aH (h:=tk2 10 rfl aH (h:=tk2 11 rfl aH (h:=?_)));(try simp only[zz]);refine tk2 12 rfl aH (h:=tk2 13 rfl aH (h:=tk2 14 rfl aH (h:=?_)));(try simp only[zz]);refine tk2 15 rfl aH (h:=?_);refine rdc 16 rfl fun K hK=>?_;(try simp only[zz]);go_simp;refine hK.out _ _ (⟨q1 _ (Blk.cell blks),q2 _ (Blk.cell blks),Blk.cell blks⟩) ?_;clear aH hK K;intro aH;(try simp only[zz]);refine rdc 17 rfl fun K hK=>?_;skip;(refine stepAL (base:=w.heap.size) (xs:=filledL (xs.take k) c) rfl _ _ rfl rfl (AtomsO.bz (w:=w1) of bel) rfl (AtomsV.one' blks) (by simp only[List.length_cons,List.length_nil];rw[←HN.o];omega) (by simp;omega) ?_;intro A' c' w2 of2 hg2 hB3;have z2:=Blk.zm (g:=g) (hg:=hg2) blks (AtomsO.bz (w:=w1) of bel).1 (by decide);have zf:Blk w2 wr.heap.size tA #[.int .i64 q,.int .i64 xa,.int .i64 xb]:=Blk.grown blks hg2 (fun e=>absurd (hob _ e.symm) (Nat.lt_irrefl _)));refine hK.out _ _ (⟨q1 _ z2.cell,q2 _ z2.cell,zf.cell⟩) ?_;clear aH hK K;intro aH;(try simp only[zz]);refine tk2 18 rfl aH (h:=?_);(try simp only[zz]);refine dn1 ?_;have hBw2:Below w.heap.size w w2:=Below.trans bel (hB3.mono (by omega));(go_wp2_with fail)
    go_round
    case rel=>exact ⟨k+1,A',_,c',by omega,by go_num,rfl,by rw[HS.o];simp,by rw[HS.o];exact of2,hBw2⟩
    case measure=>simp[intOf];omega
  ·obtain rfl:k=xs.length:=by omega
   (go_wp2_with fail);go_ret;refine ⟨_,rfl,?_,hB⟩;rw[List.take_length] at of;exact of
theorem possF_drop (c:List Int) (last:Int) (fs:List Fct) (k:Nat) (hk:k<fs.length):possF c last (fs.drop k)=(!(decide (fs[k].a≤last)&&decide (fs[k].b≤last) && !fs[k].fits c)&&possF c last (fs.drop (k+1))):=by
 unfold possF;rw[all_drop _ fs k hk]
theorem possA_drop (c:List Int) (last:Int) (seen:List Int) (xs:List Atm) (k:Nat) (hk:k<xs.length):possA c last seen (xs.drop k)=if inLast c last xs[k] then !decide (cl c xs[k].a=0) && !decide (cl c xs[k].a∈seen)&&possA c last (seen++[cl c xs[k].a]) (xs.drop (k+1)) else possA c last seen (xs.drop (k+1)):=by
 rw[List.drop_eq_getElem_cons hk];rfl
theorem tset_snoc (l:List Int) (t:Int):tset (l++[t])=tins (tset l) t:=by unfold tset;simp[List.foldl_append]
theorem c_impl_possible {lo hi:Nat} (v:Value) (a:Asn) (last:Int) (c:List Int) (g:Nat) (w:World) (h:AsnV w lo hi v a) (hk:Blk w g tTc (encI c).toArray) (hc:c.length=9) (hf:FactsOk a.facts) (hx:AtomsOk a.atoms)
  (hcl:∀ x∈a.atoms,x.a≤last→jq (cl c x.a)=true) :
  Calls Tryz.prog 248 #[.pointer (some ⟨g,0,none⟩),v,.int .i64 last] w fun e w'=>e=.returned (.bool (poss a c last))∧Below w.heap.size w w':=by
 obtain ⟨A1,c1,A2,c2,rfl,h1,h2⟩:=h;have hl1:=h1.le;have hl2:=h2.le;have hgl:=hk.lt;have HP:aJ (poss a c last=(possF c last a.facts&&possA c last [] a.atoms)):=rfl;have hFO:=ax hf;have hXO:=ax hx;have hCL:=ax hcl;clear hf hx hcl;(go_enter Tryz.func248,Tryz.ntmps248);(go_wp2_with fail)
 go_loopw [15] (fun i wr=>∃ k:Nat,k≤a.facts.length∧i=.int .i64 k∧aJ (possF c last a.facts=possF c last (a.facts.drop k))∧Blk wr w.heap.size 37 #[.slice A1 a.facts.length c1,.slice A2 a.atoms.length c2]∧Below w.heap.size w wr) (fun i _=>a.facts.length - (intOf i).toNat)
 case atStart=>exact ⟨0,Nat.zero_le _,rfl,rfl,blks,bel⟩
 case round=>
  obtain ⟨k,hkk,rfl,HA,kA,hB⟩:=hrel;have qA:=kA.cell;have lA:=kA.lt;by_cases hlt:k<a.facts.length
  ·obtain ⟨b,off,rfl,hbl⟩:=h1.blt hlt;obtain ⟨g0,g1,g2⟩:=(h1.bz hB).cl hlt;have HD:=ax (possF_drop c last a.facts k hlt);have hfk:=hFO.o _ (List.getElem_mem hlt);obtain ⟨f,hfe⟩:∃ f,f=a.facts[k]:=⟨_,rfl⟩;rw[←hfe] at g0 g1 g2 HD hfk;clear hfe;have kg:Blk wr g tTc (encI c).toArray:=hk.bz hB hgl;have hgr:=kg.lt;by_cases e1:f.a≤last
   ·by_cases e2:f.b≤last
    ·(go_wp2_with fail);refine (c_impl_factHolds f c g _ (kg.alloc _) hc hfk.1 hfk.2).mono ?_;rintro e w1 ⟨rfl,hB1⟩;have hBx:Below w.heap.size w w1:=bgo (w:=w) bel hB1;replace kA:=(kA.alloc (.cells #[.bool f.eq,.int .i64 f.a,.int .i64 f.b] tF)).nz hB1;cases hff:f.fits c
     ·have HZ:=ax (show possF c last a.facts=false by rw[HA.o,HD.o,hff,decide_eq_true e1,decide_eq_true e2];rfl);clear hff hB1 e1 e2;(go_wp2_with fail);go_ret;exact ⟨zjD (by rw[HP.o,HZ.o];rfl),hBx⟩
     ·have HZ:=ax (show possF c last (a.facts.drop k)=possF c last (a.facts.drop (k+1)) by rw[HD.o,hff];simp);clear hff hB1 e1 e2;(go_wp2_with fail)
      go_round
      case rel=>exact ⟨k+1,by omega,by go_num,by show _=_;rw[HA.o,HZ.o],kA,hBx⟩
      case measure=>simp[intOf];omega
    ·have HZ:=ax (show possF c last (a.facts.drop k)=possF c last (a.facts.drop (k+1)) by rw[HD.o,decide_eq_false e2];simp);(go_wp2_with fail)
     go_round
     case rel=>exact ⟨k+1,by omega,by go_num,by show _=_;rw[HA.o,HZ.o],blks,bel⟩
     case measure=>simp[intOf];omega
   ·have HZ:=ax (show possF c last (a.facts.drop k)=possF c last (a.facts.drop (k+1)) by rw[HD.o,decide_eq_false e1];simp);(go_wp2_with fail)
    go_round
    case rel=>exact ⟨k+1,by omega,by go_num,by show _=_;rw[HA.o,HZ.o],blks,bel⟩
    case measure=>simp[intOf];omega
  ·obtain rfl:k=a.facts.length:=by omega
   have HF:=ax (show poss a c last=possA c last [] a.atoms by rw[HP.o,HA.o,List.drop_length];rfl);clear HA HP;(go_wp2_with fail)
   go_loopw [9,39] (fun S i wr=>∃ (k:Nat) (seen:List Int),k≤a.atoms.length∧i=.int .i64 k∧S=.int .u16 (tset seen:Nat)∧aJ (poss a c last=possA c last seen (a.atoms.drop k))∧Below w.heap.size w wr) (fun _ i _=>a.atoms.length - (intOf i).toNat)
   case atStart=>exact ⟨0,[],Nat.zero_le _,rfl,by unfold tset;rfl,HF.o,hB⟩
   case round=>
    clear hB kA qA lA;obtain ⟨k,seen,hkk,rfl,rfl,HA,hB⟩:=hrel;have hT:=tset_lt seen;by_cases hlt:k<a.atoms.length
    ·obtain ⟨b,off,rfl,hbl⟩:=h2.blt hlt;obtain ⟨g0,g1,g2⟩:=(h2.bz hB).cl hlt;have HD:=ax (possA_drop c last seen a.atoms k hlt);have hxk:=hXO.o _ (List.getElem_mem hlt);have hcx:=hCL.o _ (List.getElem_mem hlt);obtain ⟨x,hxe⟩:∃ x,x=a.atoms[k]:=⟨_,rfl⟩;rw[←hxe] at g0 g1 g2 HD hxk hcx;clear hxe;have kg:Blk wr g tTc (encI c).toArray:=hk.bz hB hgl;have hgr:=kg.lt;have hno:x.a≤last→x.b≤last→x.fill c=true→inLast c last x=true:=fun h1 h2 h3=>by simp[inLast,h1,h2,h3]
     by_cases e1:x.a≤last
     ·by_cases e2:x.b≤last
      ·have hct:=hcx e1;(go_wp2_with fail);refine (c_impl_isFilled x c g _ (kg.alloc _) hc hxk.1 hxk.2).mono ?_;rintro e w1 ⟨rfl,hB1⟩;have hBx:Below w.heap.size w w1:=bgo (w:=w) bel hB1;have kx:=(Blk.new wr tA #[.int .i64 x.kind,.int .i64 x.a,.int .i64 x.b]).nz hB1;replace kg:=(kg.alloc (.cells #[.int .i64 x.kind,.int .i64 x.a,.int .i64 x.b] tA)).nz hB1;cases hff:x.fill c
       ·have HZ:=ax (show possA c last seen (a.atoms.drop k)=possA c last seen (a.atoms.drop (k+1)) by rw[HD.o,inLast,hff];simp);clear hff hB1;(go_wp2_with fail)
        go_round
        case rel=>exact ⟨k+1,seen,by omega,by go_num,rfl,by show _=_;rw[HA.o,HZ.o],hBx⟩
        case measure=>simp[intOf];omega
       ·have HI:=ax (hno e1 e2 hff);clear hff hB1 hno hcx;obtain ⟨vv,hvv⟩:∃ vv,vv=cl c x.a:=⟨_,rfl⟩;have HVV:=ax hvv;rw[←hvv] at hct
        have hbt:(tset seen).testBit vv.toNat=decide (vv∈seen):=by
         have:=zjA.1 hct;rw[tset_bit,decide_eq_decide];rw[Int.toNat_of_nonneg this.1];exact ⟨fun h=>h.2,fun h=>⟨hct,h⟩⟩
        obtain ⟨q,xa,xb⟩:=x;dsimp only at hxk kx e1 e2 hvv g0 g1 g2;obtain ⟨⟨a1,a2⟩,⟨b1,b2⟩⟩:=hxk;obtain ⟨xa,rfl⟩:=Int.eq_ofNat_of_zero_le a1;obtain ⟨xb,rfl⟩:=Int.eq_ofNat_of_zero_le b1;have hxa9:xa<9:=by omega
        have hxal:(xa:Int)<9:=by omega
        have cc:=case_cell kg (m:=xa) (by rw[hc];exact hxa9);rw[←hvv] at cc;have kxc:=kx.cell;clear hvv a1 a2 b1 b2;by_cases hz:vv=0
        ·have HZ:=ax (show poss a c last=false by rw[HA.o,HD.o,if_pos HI.o,←HVV.o,hz];simp);subst hz;(go_wp2_with fail);refine wp_region_noPanic ?_;refine wp_region_held_drew (S:=(fun w'=>w'.cell? ⟨g,xa,none⟩=some (.int .i64 0)∧(∀ i,w'.cell? ⟨wr.heap.size,i,none⟩=#[.int .i64 q,.int .i64 xa,.int .i64 xb][i]?))) (by kernel_rfl) (⟨cc,kxc⟩) (fun aH=>?_);refine tk2 0 rfl aH (h:=tk2 1 rfl aH (h:=tk2 2 rfl aH (h:=?_)));(try simp only[zz]);refine tk2 3 rfl aH (h:=tk2 4 rfl aH (h:=tk2 5 rfl aH (h:=?_)));(try simp only[zz]);refine tk2 6 rfl aH (h:=tk2 7 rfl aH (h:=?_));(try simp only[zz]);refine tku 8 rfl aH ?_;(try simp only[zz]);refine tku 9 rfl aH ?_;(try simp only[zz]);refine tku 10 rfl aH ?_;(try simp only[zz]);refine tku 11 rfl aH ?_;(try simp only[zz]);refine tku 12 rfl aH ?_;(try simp only[zz]);refine tku 13 rfl aH ?_;(try simp only[zz]);refine tku 14 rfl aH ?_;(try simp only[zz]);refine tku 15 rfl aH ?_;(try simp only[zz]);refine tk2 16 rfl aH (h:=?_);(try simp only[zz]);refine dn1 ?_;go_wp2;go_ret;exact ⟨zjD HZ.o.symm,bel⟩
        ·have hzb:(vv == 0)=false:=by simpa using hz
         have HNZ:=ax hz;clear hz;(go_wp2_with fail);(go_quiet ((go_at_call 140;exact Calls.quiet_of_same ((c_impl_tHas _ _ _ hT).mono fun _ _ ⟨a,b⟩=>⟨a,b.symm⟩))));have cc2:(w1.drewN nq).cell? ⟨g,xa,none⟩=some (.int .i64 vv):=cc;have kxc2:∀ i,(w1.drewN nq).cell? ⟨wr.heap.size,i,none⟩=#[.int .i64 q,.int .i64 xa,.int .i64 xb][i]?:=kxc;have hBx2:=below_drewN hBx nq;rw[hct,hbt];clear cc kxc kx kg hBx;generalize w1.drewN nq=w2 at cc2 kxc2 hBx2 ⊢;by_cases hse:vv∈seen
         ·have HZ:=ax (show poss a c last=false by rw[HA.o,HD.o,if_pos HI.o,←HVV.o,decide_eq_true hse];simp);go_wp2;go_ret;exact ⟨zjD HZ.o.symm,bel⟩
         ·have HZ:=ax (show poss a c last=possA c last (seen++[vv]) (a.atoms.drop (k+1)) by rw[HA.o,HD.o,if_pos HI.o,←HVV.o,decide_eq_false hse,decide_eq_false HNZ.o];simp);(go_wp2_with fail);(go_quiet ((go_at_call 135;exact Calls.quiet_of_same ((c_impl_with _ _ _ hT).mono fun _ _ ⟨a,b⟩=>⟨a,b.symm⟩))));(go_wp2_with fail)
          go_round
          case rel=>exact ⟨k+1,seen++[vv],by omega,by go_num,by rw[tset_snoc],HZ.o,bel⟩
          case measure=>simp[intOf];omega
      ·have HZ:=ax (show possA c last seen (a.atoms.drop k)=possA c last seen (a.atoms.drop (k+1)) by rw[HD.o,inLast,decide_eq_false e2];simp);(go_wp2_with fail)
       go_round
       case rel=>exact ⟨k+1,seen,by omega,by go_num,rfl,by show _=_;rw[HA.o,HZ.o],bel⟩
       case measure=>simp[intOf];omega
     ·have HZ:=ax (show possA c last seen (a.atoms.drop k)=possA c last seen (a.atoms.drop (k+1)) by rw[HD.o,inLast,decide_eq_false e1];simp);(go_wp2_with fail)
      go_round
      case rel=>exact ⟨k+1,seen,by omega,by go_num,rfl,by show _=_;rw[HA.o,HZ.o],bel⟩
      case measure=>simp[intOf];omega
    ·obtain rfl:k=a.atoms.length:=by omega
     (go_wp2_with fail);go_ret;exact ⟨zjD (by rw[HA.o,List.drop_length];rfl),hB⟩
theorem ints_cl {w : World} {lo hi b o : Nat} {c : List Int} (h : IntsV w lo hi (some ⟨b, o, none⟩) c) {m : Nat} (hm : m < c.length) : w.cell? ⟨b, o + m, none⟩ = some (.int .i64 (cl c m)) := by
  rw [h.cl hm]; simp [cl, List.getElem?_eq_getElem hm]

--@ spec.l5Fits
theorem fitsS_drop (c : List Int) (fs : List Fct) (k : Nat) (hk : k < fs.length) : fitsS c (fs.drop k) = (!(decide (0 ≤ cl c fs[k].a) && decide (0 ≤ cl c fs[k].b) && !fs[k].fits c) && fitsS c (fs.drop (k + 1))) := by
  unfold fitsS; rw [all_drop _ fs k hk]
theorem c_spec_l5Fits {lo hi lo' hi' : Nat} (A B : Option Addr) (c0 c1 : Nat) (fs : List Fct) (c : List Int) (w : World) (h : FactsV w lo hi A fs) (h' : IntsV w lo' hi' B c) (hc : c.length = 9) (hf : FactsOk fs) :
    Calls Tryz.prog 244 #[.slice A fs.length c0, .slice B c.length c1] w fun e w' => e = .returned (.bool (fitsS c fs)) ∧ w = w' := by
  have hl := h.le;obtain ⟨pb, ob, rfl, lpb⟩ := h'.blt (k := 0) (by omega);have HC := ax hc;have HF := ax hf;have H' := ax h';clear hf h';rw [hc];clear hc;(go_enter Tryz.func244, Tryz.ntmps244);(go_wp2_with fail)
  go_loop [5] (fun i => ∃ k : Nat, k ≤ fs.length ∧ i = .int .i64 k ∧ aJ (fitsS c fs = fitsS c (fs.drop k))) (fun i => fs.length - (intOf i).toNat)
  case atStart => exact ⟨0, Nat.zero_le _, rfl, rfl⟩
  case round =>
    obtain ⟨k, hk, rfl, HA⟩ := hrel;by_cases hlt : k < fs.length
    · obtain ⟨b, off, rfl, hbl⟩ := h.blt hlt
      obtain ⟨g0, g1, g2⟩ := h.cl hlt;have HD := ax (fitsS_drop c fs k hlt);have hfk := HF.o _ (List.getElem_mem hlt);obtain ⟨f, hfe⟩ : ∃ f, f = fs[k] := ⟨_, rfl⟩;rw [← hfe] at g0 g1 g2 HD hfk;clear hfe;obtain ⟨q, fa, fb⟩ := f;dsimp only at g0 g1 g2 hfk;obtain ⟨⟨a1, a2⟩, ⟨b1, b2⟩⟩ := hfk;obtain ⟨fa, rfl⟩ := Int.eq_ofNat_of_zero_le a1;obtain ⟨fb, rfl⟩ := Int.eq_ofNat_of_zero_le b1;have ha9 : (fa : Int) < 9 := by omega
      have hb9 : (fb : Int) < 9 := by omega
      have e1 := ints_cl H'.o (m := fa) (by rw [HC.o]; omega);have e2 := ints_cl H'.o (m := fb) (by rw [HC.o]; omega)
      have HQ : aJ (∀ u v : Int, u = cl c fa → v = cl c fb → fitsS c fs = (!(decide (0 ≤ u) && decide (0 ≤ v) && !((u == v) == q)) && fitsS c (fs.drop (k + 1)))) := by
        intro u v hu hv;rw [HA.o, HD.o, hu, hv]; rfl
      obtain ⟨u, hu⟩ : ∃ u, u = cl c fa := ⟨_, rfl⟩;obtain ⟨v, hv⟩ : ∃ v, v = cl c fb := ⟨_, rfl⟩;have HR := ax (HQ.o u v hu hv);rw [← hu] at e1;rw [← hv] at e2;clear hu hv HQ a1 a2 b1 b2;by_cases hu0 : 0 ≤ u
      · by_cases hv0 : 0 ≤ v
        · have HUV : aJ (∀ t : Bool, (u == v) = t → fitsS c fs = (!(!(t == q)) && fitsS c (fs.drop (k + 1)))) := by
            intro t ht;rw [HR.o, ht, decide_eq_true hu0, decide_eq_true hv0]; rfl
          cases huv : (u == v)
          case' false => have HZ := ax (HUV.o false huv)
          case' true => have HZ := ax (HUV.o true huv)
          all_goals
            cases q
            all_goals
              clear HUV HR;(go_wp2_with fail)
              first
                | (go_ret
                   exact ⟨zjD HZ.o.symm, rfl⟩)
                | (go_round
                   case rel => exact ⟨k + 1, by omega, by go_num, HZ.o⟩
                   case measure => simp [intOf]; omega)
        · have HZ : aJ (fitsS c fs = fitsS c (fs.drop (k + 1))) := by show _ = _; rw [HR.o, decide_eq_false hv0]; simp
          go_wp2_with fail
          go_round
          case rel => exact ⟨k + 1, by omega, by go_num, HZ⟩
          case measure => simp [intOf]; omega
      · have HZ : aJ (fitsS c fs = fitsS c (fs.drop (k + 1))) := by show _ = _; rw [HR.o, decide_eq_false hu0]; simp
        go_wp2_with fail
        go_round
        case rel => exact ⟨k + 1, by omega, by go_num, HZ⟩
        case measure => simp [intOf]; omega
    · obtain rfl : k = fs.length := by omega
      (go_wp2_with fail);go_ret;exact ⟨zjD (by rw [HA.o, List.drop_length]; rfl), rfl⟩

--@ spec.l5Early
theorem earlyF_drop (c : List Int) (seen : List Int) (xs : List Atm) (k : Nat) (hk : k < xs.length) : earlyF c seen (xs.drop k) = if decide (xs[k].kind = 1) && decide (0 ≤ cl c xs[k].a) then !decide (cl c xs[k].a = 0) && !decide (cl c xs[k].a ∈ seen) && earlyF c (seen ++ [cl c xs[k].a]) (xs.drop (k + 1)) else earlyF c seen (xs.drop (k + 1)) := by
  rw [List.drop_eq_getElem_cons hk]; rfl
theorem c_spec_l5Early {lo hi lo' hi' : Nat} (A B : Option Addr) (c0 c1 : Nat) (xs : List Atm) (c : List Int) (w : World) (h : AtomsV w lo hi A xs) (h' : IntsV w lo' hi' B c) (hc : c.length = 9) (hx : AtomsOk xs) (hcl : ∀ x ∈ xs, cl c x.a ≤ 8) :
    Calls Tryz.prog 245 #[.slice A xs.length c0, .slice B c.length c1] w fun e w' => e = .returned (.bool (earlyF c [] xs)) ∧ Below w.heap.size w w' := by
  have hl := h.le;obtain ⟨pb, ob, rfl, lpb⟩ := h'.blt (k := 0) (by omega);have HC := ax hc;have HX := ax hx;have HCL := ax hcl;have H' := ax h';have hmk := mkB9;clear hx h' hcl;rw [hc];clear hc;(go_enter Tryz.func245, Tryz.ntmps245);(go_wp2_with fail);clear hmk
  go_loopw [6] (fun i wr => ∃ (k : Nat) (seen : List Int), k ≤ xs.length ∧ i = .int .i64 k ∧ aJ (earlyF c [] xs = earlyF c seen (xs.drop k)) ∧ Blk wr w.heap.size tB (encB (zj (tset seen))).toArray ∧ Below w.heap.size w wr) (fun i _ => xs.length - (intOf i).toNat)
  case atStart => exact ⟨0, [], Nat.zero_le _, rfl, rfl, by rw [show tset [] = 0 from by unfold tset; rfl]; exact blks, bel⟩
  case round =>
    obtain ⟨k, seen, hk, rfl, HA, k0, hB⟩ := hrel;by_cases hlt : k < xs.length
    · obtain ⟨b, off, rfl, hbl⟩ := h.blt hlt
      obtain ⟨g0, g1, g2⟩ := (h.bz hB).cl hlt;have HD := ax (earlyF_drop c seen xs k hlt);have hxk := HX.o _ (List.getElem_mem hlt);have hck := HCL.o _ (List.getElem_mem hlt);obtain ⟨x, hxe⟩ : ∃ x, x = xs[k] := ⟨_, rfl⟩;rw [← hxe] at g0 g1 g2 HD hxk hck;clear hxe;obtain ⟨q, xa, xb⟩ := x;dsimp only at g0 g1 g2 hxk hck;obtain ⟨⟨a1, a2⟩, -⟩ := hxk;obtain ⟨xa, rfl⟩ := Int.eq_ofNat_of_zero_le a1;have ha9 : (xa : Int) < 9 := by omega
      have e1 := ints_cl (H'.o.bz hB) (m := xa) (by rw [HC.o]; omega);have HR : aJ (earlyF c [] xs = if decide (q = 1) && decide (0 ≤ cl c xa) then !decide (cl c xa = 0) && !decide (cl c xa ∈ seen) && earlyF c (seen ++ [cl c xa]) (xs.drop (k + 1)) else earlyF c seen (xs.drop (k + 1))) := by show _ = _; rw [HA.o, HD.o]
      obtain ⟨u, hu⟩ : ∃ u, u = cl c xa := ⟨_, rfl⟩;rw [← hu] at e1 HR hck;clear hu a1 a2 HD HA;cases hq : (q != 1)
      · have hq1 : q = 1 := by simpa using hq
        by_cases hu0 : 0 ≤ u
        · have HR2 : aJ (earlyF c [] xs = (!decide (u = 0) && !decide (u ∈ seen) && earlyF c (seen ++ [u]) (xs.drop (k + 1)))) := by show _ = _; rw [HR.o, hq1, decide_eq_true hu0]; rfl
          obtain ⟨m, rfl⟩ := Int.eq_ofNat_of_zero_le hu0;have m8 : m ≤ 8 := by omega
          have m8' : (m : Int) < 9 := by omega
          have hst : jq (m : Int) = true := by rw [zjA]; omega
          have hbt : (tset seen).testBit m = decide ((m : Int) ∈ seen) := by
            rw [tset_bit, decide_eq_decide]; exact ⟨fun h => h.2, fun h => ⟨hst, h⟩⟩
          have q3 : wr.cell? ⟨w.heap.size, m, none⟩ = some (.bool (decide ((m : Int) ∈ seen))) := (k0.cell m).trans ((flags_cell _ _ rfl (by omega)).trans (by rw [hbt]));have r3 := k0.frozen;have l3 := k0.lt;clear hst hbt;by_cases hz : (m : Int) = 0
          · have HZ := ax (show earlyF c [] xs = false by rw [HR2.o, decide_eq_true hz]; rfl)
            have hzb : ((m : Int) == 0) = true := by simpa using hz
            clear hq1 hz;(go_wp2_with fail);go_ret;exact ⟨zjD HZ.o.symm, hB⟩
          · have hzb : ((m : Int) == 0) = false := by simpa using hz
            by_cases hs : (m : Int) ∈ seen
            · have HZ := ax (show earlyF c [] xs = false by rw [HR2.o, decide_eq_true hs]; simp)
              rw [decide_eq_true hs] at q3;clear hq1 hz hs;(go_wp2_with fail);go_ret;exact ⟨zjD HZ.o.symm, hB⟩
            · have HZ := ax (show earlyF c [] xs = earlyF c (seen ++ [(m : Int)]) (xs.drop (k + 1)) by rw [HR2.o, decide_eq_false hs, decide_eq_false hz]; simp)
              rw [decide_eq_false hs] at q3;clear hq1 hz hs;(go_wp2_with fail)
              go_round
              case rel =>
                refine ⟨k + 1, seen ++ [(m : Int)], by omega, by go_num, HZ, ?_, bel⟩;rw [tset_snoc, ← tins_flags _ _ m8];exact k0.set_ _ _
              case measure => simp [intOf]; omega
        · have HZ := ax (show earlyF c [] xs = earlyF c seen (xs.drop (k + 1)) by rw [HR.o, decide_eq_false hu0]; simp)
          clear hq1;(go_wp2_with fail)
          go_round
          case rel => exact ⟨k + 1, seen, by omega, by go_num, HZ, k0, hB⟩
          case measure => simp [intOf]; omega
      · have hq1 : ¬ q = 1 := by simpa using hq
        have HZ := ax (show earlyF c [] xs = earlyF c seen (xs.drop (k + 1)) by rw [HR.o, decide_eq_false hq1]; simp);clear hq1;(go_wp2_with fail)
        go_round
        case rel => exact ⟨k + 1, seen, by omega, by go_num, HZ, k0, hB⟩
        case measure => simp [intOf]; omega
    · obtain rfl : k = xs.length := by omega
      (go_wp2_with fail);go_ret;exact ⟨zjD (by rw [HA.o, List.drop_length]; rfl), hB⟩

--@ spec.l5Apart
theorem apartF_at (xs : List Atm) (k : Nat) (hk : k < xs.length) : apartF ((xs.take k).map Atm.a) (xs.drop k) = (!decide (xs[k].a = 0) && !decide (xs[k].a ∈ (xs.take k).map Atm.a) && apartF ((xs.take (k + 1)).map Atm.a) (xs.drop (k + 1))) := by
  rw [List.drop_eq_getElem_cons hk, List.take_succ_eq_append_getElem hk, List.map_append]; rfl
theorem c_spec_l5Apart {lo hi : Nat} (A : Option Addr) (c0 : Nat) (xs : List Atm) (w : World) (h : AtomsV w lo hi A xs) :
    Calls Tryz.prog 246 #[.slice A xs.length c0] w fun e w' => e = .returned (.bool (apartF [] xs)) ∧ Below w.heap.size w w' := by
  have hl := h.le;(go_enter Tryz.func246, Tryz.ntmps246);(go_wp2_with fail)
  go_loopw [3] (fun i wr => ∃ k : Nat, k ≤ xs.length ∧ i = .int .i64 k ∧ aJ (apartF [] xs = apartF ((xs.take k).map Atm.a) (xs.drop k)) ∧ Below w.heap.size w wr) (fun i _ => xs.length - (intOf i).toNat)
  case atStart => exact ⟨0, Nat.zero_le _, rfl, rfl, bel⟩
  case round =>
    obtain ⟨k, hk, rfl, HA, hB⟩ := hrel;by_cases hlt : k < xs.length
    · obtain ⟨b, off, rfl, hbl⟩ := h.blt hlt
      obtain ⟨g0, g1, g2⟩ := (h.bz hB).cl hlt;have HD := ax (apartF_at xs k hlt);by_cases hz : xs[k].a = 0
      · have HZ := ax (show apartF [] xs = false by rw [HA.o, HD.o, decide_eq_true hz]; rfl)
        have hzb : (xs[k].a == 0) = true := by simpa using hz
        clear hz;(go_wp2_with fail);go_ret;exact ⟨zjD HZ.o.symm, hB⟩
      · have hzb : (xs[k].a == 0) = false := by simpa using hz
        have HNZ := ax hz;clear hz;(go_wp2_with fail)
        go_loopw [4] (fun i wr => ∃ j : Nat, j ≤ k ∧ i = .int .i64 j ∧ aJ (∀ n, n < j → ∀ hn : n < xs.length, xs[n].a ≠ xs[k].a) ∧ Below w.heap.size w wr) (fun i _ => k - (intOf i).toNat)
        case atStart => exact ⟨0, Nat.zero_le _, rfl, fun n hn => absurd hn (by omega), hB⟩
        case round =>
          clear hB g0 g1 g2;obtain ⟨j, hj, rfl, HJ, hB⟩ := hrel;by_cases hjl : j < k
          · have hjx : j < xs.length := by omega
            obtain ⟨g0, g1, g2⟩ := (h.bz hB).cl hlt;obtain ⟨e0, e1, e2⟩ := (h.bz hB).cl hjx;cases he : (xs[j].a == xs[k].a)
            all_goals
              have hjx2 : (j : Int) < (xs.length : Int) := by omega
              have hkx2 : (k : Int) < (xs.length : Int) := by omega
              (go_wp2_with fail);(go_quiet (fail));have hBq := below_drewN hB nq;generalize wr.drewN nq = w2 at hBq ⊢;(go_wp2_with fail)
            · go_round
              case rel =>
                refine ⟨j + 1, by omega, by go_num, fun n hn hx => ?_, hBq⟩;by_cases e : n = j
                · subst e; simpa using he
                · exact HJ.o n (by omega) hx
              case measure => simp [intOf]; omega
            · go_ret
              refine ⟨zjD ?_, hBq⟩;have hm : xs[k].a ∈ (xs.take k).map Atm.a := List.mem_map.2 ⟨xs[j], by rw [List.mem_take_iff_getElem]; exact ⟨j, by omega, rfl⟩, by simpa using he⟩;rw [HA.o, HD.o, decide_eq_true hm]; simp
          · obtain rfl : j = k := by omega
            have hm : xs[j].a ∉ (xs.take j).map Atm.a := fun hm => by
              obtain ⟨y, hy, ey⟩ := List.mem_map.1 hm;rw [List.mem_take_iff_getElem] at hy;obtain ⟨n, hn, en⟩ := hy;have hn' : n < j := by omega
              exact HJ.o n hn' (by omega) (by rw [en]; exact ey)
            have HZ := ax (show apartF [] xs = apartF ((xs.take (j + 1)).map Atm.a) (xs.drop (j + 1)) by rw [HA.o, HD.o, decide_eq_false hm, decide_eq_false HNZ.o]; simp);clear hm;(go_wp2_with fail)
            go_round
            case rel => exact ⟨j + 1, by omega, by go_num, HZ, hB⟩
            case measure => simp [intOf]; omega
    · obtain rfl : k = xs.length := by omega
      (go_wp2_with fail);go_ret;exact ⟨zjD (by rw [HA.o, List.drop_length]; rfl), hB⟩
end
end Go.Proofs.YtjaohekkmlkinaaGreat
