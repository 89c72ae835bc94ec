/- Contracts: impl's search for cases, an iterator. -/
import Derived.Test.YtjbboklnegfohaaGreatMRange
import Derived.Shelf.Abstract
import Derived.Deep.RegionHeld3
import Derived.Deep.LoopGhost
import Derived.Deep.DeepCutAuto
set_option linter.unusedSimpArgs false
set_option linter.unusedVariables false
set_option maxRecDepth 100000
set_option maxHeartbeats 25600000
namespace Go.Proofs.YtjbboklnegfohaaGreat
open List (all_cons all_eq_true append_assoc append_nil append_toArray cons_append drop_length filter_congr flatMap_append length_cons length_drop length_nil length_set length_take map map_append map_cons map_set mem_append mem_flatMap mem_singleton nil_append push_toArray range range' replicate setIfInBounds_toArray set_cons_succ set_cons_zero set_set size_toArray)
section
open Go Go.RowKit Go.Proofs
attribute [local go_sem ↓] Go.wp_at_zero Go.wp_at_succ
attribute [local go_sem] Oper.semAt_some
abbrev aC:Nat:=26
abbrev bM(c:List Int):Array Value:=#[.int .i64 (cl c 0),.int .i64 (cl c 1),.int .i64 (cl c 2),.int .i64 (cl c 3),.int .i64 (cl c 4),.int .i64 (cl c 5),.int .i64 (cl c 6),.int .i64 (cl c 7),.int .i64 (cl c 8)]
theorem zN{c:List Int}(h:c.length=9):bM c=(encI c).toArray:=by
 match c,h with
 | [c0,c1,c2,c3,c4,c5,c6,c7,c8],_=>rfl
theorem KO{c:List Int}(h:c.length=9)(m:Nat)(v:Int):(bM c).setIfInBounds m (.int .i64 v)=bM (c.set m v):=by
 rw[zN h,zN (by simpa using h)];simp[encI]
theorem ae.case{w:World}{g:Nat}{t:TypeId}{c:List Int}(h:ae w g t (bM c))(hc:c.length=9):ae w g t (encI c).toArray:=by rw[<-zN hc];exact h
theorem ae.JG{w:World}{g:Nat}{t:TypeId}{c:List Int}(h:ae w g t (bM c))(hc:c.length=9)(m:Nat)(v:Int):ae (w.setCell ⟨g,m,none⟩ (.int .i64 v)) g t (bM (c.set m v)):=by
 rw[<-KO hc];exact h.ag _ _
theorem bO{w:World}{g:Nat}{t:TypeId}{c:List Int}(h:ae w g t (bM c)) :
  w.cell? ⟨g,0,none⟩=some (.int .i64 (cl c 0))/\w.cell? ⟨g,1,none⟩=some (.int .i64 (cl c 1))/\w.cell? ⟨g,2,none⟩=some (.int .i64 (cl c 2))/\w.cell? ⟨g,3,none⟩=some (.int .i64 (cl c 3))/\w.cell? ⟨g,4,none⟩=some (.int .i64 (cl c 4))/\w.cell? ⟨g,5,none⟩=some (.int .i64 (cl c 5))/\w.cell? ⟨g,6,none⟩=some (.int .i64 (cl c 6))/\w.cell? ⟨g,7,none⟩=some (.int .i64 (cl c 7))/\w.cell? ⟨g,8,none⟩=some (.int .i64 (cl c 8)):=by
 have q:=h.cell;exact⟨q 0,q 1,q 2,q 3,q 4,q 5,q 6,q 7,q 8⟩
theorem Rw.gp{w w':World}{lo hi size n n₀:Nat}{A:Option Addr}{xs:List Value}(h:Rw w lo hi size A n xs)(hb:Below n₀ w w')(hh:hi<=n₀):Rw w' lo hi size A n xs:=h.keep fun b _ h2=>hb.block b (by omega)
theorem aM.gp{w w':World}{lo hi n₀:Nat}{v:Value}{a:au}(h:aM w lo hi v a)(hb:Below n₀ w w')(hh:hi<=n₀):aM w' lo hi v a:=by
 obtain⟨A1,c1,A2,c2,e,h1,h2⟩:=h;exact⟨A1,c1,A2,c2,e,⟨h1.raw.gp hb hh,h1.lim⟩,⟨h2.raw.gp hb hh,h2.lim⟩⟩
abbrev CaseT(a:au)(S:Nat):={ c:List Int // c∈cases a S }
theorem CaseT.len{a:au}{S:Nat}(x:CaseT a S):x.1.length=9:=by
 have h:=x.2;unfold cases at h;exact(zx S 9 zeros x.1 (by omega) rfl (List.mem_filter.1 h).1).1
theorem CaseT.pos{a:au}{S:Nat}(x:CaseT a S)(j:Nat)(hj:j<9):(S.testBit j=true->0<=cl x.1 j/\cl x.1 j<=j)/\(S.testBit j=false->cl x.1 j = -1):=by
 have h:=x.2;unfold cases at h;exact(zx S 9 zeros x.1 (by omega) rfl (List.mem_filter.1 h).1).2.2 j (by omega) hj
def rH(a:au)(S n:Nat)(c:List Int)(k:Nat):List (List Int):=if k<8 - n/\cl c k≠k then [] else if jW a (c.set (8 - n) k) (8 - n:Nat) then ext a S n (c.set (8 - n) k) else []
theorem ME(a:au)(S n:Nat)(c:List Int)(h:S.testBit (8 - n)=true):ext a S (n+1) c=(range (9 - n)).flatMap (rH a S n c):=by
 conv=>lhs;unfold ext
 rw[h,if_pos rfl];rfl
theorem Cf{α:Type}{f:Nat->List α}{k n:Nat}(h:k<n){ys:List α}(hy:ys <+: f k):(range k).flatMap f++ys <+: (range n).flatMap f:=by
 obtain⟨zs,hz⟩:=hy;obtain⟨m,rfl⟩:∃m,n=k+(m+1):=⟨n - k - 1,by omega⟩;rw[List.range_add,List.range_succ_eq_map,map_cons,flatMap_append,List.flatMap_cons,Nat.add_zero,<-hz];exact⟨zs++(map (fun x=>k+x) (map Nat.succ (range m))).flatMap f,by simp[append_assoc]⟩
theorem Kept.RA{T1 T2:TypeId}{n₀:Nat}{W W':World}(h:Kept T1 T2 n₀ W W'){p:Addr}(hp:W.heap.size<=p.block)(hn:n₀<=W.heap.size)(u:Value):Kept T1 T2 n₀ W (W'.setCell p u):=
 ⟨h.bz.setCell (by omega) _,fun g t cs ht hb=>(h.keep g t cs ht hb).far (by have:=hb.lt;omega) _⟩
theorem BH{a:au}{S lo hi l n₀ B:Nat}{v:Value}(hv:a.valid=true)(hS:S<512)(hT:∀t∈mz a,S.testBit t.toNat=true)(hhi:hi<=n₀)
  (J Jx:List (CaseT a S)->World->Prop) (hJ:Ry lq B J)
  (hY:∀m pre (x:CaseT a S) W,J pre W->(pre++[x]).map Subtype.val <+: cases a S->YieldAt Fence.wide m Tryz.prog l #[.agg (bM x.1)] W fun e W'=>(e=.returned (.bool true)/\J (pre++[x]) W'/\Kept lq aC n₀ W W')\/(e=.returned (.bool false)/\Jx (pre++[x]) W')) :
  ∀(n:Nat) (c:List Int) (pre:List (CaseT a S)) (W:World),n<=9->c.length=9->pre.map Subtype.val++ext a S n c <+: cases a S->(∀j:Nat,j<9 - n->S.testBit j=true->0<=cl c j/\cl c j<=j)->aM W lo hi v a->B<=W.heap.size->n₀<=W.heap.size->J pre W->
   Calls Tryz.prog 159 #[.agg (bM c),.int .i64 ((9 - n:Nat):Int),v,.int .u16 (S:Nat),.func (.yield l) #[] #[]] W fun e W'=>
    (e=.returned (.bool true)/\∃ys:List (CaseT a S),ys.map Subtype.val=ext a S n c/\J (pre++ys) W'/\Kept lq aC n₀ W W')\/(e=.returned (.bool false)/\∃ys:List (CaseT a S),ys.map Subtype.val <+: ext a S n c/\Jx (pre++ys) W'):=by
 intro n
 induction n with
 | zero=>
  intro c pre W _ hc hm _ hA hBW hn0 UZ;obtain⟨A1,c1,A2,c2,rfl,-,-⟩:=hA;have hB0:Below W.heap.size W ((W.alloc (.cells (bM c) lq)).alloc (.cells #[.slice A1 a.facts.length c1,.slice A2 a.atoms.length c2] aC)):=aj;have hJ1:=hJ.nz UZ hB0;have hx:c∈cases a S:=hm.subset (by simp[ext]);obtain⟨fn,tmps,assign,body,hy,hR⟩:=hY 0 pre ⟨c,hx⟩ _ hJ1 (by simpa[ext] using hm);have hk0:=Kept.nz (T1:=lq) (T2:=aC) (n₀:=n₀) hB0 hn0;dsimp only at hy;have hR:=RoundIn.mono hR (R':=fun e W'=>(e=.returned (.bool true)/\J (pre++[⟨c,hx⟩]) W'/\Kept lq aC n₀ W W')\/(e=.returned (.bool false)/\Jx (pre++[⟨c,hx⟩]) W')) (fun e W' h=>h.elim (fun h=>Or.inl ⟨h.1,h.2.1,hk0.trans h.2.2⟩) Or.inr);clear hY hJ hk0 hJ1 hB0 UZ hm;refine(callsIn_wide (n:=1)).1 ?_;(refine callsIn_of_wp Tryz.func159 rfl trivial ?_ rfl;simp only[Tryz.ntmps159,size_toArray,length_cons,length_nil,Nat.reduceAdd,Nat.reduceSub,Array.replicate_succ,Array.replicate_zero,push_toArray,append_toArray,nil_append,cons_append])
  gi_wp2
  refine hR.mono ?_;rintro e W' (⟨rfl,h1,h2⟩|⟨rfl,h1⟩)
  ·gi_wp2
   go_ret;exact Or.inl ⟨rfl,[⟨c,hx⟩],by simp[ext],h1,h2⟩
  ·gi_wp2
   go_ret;exact Or.inr ⟨rfl,[⟨c,hx⟩],by simp[ext],h1⟩
 | succ n ih=>
  intro c pre W hn hc hm hcl hA hBW hn0 UZ;have hV:=ax hA;obtain⟨A1,c1,A2,c2,rfl,-,-⟩:=hA;obtain⟨m,U0⟩:∃m,m=8 - n:=⟨_,rfl⟩;have e1:((9 - n:Nat):Int)=(m:Int)+1:=by omega
  rw[show 9 - (n+1)=m from by omega] at hcl⊢;have UH:(m:Int)<=8:=by omega
  have Yx:(m:Int)<9:=by omega
  have hit:jq (m:Int)=true:=by rw[qU];omega
  have HO:=ax (au.dm hv);have IH:=ax ih;have HJ:=ax hJ;have HJP:=ax UZ;have HM:=ax hm;have KM:=ax hcl;have ES:=ax U0;have HT:=ax hT;have HC:=ax hc;have hmg:¬(8<(m:Int)):=by omega
  have U1:=ax hn;have E1:=ax e1;clear ih hJ UZ hY hm hcl hT U0 hc hn e1;obtain⟨W2,hW2⟩:∃W2,W2=((W.alloc (.cells (bM c) lq)).alloc (.cells #[.slice A1 a.facts.length c1,.slice A2 a.atoms.length c2] aC)):=⟨_,rfl⟩;have k0:ae W2 W.heap.size lq (bM c):=by rw[hW2];exact az
  have k1:ae W2 (W.heap.size+1) aC #[.slice A1 a.facts.length c1,.slice A2 a.atoms.length c2]:=by rw[hW2];exact az
  have hB:Below W.heap.size W W2:=by rw[hW2];exact aj
  have HW2:=ax hW2;clear hW2;(go_enter Tryz.func159,Tryz.ntmps159);(go_wp2_with fail);refine(fK S (m:Int) _ hS).mono ?_;rintro e W3 ⟨rfl,rfl⟩;rw[hit,Int.toNat_natCast,Bool.true_and,<-HW2.o];have EE:=k0.lt;have mE:=k1.lt;have JA:=k0.frozen;clear HW2;cases ht:S.testBit m
  ·have HTS:=ax ht
   have HE:aJ (ext a S (n+1) c=ext a S n (c.set m (-1))):=by
    show _=_
    conv=>lhs;unfold ext
    rw[<-ES.o,ht];rfl
   have TX:=k0.JG HC.o m (-1);obtain⟨p0,p1,p2,p3,p4,p5,p6,p7,p8⟩:=bO TX;have qm:W2.cell? ⟨W.heap.size,m,none⟩=some (.int .i64 (cl c m)):=jL (k0.case HC.o) (by rw[HC.o];omega);have fI:=(k1.far (p:=⟨W.heap.size,m,none⟩) (by simp) (.int .i64 (-1))).cell;have hB3:Below W.heap.size W (W2.setCell ⟨W.heap.size,m,none⟩ (.int .i64 (-1))):=aj;have hz:=hB3.size;clear ht k0 k1 TX hB;(go_wp2_with fail)
   have ih1:=IH.o (c.set m (-1)) pre _ (by have:=U1.o;omega) (by simpa using HC.o) (by rw[<-HE.o];exact HM.o) (fun j hj hSj=>by
    have:=ES.o;rw[jG HC.o (by omega) _ (by omega)];by_cases ej:j=m
    ·subst ej;rw[HTS.o] at hSj;cases hSj
    ·rw[if_neg (by omega)];exact KM.o j (by omega) hSj) (hV.o.bz hB3) (Nat.le_trans hBW hz) (Nat.le_trans hn0 hz) (HJ.o.nz HJP.o hB3)
   rw[E1.o] at ih1;refine ih1.mono ?_;clear ih1;rintro e W' (⟨rfl,ys,y1,y2,y3⟩|⟨rfl,ys,y1,y2⟩)
   ·have Y:=ax (⟨y1,y2,y3⟩:_/\_/\_);clear y1 y2 y3;go_wp2;go_ret;exact Or.inl ⟨rfl,ys,by rw[HE.o];exact Y.o.1,Y.o.2.1,(Kept.nz hB3 hn0).trans Y.o.2.2⟩
   ·have Y:=ax (⟨y1,y2⟩:_/\_);clear y1 y2;go_wp2;go_ret;exact Or.inr ⟨rfl,ys,by rw[HE.o];exact Y.o.1,Y.o.2⟩
  ·have HTS:=ax ht;have HE:=ax (ME a S n c (by rw[<-ES.o];exact ht));clear ht;(go_wp2_with fail)
   go_loopw [11] (fun i wr=>∃(k:Nat) (d:List Int) (ys:List (CaseT a S)),k<=m+1/\i=.int .i64 k/\aJ (d.length=9)/\aJ (∀v,d.set m v=c.set m v)/\aJ (ys.map Subtype.val=(range k).flatMap (rH a S n c))/\ae wr W.heap.size lq (bM d)/\ae wr (W.heap.size+1) aC #[.slice A1 a.facts.length c1,.slice A2 a.atoms.length c2]/\aJ (J (pre++ys) wr)/\aJ (Kept lq aC n₀ W wr)) (fun i _=>9 - (intOf i).toNat)
   case atStart=>exact⟨0,c,[],dJ,rfl,HC,fun _=>rfl,rfl,k0,k1,by rw[append_nil];exact HJ.o.nz HJP.o hB,Kept.nz hB hn0⟩
   case round=>
    clear k0 k1 EE mE JA hB;obtain⟨k,d,ys,hk,rfl,RD,Yy,TY,k0,k1,Yz,YA⟩:=hrel;have EE:=k0.lt;have mE:=k1.lt;have JA:=k0.frozen;by_cases hlt:k<=m
    ·have hki:(k:Int)<=(m:Int):=by omega
     have hk9:(k:Int)<9:=by omega
     have hkc:wr.cell? ⟨W.heap.size,k,none⟩=some (.int .i64 (cl d k)):=jL (k0.case RD.o) (by rw[RD.o];omega);have TZ:aJ ((range (k+1)).flatMap (rH a S n c)=(range k).flatMap (rH a S n c)++rH a S n c k):=by show _=_;rw[List.range_succ,flatMap_append];simp
     have JH:k<m->cl d k=cl c k:=fun h=>by
      have h1:=jG RD.o (t:=m) (by omega) 0 (j:=(k:Int)) (by omega);have h2:=jG HC.o (t:=m) (by omega) 0 (j:=(k:Int)) (by omega);rw[if_neg (by omega)] at h1 h2;rw[<-h1,<-h2,Yy.o]
     have HDC:=ax JH;clear JH;by_cases nN:k<m/\cl c k≠k
     ·have HX:aJ (rH a S n c k=[]):=by show _=_;rw[rH,if_pos (by rw[<-ES.o];exact nN)]
      have Pq:(k:Int)<(m:Int):=by omega
      have hne:(cl d k != (k:Int))=true:=by rw[HDC.o nN.1];simpa using nN.2
      clear nN hki hlt;(go_wp2_with fail)
      go_round
      case rel=>exact⟨k+1,d,ys,by omega,by go_num,RD,Yy,by show _=_;rw[TZ.o,HX.o,append_nil];exact TY.o,k0,k1,Yz,YA⟩
      case measure=>simp[intOf];omega
     ·have MF:k<m->(cl d k != (k:Int))=false:=fun h=>by
       rw[HDC.o h]
       cases Int.decEq (cl c k) k with
       | isTrue h=>simp[h]
       | isFalse h'=>exact absurd ⟨h,h'⟩ nN
      have HX:aJ (rH a S n c k=if jW a (c.set m k) m then ext a S n (c.set m k) else []):=by
       show _=_;rw[rH,<-ES.o,if_neg nN]
      clear nN;have TX:ae (wr.setCell ⟨W.heap.size,m,none⟩ (.int .i64 k)) W.heap.size lq (bM (c.set m k)):=by rw[<-Yy.o k];exact k0.JG RD.o m k
      have k1':=k1.far (p:=⟨W.heap.size,m,none⟩) (by simp) (.int .i64 (k:Int));have fI:=k1'.cell;have qm:wr.cell? ⟨W.heap.size,m,none⟩=some (.int .i64 (cl d m)):=jL (k0.case RD.o) (by rw[RD.o];omega);have U2:=ax (YA.o.RA (p:=⟨W.heap.size,m,none⟩) bn hn0 (.int .i64 (k:Int)));have YB:=ax (HJ.o.set Yz.o k0 hBW m (.int .i64 (k:Int)));have HA':=ax (hV.o.gp U2.o.bz hhi);have hcs:(c.set m (k:Int)).length=9:=by simpa using HC.o
      have xR:=ax hcs
      have KP:∀j:Nat,j<=m->S.testBit j=true->0<=cl (c.set m (k:Int)) j/\cl (c.set m (k:Int)) j<=j:=fun j hj hSj=>by
       rw[jG HC.o (by omega) _ (by omega)]
       split
       ·omega
       ·exact KM.o j (by omega) hSj
      have RF:=ax KP
      have hpo:∀x∈a.atoms,x.a<=(m:Int)->jq (cl (c.set m (k:Int)) x.a)=true:=fun x hx hxm=>by
       have h0:=(HO.o.2 x hx).1;obtain⟨t,et⟩:=Int.eq_ofNat_of_zero_le h0.1;have hb:=HT.o x.a (by simp only[mz,mem_append,mem_flatMap];exact Or.inr ⟨x,hx,by simp[mP]⟩);rw[et] at hb hxm⊢;have:=KP t (by omega) (by simpa using hb);rw[qU];omega
      have HPO:=ax hpo;clear KP hpo hcs k1;have K1':=ax k1';clear k1';have hwz:W.heap.size<=wr.heap.size:=by omega
      obtain Pq|Pq:k<m\/k=m:=by omega
      case' inl=>have h1:(k:Int)<(m:Int):=by omega
      case' inl=>have h2:=MF Pq
      case' inr=>have h1:¬(k:Int)<(m:Int):=by omega
      all_goals
       clear Pq MF;(go_wp2_with fail);refine(xP _ a (m:Int) (c.set m (k:Int)) W.heap.size _ HA'.o (TX.case xR.o) xR.o HO.o.1 HO.o.2 HPO.o).mono ?_;rintro e w1 ⟨rfl,hB1⟩;have k0:=TX.nz hB1;have k1:=K1'.o.nz hB1;replace fI:=k1.cell;obtain⟨p0,p1,p2,p3,p4,p5,p6,p7,p8⟩:=bO k0;have hz:=hB1.size;simp only[World.size_setCell] at hz;have RG:=ax (U2.o.trans (Kept.nz hB1 (by simp only[World.size_setCell];omega)));have HJ1:=ax (HJ.o.nz YB.o hB1);have HA1:=ax (hV.o.gp RG.o.bz hhi);clear hB1 qm TX JA;cases hps:jW a (c.set m (k:Int)) (m:Int)
       ·have Ow:=ax (show rH a S n c k=[] by rw[HX.o,hps];rfl);clear hps;(go_wp2_with fail)
        go_round
        case rel=>exact⟨k+1,c.set m (k:Int),ys,by omega,by go_num,xR,fun v=>by rw[set_set],by show _=_;rw[TZ.o,Ow.o,append_nil];exact TY.o,k0,k1,HJ1,RG⟩
        case measure=>simp[intOf];omega
       ·have Ow:=ax (show rH a S n c k=ext a S n (c.set m (k:Int)) by rw[HX.o,hps];rfl);clear hps;have U3:k<9 - n:=by have:=ES.o;have:=U1.o;omega
        have ih1:=IH.o (c.set m (k:Int)) (pre++ys) w1 (by have:=U1.o;omega) xR.o (by
         refine List.IsPrefix.trans ?_ HM.o;rw[HE.o,map_append,TY.o,append_assoc]
         exact(List.prefix_append_right_inj _).2 (Cf U3 (by rw[Ow.o];exact List.prefix_rfl))) (fun j hj=>RF.o j (by have:=ES.o;have:=U1.o;omega)) HA1.o (by omega) (by omega) HJ1.o
        rw[E1.o] at ih1;have YC:=ax ih1;clear ih1;(go_wp2_with fail);refine YC.o.mono ?_;rintro e W' (⟨rfl,YD,y1,y2,y3⟩|⟨rfl,YD,y1,y2⟩)
        ·have z0:=y3.keep _ _ _ (Or.inl rfl) k0;have z1:=y3.keep _ _ _ (Or.inr rfl) k1;have Y:=ax (⟨y1,y2,y3⟩:_/\_/\_);clear y1 y2 y3 k0 k1 fI p0 p1 p2 p3 p4 p5 p6 p7 p8;(go_wp2_with fail)
         go_round
         case rel=>exact⟨k+1,c.set m (k:Int),ys++YD,by omega,by go_num,xR,fun v=>by rw[set_set],by show _=_;rw[TZ.o,Ow.o,map_append,Y.o.1,TY.o],z0,z1,by rw[<-append_assoc];exact Y.o.2.1,RG.o.trans Y.o.2.2⟩
         case measure=>simp[intOf];omega
        ·have Y:=ax (⟨y1,y2⟩:_/\_);clear y1 y2 k0 k1 fI p0 p1 p2 p3 p4 p5 p6 p7 p8;go_wp2;go_ret;refine Or.inr ⟨rfl,ys++YD,?_,by rw[<-append_assoc];exact Y.o.2⟩;rw[HE.o,map_append,TY.o];exact Cf U3 (by rw[Ow.o];exact Y.o.1)
    ·obtain rfl:k=m+1:=by omega
     go_wp2;go_ret;refine Or.inl ⟨rfl,ys,?_,Yz.o,YA.o⟩;rw[HE.o,TY.o,show 9 - n=m+1 from by have:=ES.o;have:=U1.o;omega]
abbrev tTS:Nat:=48
def dP(a:au)(F:Nat):Nat:=aQ (aO (mz a)) 0|||F
theorem MG{a:au}{F:Nat}(h:F<512):dP a F<512:=Nat.or_lt_two_pow (n:=9) (bC (dI _) 0) h
theorem kU(a:au)(F n:Nat):(dP a F).testBit n=(decide (jq (n:Int)=true/\(n:Int)∈mz a) || decide (n=0) || F.testBit n):=by
 unfold dP;rw[Nat.testBit_or,cr,iL]
 congr 2
 rw[decide_eq_decide];constructor
 ·rintro⟨_,h⟩;omega
 ·intro h;subst h;exact⟨by decide,rfl⟩
theorem pX(a:au)(F:Nat):(dP a F).testBit 0=true:=by rw[kU];simp
theorem rJ{a:au}(h:a.valid=true)(F:Nat):∀t∈mz a,(dP a F).testBit t.toNat=true:=by
 intro t ht;have hb:=jK h t ht;have:=qU.1 hb;rw[kU];have e:((t.toNat:Nat):Int)=t:=by omega
 rw[e];simp[hb,ht]
theorem wI{a:au}(h:a.valid=true)(F:Nat):∀t:Nat,(dP a F).testBit t=false->(∀f∈a.facts,f.a≠t/\f.b≠t)/\(∀x∈a.atoms,x.a≠t/\x.b≠t):=by
 intro t ht
 have key:(t:Int)∉mz a:=fun hm=>by
  have:=rJ h F _ hm;rw[Int.toNat_natCast,ht] at this;cases this
 refine⟨fun f hf=>⟨fun e=>key ?_,fun e=>key ?_⟩,fun x hx=>⟨fun e=>key ?_,fun e=>key ?_⟩⟩
 all_goals simp only[mz,mem_append,mem_flatMap]
 ·exact Or.inl ⟨f,hf,by simp[qI,e]⟩
 ·exact Or.inl ⟨f,hf,by simp[qI,e]⟩
 ·exact Or.inr ⟨x,hx,by simp[mP,e]⟩
 ·exact Or.inr ⟨x,hx,by simp[mP,e]⟩
theorem Cg{a:au}(h:a.valid=true)(F:Nat):ext a (dP a F) 9 zeros=cases a (dP a F):=KH (au.dm h).1 (au.dm h).2 (wI h F)
theorem MH{a:au}{F lo hi n₀ gA gT:Nat}{A1 A2:Option Addr}{d1 d2:Nat}(w:World)(hv:a.valid=true)(hF:F<512)(hA:aM w lo hi (.agg #[.slice A1 a.facts.length d1,.slice A2 a.atoms.length d2]) a)(hhi:hi<=n₀)(hn:n₀<=w.heap.size)
  (kA:ae w gA aC #[.slice A1 a.facts.length d1,.slice A2 a.atoms.length d2]) (kT:ae w gT tTS #[.int .u16 (dP a F:Nat)]) :
  UY (α:=CaseT a (dP a F)) Tryz.prog 158 #[.pointer (some ⟨gA,0,none⟩),.pointer (some ⟨gT,0,none⟩)] (fun x=>#[.agg (bM x.1)]) lq (Kept lq aC n₀) (fun p=>p.map Subtype.val <+: cases a (dP a F)) (fun xs=>xs.map Subtype.val=cases a (dP a F)) (fun pre=>pre.map Subtype.val <+: cases a (dP a F)) w:=by
 intro n l J Jx W hW hJ hJx hY h0;have kA':=kA.nz hW;have kT':=kT.nz hW;have hA':=hA.bz hW;have hz:=hW.size;have hB1:Below W.heap.size W (W.alloc (.cells (bM zeros) lq)):=aj;have h1:=BH hv (MG hF) (rJ hv F) hhi J Jx hJ hY 9 zeros [] _ (by omega) rfl (by rw[Cg hv];simp) (fun j hj=>by omega) (hA'.bz hB1) hB1.size (by have:=hB1.size;omega) (hJ.nz h0 hB1);rw[show ((9 - 9:Nat):Int)=0 from rfl,Cg hv] at h1;have H1:=ax h1;have lA:=kA'.lt;have lT:=kT'.lt;have qA:=kA'.cell;have qT:=kT'.cell;clear h1 hY hJ hJx h0 hA' hA;refine callsIn_wide.2 ?_;(go_enter Tryz.func158,Tryz.ntmps158);(go_wp2_with fail);refine H1.o.mono ?_;rintro e W' (⟨rfl,ys,y1,y2,-⟩|⟨rfl,ys,y1,y2⟩)
 ·have Y:=ax (⟨y1,y2⟩:_/\_);clear y1 y2;(go_wp2_with fail)
  go_end0
  exact⟨⟨_,rfl⟩,.inl ⟨ys,Y.o.1,Y.o.2⟩⟩
 ·have Y:=ax (⟨y1,y2⟩:_/\_);clear y1 y2;(go_wp2_with fail)
  go_end0
  exact⟨⟨_,rfl⟩,.inr ⟨ys,Y.o.1,Y.o.2⟩⟩
theorem iO{lo hi:Nat}(A1 A2:Option Addr)(d1 d2:Nat)(a:au)(F:Nat)(w:World)(h:aM w lo hi (.agg #[.slice A1 a.facts.length d1,.slice A2 a.atoms.length d2]) a)(hF:F<512) :
  Calls Tryz.prog 146 #[.agg #[.slice A1 a.facts.length d1,.slice A2 a.atoms.length d2],.int .u16 (F:Nat)] w fun e w'=>∃gA gT,e=.returned (.func (.func 158) #[] #[.pointer (some ⟨gA,0,none⟩),.pointer (some ⟨gT,0,none⟩)])/\
   w.heap.size<=gA/\w.heap.size<=gT/\ae w' gA aC #[.slice A1 a.facts.length d1,.slice A2 a.atoms.length d2]/\ae w' gT tTS #[.int .u16 (dP a F:Nat)]/\Below w.heap.size w w':=by
 have hV:=ax h;clear h;have hT:=dI (mz a);have Hg:=bC hT 0;have hU:=u16_or_nat (aQ (aO (mz a)) 0) F (by omega) (by omega);(go_enter Tryz.func146,Tryz.ntmps146);(go_wp2_with fail);refine(di _ a _ (hV.o.bz aj)).mono ?_;rintro e w1 ⟨rfl,hB1⟩;have k0:ae w1 w.heap.size aC #[.slice A1 a.facts.length d1,.slice A2 a.atoms.length d2]:=ae.nz az hB1;have hB:Below w.heap.size w w1:=aP (w:=w) aj hB1;have hz:=hB1.size;simp only[World.size_alloc] at hz;clear hB1;(go_wp2_with fail);refine(aY _ 0 _ hT).mono ?_;rintro e w2 ⟨rfl,rfl⟩;go_wp2;go_ret;refine⟨w.heap.size,w1.heap.size,rfl,bn,by omega,k0.alloc _,?_,aj⟩;exact ae.new _ _ _
theorem MI{y:List Int}{L:List (List Int)}(h:[y] <+: L):L.head?.getD zeros=y/\L.isEmpty=false:=by
 obtain⟨zs,rfl⟩:=h;exact⟨rfl,rfl⟩
abbrev KQ(w:World)(g:Nat)(v0 v1 v2 v3 v4 v5 v6 v7 v8:Value):World:=(((((((((w.setCell ⟨g,0,none⟩ v0).setCell ⟨g,1,none⟩ v1).setCell ⟨g,2,none⟩ v2).setCell ⟨g,3,none⟩ v3).setCell ⟨g,4,none⟩ v4).setCell ⟨g,5,none⟩ v5).setCell ⟨g,6,none⟩ v6).setCell ⟨g,7,none⟩ v7).setCell ⟨g,8,none⟩ v8)
theorem ae.nine{w:World}{g:Nat}{t:TypeId}{a0 a1 a2 a3 a4 a5 a6 a7 a8 v0 v1 v2 v3 v4 v5 v6 v7 v8:Value}(h:ae w g t #[a0,a1,a2,a3,a4,a5,a6,a7,a8]):ae (KQ w g v0 v1 v2 v3 v4 v5 v6 v7 v8) g t #[v0,v1,v2,v3,v4,v5,v6,v7,v8]:=by
 have h0:=h.ag 0 v0;simp only[setIfInBounds_toArray,set_cons_zero] at h0;have h1:=h0.ag 1 v1;simp only[setIfInBounds_toArray,set_cons_zero,set_cons_succ] at h1;have h2:=h1.ag 2 v2;simp only[setIfInBounds_toArray,set_cons_zero,set_cons_succ] at h2;have h3:=h2.ag 3 v3;simp only[setIfInBounds_toArray,set_cons_zero,set_cons_succ] at h3;have h4:=h3.ag 4 v4;simp only[setIfInBounds_toArray,set_cons_zero,set_cons_succ] at h4;have h5:=h4.ag 5 v5;simp only[setIfInBounds_toArray,set_cons_zero,set_cons_succ] at h5;have h6:=h5.ag 6 v6;simp only[setIfInBounds_toArray,set_cons_zero,set_cons_succ] at h6;have h7:=h6.ag 7 v7;simp only[setIfInBounds_toArray,set_cons_zero,set_cons_succ] at h7;have h8:=h7.ag 8 v8;simp only[setIfInBounds_toArray,set_cons_zero,set_cons_succ] at h8;exact h8
theorem ae.yG{w:World}{g g2:Nat}{t:TypeId}{cs:Array Value}{v0 v1 v2 v3 v4 v5 v6 v7 v8:Value}(h:ae w g2 t cs)(hn:g2≠g):ae (KQ w g v0 v1 v2 v3 v4 v5 v6 v7 v8) g2 t cs:=
 ((((((((h.far (p:=⟨g,0,none⟩) hn v0).far (p:=⟨g,1,none⟩) hn v1).far (p:=⟨g,2,none⟩) hn v2).far (p:=⟨g,3,none⟩) hn v3).far (p:=⟨g,4,none⟩) hn v4).far (p:=⟨g,5,none⟩) hn v5).far (p:=⟨g,6,none⟩) hn v6).far (p:=⟨g,7,none⟩) hn v7).far (p:=⟨g,8,none⟩) hn v8
theorem Dm{w w0:World}{B g:Nat}{v0 v1 v2 v3 v4 v5 v6 v7 v8:Value}(h:Below B w0 w)(hn:B<=g):Below B w0 (KQ w g v0 v1 v2 v3 v4 v5 v6 v7 v8):=
 ((((((((h.setCell (p:=⟨g,0,none⟩) hn v0).setCell (p:=⟨g,1,none⟩) hn v1).setCell (p:=⟨g,2,none⟩) hn v2).setCell (p:=⟨g,3,none⟩) hn v3).setCell (p:=⟨g,4,none⟩) hn v4).setCell (p:=⟨g,5,none⟩) hn v5).setCell (p:=⟨g,6,none⟩) hn v6).setCell (p:=⟨g,7,none⟩) hn v7).setCell (p:=⟨g,8,none⟩) hn v8
theorem Dn{w:World}{g:Nat}{v0 v1 v2 v3 v4 v5 v6 v7 v8:Value}:KeepsOthers w (KQ w g v0 v1 v2 v3 v4 v5 v6 v7 v8):=
 ((((((((KeepsOthers.setCell _ _ _).trans (KeepsOthers.setCell _ _ _)).trans (KeepsOthers.setCell _ _ _)).trans (KeepsOthers.setCell _ _ _)).trans (KeepsOthers.setCell _ _ _)).trans (KeepsOthers.setCell _ _ _)).trans (KeepsOthers.setCell _ _ _)).trans (KeepsOthers.setCell _ _ _)).trans (KeepsOthers.setCell _ _ _)
theorem Kept.ma{T1 T2:TypeId}{n₀ B:Nat}(hn:n₀<=B)(W:World)(l:Nat)(o o':Obj)(hl:B<=l)(h:W.heap[l]? = some o)(hc:o.isCells=false):Kept T1 T2 n₀ W (W.putObj l o'):=Kept.put o' (by omega) h hc
theorem ae.ma{W:World}{g l:Nat}{t:TypeId}{cs:Array Value}{o:Obj}(o':Obj)(hb:ae W g t cs)(hl:W.heap[l]? = some o)(ho:o.isCells=false):ae (W.putObj l o') g t cs:=
 (World.putObj_heap_other (fun e=>by subst e;unfold ae at hb;rw[hl] at hb;cases hb;cases ho)).trans hb
theorem wJ{lo hi:Nat}(v:Value)(a:au)(w:World)(h:aM w lo hi v a)(hhi:hi<=w.heap.size)(hv:a.valid=true) :
  Calls Tryz.prog 121 #[v] w fun e w'=>e=.returned (.tuple #[.agg (bM ((cases a (dP a 0)).head?.getD zeros)),.bool (!(cases a (dP a 0)).isEmpty)])/\Below w.heap.size w w':=by
 have hV:=ax h;obtain⟨A1,c1,A2,c2,rfl,-,-⟩:=h;refine(callsIn_wide (n:=3)).1 ?_;(refine callsIn_of_wp_marks Tryz.func121 rfl trivial ?_ rfl;simp only[Tryz.ntmps121,size_toArray,length_cons,length_nil,Nat.reduceAdd,Nat.reduceSub,Array.replicate_succ,Array.replicate_zero,push_toArray,append_toArray,nil_append,cons_append])
 gi_wp2_with fail
 refine⟨trivial,(callsIn_wide.2 (iO A1 A2 c1 c2 a 0 _ (hV.o.bz aj) (by decide))).mono ?_⟩;rintro e w1 ⟨gA,gT,rfl,hA,hT,kA,kT,hB1⟩;have RH:ae w1 (w.heap.size+1) lq #[.int .i64 0,.int .i64 0,.int .i64 0,.int .i64 0,.int .i64 0,.int .i64 0,.int .i64 0,.int .i64 0,.int .i64 0]:=ae.nz az hB1;have kR:ae w1 (w.heap.size+1) lq (bM zeros):=RH;clear RH;have kO:ae w1 (w.heap.size+1+1) 4 #[.bool false]:=ae.nz az hB1;have hB:Below w.heap.size w w1:=aP (w:=w) aj hB1;have hz:=hB1.size;simp only[World.size_alloc] at hz hA hT;have U4:=hV.o.bz hB;clear hB1
 gi_wp2_with fail
 refine wH (gf:=158) (lb:=#[.pointer (some ⟨gA,0,none⟩),.pointer (some ⟨gT,0,none⟩)]) rfl (enters_of Tryz.func158 (by kernel_rfl) rfl)
  (MH (n₀:=w.heap.size) w1 hv (by decide) U4 hhi (by omega) kA kT) (fun h k=>h.trans k) (Kept.ma (by omega)) aU (fun _=>rfl)
  (fun pre W=>pre=[]/\ae W (w.heap.size+1) lq (bM zeros)/\ae W (w.heap.size+1+1) 4 #[.bool false]/\Below w.heap.size w W)
  (fun c pre W=>∃x,c=.ret/\pre=[x]/\ae W (w.heap.size+1) lq (bM x.1)/\ae W (w.heap.size+1+1) 4 #[.bool true]/\Below w.heap.size w W)
  (fun s X Y row hs hg hr=>⟨hs.1,hs.2.1.turn hg hr (Or.inr (by omega)),hs.2.2.1.turn hg hr (Or.inr (by omega)),Below.turn hs.2.2.2 hg hr (by omega) hs.2.2.2.size⟩)
  (fun c s X Y row hs hg hr=>by
   obtain⟨x,e1,e2,k1,k2,k3⟩:=hs
   exact⟨x,e1,e2,k1.turn hg hr (Or.inr (by omega)),k2.turn hg hr (Or.inr (by omega)),Below.turn k3 hg hr (by omega) k3.size⟩)
  ⟨rfl,kR,kO,hB⟩ ?round ?done ?stop
 case round=>
  rintro l pre x W hl ⟨rfl,kR,kO,hB⟩ -;have hwz:=hB.size
  gi_wp2
  refine⟨(KeepsOthers.alloc _ _).from _,Kept.alloc (by omega) _,fun o o' ho hc=>?_⟩;have kX:=(ae.new W lq (bM x.1)).ma o' ho hc;have lO:=kO.lt;replace kR:=(kR.alloc (.cells (bM x.1) lq)).ma o' ho hc;replace kO:=(kO.alloc (.cells (bM x.1) lq)).ma o' ho hc;have hB':=(ai hB (.cells (bM x.1) lq)).trans (Kept.put (T1:=lq) (T2:=aC) (n₀:=w.heap.size) o' (by omega) ho hc).bz;clear ho;obtain⟨V,JI⟩:∃V,V=(W.alloc (.cells (bM x.1) lq)).putObj l o':=⟨_,rfl⟩;rw[<-JI] at kX kR kO hB'⊢;clear JI hB;obtain⟨p0,p1,p2,p3,p4,p5,p6,p7,p8⟩:=bO kX;obtain⟨q0,q1,q2,q3,q4,q5,q6,q7,q8⟩:=bO kR;have rR:=kR.frozen;have qO:=kO.cell 0;have rO:=kO.frozen
  gi_wp2
  refine⟨(Dn.trans (KeepsOthers.setCell _ _ _)).from _,x,rfl,rfl,?_,?_,?_⟩
  ·exact(ae.nine kR).far (p:=⟨w.heap.size+1+1,0,none⟩) (by simp) _
  ·exact(kO.yG (by omega)).ag 0 (.bool true)
  ·exact iq (Dm hB' (by omega)) (w.heap.size+1+1) 0 _
 case done=>
  rintro D ys W hD hS ⟨rfl,kR,kO,hB⟩ hK;have E:cases a (dP a 0)=[]:=hS.symm;obtain⟨q0,q1,q2,q3,q4,q5,q6,q7,q8⟩:=bO kR;have rR:=kR.frozen;have qO:=kO.cell 0;have rO:=kO.frozen;have lO:=kO.lt;have lR:=kR.lt
  gi_wp2
  have zR:=(ae.nine (v0:=.int .i64 0) (v1:=.int .i64 0) (v2:=.int .i64 0) (v3:=.int .i64 0) (v4:=.int .i64 0) (v5:=.int .i64 0) (v6:=.int .i64 0) (v7:=.int .i64 0) (v8:=.int .i64 0) kR).far (p:=⟨w.heap.size+1+1,0,none⟩) (by simp) (.bool false);have zO:=(kO.yG (g:=w.heap.size+1) (v0:=.int .i64 0) (v1:=.int .i64 0) (v2:=.int .i64 0) (v3:=.int .i64 0) (v4:=.int .i64 0) (v5:=.int .i64 0) (v6:=.int .i64 0) (v7:=.int .i64 0) (v8:=.int .i64 0) (by omega)).ag 0 (.bool false);have zB:=iq (Dm (g:=w.heap.size+1) (v0:=.int .i64 0) (v1:=.int .i64 0) (v2:=.int .i64 0) (v3:=.int .i64 0) (v4:=.int .i64 0) (v5:=.int .i64 0) (v6:=.int .i64 0) (v7:=.int .i64 0) (v8:=.int .i64 0) hB (by omega)) (w.heap.size+1+1) 0 (.bool false);have zK:=((Dn (w:=W) (g:=w.heap.size+1) (v0:=.int .i64 0) (v1:=.int .i64 0) (v2:=.int .i64 0) (v3:=.int .i64 0) (v4:=.int .i64 0) (v5:=.int .i64 0) (v6:=.int .i64 0) (v7:=.int .i64 0) (v8:=.int .i64 0)).trans (KeepsOthers.setCell _ ⟨w.heap.size+1+1,0,none⟩ (.bool false))).same D _ hK rfl;obtain⟨V,JI⟩:∃V,V=((KQ W (w.heap.size+1) (.int .i64 0) (.int .i64 0) (.int .i64 0) (.int .i64 0) (.int .i64 0) (.int .i64 0) (.int .i64 0) (.int .i64 0) (.int .i64 0)).setCell ⟨w.heap.size+1+1,0,none⟩ (.bool false)):=⟨_,rfl⟩;rw[<-JI] at zR zO zB zK⊢;refine⟨by simp,.inl ⟨_,_,rfl,run_takeDeferred zK,?_⟩⟩;have yR:ae _ _ _ (bM zeros):=zR.ma (.deferred none) zK rfl;have yO:=zO.ma (.deferred none) zK rfl;obtain⟨p0,p1,p2,p3,p4,p5,p6,p7,p8⟩:=bO yR;have pO:=yO.cell 0;refine⟨.tuple #[.agg (bM zeros),.bool false],?_,by rw[E];rfl,zB.trans (belowK_b (w:=w) bn V D _ _ (by omega) zK rfl rfl)⟩;simp[results,Tryz.f121,go_sem,p0,p1,p2,p3,p4,p5,p6,p7,p8,pO]
 case stop=>
  rintro D c pre W hD hS ⟨x,rfl,rfl,kR,kO,hB⟩ hK;obtain⟨q0,q1,q2,q3,q4,q5,q6,q7,q8⟩:=bO kR;have qO:=kO.cell 0;have lO:=kO.lt;have lR:=kR.lt
  gi_wp2
  refine⟨by simp,.inl ⟨_,_,rfl,run_takeDeferred hK,?_⟩⟩;have yR:=kR.ma (.deferred none) hK rfl;have yO:=kO.ma (.deferred none) hK rfl;obtain⟨p0,p1,p2,p3,p4,p5,p6,p7,p8⟩:=bO yR;have pO:=yO.cell 0;have E:=MI hS;refine⟨.tuple #[.agg (bM x.1),.bool true],?_,by rw[E.1,E.2];rfl,hB.trans (belowK_b (w:=w) bn W D _ _ (by omega) hK rfl rfl)⟩;simp[results,Tryz.f121,go_sem,p0,p1,p2,p3,p4,p5,p6,p7,p8,pO]
theorem nO{lo hi:Nat}(v:Value)(a:au)(w:World)(h:aM w lo hi v a)(hhi:hi<=w.heap.size) :
  Calls Tryz.prog 94 #[v] w fun e w'=>e=.returned (.bool (a.valid && !(cases a (dP a 0)).isEmpty))/\Below w.heap.size w w':=by
 have hV:=ax h;obtain⟨A1,c1,A2,c2,rfl,-,-⟩:=h;(go_enter Tryz.func94,Tryz.ntmps94);(go_wp2_with fail);refine(jz _ a _ (hV.o.bz aj)).mono ?_;rintro e w1 ⟨rfl,hB1⟩;have k0:ae w1 w.heap.size aC #[.slice A1 a.facts.length c1,.slice A2 a.atoms.length c2]:=ae.nz az hB1;have hB:Below w.heap.size w w1:=aP (w:=w) aj hB1;have hz:=hB1.size;simp only[World.size_alloc] at hz;clear hB1;have q0:=k0.cell;have l0:=k0.lt;cases hv:a.valid
 ·go_wp2;go_ret;exact⟨dz (by simp[hv]),hB⟩
 ·have HV:=ax hv;(go_wp2_with fail);refine(wJ _ a _ (hV.o.bz hB) (by omega) HV.o).mono ?_;rintro e w2 ⟨rfl,hB2⟩;go_wp2;go_ret;exact⟨dz (by simp[hv]),ai (aP hB hB2) _⟩
end
section
open Go Go.RowKit Go.Proofs
attribute [local go_sem ↓] Go.wp_at_zero Go.wp_at_succ
theorem aD.open_{w:World}{base:Nat}{A:Option Addr}{n c k:Nat}{fs:List Int}(h:aD w base (.slice A n c) fs)(hk:k<fs.length):∃g cur,n=fs.length/\A=some ⟨g,0,none⟩/\base<=g/\ae w g tI cur/\cur[k]? = some (.int .i64 fs[k])/\
  (∀v:Int,aD (w.setCell ⟨g,k,none⟩ (.int .i64 v)) base (.slice A n c) (fs.set k v)):=by
 obtain⟨⟨hl,h2⟩,hL⟩:=h;rcases h2 with ⟨e,hn⟩|⟨g,cap,cur,e,hb,hh,hn,hm,hs,ht⟩
 ·omega
 ·injection e with e1 e2 e3;subst e1 e2 e3;have hK:ae w g tI cur:=hh
  have hP:Pre cur (encI fs) (fs.length * 1):=by
   intro j hj;rw[<-ht,List.getElem?_take,if_pos hj];simp
  refine⟨g,cur,rfl,rfl,hb,hK,(hP _ (by omega)).trans (by simp[List.getElem?_eq_getElem hk]),?_⟩;intro v;refine⟨?_,by rw[length_set];exact hL⟩;rw[show encI (fs.set k v)=(encI fs).set k (.int .i64 v) from by simp[encI,map_set],length_set];exact ed (hK.ag k (.int .i64 v)) hb (by rw[length_set,hl]) (hP.Hm k (.int .i64 v) (by rw[hs];exact Nat.mul_le_mul hn bn) (by rw[hl];exact bn)) hn hm (by simpa using hs)
def mf(a:au)(S n:Nat)(c:List Int)(k:Nat):List (List Int):=if k<8 - n/\cl c k≠k then [] else gG a S n (c.set (8 - n) k)
theorem uY{a:au}{S:Nat}(n:Nat){c:List Int}(h:(gF c a.facts&&bU c [] a.atoms)=false):gG a S n c=[]:=by
 cases n<;>(unfold gG;rw[h];rfl)
theorem KR{a:au}{S:Nat}{c:List Int}(h:(gF c a.facts&&bU c [] a.atoms)=true):gG a S 0 c=if ji [] (aW a.atoms c) then [c] else []:=by
 unfold gG;rw[h,if_pos rfl]
theorem KS{a:au}{S n:Nat}{c:List Int}(h:(gF c a.facts&&bU c [] a.atoms)=true):gG a S (n+1) c=if S.testBit (8 - n) then (range (9 - n)).flatMap (mf a S n c) else gG a S n c:=by
 conv=>lhs;unfold gG
 rw[h,if_pos rfl];rfl
theorem BI{α:Type}{f:Nat->List α}{k N:Nat}(hk:k<N)(h:(range k).flatMap f=[])(hne:f k≠[]):∃y,(f k).head? = some y/\((range N).flatMap f).head? = some y:=by
 obtain⟨m,rfl⟩:∃m,N=k+(m+1):=⟨N - k - 1,by omega⟩;rw[List.range_add,List.range_succ_eq_map,map_cons,flatMap_append,List.flatMap_cons,Nat.add_zero,h,nil_append]
 cases e:f k with
 | nil=>exact absurd e hne
 | cons y ys=>exact⟨y,rfl,rfl⟩
def zP(L:List (List Int)):List Int:=L.head?.getD []
theorem JJ{lo hi bJ hi':Nat}(A B:Option Addr)(c0 c1:Nat)(fs:List aF)(c:List Int)(w:World)(h:aG w lo hi A fs)(h':bG w bJ hi' B c)(hc:c.length=9)(hf:gz fs) :
  Calls Tryz.prog 154 #[.slice A fs.length c0,.slice B 9 c1] w fun e w'=>e=.returned (.bool (gF c fs))/\w=w':=by
 have:=BF A B c0 c1 fs c w h h' hc hf;rwa [hc] at this
theorem ET{lo hi bJ hi':Nat}(A B:Option Addr)(c0 c1:Nat)(xs:List aL)(c:List Int)(w:World)(h:aB w lo hi A xs)(h':bG w bJ hi' B c)(hc:c.length=9)(hx:dM xs)(hcl:∀x∈xs,cl c x.a<=8) :
  Calls Tryz.prog 155 #[.slice A xs.length c0,.slice B 9 c1] w fun e w'=>e=.returned (.bool (bU c [] xs))/\Below w.heap.size w w':=by
 have:=zJ A B c0 c1 xs c w h h' hc hx hcl;rwa [hc] at this
theorem KT{lo hi bJ hi':Nat}(A B:Option Addr)(c0 c1:Nat)(xs:List aL)(c:List Int)(w:World)(h:aB w lo hi A xs)(h':bG w bJ hi' B c)(hc:c.length=9)(hx:dM xs) :
  Calls Tryz.prog 157 #[.slice A xs.length c0,.slice B 9 c1] w fun e w'=>∃r,e=.returned r/\af w' w.heap.size r (aW xs c)/\Below w.heap.size w w':=by
 have:=xQ A B c0 c1 xs c w h h' hc hx;rwa [hc] at this
theorem jB{a:au}{S lo hi lo2 hi2:Nat}{A1 A2:Option Addr}{d1 d2:Nat}(T:Option Addr)(tc:Nat)(hOK:aJ (gz a.facts/\dM a.atoms))(YE:aJ (a.facts.length<=40/\a.atoms.length<=6)) :
  ∀(n:Nat) (c:List Int) (B:Option Addr) (cc bJ hi':Nat) (w:World),n<=8->c.length=9->(∀j:Nat,j<9 - n->S.testBit j=true->0<=cl c j/\cl c j<=j)->(∀j:Nat,j<9->cl c j<=8)->
   aM w lo hi (.agg #[.slice A1 a.facts.length d1,.slice A2 a.atoms.length d2]) a->bB w lo2 hi2 T (zj S)->bG w bJ hi' B c->
   Calls Tryz.prog 143 #[.agg #[.slice A1 a.facts.length d1,.slice A2 a.atoms.length d2],.slice T 9 tc,.slice B 9 cc,.int .i64 ((9 - n:Nat):Int)] w fun e w'=>
    ∃r,e=.returned (.tuple #[r,.bool (!(gG a S n c).isEmpty)])/\aD w' w.heap.size r (zP (gG a S n c))/\Below w.heap.size w w':=by
 intro n
 induction n with
 | zero=>
  intro c B cc bJ hi' w hn hc _ hc8 hA hT hI;have HO:=hOK;have hV:=ax hA;have HC:=ax hc;have HI:=ax hI
  have KM:aJ (∀x∈a.atoms,cl c x.a<=8):=fun x hx=>by
   have:=(HO.o.2 x hx).1;obtain⟨t,et⟩:=Int.eq_ofNat_of_zero_le this.1;rw[et];exact hc8 t (by omega)
  obtain⟨B1,e1,B2,e2,he,h1,h2⟩:=hA;injection he with he;injection he with he;injection he with he1 he2;injection he2 with he2 YF;injection he1 with he1 _ YG;injection he2 with he2 _ YH;subst he1 YG he2 YH;have H1:=ax h1;have H2:=ax h2;have hvl:=YE.o;clear h1 h2 hc hc8 hT hI YF;(go_enter Tryz.func143,Tryz.ntmps143);(go_wp2_with fail);refine(JJ A1 B d1 cc a.facts c _ (H1.o.bz aj) (HI.o.bz aj) HC.o HO.o.1).mono ?_;rintro e w1 ⟨rfl,rfl⟩;cases hf:gF c a.facts
  ·have E:=ax (uY (a:=a) (S:=S) 0 (c:=c) (by rw[hf];rfl));clear hf;go_wp2;go_ret2;exact⟨_,by rw[E.o];rfl,by rw[E.o];exact aD.bq (aD.empty _ (by simp)) (by simp),aj⟩
  have HF:=ax hf;clear hf;(go_wp2_with fail);refine(ET A2 B d2 cc a.atoms c _ (H2.o.bz aj) (HI.o.bz aj) HC.o HO.o.2 KM.o).mono ?_;rintro e w2 ⟨rfl,hB2⟩;have hB:Below w.heap.size w w2:=aP (w:=w) aj hB2;have k0:ae w2 w.heap.size aC #[.slice A1 a.facts.length d1,.slice A2 a.atoms.length d2]:=ae.nz az hB2;have q0:=k0.cell;have l0:=k0.lt;clear hB2;cases he:bU c [] a.atoms
  ·have E:=ax (uY (a:=a) (S:=S) 0 (c:=c) (by rw[HF.o,he];rfl));clear he;go_wp2;go_ret2;exact⟨_,by rw[E.o];rfl,by rw[E.o];exact aD.bq (aD.empty _ rfl) (by omega),aj⟩
  have E0:=ax (KR (a:=a) (S:=S) (c:=c) (by rw[HF.o,he];rfl));clear he;(go_wp2_with fail);refine(KT A2 B d2 cc a.atoms c _ (H2.o.bz hB) (HI.o.bz hB) HC.o HO.o.2).mono ?_;rintro e w3 ⟨r3,rfl,o3,hB3⟩;obtain⟨R3,e3,rfl,v3⟩:=o3.rj;have tJ:Below w.heap.size w w3:=aP hB hB3;(go_wp2_with fail);refine(zL R3 e3 (aW a.atoms c) _ v3).mono ?_;rintro e w4 ⟨rfl,hB4⟩;have bW:Below w.heap.size w w4:=aP tJ hB4;have hz:=bW.size;clear o3 v3 hB3 hB4 tJ q0 l0 k0 hB;cases hap:ji [] (aW a.atoms c)
  ·have E:=ax (show gG a S 0 c=[] by rw[E0.o,hap];rfl);clear hap;go_wp2;go_ret2;exact⟨_,by rw[E.o];rfl,by rw[E.o];exact aD.bq (aD.empty _ rfl) (by omega),aj⟩
  ·have E:=ax (show gG a S 0 c=[c] by rw[E0.o,hap];rfl);clear hap;(go_wp2_with (at_builtin;refine Ml (ys:=c) rfl _ _ rfl (v:=.slice (some ⟨w4.heap.size,0,none⟩) 0 0) rfl (aD.empty w4 rfl) (by rw[HC.o];rfl) (HI.o.bz aj) (by rw[HC.o];simp) (by simp) ?_;intro A' c' w5 o5 hg5 iA;rw[nil_append,HC.o]));go_ret2;exact⟨_,by rw[E.o];rfl,by rw[E.o];rw[nil_append,HC.o] at o5;exact o5.bq hz,Below.trans aj (iA.mono hz)⟩
 | succ n ih=>
  intro c B cc bJ hi' w hn hc hcl hc8 hA hT hI;have HO:=hOK;have hV:=ax hA;have HC:=ax hc;have HI:=ax hI;have Ps:=ax hT;have HC8:=ax hc8;have RI:=ax hcl;have IH:=ax ih
  have KM:aJ (∀x∈a.atoms,cl c x.a<=8):=fun x hx=>by
   have:=(HO.o.2 x hx).1;obtain⟨t,et⟩:=Int.eq_ofNat_of_zero_le this.1;rw[et];exact hc8 t (by omega)
  obtain⟨B1,e1,B2,e2,he,h1,h2⟩:=hA;injection he with he;injection he with he;injection he with he1 he2;injection he2 with he2 YF;injection he1 with he1 _ YG;injection he2 with he2 _ YH;subst he1 YG he2 YH;have H1:=ax h1;have H2:=ax h2;obtain⟨tb,UM,rfl,ltb⟩:=iN hT;obtain⟨pb,ob,rfl,TW⟩:=hI.blt (k:=0) (by omega);obtain⟨m,U0⟩:∃m,m=8 - n:=⟨_,rfl⟩;have E1:aJ (((9 - n:Nat):Int)=(m:Int)+1):=by show _=_;omega
  rw[show 9 - (n+1)=m from by omega] at RI⊢;have ES:=ax U0;have HN:=ax hn;have hmg:¬(8<(m:Int)):=by omega
  have Yx:(m:Int)<9:=by omega
  clear h1 h2 hc hc8 hcl hT hI YF ih U0 hn;(go_enter Tryz.func143,Tryz.ntmps143);(go_wp2_with fail);refine(JJ A1 _ d1 cc a.facts c _ (H1.o.bz aj) (HI.o.bz aj) HC.o HO.o.1).mono ?_;rintro e w1 ⟨rfl,rfl⟩;cases hf:gF c a.facts
  ·have E:=ax (uY (a:=a) (S:=S) (n+1) (c:=c) (by rw[hf];rfl));clear hf;go_wp2;go_ret2;exact⟨_,by rw[E.o];rfl,by rw[E.o];exact aD.bq (aD.empty _ (by simp)) (by simp),aj⟩
  have HF:=ax hf;clear hf;(go_wp2_with fail);refine(ET A2 _ d2 cc a.atoms c _ (H2.o.bz aj) (HI.o.bz aj) HC.o HO.o.2 KM.o).mono ?_;rintro e w2 ⟨rfl,hB2⟩;have hB:Below w.heap.size w w2:=aP (w:=w) aj hB2;have k0:ae w2 w.heap.size aC #[.slice A1 a.facts.length d1,.slice A2 a.atoms.length d2]:=ae.nz az hB2;have q0:=k0.cell;have l0:=k0.lt;clear hB2;cases he:bU c [] a.atoms
  ·have E:=ax (uY (a:=a) (S:=S) (n+1) (c:=c) (by rw[HF.o,he];rfl));clear he;go_wp2;go_ret2;exact⟨_,by rw[E.o];rfl,by rw[E.o];exact aD.bq (aD.empty _ rfl) (by omega),aj⟩
  have E0:=ax (KS (a:=a) (S:=S) (n:=n) (c:=c) (by rw[HF.o,he];rfl));clear he;have qt:=iM (Ps.o.bz hB) (m:=m) (by omega);cases ht:S.testBit m
  ·rw[ht] at qt;have E:aJ (gG a S (n+1) c=gG a S n c):=by show _=_;rw[E0.o,<-ES.o,ht];rfl
   have ih1:=IH.o c _ cc _ _ w2 (by have:=HN.o;omega) HC.o (fun j hj hS=>by
    by_cases e:j=m
    ·subst e;rw[ht] at hS;cases hS
    ·exact RI.o j (by have:=ES.o;have:=HN.o;omega) hS) HC8.o (hV.o.bz hB) (Ps.o.bz hB) (HI.o.bz hB)
   rw[E1.o] at ih1;have YC:=ax ih1;clear ih1 ht;(go_wp2_with fail);refine YC.o.mono ?_;rintro e w3 ⟨r,rfl,o3,hB3⟩;have O3:=ax o3;have hz:=hB.size;clear o3;go_wp2;go_ret2;exact⟨r,by rw[E.o];rfl,by rw[E.o];exact O3.o.bq hz,aP hB hB3⟩
  ·rw[ht] at qt;have E:aJ (gG a S (n+1) c=(range (9 - n)).flatMap (mf a S n c)):=by show _=_;rw[E0.o,<-ES.o,ht];rfl
   clear ht;(go_wp2_with fail)
   go_loopw [10] (fun i wr=>∃k:Nat,k<=m+1/\i=.int .i64 k/\aJ ((range k).flatMap (mf a S n c)=[])/\ae wr w.heap.size aC #[.slice A1 a.facts.length d1,.slice A2 a.atoms.length d2]/\Below w.heap.size w wr) (fun i _=>9 - (intOf i).toNat)
   case atStart=>exact⟨0,dJ,rfl,rfl,k0,hB⟩
   case round=>
    clear k0 hB q0 l0 qt;obtain⟨k,hk,rfl,HP,k0,hB⟩:=hrel;have q0:=k0.cell;have l0:=k0.lt;have hz:=hB.size;by_cases hlt:k<=m
    ·have hki:(k:Int)<=(m:Int):=by omega
     have hk9:(k:Int)<9:=by omega
     have hkc:=sN (HI.o.bz hB) (m:=k) (by rw[HC.o];omega);have TZ:aJ ((range (k+1)).flatMap (mf a S n c)=mf a S n c k):=by show _=_;rw[List.range_succ,flatMap_append,HP.o];simp
     by_cases nN:k<m/\cl c k≠k
     ·have HX:aJ (mf a S n c k=[]):=by show _=_;rw[mf,if_pos (by rw[<-ES.o];exact nN)]
      have Pq:(k:Int)<(m:Int):=by omega
      have hne:(cl c k != (k:Int))=true:=by simpa using nN.2
      clear nN hki hlt;(go_wp2_with fail)
      go_round
      case rel=>exact⟨k+1,by omega,by go_num,by show _=_;rw[TZ.o,HX.o],k0,hB⟩
      case measure=>simp[intOf];omega
     ·have MF:k<m->(cl c k != (k:Int))=false:=fun h=>by
       cases Int.decEq (cl c k) k with
       | isTrue h=>simp[h]
       | isFalse h'=>exact absurd ⟨h,h'⟩ nN
      have HX:aJ (mf a S n c k=gG a S n (c.set m k)):=by
       show _=_;rw[mf,<-ES.o,if_neg nN]
      clear nN;have hcs:(c.set m (k:Int)).length=9:=by simpa using HC.o
      have xR:=ax hcs
      have KP:∀j:Nat,j<9 - n->S.testBit j=true->0<=cl (c.set m (k:Int)) j/\cl (c.set m (k:Int)) j<=j:=fun j hj hSj=>by
       have:=ES.o;have:=HN.o;rw[jG HC.o (by omega) _ (by omega)]
       split
       ·omega
       ·exact RI.o j (by omega) hSj
      have RF:=ax KP
      have qX:∀j:Nat,j<9->cl (c.set m (k:Int)) j<=8:=fun j hj=>by
       rw[jG HC.o (by omega) _ (by omega)]
       split
       ·omega
       ·exact HC8.o j hj
      have YI:=ax qX;clear KP qX hcs;obtain Pq|Pq:k<m\/k=m:=by omega
      case' inl=>have h1:(k:Int)<(m:Int):=by omega
      case' inl=>have h2:=MF Pq
      case' inr=>have h1:¬(k:Int)<(m:Int):=by omega
      all_goals
       clear Pq MF;(go_wp2_with (at_builtin;refine Ml (ys:=c) (base:=wr.heap.size) rfl _ _ rfl (v:=.slice (some ⟨wr.heap.size,0,none⟩) 0 0) rfl (aD.empty wr rfl) (by rw[HC.o];rfl) (HI.o.bz aj) (by rw[HC.o];simp) (by simp) ?_;intro A' c' w5 o5 hg5 iA;rw[nil_append,HC.o] at o5⊢;obtain⟨g,cur,-,rfl,hgb,kg,hcm,hset⟩:=o5.open_ (k:=m) (by rw[HC.o];omega);have qg:=(kg.cell m).trans hcm;have rg:=kg.frozen;have lg:=kg.lt;have YJ:=ax (hset k);have k5:=ae.bz (g:=w.heap.size) (w:=wr.alloc (.cells #[] tI)) (k0.alloc _) iA l0;have bW:Below w.heap.size w w5:=Below.trans aj (iA.mono (by omega));have k6:=k5.fz g m (.int .i64 k);have q6:=k6.cell;clear hset o5 kg hcm q0 hg5));have iB:Below w.heap.size w (w5.setCell ⟨g,m,none⟩ (.int .i64 k)):=iq bW g m _;have U5:=iB.size;have v7:=YJ.o.dG.2;have ih1:=IH.o (c.set m (k:Int)) _ c' _ _ _ (by have:=HN.o;omega) xR.o RF.o YI.o (hV.o.bz iB) (Ps.o.bz iB) v7;rw[E1.o] at ih1;refine ih1.mono ?_;clear ih1 v7 q6 k5 qg rg;rintro e w8 ⟨r,rfl,o8,eQ⟩;have O8:=ax o8;have k8:=k6.nz eQ;have hBn:=aP iB eQ;clear o8 eQ k6 iB bW iA;cases hem:(gG a S n (c.set m (k:Int))).isEmpty
       ·have hne:mf a S n c k≠[]:=by rw[HX.o];intro h;rw[h] at hem;cases hem
        obtain⟨y,y1,y2⟩:=BI (N:=9 - n) (by have:=ES.o;have:=HN.o;omega) HP.o hne;rw[HX.o] at y1
        have E2:aJ ((gG a S (n+1) c).isEmpty=false/\zP (gG a S (n+1) c)=zP (gG a S n (c.set m (k:Int)))):=by
         refine⟨?_,?_⟩
         ·rw[E.o]
          cases h:(range (9 - n)).flatMap (mf a S n c) with
          | nil=>rw[h] at y2;cases y2
          | cons _ _=>rfl
         ·unfold zP;rw[E.o,y1,y2]
        clear hem hne y1 y2;go_wp2;go_ret2;exact⟨r,by rw[E2.o.1];rfl,by rw[E2.o.2];exact O8.o.bq U5,hBn⟩
       ·have Ow:aJ (mf a S n c k=[]):=by show _=_;rw[HX.o];simpa using hem
        clear hem;(go_wp2_with fail)
        go_round
        case rel=>exact⟨k+1,by omega,by go_num,by show _=_;rw[TZ.o,Ow.o],k8,hBn⟩
        case measure=>simp[intOf];omega
    ·obtain rfl:k=m+1:=by omega
     have E2:aJ (gG a S (n+1) c=[]):=by show _=_;rw[E.o,show 9 - n=m+1 from by have:=ES.o;have:=HN.o;omega];exact HP.o
     go_wp2;go_ret2;exact⟨_,by rw[E2.o];rfl,by rw[E2.o];exact aD.bq (aD.empty _ rfl) (by omega),aj⟩
theorem zQ{a:au}{S lo hi lo2 hi2:Nat}{A1 A2:Option Addr}{d1 d2:Nat}(T:Option Addr)(tc:Nat)(hv:a.valid=true) :
  ∀(n:Nat) (c:List Int) (B:Option Addr) (cc bJ hi':Nat) (w:World),n<=8->c.length=9->(∀j:Nat,j<9 - n->S.testBit j=true->0<=cl c j/\cl c j<=j)->(∀j:Nat,j<9->cl c j<=8)->
   aM w lo hi (.agg #[.slice A1 a.facts.length d1,.slice A2 a.atoms.length d2]) a->bB w lo2 hi2 T (zj S)->bG w bJ hi' B c->
   Calls Tryz.prog 143 #[.agg #[.slice A1 a.facts.length d1,.slice A2 a.atoms.length d2],.slice T 9 tc,.slice B 9 cc,.int .i64 ((9 - n:Nat):Int)] w fun e w'=>
    ∃r,e=.returned (.tuple #[r,.bool (!(gG a S n c).isEmpty)])/\aD w' w.heap.size r (zP (gG a S n c))/\Below w.heap.size w w':=
 jB T tc (ax (au.dm hv)) (ax (by have:=tT hv;omega))
theorem pY:(∀j:Nat,j<9->cl opened j<=8)/\∀(S:Nat) (j:Nat),j<9 - 8->S.testBit j=true->0<=cl opened j/\cl opened j<=j:=by
 refine⟨fun j hj=>?_,fun S j hj _=>?_⟩
 ·obtain rfl|rfl|rfl|rfl|rfl|rfl|rfl|rfl|rfl:j=0\/j=1\/j=2\/j=3\/j=4\/j=5\/j=6\/j=7\/j=8:=by omega
  all_goals decide
 ·obtain rfl:j=0:=by omega
  decide
theorem zS(a:au){S S':Nat}(h:∀j,1<=j->j<9->S.testBit j=S'.testBit j):∀(n:Nat) (c:List Int),n<=8->gG a S n c=gG a S' n c:=by
 intro n
 induction n with
 | zero=>intro c _;rfl
 | succ n ih=>
  intro c hn;unfold gG;rw[h (8 - n) (by omega) (by omega)];have e:∀c',gG a S n c'=gG a S' n c':=fun c'=>ih c' (by omega)
  split
  ·split
   ·apply jX;intro k _;rw[e]
   ·exact e _
  ·rfl
theorem Ic{a:au}(hv:a.valid=true)(F S:Nat)(h:∀j,1<=j->j<9->S.testBit j=(dP a F).testBit j):gG a S 8 opened=cases a (dP a F):=by
 rw[zS a h 8 opened (by omega)];exact zG (au.dm hv).1 (au.dm hv).2 (pX a F) (wI hv F)
theorem Ig{a:au}(hv:a.valid=true):gG a (aO (mz a)) 8 opened=cases a (dP a 0):=by
 refine Ic hv 0 _ fun j h1 h2=>?_;rw[kU,iL];have:¬j=0:=by omega
 simp[this]
theorem nP{lo hi:Nat}(v:Value)(a:au)(w:World)(h:aM w lo hi v a) :
  Calls Tryz.prog 115 #[v] w fun e w'=>e=.returned (.bool (a.valid && !(cases a (dP a 0)).isEmpty))/\Below w.heap.size w w':=by
 have hV:=ax h;obtain⟨A1,c1,A2,c2,rfl,-,-⟩:=h;(go_enter Tryz.func115,Tryz.ntmps115);(go_wp2_with fail);refine(vz _ a _ (hV.o.bz aj)).mono ?_;rintro e w1 ⟨rfl,hB1⟩;have k0:ae w1 w.heap.size aC #[.slice A1 a.facts.length c1,.slice A2 a.atoms.length c2]:=ae.nz az hB1;have hB:Below w.heap.size w w1:=aP (w:=w) aj hB1;clear hB1;have q0:=k0.cell;have l0:=k0.lt;cases hv:a.valid
 ·go_wp2;go_ret;exact⟨dz (by simp[hv]),hB⟩
 ·have HV:=ax hv;have HT:=ax (jK hv);have HS:=ax (Ig hv);have HOP:=ax pY;clear hv;go_wp2;refine lS (S:=(fun w'=>∀i,w'.cell? ⟨w.heap.size,i,none⟩=#[.slice A1 a.facts.length c1,.slice A2 a.atoms.length c2][i]?)) (ae.cell az) fun aH=>?_;refine uM 0 1 ?_;refine aX 2 rfl fun K hK=>?_;(try simp only[zz]);(go_simp;refine(dO _ a _ (hV.o.bz aj) HT.o).mono ?_;rintro e w3 ⟨r3,rfl,o3,hB3⟩;obtain⟨Tb,ct,rfl,fT⟩:=o3.rj;rw[yD];have hB':=aP (w:=w) aj hB3;replace k0:=ae.nz (g:=w.heap.size) az hB3);refine hK.out _ _ (ae.cell az) ?_;clear aH hK K;intro aH;refine aX 3 rfl fun K hK=>?_;(try simp only[zz]);(go_simp;refine(lu _).mono ?_;rintro e w4 ⟨r4,rfl,o4,hB4⟩;obtain⟨Cb,cc,rfl,fC⟩:=o4.rj;have hB2:=aP hB' hB4;have fT4:=fT.bz hB4;replace k0:=ae.nz (g:=w.heap.size) az hB4);refine hK.out _ _ (ae.cell az) ?_;clear aH hK K;intro aH;refine aX 4 rfl fun K hK=>?_;(try simp only[zz]);(go_simp;refine(zQ Tb ct HV.o 8 opened Cb cc _ _ _ (by omega) rfl (HOP.o.2 _) HOP.o.1 (hV.o.bz aj) (fT4.bz aj) (fC.bz aj)).mono ?_;rintro e w5 ⟨r5,rfl,o5,bW⟩;have iA:=aP (w:=w) aj bW;replace k0:=ae.nz (g:=w.heap.size) az bW);refine hK.out _ _ (ae.cell az) ?_;clear aH hK K;intro aH;refine jQ 5 6 7 8 9 ?_;refine jP ?_;go_wp2;go_ret;exact⟨dz (by rw[HS.o,HV.o];rfl),aj⟩
def cK(a:au)(f:aF):au:=⟨a.facts++[f],a.atoms⟩
theorem jC{lo hi:Nat}(v:Value)(a:au)(f:aF)(w:World)(h:aM w lo hi v a)(hn:a.facts.length+1<=1049600) :
  Calls Tryz.prog 93 #[v,f.val] w fun e w'=>∃r,e=.returned r/\aI w' w.heap.size r (cK a f)/\Below w.heap.size w w':=by
 obtain⟨A1,c1,A2,c2,rfl,h1,h2⟩:=h;have l2:=h2.le;(go_enter Tryz.func93,Tryz.ntmps93);obtain⟨k0,k1,k2⟩:=wD w 26 71 26 #[.slice A1 a.facts.length c1,.slice A2 a.atoms.length c2] #[.bool f.eq,.int .i64 f.a,.int .i64 f.b] #[.slice none 0 0,.slice none 0 0];go_wp2;refine lS (S:=(fun w'=>(∀i,w'.cell? ⟨w.heap.size,i,none⟩=#[.slice A1 a.facts.length c1,.slice A2 a.atoms.length c2][i]?)/\(∀i,w'.cell? ⟨w.heap.size+1,i,none⟩=#[.bool f.eq,.int .i64 f.a,.int .i64 f.b][i]?))) (⟨ae.cell az,ae.cell az⟩) fun aH=>?_;refine jQ 0 1 2 5 6 ?_;refine aX 3 rfl fun K hK=>?_;(try simp only[zz]);go_simp;refine hK.out _ _ (⟨ae.cell az,ae.cell az⟩) ?_;clear aH hK K;intro aH;refine aX 4 rfl fun K hK=>?_;(try simp only[zz]);(go_simp;refine(nH A1 _ c1 1 a.facts [f] _ (h1.bz aj) (aG.one (f:=f) az) (by simpa using hn)).mono ?_;rintro e w1 ⟨r1,rfl,o1,hB1⟩;obtain⟨F1,e1,rfl,-⟩:=o1.rj;have hB:=aP (w:=w) aj hB1;replace k0:=ae.nz (g:=w.heap.size) az hB1;replace k1:=ae.nz (g:=w.heap.size+1) az hB1;replace k2:=ae.nz (g:=w.heap.size+1+1) az hB1);refine hK.out _ _ (⟨ae.cell az,ae.cell az⟩) ?_;clear aH hK K;intro aH;refine aX 7 rfl fun K hK=>?_;(try simp only[zz]);(go_simp;refine(nI A2 none c2 0 a.atoms [] _ (h2.bz aj) (Rd.nil _ 0 0 _ _) (by simpa using l2)).mono ?_;rintro e w2 ⟨r2,rfl,o2,hB2⟩;obtain⟨F2,e2,rfl,-⟩:=o2.rj;have tJ:=aP hB hB2;have o1':=o1.bz hB2;replace k0:=ae.nz (g:=w.heap.size) az hB2;replace k1:=ae.nz (g:=w.heap.size+1) az hB2;replace k2:=ae.nz (g:=w.heap.size+1+1) az hB2;have q2:=k2.cell;have f2:=k2.frozen);refine hK.out _ _ (⟨ae.cell az,ae.cell az⟩) ?_;clear aH hK K;intro aH;refine jh 8 ?_;refine aX 9 rfl fun K hK=>?_;(try simp only[zz]);go_simp;refine hK.out _ _ (⟨ae.cell az,ae.cell az⟩) ?_;clear aH hK K;intro aH;refine jP ?_;clear aH;(go_wp2_with fail);have p1:=o1'.bq (base':=w.heap.size) (by(try simp)<;>omega);have p2:=o2.bq (base':=w.heap.size) hB.size;rw[show (a.facts++[f]).length=a.facts.length+1 from by simp] at p1;rw[append_nil] at p2;refine bodyPost_ret (v:=.agg #[.slice F1 (a.facts.length+1) e1,.slice F2 a.atoms.length e2]) (by simp[results,Tryz.results93,go_sem,q2]) rfl ⟨_,rfl,⟨_,_,rfl,?_,?_⟩,aj⟩
 ·exact(p1.aA k2 (by decide) 0 (.slice F1 (a.facts.length+1) e1)).aA (k2.ag 0 _) (by decide) 1 (.slice F2 a.atoms.length e2)
 ·exact(p2.aA k2 (by decide) 0 (.slice F1 (a.facts.length+1) e1)).aA (k2.ag 0 _) (by decide) 1 (.slice F2 a.atoms.length e2)
end
section
open Go Go.RowKit Go.Proofs
theorem pR.aA{w:World}{lo hi:Nat}{v:Value}{x:au}(h:pR w lo hi v x){g:Nat}{t:TypeId}{cs:Array Value}(hk:ae w g t cs)(h1:t≠tF)(h2:t≠tA)(i:Nat)(u:Value):pR (w.setCell ⟨g,i,none⟩ u) lo hi v x:=by
 obtain⟨fv,av,e,p1,p2⟩:=h;exact⟨fv,av,e,⟨p1.1.aA hk h1 i u,p1.2⟩,⟨p2.1.aA hk h2 i u,p2.2⟩⟩
theorem mo.aA{w:World}{lo hi:Nat}{v:Value}{x:List Int}(h:mo w lo hi v x){g:Nat}{t:TypeId}{cs:Array Value}(hk:ae w g t cs)(h1:t≠tI)(i:Nat)(u:Value):mo (w.setCell ⟨g,i,none⟩ u) lo hi v x:=⟨h.1.aA hk h1 i u,h.2⟩
abbrev EU:Nat:=28
theorem RJ:(Tryz.prog.info? EU).map (fun i=>(i.zero,i.size,i.bytes))=some (some (.slice none 0 0),1,24):=by kernel_rfl
section
variable{w w':World}{base base':Nat}{v:Value}{vs:List Value}{xss:List (List Int)}
theorem EV{w w':World}{T:TypeId}{B base size n:Nat}{e:TypeId}{v:Value}{xs:List Value}{row:Option Nat}(h:w.ownsRow base e size v n xs)(hg:w.grownBy w' row)(hr:Ia T B w row)(ht:e≠T):w'.ownsRow base e size v n xs:=by
 obtain⟨h1,h2⟩:=h;refine⟨h1,?_⟩;rcases h2 with h2|⟨k,cap,cur,hv,hg',hh,r⟩
 ·exact Or.inl h2
 ·exact Or.inr ⟨k,cap,cur,hv,hg',ae.turn (g:=k) hh hg hr (Or.inl ht),r⟩
end
section
variable{w w':World}{lo hi a b:Nat}{v:Value}{xss:List (List Int)}
end
theorem own_ne{w:World}{b b' s s' n n':Nat}{e e':TypeId}{v v':Value}{xs xs':List Value}(h:w.ownsRow b e s v n xs)(h':w.ownsRow b' e' s' v' n' xs')(ht:e≠e'):∀g,v.ownBlock=some g->v'.ownBlock≠some g:=by
 intro g hg hg';rcases h.2 with ⟨rfl,-⟩|⟨k,cap,cur,rfl,-,hh,-⟩
 ·cases hg
 ·rcases h'.2 with ⟨rfl,-⟩|⟨k',cap',cur',rfl,-,hh',-⟩
  ·cases hg'
  ·have e1:k=g:=by simpa[Value.ownBlock] using hg
   have e2:k'=g:=by simpa[Value.ownBlock] using hg'
   subst e1;subst e2;exact(ae.Bq (g:=k') hh hh' ht) rfl
end
section
open Go Go.RowKit Go.Proofs
attribute [local go_sem ↓] Go.wp_at_zero Go.wp_at_succ
attribute [local go_sem] Oper.semAt_some
structure KX (w w':World):Prop where
 os:w'.os=w.os
 tape:w'.tape=w.tape
 output:w'.output=w.output
 size:w.heap.size<=w'.heap.size
 keep:∀(k:Nat) (o:Obj),w.heap[k]? = some o->(∀cs,o≠.cells cs EU (0,0))->w'.heap[k]? = some o
section
variable{w w' w1:World}
theorem KX.of(h:Below w.heap.size w w'):KX w w':=⟨h.os,h.tape,h.output,h.size,fun k o hk _=>(h.block k (Array.getElem?_eq_some_iff.1 hk).1).trans hk⟩
theorem KX.trans(h:KX w w1)(k:KX w1 w'):KX w w':=⟨k.os.trans h.os,k.tape.trans h.tape,k.output.trans h.output,Nat.le_trans h.size k.size,fun i o hi ho=>k.keep i o (h.keep i o hi ho) ho⟩
theorem KX.set(h:KX w w1){p:Addr}(hp:w.heap.size<=p.block)(u:Value):KX w (w1.setCell p u):=
 ⟨h.os,h.tape,h.output,by have:=h.size;simpa using this,fun k o hk ho=>(Below.heap_setCell w1 p u k (by have:=(Array.getElem?_eq_some_iff.1 hk).1;omega)).trans (h.keep k o hk ho)⟩
theorem KX.app{v:Value}{base n:Nat}{vs:List Value}(h:w.ownsRow base EU 1 v n vs)(hg:w.grownBy w' v.ownBlock):KX w w':=
 ⟨hg.os,hg.tape,hg.output,hg.size,fun k o hk ho=>(hg.block k (Array.getElem?_eq_some_iff.1 hk).1 (fun e=>by
  rcases h.2 with ⟨rfl,-⟩|⟨g,cap,cur,rfl,-,hh,-⟩
  ·cases e
  ·have e1:k=g:=by simpa[Value.ownBlock] using e
   subst e1;rw[hk] at hh
   exact ho cur (Option.some.inj hh))).trans hk⟩
theorem KX.blk(h:KX w w'){g:Nat}{t:TypeId}{cs:Array Value}(hb:ae w g t cs)(ht:t≠EU):ae w' g t cs:=h.keep g _ hb fun c e=>by injection e with _ e2;exact ht e2
theorem KX.ints(h:KX w w'){base:Nat}{v:Value}{xs:List Int}(ho:aD w base v xs):aD w' base v xs:=by
 obtain⟨⟨h1,h2⟩,h3⟩:=ho;refine⟨⟨h1,?_⟩,h3⟩;rcases h2 with h2|⟨k,cap,cur,hv,hg,hh,r⟩
 ·exact Or.inl h2
 ·exact Or.inr ⟨k,cap,cur,hv,hg,h.blk (g:=k) hh (by decide),r⟩
end
theorem KX.keeps{w w':World}(h:KX w w'):KeepsOthers w w':=⟨h.size,fun k o hk ho=>h.keep k o hk fun cs e=>by subst e;cases ho⟩
theorem KX.kept{T1 T2:TypeId}{n₀:Nat}{w w':World}(h:KX w w')(hb:Below n₀ w w')(h1:T1≠EU)(h2:T2≠EU):Kept T1 T2 n₀ w w':=⟨hb,fun g t cs ht hk=>h.blk hk (by rcases ht with rfl|rfl;exact h1;exact h2)⟩
section
variable{P:Program}{n:Nat}
end
section
variable{ops:Array Oper}{rest:List Oper}{o:Oper}{a:Act}{Q:Exit->Act->World->Prop}{w w0:World}{base:Nat}{v:Value}{vs:List Value}{xss:List (List Int)}
theorem rwS{w:World}{g:Nat}{sv:Value}(h:ae w g EU #[sv]):Rw w g (g+1) 1 (some ⟨g,0,none⟩) 1 [sv]:=
 ⟨rfl,fun _=>⟨g,0,rfl,Nat.le_refl _,Nat.lt_succ_self _,fun j u hu=>by
  match j,hu with
  | 0,hu=>simp at hu;subst hu;exact h.cell 0⟩⟩
end
end
section
open Go Go.RowKit Go.Proofs
attribute [local go_sem ↓] Go.wp_at_zero Go.wp_at_succ
theorem KU(c:List Int)(fs:List aF)(k:Nat)(hk:k<fs.length):(fs.drop k).all (aF.fits c)=(fs[k].fits c&&(fs.drop (k+1)).all (aF.fits c)):=by
 rw[List.drop_eq_getElem_cons hk];rfl
theorem wK{lo hi:Nat}(A:Option Addr)(d:Nat)(fs:List aF)(c:List Int)(g:Nat)(w:World)(h:aG w lo hi A fs)(hk:ae w g lq (encI c).toArray)(hc:c.length=9)(hf:gz fs) :
  Calls Tryz.prog 164 #[.pointer (some ⟨g,0,none⟩),.slice A fs.length d] w fun e w'=>e=.returned (.bool (fs.all (aF.fits c)))/\Below w.heap.size w w':=by
 have hl:=h.le;have hgl:=hk.lt;have HF:=ax hf;have H:=ax h;clear hf h;(go_enter Tryz.func164,Tryz.ntmps164);(go_wp2_with fail)
 go_loopw [9] (fun i wr=>∃k:Nat,k<=fs.length/\i=.int .i64 k/\aJ (fs.all (aF.fits c)=(fs.drop k).all (aF.fits c))/\Below w.heap.size w wr) (fun i _=>fs.length - (intOf i).toNat)
 case atStart=>exact⟨0,dJ,rfl,rfl,aj⟩
 case round=>
  obtain⟨k,hkk,rfl,HA,hB⟩:=hrel;by_cases hlt:k<fs.length
  ·obtain⟨b,off,rfl,hbl⟩:=H.o.blt hlt;obtain⟨g0,g1,g2⟩:=(H.o.bz hB).cl hlt;have HD:=ax (KU c fs k hlt);have MB:=HF.o _ (List.getElem_mem hlt);obtain⟨f,hfe⟩:∃f,f=fs[k]:=⟨_,rfl⟩;rw[<-hfe] at g0 g1 g2 HD MB;clear hfe;have kg:ae wr g lq (encI c).toArray:=hk.bz hB hgl;have hgr:=kg.lt;(go_wp2_with fail);refine(kQ f c g _ (kg.alloc _) hc MB.1 MB.2).mono ?_;rintro e w1 ⟨rfl,hB1⟩;have hBx:Below w.heap.size w w1:=aP (w:=w) aj hB1;cases xu:f.fits c
   ·have HZ:=ax (show fs.all (aF.fits c)=false by rw[HA.o,HD.o,xu];rfl);clear xu hB1;go_wp2;go_ret;exact⟨dz (by rw[HZ.o]),hBx⟩
   ·have HZ:=ax (show (fs.drop k).all (aF.fits c)=(fs.drop (k+1)).all (aF.fits c) by rw[HD.o,xu];rfl);clear xu hB1;(go_wp2_with fail)
    go_round
    case rel=>exact⟨k+1,by omega,by go_num,by show _=_;rw[HA.o,HZ.o],hBx⟩
    case measure=>simp[intOf];omega
  ·obtain rfl:k=fs.length:=by omega
   have HZ:aJ (fs.all (aF.fits c)=true):=by show _=_;rw[HA.o,drop_length];rfl
   go_wp2;go_ret;exact⟨dz (by rw[HZ.o]),hB⟩
theorem MJ(p:aL->Bool)(xs:List aL)(k:Nat)(hk:k<xs.length):(xs.drop k).any p=(p xs[k] || (xs.drop (k+1)).any p):=by
 rw[List.drop_eq_getElem_cons hk];rfl
def zT(xs:List aL)(b:Int):Bool:=xs.any fun x=>decide (x.a=b)
theorem xS{lo hi:Nat}(A:Option Addr)(d:Nat)(xs:List aL)(b:Int)(w:World)(h:aB w lo hi A xs) :
  Calls Tryz.prog 171 #[.slice A xs.length d,.int .i64 b] w fun e w'=>e=.returned (.bool (zT xs b))/\Below w.heap.size w w':=by
 have hl:=h.le;have H:=ax h;clear h;(go_enter Tryz.func171,Tryz.ntmps171);(go_wp2_with fail)
 go_loopw [9] (fun i wr=>∃k:Nat,k<=xs.length/\i=.int .i64 k/\aJ (zT xs b=zT (xs.drop k) b)/\Below w.heap.size w wr) (fun i _=>xs.length - (intOf i).toNat)
 case atStart=>exact⟨0,dJ,rfl,rfl,aj⟩
 case round=>
  obtain⟨k,hkk,rfl,HA,hB⟩:=hrel;by_cases hlt:k<xs.length
  ·obtain⟨bb,off,rfl,hbl⟩:=H.o.blt hlt;obtain⟨g0,g1,g2⟩:=(H.o.bz hB).cl hlt;have HD:=ax (MJ (fun x=>decide (x.a=b)) xs k hlt);obtain⟨x,hxe⟩:∃x,x=xs[k]:=⟨_,rfl⟩;rw[<-hxe] at g0 g1 g2 HD;clear hxe;by_cases he:x.a=b
   ·have HZ:aJ (zT xs b=true):=by show _=_;rw[HA.o];unfold zT;rw[HD.o,decide_eq_true he];rfl
    have he':(x.a == b)=true:=by simpa using he
    clear he;go_wp2;go_ret;exact⟨dz (by rw[HZ.o]),aj⟩
   ·have HZ:aJ (zT xs b=zT (xs.drop (k+1)) b):=by show _=_;rw[HA.o];unfold zT;rw[HD.o,decide_eq_false he];rfl
    have he':(x.a == b)=false:=by simpa using he
    clear he;(go_wp2_with fail)
    go_round
    case rel=>exact⟨k+1,by omega,by go_num,HZ,aj⟩
    case measure=>simp[intOf];omega
  ·obtain rfl:k=xs.length:=by omega
   have HZ:aJ (zT xs b=false):=by show _=_;rw[HA.o,drop_length];rfl
   go_wp2;go_ret;exact⟨dz (by rw[HZ.o]),hB⟩
abbrev GY:Nat:=201
def ub(used:List Bool)(k:Nat):Bool:=(used[k]?).getD false
abbrev Pt(V:Value)(used:List Bool)(cnt:Nat):Array Value:=#[V,.bool (ub used 0),.bool (ub used 1),.bool (ub used 2),.bool (ub used 3),.bool (ub used 4),.bool (ub used 5),.int .i64 (cnt:Int)]
theorem JK{w:World}{g cnt:Nat}{t:TypeId}{V:Value}{used:List Bool}(h:ae w g t (Pt V used cnt)){k:Nat}(hk:k<6):w.cell? ⟨g,1+k,none⟩=some (.bool (ub used k)):=by
 rw[h.cell];obtain rfl|rfl|rfl|rfl|rfl|rfl:k=0\/k=1\/k=2\/k=3\/k=4\/k=5:=by omega
 all_goals rfl
theorem Ch{xs:List aL}{used:List Bool}{c:Int}{k:Nat}(hk:k<xs.length)(hu:used.length=xs.length):pU xs used c k=(decide (xs[k].a=c) && !ub used k):=by
 unfold pU ub;rw[List.getElem?_eq_getElem hk,List.getElem?_eq_getElem (by omega)];rfl
theorem qL{lo hi:Nat}(A:Option Addr)(d cnt:Nat)(xs:List aL)(used:List Bool)(b:Int)(g:Nat)(w:World)(h:aB w lo hi A xs)(hk:ae w g GY (Pt (.slice A xs.length d) used cnt))(T9:xs.length<=6)(hu:used.length=xs.length) :
  Calls Tryz.prog 169 #[.pointer (some ⟨g,0,none⟩),.int .i64 b] w fun e w'=>e=.returned (.tuple #[.int .i64 ((nK xs used b).getD 0:Nat),.bool (nK xs used b).isSome])/\Below w.heap.size w w':=by
 have hgl:=hk.lt;have H:=ax h;have HU:=ax hu;have q0:=hk.cell 0;have HK:=ax hk;clear h hu hk;(go_enter Tryz.func169,Tryz.ntmps169);(go_wp2_with fail)
 go_loopw [13] (fun i wr=>∃k:Nat,k<=xs.length/\i=.int .i64 k/\aJ (∀j,j<k->pU xs used b j=false)/\Below w.heap.size w wr) (fun i _=>xs.length - (intOf i).toNat)
 case atStart=>exact⟨0,dJ,rfl,fun j hj=>absurd hj (Nat.not_lt_zero _),aj⟩
 case round=>
  clear q0;obtain⟨k,hkk,rfl,HA,hB⟩:=hrel;have kg:ae wr g GY (Pt (.slice A xs.length d) used cnt):=HK.o.bz hB hgl;by_cases hlt:k<xs.length
  ·obtain⟨bb,off,rfl,hbl⟩:=H.o.blt hlt;obtain⟨g0,g1,g2⟩:=(H.o.bz hB).cl hlt;have HD:=ax (Ch (c:=b) hlt HU.o);have qu:=JK kg (k:=k) (by omega);have hgr:=kg.lt;have U7:(k:Int)<6:=by omega
   obtain⟨x,hxe⟩:∃x,x=xs[k]:=⟨_,rfl⟩;rw[<-hxe] at g0 g1 g2 HD;clear hxe;clear kg;cases xu:pU xs used b k
   ·have HZ:aJ (∀j,j<k+1->pU xs used b j=false):=fun j hj=>by
     by_cases e:j=k
     ·rw[e];exact xu
     ·exact HA.o j (by omega)
    rw[HD.o] at xu;by_cases he:x.a=b
    ·have he':(x.a == b)=true:=by simpa using he
     have hub:ub used k=true:=by rw[decide_eq_true he] at xu;simpa using xu
     rw[hub] at qu;clear he xu hub;(go_wp2_with fail)
     go_round
     case rel=>exact⟨k+1,by omega,by go_num,HZ,aj⟩
     case measure=>simp[intOf];omega
    ·have he':(x.a == b)=false:=by simpa using he
     clear he xu;(go_wp2_with fail)
     go_round
     case rel=>exact⟨k+1,by omega,by go_num,HZ,aj⟩
     case measure=>simp[intOf];omega
   ·have HZ:aJ (nK xs used b=some k):=xN hlt xu HA.o;rw[HD.o,Bool.and_eq_true,decide_eq_true_eq] at xu;have he':(x.a == b)=true:=by simpa using xu.1
    have hub:ub used k=false:=by simpa using xu.2
    rw[hub] at qu;clear xu hub;go_wp2;go_ret2;exact⟨by rw[HZ.o];rfl,aj⟩
  ·obtain rfl:k=xs.length:=by omega
   have HZ:aJ (nK xs used b=none):=xO HA.o;go_wp2;go_ret2;exact⟨by rw[HZ.o];rfl,hB⟩
theorem RL{used:List Bool}{k:Nat}(hk:k<used.length)(j:Nat):ub (used.set k true) j=if k=j then true else ub used j:=by
 unfold ub;rw[List.getElem?_set];by_cases e:k=j
 ·subst e;simp[hk]
 ·simp[e]
theorem Pv{V:Value}{used:List Bool}{cnt k:Nat}(hk:k<used.length)(h6:k<6):((Pt V used cnt).setIfInBounds (1+k) (.bool true)).setIfInBounds 7 (.int .i64 ((cnt:Int)+1))=Pt V (used.set k true) (cnt+1):=by
 unfold Pt;simp only[RL hk];obtain rfl|rfl|rfl|rfl|rfl|rfl:k=0\/k=1\/k=2\/k=3\/k=4\/k=5:=by omega
 all_goals simp
abbrev Ih(V:Value)(used:List Bool):Array Value:=Pt V used (used.count true)
theorem xw{V:Value}{used:List Bool}(k g:Nat)(w:World)(hk:ae w g GY (Ih V used))(YK:used[k]? = some false)(h6:used.length<=6) :
  Calls Tryz.prog 170 #[.pointer (some ⟨g,0,none⟩),.int .i64 k] w fun e w'=>(∃v,e=.returned v)/\ae w' g GY (Ih V (used.set k true))/\Mk (fun h=>h=g) w w':=by
 have hgl:=hk.lt;have hkl:k<used.length:=(List.getElem?_eq_some_iff.1 YK).1;have hcnt:=List.count_le_length (a:=true) (l:=used);obtain⟨cnt,hcn⟩:∃n,n=used.count true:=⟨_,rfl⟩;have HE:aJ ((used.set k true).count true=cnt+1):=by show _=_;rw[zI YK,hcn]
 unfold Ih at hk;rw[<-hcn] at hk hcnt;have qu:=JK hk (k:=k) (by omega);have q7:w.cell? ⟨g,7,none⟩=some (.int .i64 (cnt:Int)):=hk.cell 7;have r:=hk.frozen;have U7:(k:Int)<6:=by omega
 have HT:=ax (Pv (V:=V) (cnt:=cnt) hkl (by omega));have HK:=ax hk;have hne:¬(1+k=7):=by omega
 have hne':¬(7=1+k):=by omega
 clear hk YK hcn;(go_enter Tryz.func170,Tryz.ntmps170);(go_wp2_with fail)
 go_end0
 refine⟨⟨_,rfl⟩,?_,((Mk.refl (fun h=>h=g) _).set (x:=⟨g,1+k,none⟩) rfl _).set (x:=⟨g,7,none⟩) rfl _⟩;show ae _ _ _ (Pt V (used.set k true) ((used.set k true).count true));rw[HE.o,<-HT.o];exact(HK.o.ag _ _).ag _ _
def rM(xs:List aL)(used:List Bool)(x:aL):Option (List Bool):=(nK xs used x.a).bind fun k=>if (xs[k]?).getD default=x then some (used.set k true) else none
theorem aB.QL{w w':World}{lo hi g:Nat}{A:Option Addr}{xs:List aL}(h:aB w lo hi A xs)(hm:Mk (fun h=>h=g) w w')(hg:hi<=g)(hw:g<=w.heap.size):aB w' lo hi A xs:=h.gp (hm.bz (lo:=g) (fun k e=>by omega) hw) hg
theorem zU{lo hi:Nat}(A:Option Addr)(d:Nat)(xs:List aL)(used:List Bool)(x:aL)(g:Nat)(w:World)(h:aB w lo hi A xs)(hhi:hi<=g)(hk:ae w g GY (Ih (.slice A xs.length d) used))(T9:xs.length<=6)(hu:used.length=xs.length) :
  Calls Tryz.prog 166 #[.pointer (some ⟨g,0,none⟩),x.val] w fun e w'=>∃r ys,e=.returned (.tuple #[r,.bool (rM xs used x).isSome])/\aD w' w.heap.size r ys/\Mk (fun h=>h=g) w w'/\(∀u,rM xs used x=some u->ae w' g GY (Ih (.slice A xs.length d) u)):=by
 have hgl:=hk.lt;have H:=ax h;have HU:=ax hu;have HK:=ax hk;clear h hu hk;(go_enter Tryz.func166,Tryz.ntmps166);(go_wp2_with fail);refine(qL A d _ xs used x.a g _ (H.o.bz aj) (HK.o.alloc _) T9 HU.o).mono ?_;rintro e w1 ⟨rfl,hB1⟩;have hB:Below w.heap.size w w1:=aP (w:=w) aj hB1;have kg:=HK.o.bz hB hgl;have k0:ae w1 w.heap.size tA #[.int .i64 x.kind,.int .i64 x.a,.int .i64 x.b]:=ae.nz az hB1;have q0:=k0.cell;have l0:=k0.lt;have YL:=kg.lt;clear hB1;cases hf:nK xs used x.a
 ·have E:aJ (rM xs used x=none):=by show _=_;unfold rM;rw[hf];rfl
  clear hf;(go_wp2_with fail);(go_quiet (fail));go_wp2;go_ret2;exact⟨_,[],by rw[E.o];rfl,aD.nil _ _,Mk.iy aj,fun u hu=>by rw[E.o] at hu;cases hu⟩
 ·rename_i k;obtain⟨hkl,hfr⟩:=zH hf;have hfu:=xm hfr;obtain⟨b,off,rfl,hbl⟩:=H.o.blt hkl;obtain⟨g0,g1,g2⟩:=(H.o.bz hB).cl hkl;rw[Ch hkl HU.o,Bool.and_eq_true,decide_eq_true_eq] at hfr;have q1:w1.cell? ⟨g,0,none⟩=some (.slice (some ⟨b,off,none⟩) xs.length d):=kg.cell 0;have E:aJ (rM xs used x=if xs[k]=x then some (used.set k true) else none):=by show _=_;unfold rM;rw[hf];simp only[Option.bind_some,List.getElem?_eq_getElem hkl,Option.getD_some]
  obtain⟨y,hy⟩:∃y,y=xs[k]:=⟨_,rfl⟩;rw[<-hy] at g0 g1 g2 E hfr;have hya:=hfr.1;have hkx:(k:Int)<(xs.length:Int):=by omega
  have HKG:=ax kg;have YM:=ax hfu;clear hf hy hfr kg hfu;have hq2:∀i,w1.cell? ⟨w.heap.size,i,none⟩=#[.int .i64 x.kind,.int .i64 x.a,.int .i64 x.b][i]?:=q0;rw[hya] at g1;have e2:(x.a == x.a)=true:=by simp
  by_cases f1:y.kind=x.kind
  ·by_cases f3:y.b=x.b
   ·have E2:aJ (rM xs used x=some (used.set k true)):=by
     show _=_;rw[E.o,if_pos];cases y;cases x;simp_all
    rw[f1] at g0;rw[f3] at g2;(go_wp2_with fail);(go_quiet (fail));(go_wp2_with fail);have kg:=HKG.o;refine(xw k g _ (used:=used) (V:=.slice (some ⟨b,off,none⟩) xs.length d) az YM.o.2 (by rw[HU.o];exact T9)).mono ?_;rintro e w3 ⟨⟨v,rfl⟩,k3,hM⟩;have hMM:Mk (fun h=>h=g) w w3:=Mk.trans (Mk.iy (w:=w) aj) hM;have hz3:=hMM.size;clear kg;go_wp2;go_ret2;exact⟨_,[(k:Int)],by rw[E2.o];rfl,aD.one w3 k hz3,hMM.trans (Mk.iy aj),fun u hu=>by rw[E2.o] at hu;cases hu;exact k3.alloc _⟩
   ·have e3:(y.b == x.b)=false:=by simpa using f3
    have E2:aJ (rM xs used x=none):=by show _=_;rw[E.o,if_neg (fun e=>f3 (by rw[e]))]
    rw[f1] at g0;(go_wp2_with fail);(go_quiet (fail));go_wp2;go_ret2;exact⟨_,[],by rw[E2.o];rfl,aD.nil _ _,Mk.iy aj,fun u hu=>by rw[E2.o] at hu;cases hu⟩
  ·have e1:(y.kind == x.kind)=false:=by simpa using f1
   have E2:aJ (rM xs used x=none):=by show _=_;rw[E.o,if_neg (fun e=>f1 (by rw[e]))]
   (go_wp2_with fail);(go_quiet (fail));go_wp2;go_ret2;exact⟨_,[],by rw[E2.o];rfl,aD.nil _ _,Mk.iy aj,fun u hu=>by rw[E2.o] at hu;cases hu⟩
theorem bX.open_{w:World}{base:Nat}{A:Option Addr}{n c k:Nat}{fs:List Bool}(h:bX w base (.slice A n c) fs)(hk:k<fs.length):∃g cur,n=fs.length/\A=some ⟨g,0,none⟩/\base<=g/\ae w g tB cur/\cur[k]? = some (.bool fs[k])/\
  (∀v:Bool,bX (w.setCell ⟨g,k,none⟩ (.bool v)) base (.slice A n c) (fs.set k v)):=by
 obtain⟨⟨hl,h2⟩,hL⟩:=h;rcases h2 with ⟨e,hn⟩|⟨g,cap,cur,e,hb,hh,hn,hm,hs,ht⟩
 ·omega
 ·injection e with e1 e2 e3;subst e1 e2 e3;have hK:ae w g tB cur:=hh
  have hP:Pre cur (dN fs) (fs.length * 1):=by
   intro j hj;rw[<-ht,List.getElem?_take,if_pos hj];simp
  refine⟨g,cur,rfl,rfl,hb,hK,(hP _ (by omega)).trans (by simp[List.getElem?_eq_getElem hk]),?_⟩;intro v;refine⟨?_,by rw[length_set];exact hL⟩;rw[show dN (fs.set k v)=(dN fs).set k (.bool v) from by simp[dN,map_set],length_set];exact ed (hK.ag k (.bool v)) hb (by rw[length_set,hl]) (hP.Hm k (.bool v) (by rw[hs];exact Nat.mul_le_mul hn (Nat.le_refl _)) (by rw[hl];exact Nat.le_refl _)) hn hm (by simpa using hs)
theorem aB.Ua{w:World}{lo hi b o k:Nat}{xs:List aL}(h:aB w lo hi (some ⟨b,o,none⟩) xs)(hk:k<xs.length):b<hi:=by
 obtain⟨g,o',e,h1,h2,-⟩:=h.raw.2 (by omega);injection e with e;injection e with e1;omega
theorem Mk.JL{p:Nat->Prop}{w a b:World}(h:Mk p w a)(hb:Below w.heap.size a b):Mk p w b:=⟨hb.os.trans h.os,hb.tape.trans h.tape,hb.output.trans h.output,Nat.le_trans h.size hb.size,fun k hk hp=>(hb.block k hk).trans (h.block k hk hp)⟩
theorem EY{xs:List aL}{b:Int}{n:Nat}{used:List Bool}{c:Int}(hf:nK xs used c=none):fD xs b n used c=none:=by
 cases n with
 | zero=>rfl
 | succ n=>unfold fD;rw[hf];rfl
theorem EZ{xs:List aL}{b:Int}{n:Nat}{used:List Bool}{c:Int}{k:Nat}(hf:nK xs used c=some k)(hk:k<xs.length):fD xs b (n+1) used c=if xs[k].b=b then some (used.set k true) else if xs[k].kind=2/\pV xs b=false then none else fD xs b n (used.set k true) xs[k].b:=by
 rw[show fD xs b (n+1) used c=(nK xs used c).bind (fun k=>if ((xs[k]?).getD default).b=b then some (used.set k true) else if ((xs[k]?).getD default).kind=2/\pV xs b=false then none else fD xs b n (used.set k true) ((xs[k]?).getD default).b) from rfl,hf];simp only[Option.bind_some,List.getElem?_eq_getElem hk,Option.getD_some]
theorem xU{lo hi:Nat}(A:Option Addr)(d:Nat)(xs:List aL)(used:List Bool)(x:aL)(g:Nat)(w:World)(h:aB w lo hi A xs)(hhi:hi<=g)(hk:ae w g GY (Ih (.slice A xs.length d) used))(T9:xs.length<=6)(hu:used.length=xs.length) :
  Calls Tryz.prog 167 #[.pointer (some ⟨g,0,none⟩),x.val] w fun e w'=>∃r ys,e=.returned (.tuple #[r,.bool (fD xs x.b (xs.length+1) used x.a).isSome])/\aD w' w.heap.size r ys/\Mk (fun h=>h=g) w w'/\(∀u,fD xs x.b (xs.length+1) used x.a=some u->ae w' g GY (Ih (.slice A xs.length d) u)):=by
 have hgl:=hk.lt;have H:=ax h;have HU:=ax hu;have HK:=ax hk;clear h hu hk;(go_enter Tryz.func167,Tryz.ntmps167);(go_wp2_with fail);have k0:=ae.new w tA #[.int .i64 x.kind,.int .i64 x.a,.int .i64 x.b];have kg:=HK.o.alloc (.cells #[.int .i64 x.kind,.int .i64 x.a,.int .i64 x.b] tA);cases hb0:(x.b == 0)
 case' false=>
  refine lS (S:=(fun w'=>(∀i,w'.cell? ⟨w.heap.size,i,none⟩=#[.int .i64 x.kind,.int .i64 x.a,.int .i64 x.b][i]?)/\w'.cell? ⟨g,0,none⟩=some (.slice A xs.length d))) (⟨ae.cell az,(show ae _ g GY (Ih (.slice A xs.length d) used) from az).cell 0⟩) fun aH=>?_;refine jQ 0 1 2 3 4 ?_;refine jQ 5 6 7 8 9 ?_;refine aX 10 rfl fun K hK=>?_;(try simp only[zz]);(go_simp;refine(xS A d xs x.b _ (H.o.bz aj)).mono ?_;rintro e w1 ⟨rfl,hB1⟩;have hB:=aP (w:=w) aj hB1;replace k0:=ae.nz (g:=w.heap.size) az hB1;replace kg:=ae.nz (g:=g) az hB1);refine hK.out _ _ (⟨k0.cell,kg.cell 0⟩) ?_;clear aH hK K;intro aH;refine uM 11 12 ?_;refine jP ?_;have Xn:aJ (pV xs x.b=zT xs x.b):=by show _=_;unfold pV;rw[decide_eq_false (by simpa using hb0)];rfl
  obtain⟨cb,hcb⟩:∃t,t=zT xs x.b:=⟨_,rfl⟩;rw[<-hcb] at Xn⊢;clear hcb
 case' true=>
  refine lS (S:=(fun w'=>(∀i,w'.cell? ⟨w.heap.size,i,none⟩=#[.int .i64 x.kind,.int .i64 x.a,.int .i64 x.b][i]?)/\w'.cell? ⟨g,0,none⟩=some (.slice A xs.length d))) (⟨ae.cell az,(show ae _ g GY (Ih (.slice A xs.length d) used) from az).cell 0⟩) fun aH=>?_;refine O7 0 1 2 3 ?_;refine yC 4 rfl aH ?_;(try simp only[zz]);refine yC 5 rfl aH ?_;(try simp only[zz]);refine yC 6 rfl aH ?_;(try simp only[zz]);refine yC 7 rfl aH ?_;(try simp only[zz]);refine yC 8 rfl aH ?_;(try simp only[zz]);refine yC 9 rfl aH ?_;(try simp only[zz]);refine yC 10 rfl aH ?_;refine uM 11 12 ?_;refine jP ?_;have RN:aJ (pV xs x.b=true):=by show _=_;unfold pV;rw[decide_eq_true (by simpa using hb0)];rfl
  obtain⟨cb,hcb⟩:∃t,t=true:=⟨_,rfl⟩;rw[<-hcb] at RN;have Xn:=RN;clear RN;obtain⟨w1,hw1⟩:∃X,X=(w.alloc (.cells #[.int .i64 x.kind,.int .i64 x.a,.int .i64 x.b] tA)).drew:=⟨_,rfl⟩;have hB:Below w.heap.size w w1:=by rw[hw1];exact aj
  replace k0:ae w1 w.heap.size tA #[.int .i64 x.kind,.int .i64 x.a,.int .i64 x.b]:=by rw[hw1];exact az
  replace kg:ae w1 g GY (Ih (.slice A xs.length d) used):=by rw[hw1];exact az
  rw[<-hw1];clear hw1;(try rw[<-hcb]);clear hcb
 all_goals
  have YL:=kg.lt;have l0:=k0.lt;have q0:=k0.cell;have qg:=kg.cell 0;have hz1:=hB.size;(go_wp2_with fail)
  go_loopw [7,8] (fun s7 s8 wr=>∃(u:List Bool) (n:Nat) (at_:Int) (U:Option Addr) (uc:Nat) (ys:List Int),s7=.slice U ys.length uc/\s8=.int .i64 at_/\aJ (fD xs x.b (xs.length+1) used x.a=fD xs x.b n u at_)/\aJ (xs.length<n+u.count true)/\aJ (u.length=xs.length)/\aJ (ys.length<=u.count true)/\aJ (aD wr w.heap.size (.slice U ys.length uc) ys)/\ae wr w.heap.size tA #[.int .i64 x.kind,.int .i64 x.a,.int .i64 x.b]/\ae wr g GY (Ih (.slice A xs.length d) u)/\aJ (Mk (fun h=>h=g) w wr)) (fun s7 _ _=>match s7 with | .slice _ n _=>7 - n|_=>0)
  case atStart=>exact⟨used,xs.length+1,x.a,none,0,[],rfl,rfl,rfl,by show _<_;omega,HU.o,dJ,aD.nil _ _,k0,kg,Mk.iy hB⟩
  case round=>
   clear k0 kg hB YL l0 hz1 q0 qg;obtain⟨u,n,at_,U,uc,ys,rfl,rfl,HC,HN,HL,HY,HO,k0,kg,HM⟩:=hrel;have hA:aJ (aB wr lo hi A xs):=H.o.QL HM.o hhi (by omega);have YL:=kg.lt;have l0:=k0.lt;have qg:=kg.cell 0;have JM:=HM.o.size;(go_wp2_with fail);refine(qL A d _ xs u at_ g _ (hA.o.bz aj) kg T9 HL.o).mono ?_;rintro e w2 ⟨rfl,hB1⟩;replace k0:=k0.nz hB1;replace kg:=kg.nz hB1;have Uc:aJ (Mk (fun h=>h=g) w w2):=HM.o.trans (Mk.iy hB1);have BA:aJ (aD w2 w.heap.size (.slice U ys.length uc) ys):=HO.o.bz hB1;have hA2:aJ (aB w2 lo hi A xs):=hA.o.bz hB1;have gl2:=kg.lt;have l2:=k0.lt;have hz2:=Uc.o.size;clear hB1 HO HM hA;cases hf:nK xs u at_
   ·have E:aJ (fD xs x.b (xs.length+1) used x.a=none):=by show _=_;rw[HC.o];exact EY hf
    clear hf;simp only[Option.getD_none,Option.isSome_none];go_wp2;go_ret2;exact⟨_,[],by rw[E.o];rfl,aD.nil _ _,Uc.o,fun u' hu'=>by rw[E.o] at hu';cases hu'⟩
   ·rename_i k;obtain⟨hkl,hfr⟩:=zH hf;have hfu:=xm hfr;have hct:=zI hfu.2;have hcl:=List.count_le_length (a:=true) (l:=u.set k true);rw[length_set,HL.o] at hcl;obtain⟨m,rfl⟩:∃m,n=m+1:=⟨n - 1,by have:=HN.o;omega⟩;have HS:=ax (EZ (n:=m) (b:=x.b) hf hkl);have YM:=ax hfu;have Xo:=ax hct;have KM:=ax hcl;have hkx:(k:Int)<(xs.length:Int):=by omega
    have hyl:ys.length<=5:=by have:=HY.o;omega
    clear hf hfr hfu hct hcl;simp only[Option.getD_some,Option.isSome_some];(go_wp2_with fail);refine(xw k g _ kg YM.o.2 (by rw[HL.o];exact T9)).mono ?_;rintro e w3 ⟨⟨v,rfl⟩,Ud,MK⟩;have k3:=MK.blk k0 (by omega);have U8:aJ (Mk (fun h=>h=g) w w3):=Uc.o.trans MK;have hA3:aJ (aB w3 lo hi A xs):=hA2.o.QL MK hhi (by omega);have uT:aJ (aD w3 w.heap.size (.slice U ys.length uc) ys):=BA.o.mk MK fun h e1 e2=>by have:=(BA.o.1.lt h e1).1;omega
    have hz3:=U8.o.size;clear k0 kg MK Uc BA hA2;obtain⟨bb,off,rfl,hbl⟩:=hA3.o.blt hkl;obtain⟨g0,g1,g2⟩:=hA3.o.cl hkl;obtain⟨y,hy⟩:∃y,y=xs[k]:=⟨_,rfl⟩;rw[<-hy] at g0 g1 g2 HS;have qg:=Ud.cell 0;have q3:=k3.cell;have lg3:=Ud.lt;have l3:=k3.lt;have Xp:=ax hy;clear hy g0 g1 g2;obtain f1|⟨f1,f2,rfl⟩|⟨f1,f2⟩|⟨f1,f2,rfl⟩:((y.b == x.b)=true)\/((y.b == x.b)=false/\(y.kind == 2)=true/\cb=false)\/((y.b == x.b)=false/\(y.kind == 2)=false)\/((y.b == x.b)=false/\(y.kind == 2)=true/\cb=true):=by cases (y.b == x.b)<;>cases (y.kind == 2)<;>cases cb<;>simp
    ·have E:aJ (fD xs x.b (xs.length+1) used x.a=some (u.set k true)):=by show _=_;rw[HC.o,HS.o,if_pos (by simpa using f1)]
     (go_wp2_with (at_builtin;refine Ha rfl _ _ rfl (v:=.slice U ys.length uc) rfl (aD.bz uT.o aj) w3.heap.size k rfl (jR _ _ _) (by omega) (by simp;omega) ?_;intro A' c' w4 o4 hg4 hB4;have JN:=ae.zm (g:=g) (hg:=hg4) (Ud.alloc _) (aD.bz (w:=w3) uT.o aj).1 (by decide);have k4:=ae.zm (g:=w.heap.size) (hg:=hg4) (k3.alloc _) (aD.bz (w:=w3) uT.o aj).1 (by decide);have YN:=JN.cell 0;have q4:=k4.cell;have YO:=JN.lt;have l4:=k4.lt;have oh:Below w.heap.size w3 w4:=Below.trans (OZ (w:=w3) aj hz3) hB4;have Ox:aJ (aB w4 lo hi (some ⟨bb,off,none⟩) xs):=hA3.o.gp oh (by omega);obtain⟨g0,g1,g2⟩:=Ox.o.cl hkl;rw[<-Xp.o] at g0 g1 g2;clear qg q3));go_ret2;exact⟨_,ys++[(k:Int)],by rw[E.o];rfl,o4,U8.o.JL oh,fun u' hu'=>by rw[E.o] at hu';cases hu';exact JN⟩
    ·have E:aJ (fD xs x.b (xs.length+1) used x.a=none):=by show _=_;rw[HC.o,HS.o,if_neg (by simpa using f1),if_pos ⟨by simpa using f2,Xn.o⟩]
     (go_wp2_with (at_builtin;refine Ha rfl _ _ rfl (v:=.slice U ys.length uc) rfl (aD.bz uT.o aj) w3.heap.size k rfl (jR _ _ _) (by omega) (by simp;omega) ?_;intro A' c' w4 o4 hg4 hB4;have JN:=ae.zm (g:=g) (hg:=hg4) (Ud.alloc _) (aD.bz (w:=w3) uT.o aj).1 (by decide);have k4:=ae.zm (g:=w.heap.size) (hg:=hg4) (k3.alloc _) (aD.bz (w:=w3) uT.o aj).1 (by decide);have YN:=JN.cell 0;have q4:=k4.cell;have YO:=JN.lt;have l4:=k4.lt;have oh:Below w.heap.size w3 w4:=Below.trans (OZ (w:=w3) aj hz3) hB4;have Ox:aJ (aB w4 lo hi (some ⟨bb,off,none⟩) xs):=hA3.o.gp oh (by omega);obtain⟨g0,g1,g2⟩:=Ox.o.cl hkl;rw[<-Xp.o] at g0 g1 g2;clear qg q3));go_ret2;exact⟨_,[],by rw[E.o];rfl,aD.nil _ _,U8.o.JL oh,fun u' hu'=>by rw[E.o] at hu';cases hu'⟩
    ·have E:aJ (fD xs x.b (xs.length+1) used x.a=fD xs x.b m (u.set k true) y.b):=by show _=_;rw[HC.o,HS.o,if_neg (by simpa using f1),if_neg (fun h=>by simp[h.1] at f2)]
     go_wp2_with (at_builtin;refine Ha rfl _ _ rfl (v:=.slice U ys.length uc) rfl (aD.bz uT.o aj) w3.heap.size k rfl (jR _ _ _) (by omega) (by simp;omega) ?_;intro A' c' w4 o4 hg4 hB4;have JN:=ae.zm (g:=g) (hg:=hg4) (Ud.alloc _) (aD.bz (w:=w3) uT.o aj).1 (by decide);have k4:=ae.zm (g:=w.heap.size) (hg:=hg4) (k3.alloc _) (aD.bz (w:=w3) uT.o aj).1 (by decide);have YN:=JN.cell 0;have q4:=k4.cell;have YO:=JN.lt;have l4:=k4.lt;have oh:Below w.heap.size w3 w4:=Below.trans (OZ (w:=w3) aj hz3) hB4;have Ox:aJ (aB w4 lo hi (some ⟨bb,off,none⟩) xs):=hA3.o.gp oh (by omega);obtain⟨g0,g1,g2⟩:=Ox.o.cl hkl;rw[<-Xp.o] at g0 g1 g2;clear qg q3)
     go_round
     case rel=>exact⟨u.set k true,m,y.b,some ⟨A',0,none⟩,c',ys++[(k:Int)],by simp,rfl,E,by show _<_;have:=HN.o;have:=Xo.o;omega,by show _=_;rw[length_set];exact HL.o,by show _<=_;have:=HY.o;have:=Xo.o;simp;omega,by show aD _ _ _ _;simpa using o4,k4,JN,U8.o.JL oh⟩
     case measure=>simp;omega
    ·have E:aJ (fD xs x.b (xs.length+1) used x.a=fD xs x.b m (u.set k true) y.b):=by show _=_;rw[HC.o,HS.o,if_neg (by simpa using f1),if_neg (fun h=>by have:=Xn.o;rw[this] at h;cases h.2)]
     go_wp2_with (at_builtin;refine Ha rfl _ _ rfl (v:=.slice U ys.length uc) rfl (aD.bz uT.o aj) w3.heap.size k rfl (jR _ _ _) (by omega) (by simp;omega) ?_;intro A' c' w4 o4 hg4 hB4;have JN:=ae.zm (g:=g) (hg:=hg4) (Ud.alloc _) (aD.bz (w:=w3) uT.o aj).1 (by decide);have k4:=ae.zm (g:=w.heap.size) (hg:=hg4) (k3.alloc _) (aD.bz (w:=w3) uT.o aj).1 (by decide);have YN:=JN.cell 0;have q4:=k4.cell;have YO:=JN.lt;have l4:=k4.lt;have oh:Below w.heap.size w3 w4:=Below.trans (OZ (w:=w3) aj hz3) hB4;have Ox:aJ (aB w4 lo hi (some ⟨bb,off,none⟩) xs):=hA3.o.gp oh (by omega);obtain⟨g0,g1,g2⟩:=Ox.o.cl hkl;rw[<-Xp.o] at g0 g1 g2;clear qg q3)
     go_round
     case rel=>exact⟨u.set k true,m,y.b,some ⟨A',0,none⟩,c',ys++[(k:Int)],by simp,rfl,E,by show _<_;have:=HN.o;have:=Xo.o;omega,by show _=_;rw[length_set];exact HL.o,by show _<=_;have:=HY.o;have:=Xo.o;simp;omega,by show aD _ _ _ _;simpa using o4,k4,JN,U8.o.JL oh⟩
     case measure=>simp;omega
theorem Ci(xs:List aL)(u:List Bool)(x:aL):rz xs u x=if x.kind=1 then rM xs u x else fD xs x.b (xs.length+1) u x.a:=rfl
theorem RO(V:Value)(n:Nat) : #[V,.bool false,.bool false,.bool false,.bool false,.bool false,.bool false,.int .i64 0]=Ih V (replicate n false):=by
 have h:∀j,ub (replicate n false) j=false:=by
  intro j;unfold ub;rw[List.getElem?_replicate]
  split<;>rfl
 unfold Ih Pt;simp only[h];simp[List.count_replicate]
theorem E6(xs:List aL)(u:List Bool)(goal:List aL)(k:Nat)(hk:k<goal.length):pW xs u (goal.drop k)=(rz xs u goal[k]).bind fun u'=>pW xs u' (goal.drop (k+1)):=by
 rw[List.drop_eq_getElem_cons hk];rfl
theorem Ii(xs:List aL)(u:List Bool)(goal:List aL):pW xs u (goal.drop goal.length)=some u:=by rw[drop_length];rfl
section
variable{ops:Array Oper}{rest:List Oper}{o:Oper}{a:Act}{Q:Exit->Act->World->Prop}{w:World}{base:Nat}{v:Value}{vs:List Value}
theorem appOwn(hgd:o.guard=none)(s x:Operand)(ho:o.op=.call { callee:=.builtin .append,args:=#[s,x],argTypes:=#[193,193] })
  (hs:a.eval s=v) (h0:w.ownsRow base EU 1 v vs.length vs) (hbase:base<=w.heap.size) {g:Nat} {A:Option Addr} {n c:Nat} (hg:ae w g EU #[.slice A n c]) (hx:a.eval x=.slice (some ⟨g,0,none⟩) 1 1) (hl:vs.length+1<=1049600)
  (h:∀A' c' w',w'.ownsRow base EU 1 (.slice A' (vs.length+1) c') (vs.length+1) (vs++[.slice A n c])->w.grownBy w' v.ownBlock->Below base w w'->wpList Tryz.prog ops Q rest (a.put o.dst (.slice A' (vs.length+1) c')) w'):wpList Tryz.prog ops Q (o :: rest) a w:=by
 refine fJ hgd s x 193 ho Tryz.underlying193 RJ rfl (by decide) (by decide) hs h0 hx (rwS hg) (by intro u hu;simp at hu;subst hu;rfl) (by omega) hbase ?_;intro v' w' h1 h2 h3;obtain⟨A',c',rfl,-⟩:=bZ (by simpa using h1:w'.ownsRow base EU 1 v' (vs++[Value.slice A n c]).length (vs++[Value.slice A n c])) (by simp[il];omega);simp only[List.length_append,length_cons,length_nil,Nat.zero_add] at h1⊢;exact h A' c' w' h1 h2 h3
end
theorem af.RP{w:World}{base hi n c:Nat}{A:Option Addr}{xs:List aL}(h:af w base (.slice A n c) xs)(hu:Bw (.slice A n c) hi):aB w base hi A xs:=by
 obtain⟨A',c',e,h1⟩:=h.rj;injection e with e1 e2 e3;subst e1;refine⟨⟨h1.raw.1,fun hn=>?_⟩,h1.lim⟩;obtain⟨b,o,e,h2,-,h4⟩:=h1.raw.2 hn;subst e;exact⟨b,o,rfl,h2,hu b rfl,h4⟩
theorem Ij{w:World}{base size n g:Nat}{e t:TypeId}{v:Value}{xs:List Value}{cs:Array Value}(h:w.ownsRow base e size v n xs)(hk:ae w g t cs)(ht:t≠e):v.ownBlock≠some g:=by
 intro hg;rcases h.2 with ⟨rfl,-⟩|⟨k,cap,cur,rfl,-,hh,-⟩
 ·cases hg
 ·have e1:k=g:=by simpa[Value.ownBlock] using hg
  subst e1;exact(ae.Bq (g:=k) hk hh ht) rfl
theorem wL{lo hi bJ hi':Nat}(v v':Value)(a b:au)(c:List Int)(w:World)(h:aM w lo hi v a)(h':aM w bJ hi' v' b)(ha:a.valid=true)(hb:b.valid=true)(hc:c.length=9) :
  Calls Tryz.prog 160 #[v,v',.agg (bM c)] w fun e w'=>∃r,e=.returned (.tuple #[r,.bool (um a b c)])/\Below w.heap.size w w':=by
 have HA:=ax (au.dm ha);have U9:=ax (au.dm hb);have HC:=ax hc
 have hal:a.atoms.length<=6:=by
  simp only[au.valid,Bool.and_eq_true,decide_eq_true_eq] at ha;exact ha.2.1
 have hbl:b.atoms.length<=6:=by
  simp only[au.valid,Bool.and_eq_true,decide_eq_true_eq] at hb;exact hb.2.1
 obtain⟨A1,c1,A2,c2,rfl,h1,h2⟩:=h;obtain⟨A3,c3,A4,c4,rfl,h3,h4⟩:=h';have H2:=ax h2;have H3:=ax h3;have H4:=ax h4;have HE:aJ (um a b c=(b.facts.all (aF.fits c)&&wF (aW a.atoms c) (aW b.atoms c))):=rfl;clear h1 h2 h3 h4 ha hb hc;(go_enter Tryz.func160,Tryz.ntmps160);obtain⟨k0,k1,k2⟩:=wD w aC aC lq #[.slice A1 a.facts.length c1,.slice A2 a.atoms.length c2] #[.slice A3 b.facts.length c3,.slice A4 b.atoms.length c4] (bM c);(go_wp2_with fail);refine(wK A3 c3 b.facts c (w.heap.size+1+1) _ (H3.o.bz aj) (k2.case HC.o) HC.o U9.o.1).mono ?_;rintro e w1 ⟨rfl,hB1⟩;have hB:Below w.heap.size w w1:=aP (w:=w) aj hB1;replace k0:=k0.nz hB1;replace k1:=k1.nz hB1;replace k2:=k2.nz hB1;(replace bT:=k0.z;replace fI:=k1.z;replace lZ:=k2.z);clear hB1;cases hf:b.facts.all (aF.fits c)
 ·have E:aJ (um a b c=false):=by show _=_;rw[HE.o,hf];rfl
  clear hf;go_wp2;go_ret2;exact⟨_,by rw[E.o];rfl,hB⟩
 ·have E:aJ (um a b c=wF (aW a.atoms c) (aW b.atoms c)):=by show _=_;rw[HE.o,hf];rfl
  clear hf;(go_wp2_with fail);refine(tV A2 c2 a.atoms c (w.heap.size+1+1) _ (H2.o.bz hB) (k2.case HC.o) HC.o HA.o.2).mono ?_;rintro e w2 ⟨r2,rfl,o2,hB2⟩;obtain⟨X,xc,rfl,xV⟩:=o2.rj;have hxl:=nM a.atoms c;obtain⟨xs,hxs⟩:∃xs,xs=aW a.atoms c:=⟨_,rfl⟩;have Ue:=ax hxs;rw[<-hxs] at o2 xV hxl⊢;have XV:=ax xV;have tJ:=aP hB hB2;replace k0:=k0.nz hB2;replace k1:=k1.nz hB2;replace k2:=k2.nz hB2;(replace bT:=k0.z;replace fI:=k1.z;replace lZ:=k2.z);have YP:aJ (Bw (.slice X xs.length xc) w2.heap.size):=fun h hh=>(o2.1.lt h hh).2;have hz1:=hB.size;have hz2:=tJ.size;have o2l:=o2.bq (base':=w.heap.size) hz1;clear hB2 hB xV hxs o2;(go_wp2_with fail);refine(tV A4 c4 b.atoms c (w.heap.size+1+1) _ (H4.o.bz aj) (ae.case (c:=c) az HC.o) HC.o U9.o.2).mono ?_;rintro e w3 ⟨r3,rfl,o3,hB3⟩;have km0:ae w3 w2.heap.size GY #[.slice X xs.length xc,.bool false,.bool false,.bool false,.bool false,.bool false,.bool false,.int .i64 0]:=ae.nz az hB3;have km:ae w3 w2.heap.size GY (Ih (.slice X xs.length xc) (replicate xs.length false)):=by rw[<-RO];exact km0
  obtain⟨G,gc,rfl,-⟩:=o3.rj;have hgl:=nM b.atoms c;obtain⟨goal,hgo⟩:∃goal,goal=aW b.atoms c:=⟨_,rfl⟩;have HGO:=ax hgo;rw[<-hgo] at o3 hgl⊢;have Uf:aJ (af w3 w.heap.size (.slice X xs.length xc) xs):=(o2l.bz (w':=w2.alloc (.cells #[.slice X xs.length xc,.bool false,.bool false,.bool false,.bool false,.bool false,.bool false,.int .i64 0] GY)) aj).bz hB3;have HG:aJ (af w3 (w2.heap.size+1) (.slice G goal.length gc) goal):=o3.bq (by simp);have HB3:aJ (Below w.heap.size w w3):=aP (w:=w) aj hB3;have E2:aJ (um a b c=wF xs goal):=by show _=_;rw[E.o,Ue.o,HGO.o]
  clear hB3 km0 o3 o2l hgo tJ k0 k1 k2 bT fI lZ XV;obtain⟨g,hge⟩:∃g,g=w2.heap.size:=⟨_,rfl⟩;rw[<-hge] at km HG YP hz2⊢;clear hge;(go_wp2_with fail)
  go_loopw [9,26] (fun s9 s26 wr=>∃(k:Nat) (u:List Bool) (U:Option Addr) (uc:Nat) (vs:List Value),k<=goal.length/\s26=.int .i64 k/\s9=.slice U vs.length uc/\vs.length=k/\aJ (pW xs (replicate xs.length false) goal=pW xs u (goal.drop k))/\aJ (u.length=xs.length)/\aJ (wr.ownsRow w.heap.size EU 1 (.slice U vs.length uc) vs.length vs)/\ae wr g GY (Ih (.slice X xs.length xc) u)/\aJ (af wr (g+1) (.slice G goal.length gc) goal)/\aJ (af wr w.heap.size (.slice X xs.length xc) xs)/\aJ (Below w.heap.size w wr)) (fun _ i _=>goal.length - (intOf i).toNat)
  case atStart=>exact⟨0,replicate xs.length false,none,0,[],dJ,rfl,rfl,rfl,rfl,by show _=_;simp,World.ownsRow_nil _ _ _ _,km,HG,Uf,HB3⟩
  case round=>
   clear km HG Uf HB3;obtain⟨k,u,U,uc,vs,hk,rfl,rfl,hvk,HM,HL,HO,km,HG,Uf,HB⟩:=hrel;have xx:=HB.o.size;have lm:=km.lt;by_cases hlt:k<goal.length
   ·obtain⟨G',gc',eG,gV⟩:=HG.o.rj;injection eG with eG1 eG2 eG3;subst eG1;clear eG2 eG3;obtain⟨gb,go_,rfl,lgb⟩:=gV.blt hlt;obtain⟨g0,g1,g2⟩:=gV.cl hlt;have YQ:=ax (E6 xs u goal k hlt);obtain⟨x,hx⟩:∃x,x=goal[k]:=⟨_,rfl⟩;rw[<-hx] at g0 g1 g2 YQ;have QM:aJ (aB wr w.heap.size g X xs):=Uf.o.RP YP.o;clear hx gV;cases hkd:(x.kind == 1)
    case' false=>have e0:rz xs u x=fD xs x.b (xs.length+1) u x.a:=by rw[Ci,if_neg (by simpa using hkd)]
    case' true=>have e0:rz xs u x=rM xs u x:=by rw[Ci,if_pos (by simpa using hkd)]
    all_goals have RQ:=ax e0
    all_goals clear e0
    case' false=>
     (go_wp2_with fail);refine(xU X xc xs u x g _ (QM.o.bz aj) bn (km.alloc _) (by omega) HL.o).mono ?_;rintro e w4 ⟨r,ys,rfl,oy,hM,hu⟩
    case' true=>
     (go_wp2_with fail);refine(zU X xc xs u x g _ (QM.o.bz aj) bn (km.alloc _) (by omega) HL.o).mono ?_;rintro e w4 ⟨r,ys,rfl,oy,hM,hu⟩
    all_goals
     rw[<-RQ.o] at hu⊢;obtain⟨R,rc,rfl,-⟩:=oy.rj;have YR:=ax hu;have Di:aJ (w4.ownsRow w.heap.size EU 1 (.slice U vs.length uc) vs.length vs):=zo (own_below (w':=wr.alloc (.cells #[.int .i64 x.kind,.int .i64 x.a,.int .i64 x.b] tA)) HO.o aj) hM fun h e1 e2=>Ij HO.o km (by decide) (by rw[e1,e2]);have HG4:aJ (af w4 (g+1) (.slice (some ⟨gb,go_,none⟩) goal.length gc) goal):=(HG.o.bz (w':=wr.alloc (.cells #[.int .i64 x.kind,.int .i64 x.a,.int .i64 x.b] tA)) aj).mk hM fun h e1 e2=>by have:=(HG.o.1.lt h e1).1;omega
     have Ph:aJ (af w4 w.heap.size (.slice X xs.length xc) xs):=(Uf.o.bz (w':=wr.alloc (.cells #[.int .i64 x.kind,.int .i64 x.a,.int .i64 x.b] tA)) aj).mk hM fun h e1 e2=>by have:=YP.o h e1;omega
     have mJ:aJ (Below w.heap.size w w4):=(ai HB.o _).trans (hM.bz (lo:=w.heap.size) (fun h e=>by omega) (by simp;omega));have Dp:=mJ.o.size;clear hu hM oy HO HG Uf HB km QM g0 g1 g2;cases hres:rz xs u x
     ·have E3:aJ (um a b c=false):=by show _=_;rw[E2.o];unfold wF;rw[HM.o,YQ.o,hres];rfl
      clear hres;simp only[Option.isSome_none];go_wp2;go_ret2;exact⟨_,by rw[E3.o];rfl,mJ.o⟩
     ·rename_i u';have km4:=YR.o u' hres;have lm4:=km4.lt;have HMS:aJ (pW xs (replicate xs.length false) goal=pW xs u' (goal.drop (k+1))):=by show _=_;rw[HM.o,YQ.o,hres];rfl
      have Mb:aJ (u'.length=xs.length):=by show _=_;rw[Hz hres];exact HL.o
      clear hres;simp only[Option.isSome_some];have hvl:vs.length+1<=1049600:=by omega
      go_wp2_with (at_builtin;refine appOwn (v:=.slice U vs.length uc) (base:=w.heap.size) rfl _ _ rfl rfl (own_below Di.o aj) (by simp;omega) (ae.new w4 EU _) rfl hvl ?_;intro A' c' w5 o5 hg5 bW;have oo:=own_below (w':=w4.alloc (.cells #[.slice R ys.length rc] EU)) Di.o aj;have km5:=ae.zm (g:=g) (hg:=hg5) (km4.alloc _) oo (by decide);have HG5:aJ (af w5 (g+1) (.slice (some ⟨gb,go_,none⟩) goal.length gc) goal):=⟨ek (own_below (w':=w4.alloc (.cells #[.slice R ys.length rc] EU)) HG4.o.1 aj) oo hg5 (by decide),HG4.o.2⟩;have HX5:aJ (af w5 w.heap.size (.slice X xs.length xc) xs):=⟨ek (own_below (w':=w4.alloc (.cells #[.slice R ys.length rc] EU)) Ph.o.1 aj) oo hg5 (by decide),Ph.o.2⟩;have wm:aJ (Below w.heap.size w w5):=(ai mJ.o _).trans bW;have JE:=ax o5;clear o5 oo bW hg5)
      go_round
      case rel=>exact⟨k+1,u',A',c',vs++[.slice R ys.length rc],by omega,by go_num,by simp<;>omega,by simp;omega,HMS,Mb,by show World.ownsRow _ _ _ _ _ _ _;simpa using JE.o,km5,HG5,HX5,wm⟩
      case measure=>simp[intOf];omega
   ·obtain rfl:k=goal.length:=by omega
    have E3:aJ (um a b c=u.all id):=by show _=_;rw[E2.o];unfold wF;rw[HM.o,Ii]
    have q0:wr.cell? ⟨g,0,none⟩=some (.slice X xs.length xc):=km.cell 0;have q7:wr.cell? ⟨g,7,none⟩=some (.int .i64 ((u.count true:Nat):Int)):=km.cell 7;by_cases hcc:u.count true=xs.length
    ·have E4:aJ (um a b c=true):=by show _=_;rw[E3.o];exact B6.1 (by rw[hcc,HL.o])
     rw[hcc] at q7;clear hcc km;go_wp2;go_ret2;exact⟨_,by rw[E4.o];rfl,HB.o⟩
    ·have E4:aJ (um a b c=false):=by
      show _=_;rw[E3.o];cases hall:u.all id
      ·rfl
      ·exact absurd (by rw[B6.2 hall];exact HL.o) hcc
     obtain⟨cnt,hcn⟩:∃n,n=u.count true:=⟨_,rfl⟩;rw[<-hcn] at q7 hcc;have hne:((cnt:Int) != (xs.length:Int))=true:=by simp;omega
     clear hcc hcn km;go_wp2;go_ret2;exact⟨_,by rw[E4.o];rfl,HB.o⟩
theorem bX.made{w:World}{n:Nat}(h:n<=6):bX (w.alloc (.cells (Array.replicate n (.bool false)) tB)) w.heap.size (.slice (some ⟨w.heap.size,0,none⟩) n n) (replicate n false):=
 ⟨by simpa using ed (n:=n) (cap:=n) (size:=1) (L:=dN (replicate n false)) (ae.new w tB (Array.replicate n (.bool false))) (Nat.le_refl _) (by simp[dN]) (by intro j hj;simp[dN,List.getElem?_replicate,Array.getElem?_replicate]) (Nat.le_refl _) (Nat.le_trans h (by decide)) (by simp),by simp[il];omega⟩
end
section
open Go Go.RowKit Go.Proofs
attribute [local go_sem ↓] Go.wp_at_zero Go.wp_at_succ
attribute [local go_sem] Oper.semAt_some
def uZ(a b:au):Option (List Int):=(cases a (dP a (aO (mz b)))).find? fun c=>!um a b c
theorem ML{L p:List (List Int)}{x:List Int}{f:List Int->Bool}(h:(p++[x]) <+: L)(hp:∀y∈p,f y=false)(hx:f x=true):L.find? f=some x:=by
 obtain⟨zs,rfl⟩:=h;rw[append_assoc,List.find?_append];have h0:p.find? f=none:=by rw[List.find?_eq_none];intro y hy;simp[hp y hy]
 rw[h0];simp[hx]
theorem uu{lo hi bJ hi':Nat}(v v':Value)(a b:au)(w:World)(h:aM w lo hi v a)(h':aM w bJ hi' v' b)(hhi:hi<=w.heap.size)(RS:hi'<=w.heap.size)(ha:a.valid=true)(hb:b.valid=true) :
  Calls Tryz.prog 147 #[v,v'] w fun e w'=>e=.returned (.tuple #[.agg (bM ((uZ a b).getD zeros)),.bool (uZ a b).isSome])/\Below w.heap.size w w':=by
 have hV:=ax h;have hV':=ax h';obtain⟨A1,c1,A2,c2,rfl,-,-⟩:=h;obtain⟨A3,c3,A4,c4,rfl,-,-⟩:=h';have HVA:=ax ha;have HVB:=ax hb;have Ug:aO (mz b)<512:=dI (mz b);have HT5:=ax Ug;clear ha hb Ug;refine(callsIn_wide (n:=3)).1 ?_;(refine callsIn_of_wp_marks Tryz.func147 rfl trivial ?_ rfl;simp only[Tryz.ntmps147,size_toArray,length_cons,length_nil,Nat.reduceAdd,Nat.reduceSub,Array.replicate_succ,Array.replicate_zero,push_toArray,append_toArray,nil_append,cons_append])
 gi_wp2_with fail
 refine wpIn_wide.2 ?_;refine lS (S:=(fun w'=>(∀i,w'.cell? ⟨w.heap.size,i,none⟩=#[.slice A1 a.facts.length c1,.slice A2 a.atoms.length c2][i]?)/\(∀i,w'.cell? ⟨w.heap.size+1,i,none⟩=#[.slice A3 b.facts.length c3,.slice A4 b.atoms.length c4][i]?))) (⟨ae.cell az,ae.cell az⟩) fun aH=>?_;refine uM 0 1 ?_;refine aX 2 rfl fun K hK=>?_;(try simp only[zz]);(go_simp;refine(di _ b _ (hV'.o.bz aj)).mono ?_;rintro e w1 ⟨rfl,hB1⟩;have k0:ae w1 w.heap.size aC #[.slice A1 a.facts.length c1,.slice A2 a.atoms.length c2]:=ae.nz az hB1;have k1:ae w1 (w.heap.size+1) aC #[.slice A3 b.facts.length c3,.slice A4 b.atoms.length c4]:=ae.nz az hB1;have RH:ae w1 (w.heap.size+1+1) lq #[.int .i64 0,.int .i64 0,.int .i64 0,.int .i64 0,.int .i64 0,.int .i64 0,.int .i64 0,.int .i64 0,.int .i64 0]:=ae.nz az hB1;have kO:ae w1 (w.heap.size+1+1+1) 4 #[.bool false]:=ae.nz az hB1;have hB:=aP (w:=w) aj hB1);refine hK.out _ _ (⟨k0.cell,k1.cell⟩) ?_;clear aH hK K;intro aH;refine aX 3 rfl fun K hK=>?_;(try simp only[zz]);(go_simp;refine(iO A1 A2 c1 c2 a (aO (mz b)) _ (hV.o.bz aj) HT5.o).mono ?_;rintro e w2 ⟨gA,gT,rfl,hA,hT,kA,kT,hB2⟩;replace k0:=k0.nz hB2;replace k1:=k1.nz hB2;replace RH:=RH.nz hB2;replace kO:=kO.nz hB2;have hz1:=hB.size;replace hB:=aP hB hB2);refine hK.out _ _ (⟨k0.cell,k1.cell⟩) ?_;clear aH hK K;intro aH;refine jP ?_;have kR:ae w2 (w.heap.size+1+1) lq (bM zeros):=RH;have hzO:=kO.lt;have hz:=hB.size;have U4:=hV.o.bz hB;clear RH hB2 hB1
 gi_wp2_with fail
 refine wH (gf:=158) (lb:=#[.pointer (some ⟨gA,0,none⟩),.pointer (some ⟨gT,0,none⟩)]) rfl (enters_of Tryz.func158 (by kernel_rfl) rfl)
  (MH (n₀:=w.heap.size) w2 HVA.o HT5.o U4 hhi (by omega) kA kT) (fun h k=>h.trans k) (Kept.ma (by omega)) aU (fun _=>rfl)
  (fun pre W=>aJ (∀y∈pre,um a b y.1=true)/\ae W (w.heap.size+1+1) lq (bM zeros)/\ae W (w.heap.size+1+1+1) 4 #[.bool false]/\ae W w.heap.size aC #[.slice A1 a.facts.length c1,.slice A2 a.atoms.length c2]/\ae W (w.heap.size+1) aC #[.slice A3 b.facts.length c3,.slice A4 b.atoms.length c4]/\Below w.heap.size w W)
  (fun c pre W=>∃p x,c=.ret/\pre=p++[x]/\aJ (∀y∈p,um a b y.1=true)/\aJ (um a b x.1=false)/\ae W (w.heap.size+1+1) lq (bM x.1)/\ae W (w.heap.size+1+1+1) 4 #[.bool true]/\Below w.heap.size w W)
  (fun s X Y row hs hg hr=>by
   obtain⟨e1,k1,k2,k3,k4,k5⟩:=hs
   exact⟨e1,k1.turn hg hr (Or.inr (by omega)),k2.turn hg hr (Or.inr (by omega)),k3.turn hg hr (Or.inr (by omega)),k4.turn hg hr (Or.inr (by omega)),Below.turn k5 hg hr (by omega) k5.size⟩)
  (fun c s X Y row hs hg hr=>by
   obtain⟨p,x,e1,e2,e3,e4,k1,k2,k3⟩:=hs
   exact⟨p,x,e1,e2,e3,e4,k1.turn hg hr (Or.inr (by omega)),k2.turn hg hr (Or.inr (by omega)),Below.turn k3 hg hr (by omega) k3.size⟩)
  ⟨fun y hy=>absurd hy (by simp),kR,kO,k0,k1,hB⟩ ?round ?done ?stop
 case round=>
  rintro l pre x W hl ⟨HP,kR,kO,k0,k1,hB⟩ -;have hwz:=hB.size
  gi_wp2
  refine⟨(KeepsOthers.alloc _ _).from _,Kept.alloc (by omega) _,fun o o' ho hc=>?_⟩;have kX:=(ae.new W lq (bM x.1)).ma o' ho hc;have lO:=kO.lt;replace kR:=(kR.alloc (.cells (bM x.1) lq)).ma o' ho hc;replace kO:=(kO.alloc (.cells (bM x.1) lq)).ma o' ho hc;replace k0:=(k0.alloc (.cells (bM x.1) lq)).ma o' ho hc;replace k1:=(k1.alloc (.cells (bM x.1) lq)).ma o' ho hc;have hB':=(ai hB (.cells (bM x.1) lq)).trans (Kept.put (T1:=lq) (T2:=aC) (n₀:=w.heap.size) o' (by omega) ho hc).bz;clear ho;obtain⟨V,JI⟩:∃V,V=(W.alloc (.cells (bM x.1) lq)).putObj l o':=⟨_,rfl⟩;rw[<-JI] at kX kR kO k0 k1 hB'⊢;clear JI hB;obtain⟨p0,p1,p2,p3,p4,p5,p6,p7,p8⟩:=bO kX;have q0:=k0.cell;have q1:=k1.cell;have hxl:=ax x.len
  gi_wp2_with fail
  refine⟨trivial,(CallsIn.inRound l (callsIn_wide.2 (wL _ _ a b x.1 _ (hV.o.bz hB') (hV'.o.bz hB') HVA.o HVB.o hxl.o))).mono ?_⟩;rintro e w3 ⟨r,rfl,hB3⟩;replace kX:=kX.nz hB3;replace kR:=kR.nz hB3;replace kO:=kO.nz hB3;replace k0:=k0.nz hB3;replace k1:=k1.nz hB3;have Uh:=aP hB' hB3;have hz3:=Uh.size;have Mc:=hB'.size;have YS:Kept lq aC w.heap.size V w3:=Kept.nz hB3 Mc;have U':KeepsOthers V w3:=(KX.of hB3).keeps;clear q0 q1 p0 p1 p2 p3 p4 p5 p6 p7 p8 hB3;cases he:um a b x.1
  ·have HE:=ax he;clear he;obtain⟨p0,p1,p2,p3,p4,p5,p6,p7,p8⟩:=bO kX;obtain⟨q0,q1,q2,q3,q4,q5,q6,q7,q8⟩:=bO kR;have rR:=kR.frozen;have qO:=kO.cell 0;have rO:=kO.frozen
   gi_wp2
   refine⟨(U'.trans (Dn.trans (KeepsOthers.setCell _ _ _))).from _,pre,x,rfl,rfl,HP,HE,?_,?_,?_⟩
   ·exact(ae.nine kR).far (p:=⟨w.heap.size+1+1+1,0,none⟩) (by simp) _
   ·exact(kO.yG (by omega)).ag 0 (.bool true)
   ·exact iq (Dm Uh (by omega)) (w.heap.size+1+1+1) 0 _
  ·have HE:aJ (∀y∈pre++[x],um a b y.1=true):=fun y hy=>by
    rcases List.mem_append.1 hy with hy|hy
    ·exact HP.o y hy
    ·rw[List.mem_singleton.1 hy];exact he
   clear he
   gi_wp2
   exact⟨U'.from _,YS,HE,kR,kO,k0,k1,Uh⟩
 case done=>
  rintro D ys W hD hS ⟨HP,kR,kO,k0,k1,hB⟩ hK
  have E:aJ (uZ a b=none):=by
   show _=_;unfold uZ;rw[<-hS,List.find?_eq_none];intro y hy;obtain⟨z,hz,rfl⟩:=List.mem_map.1 hy;simp[HP.o z hz]
  clear hS k0 k1;obtain⟨q0,q1,q2,q3,q4,q5,q6,q7,q8⟩:=bO kR;have rR:=kR.frozen;have qO:=kO.cell 0;have rO:=kO.frozen;have lO:=kO.lt;have lR:=kR.lt
  gi_wp2
  have zR:=(ae.nine (v0:=.int .i64 0) (v1:=.int .i64 0) (v2:=.int .i64 0) (v3:=.int .i64 0) (v4:=.int .i64 0) (v5:=.int .i64 0) (v6:=.int .i64 0) (v7:=.int .i64 0) (v8:=.int .i64 0) kR).far (p:=⟨w.heap.size+1+1+1,0,none⟩) (by simp) (.bool false);have zO:=(kO.yG (g:=w.heap.size+1+1) (v0:=.int .i64 0) (v1:=.int .i64 0) (v2:=.int .i64 0) (v3:=.int .i64 0) (v4:=.int .i64 0) (v5:=.int .i64 0) (v6:=.int .i64 0) (v7:=.int .i64 0) (v8:=.int .i64 0) (by omega)).ag 0 (.bool false);have zB:=iq (Dm (g:=w.heap.size+1+1) (v0:=.int .i64 0) (v1:=.int .i64 0) (v2:=.int .i64 0) (v3:=.int .i64 0) (v4:=.int .i64 0) (v5:=.int .i64 0) (v6:=.int .i64 0) (v7:=.int .i64 0) (v8:=.int .i64 0) hB (by omega)) (w.heap.size+1+1+1) 0 (.bool false);have zK:=((Dn (w:=W) (g:=w.heap.size+1+1) (v0:=.int .i64 0) (v1:=.int .i64 0) (v2:=.int .i64 0) (v3:=.int .i64 0) (v4:=.int .i64 0) (v5:=.int .i64 0) (v6:=.int .i64 0) (v7:=.int .i64 0) (v8:=.int .i64 0)).trans (KeepsOthers.setCell _ ⟨w.heap.size+1+1+1,0,none⟩ (.bool false))).same D _ hK rfl;obtain⟨V,JI⟩:∃V,V=((KQ W (w.heap.size+1+1) (.int .i64 0) (.int .i64 0) (.int .i64 0) (.int .i64 0) (.int .i64 0) (.int .i64 0) (.int .i64 0) (.int .i64 0) (.int .i64 0)).setCell ⟨w.heap.size+1+1+1,0,none⟩ (.bool false)):=⟨_,rfl⟩;rw[<-JI] at zR zO zB zK⊢;refine⟨by simp,.inl ⟨_,_,rfl,run_takeDeferred zK,?_⟩⟩;have yR:ae _ _ _ (bM zeros):=zR.ma (.deferred none) zK rfl;have yO:=zO.ma (.deferred none) zK rfl;obtain⟨p0,p1,p2,p3,p4,p5,p6,p7,p8⟩:=bO yR;have pO:=yO.cell 0;refine⟨.tuple #[.agg (bM zeros),.bool false],?_,by rw[E.o];rfl,zB.trans (belowK_b (w:=w) bn V D _ _ (by omega) zK rfl rfl)⟩;simp[results,Tryz.f147,go_sem,p0,p1,p2,p3,p4,p5,p6,p7,p8,pO]
 case stop=>
  rintro D c pre W hD hS ⟨p,x,rfl,rfl,HP,HE,kR,kO,hB⟩ hK
  have E:aJ (uZ a b=some x.1):=by
   show _=_;unfold uZ;rw[map_append,map_cons,List.map_nil] at hS;refine ML hS (fun y hy=>?_) (by simp[HE.o]);obtain⟨z,hz,rfl⟩:=List.mem_map.1 hy;simp[HP.o z hz]
  clear hS;obtain⟨q0,q1,q2,q3,q4,q5,q6,q7,q8⟩:=bO kR;have qO:=kO.cell 0;have lO:=kO.lt;have lR:=kR.lt
  gi_wp2
  refine⟨by simp,.inl ⟨_,_,rfl,run_takeDeferred hK,?_⟩⟩;have yR:=kR.ma (.deferred none) hK rfl;have yO:=kO.ma (.deferred none) hK rfl;obtain⟨p0,p1,p2,p3,p4,p5,p6,p7,p8⟩:=bO yR;have pO:=yO.cell 0;refine⟨.tuple #[.agg (bM x.1),.bool true],?_,by rw[E.o];rfl,hB.trans (belowK_b (w:=w) bn W D _ _ (by omega) hK rfl rfl)⟩;simp[results,Tryz.f147,go_sem,p0,p1,p2,p3,p4,p5,p6,p7,p8,pO]
end
section
open Go Go.RowKit Go.Proofs
attribute [local go_sem ↓] Go.wp_at_zero Go.wp_at_succ
end
section
open Go
end
section
open Go Go.RowKit Go.Proofs
attribute [local go_sem ↓] Go.wp_at_zero Go.wp_at_succ
def mU(a b:au):Bool:=a.valid&&b.valid && !(uZ a b).isSome
theorem rP{lo hi bJ hi':Nat}(v v':Value)(a b:au)(w:World)(h:aM w lo hi v a)(h':aM w bJ hi' v' b)(hhi:hi<=w.heap.size)(RS:hi'<=w.heap.size) :
  Calls Tryz.prog 126 #[v,v'] w fun e w'=>e=.returned (.bool (mU a b))/\Below w.heap.size w w':=by
 have hV:=ax h;have hV':=ax h';obtain⟨A1,c1,A2,c2,rfl,-,-⟩:=h;obtain⟨A3,c3,A4,c4,rfl,-,-⟩:=h';(go_enter Tryz.func126,Tryz.ntmps126);have k0:ae ((w.alloc (.cells #[.slice A1 a.facts.length c1,.slice A2 a.atoms.length c2] aC)).alloc (.cells #[.slice A3 b.facts.length c3,.slice A4 b.atoms.length c4] aC)) w.heap.size aC #[.slice A1 a.facts.length c1,.slice A2 a.atoms.length c2]:=az;have k1:ae ((w.alloc (.cells #[.slice A1 a.facts.length c1,.slice A2 a.atoms.length c2] aC)).alloc (.cells #[.slice A3 b.facts.length c3,.slice A4 b.atoms.length c4] aC)) (w.heap.size+1) aC #[.slice A3 b.facts.length c3,.slice A4 b.atoms.length c4]:=az;(go_wp2_with fail);refine(jz _ a _ (hV.o.bz aj)).mono ?_;rintro e w1 ⟨rfl,hB1⟩;have hB:Below w.heap.size w w1:=aP (w:=w) aj hB1;replace k0:=k0.nz hB1;replace k1:=k1.nz hB1;(replace bT:=k0.z;replace fI:=k1.z);clear hB1;cases ha:a.valid
 ·have E:aJ (mU a b=false):=by show _=_;simp[mU,ha]
  clear ha;go_wp2;go_ret;exact⟨dz E.o.symm,hB⟩
 ·have HA:=ax ha;clear ha;(go_wp2_with fail);refine(jz _ b _ (hV'.o.bz hB)).mono ?_;rintro e w2 ⟨rfl,hB2⟩;replace hB:=aP hB hB2;replace k0:=k0.nz hB2;replace k1:=k1.nz hB2;(replace bT:=k0.z;replace fI:=k1.z);clear hB2;cases hb:b.valid
  ·have E:aJ (mU a b=false):=by show _=_;simp[mU,hb]
   clear hb;go_wp2;go_ret;exact⟨dz E.o.symm,hB⟩
  ·have HB:=ax hb;have hz:=hB.size;have E:aJ (mU a b=(uZ a b).isNone):=by show _=_;rw[mU,HA.o,hb];cases uZ a b<;>rfl
   clear hb;(go_wp2_with fail);refine(uu _ _ a b _ (hV.o.bz hB) (hV'.o.bz hB) (by omega) (by omega) HA.o HB.o).mono ?_;rintro e w3 ⟨rfl,hB3⟩;replace hB:=aP hB hB3;clear hB3 k0 k1 bT fI;go_wp2;go_ret;exact⟨dz E.o.symm,aj⟩
end
section
open Go Go.RowKit
def jY(m:Nat):Nat->List aL->List aL
 | _,[]=>[]
 | i,x :: xs=>if m.testBit i then x :: jY m (i+1) xs else jY m (i+1) xs
def nQ(a:au)(m:Nat):au:=⟨[],jY m 0 a.atoms⟩
def rQ(p:Nat->Bool):Nat->Nat->Option Nat
 | 0,_=>none
 | n+1,m=>if p m then some m else rQ p n (m+1)
def Md(a b:au)(m:Nat):Bool:=mU a (jU b (nQ a m))
def MM(a b:au):Option Nat:=rQ (Md a b) (2 ^ a.atoms.length) 0
def iP(a b:au):Option au:=if a.valid&&b.valid then (MM a b).map (nQ a) else none
theorem Cj(m:Nat):∀(xs:List aL) (i:Nat),(jY m i xs).length<=xs.length
 | [],_=>Nat.le_refl _
 | x :: xs,i=>by
  unfold jY;have:=Cj m xs (i+1)
  split
  ·simp only[length_cons];omega
  ·simp only[length_cons];omega
theorem wM{m:Nat}{x:aL}:∀ {xs:List aL} {i:Nat},x∈jY m i xs->x∈xs
 | [],_,h=>h
 | y :: xs,i,h=>by
  unfold jY at h
  split at h
  ·rcases List.mem_cons.1 h with rfl|h
   ·exact List.mem_cons_self
   ·exact List.mem_cons_of_mem _ (wM h)
  ·exact List.mem_cons_of_mem _ (wM h)
theorem xy{a:au}(h:a.valid=true)(m:Nat):(nQ a m).valid=true:=by
 simp only[au.valid,aS,Bool.and_eq_true,decide_eq_true_eq,all_eq_true] at h⊢;exact⟨⟨Nat.zero_le _,fun _ h=>by cases h⟩,Nat.le_trans (Cj m _ 0) h.2.1,fun x hx=>h.2.2 x (wM hx)⟩
theorem MN{a b:au}(ha:a.valid=true)(hb:b.valid=true)(m:Nat):Md a b m=((qH b (nQ a m)).isSome&&mU a ((qH b (nQ a m)).getD ⟨[],[]⟩)):=by
 unfold qH;rw[hb,xy ha];unfold Md;cases h:(jU b (nQ a m)).valid
 ·rw[show (true&&true&&false)=false from rfl];simp only[Bool.false_eq_true,if_false,Option.isSome_none,Bool.false_and];unfold mU;rw[h,Bool.and_false,Bool.false_and]
 ·rfl
theorem zV{p:Nat->Bool}:∀ {n m k:Nat},rQ p n m=some k->m<=k/\k<m+n/\p k=true
 | 0,_,_,h=>by cases h
 | n+1,m,k,h=>by
  unfold rQ at h
  split at h
  ·rename_i hp;injection h with h;subst h;exact⟨Nat.le_refl _,by omega,hp⟩
  ·have:=zV h;exact⟨by omega,by omega,this.2.2⟩
theorem Ik{p:Nat->Bool}{N k:Nat}(hk:k<N):rQ p (N - k) k=if p k then some k else rQ p (N - (k+1)) (k+1):=by
 rw[show N - k=(N - (k+1))+1 by omega,rQ]
theorem Il{a b f:au}(h:iP a b=some f):a.valid=true/\b.valid=true/\∃m,m<2 ^ a.atoms.length/\f=nQ a m/\Md a b m=true:=by
 unfold iP at h
 split at h
 ·rename_i hv;rw[Bool.and_eq_true] at hv;obtain⟨m,h1,h2⟩:=Option.map_eq_some_iff.1 h;have:=zV h1;exact⟨hv.1,hv.2,m,by omega,h2.symm,this.2.2⟩
 ·cases h
theorem E7{a b f:au}(h:iP a b=some f):f.valid=true:=by
 obtain⟨ha,-,m,-,rfl,-⟩:=Il h;exact xy ha m
end
section
open Go Go.RowKit Go.Proofs
abbrev kG(f:aF):Nat:=aQ (aQ 0 f.a) f.b
def mF(a:au)(f:aF):Bool:=a.valid&&f.valid&&(cases a (dP a (kG f))).all (aF.fits · f)
theorem aF.MO(c:List Int)(f:aF):aF.fits c ⟨!f.eq,f.a,f.b⟩ = !aF.fits c f:=by
 unfold aF.fits;cases f.eq<;>cases decide (cl c f.a=cl c f.b)<;>rfl
theorem aF.dm{f:aF}(h:f.valid=true):(0<=f.a/\f.a<=8)/\(0<=f.b/\f.b<=8):=by
 simpa[aF.valid,jq] using h
theorem KV(a:au)(f:aF)(S:Nat):cases ⟨a.facts++[⟨!f.eq,f.a,f.b⟩],a.atoms⟩ S=(cases a S).filter fun c=>!aF.fits c f:=by
 unfold cases;rw[List.filter_filter]
 congr 1
 funext c
 simp only[full,List.all_append,all_cons,List.all_nil,Bool.and_true,aF.MO];cases a.facts.all (aF.fits c)<;>cases ji [] (aW a.atoms c)<;>cases aF.fits c f<;>rfl
theorem filter_empty{α:Type}(p:α->Bool):∀(L:List α),(L.filter fun x=>!p x).isEmpty=L.all p
 | []=>rfl
 | x :: L=>by
  rw[List.filter_cons,all_cons];cases h:p x
  ·rfl
  ·simpa using filter_empty p L
theorem MP{a:au}{f:aF}(hv:a.valid=true)(hf:f.valid=true) :
  (gG ⟨a.facts++[⟨!f.eq,f.a,f.b⟩],a.atoms⟩ ((aO (mz a)|||1 <<< f.a.toNat)|||1 <<< f.b.toNat) 8 opened).isEmpty=(cases a (dP a (kG f))).all (aF.fits · f):=by
 have hfo:=aF.dm hf;have ha:jq f.a=true:=by simp[jq];omega
 have hb:jq f.b=true:=by simp[jq];omega
 have hbit:∀j:Nat,(kG f).testBit j=(decide (f.a=(j:Int)) || decide (f.b=(j:Int))):=fun j=>by
  rw[cr,cr,Nat.zero_testBit,ha,hb];simp
 have hone:∀(n j:Nat),(1 <<< n).testBit j=decide (n=j):=fun n j=>by
  rw[Nat.one_shiftLeft,Nat.testBit_two_pow]
 have e1:gG ⟨a.facts++[⟨!f.eq,f.a,f.b⟩],a.atoms⟩ ((aO (mz a)|||1 <<< f.a.toNat)|||1 <<< f.b.toNat) 8 opened=gG ⟨a.facts++[⟨!f.eq,f.a,f.b⟩],a.atoms⟩ (dP a (kG f)) 8 opened:=by
  refine zS _ (fun j h1 h2=>?_) 8 opened (by omega);rw[kU,hbit,Nat.testBit_or,Nat.testBit_or,iL,hone,hone];have h0:¬j=0:=by omega
  have x1:decide (f.a.toNat=j)=decide (f.a=(j:Int)):=by rw[decide_eq_decide];omega
  have x2:decide (f.b.toNat=j)=decide (f.b=(j:Int)):=by rw[decide_eq_decide];omega
  rw[x1,x2];simp[h0,Bool.or_assoc]
 rw[e1,zG (a:=au.mk (a.facts++[aF.mk (!f.eq) f.a f.b]) a.atoms) ?_ (au.dm hv).2 (pX a (kG f)) ?_,KV,filter_empty]
 ·intro g hg;rw[mem_append,mem_singleton] at hg;rcases hg with hg|rfl
  ·exact(au.dm hv).1 g hg
  ·exact hfo
 ·intro t ht;obtain⟨h1,h2⟩:=wI hv (kG f) t ht;refine⟨fun g hg=>?_,h2⟩;rw[mem_append,mem_singleton] at hg;rcases hg with hg|rfl
  ·exact h1 g hg
  ·rw[kU,hbit] at ht;simp only[Bool.or_eq_false_iff,decide_eq_false_iff_not] at ht;exact⟨ht.2.1,ht.2.2⟩
end
section
open Go Go.RowKit Go.Proofs
attribute [local go_sem ↓] Go.wp_at_zero Go.wp_at_succ
attribute [local go_sem] Oper.semAt_some
theorem zW{lo hi:Nat}(v:Value)(a:au)(f:aF)(w:World)(h:aM w lo hi v a)(hhi:hi<=w.heap.size) :
  Calls Tryz.prog 149 #[v,f.val] w fun e w'=>e=.returned (.bool (mF a f))/\Below w.heap.size w w':=by
 have hV:=ax h;obtain⟨A1,c1,A2,c2,rfl,-,-⟩:=h;have HE:aJ (mF a f=(a.valid&&f.valid&&(cases a (dP a (kG f))).all (aF.fits · f))):=ax rfl;have HFS:aJ (kG f<512):=ax (bC (bC (by decide) _) _);obtain⟨fe,fa,fb⟩:=f;refine(callsIn_wide (n:=3)).1 ?_;(refine callsIn_of_wp_marks Tryz.func149 rfl trivial ?_ rfl;simp only[Tryz.ntmps149,size_toArray,length_cons,length_nil,Nat.reduceAdd,Nat.reduceSub,Array.replicate_succ,Array.replicate_zero,push_toArray,append_toArray,nil_append,cons_append])
 gi_wp2_with fail
 refine⟨trivial,(callsIn_wide.2 (jz _ a _ (hV.o.bz aj))).mono ?_⟩;rintro e w1 ⟨rfl,hB1⟩;have k0:ae w1 w.heap.size aC #[.slice A1 a.facts.length c1,.slice A2 a.atoms.length c2]:=ae.nz az hB1;have k1:ae w1 (w.heap.size+1) tF #[.bool fe,.int .i64 fa,.int .i64 fb]:=ae.nz az hB1;have k2:ae w1 (w.heap.size+1+1) 4 #[.bool false]:=ae.nz az hB1;have hB:Below w.heap.size w w1:=aP (w:=w) aj hB1;have hz1:=hB1.size;simp only[World.size_alloc] at hz1;clear hB1;have q0:=k0.cell;have q1:=k1.cell;have q2:=k2.cell;have r2:=k2.frozen;have l2:=k2.lt;have l1:=k1.lt;have l0:=k0.lt;cases hv:a.valid
 ·gi_wp2_with fail
  refine⟨trivial,?_⟩
  gi_wp2_with fail
  have z2:=(k2.ag 0 (.bool false)).cell 0;refine⟨.bool false,by simp[results,Tryz.f149,go_sem,z2,q2,l2],by rw[HE.o,hv];rfl,iq hB (w.heap.size+1+1) 0 _⟩
 have HV:=ax hv;clear hv
 gi_wp2_with fail
 refine⟨trivial,(callsIn_wide.2 (iX ⟨fe,fa,fb⟩ _)).mono ?_⟩;rintro e w2 ⟨rfl,hB2⟩;replace k0:=k0.nz hB2;replace k1:=k1.nz hB2;replace k2:=k2.nz hB2;replace hB:=aP hB hB2;have hz2:=hB2.size;clear hB2 q0 q1 q2 r2 l0 l1 l2;have q0:=k0.cell;have q1:=k1.cell;have q2:=k2.cell;have r2:=k2.frozen;have l2:=k2.lt;have l1:=k1.lt;have l0:=k0.lt;cases hf:aF.valid ⟨fe,fa,fb⟩
 ·gi_wp2_with fail
  have z2:=(k2.ag 0 (.bool false)).cell 0;refine⟨.bool false,by simp[results,Tryz.f149,go_sem,z2,q2,l2],by rw[HE.o,hf];simp,iq hB (w.heap.size+1+1) 0 _⟩
 have Ui:=ax (aF.dm hf);have HE2:aJ (mF a ⟨fe,fa,fb⟩=(cases a (dP a (kG ⟨fe,fa,fb⟩))).all (aF.fits · ⟨fe,fa,fb⟩)):=ax (by rw[HE.o,HV.o,hf];rfl);clear hf HE
 gi_wp2_with fail
 refine wpIn_wide.2 ?_;refine lS (S:=(fun w'=>(∀i,w'.cell? ⟨w.heap.size,i,none⟩=#[.slice A1 a.facts.length c1,.slice A2 a.atoms.length c2][i]?)/\(∀i,w'.cell? ⟨w.heap.size+1,i,none⟩=#[.bool fe,.int .i64 fa,.int .i64 fb][i]?))) (⟨k0.drew.cell,k1.drew.cell⟩) fun aH=>?_;refine jQ 0 1 2 3 5 ?_;refine jh 6 ?_;refine aX 4 rfl fun K hK=>?_;(try simp only[zz]);(go_simp;refine(aY 0 fa _ (by decide)).mono ?_;rintro e w3 ⟨rfl,rfl⟩);refine hK.out _ _ (⟨k0.drew.cell,k1.drew.cell⟩) ?_;clear aH hK K;intro aH;refine aX 7 rfl fun K hK=>?_;(try simp only[zz]);(go_simp;refine(aY (aQ 0 fa) fb _ (bC (by decide) _)).mono ?_;rintro e w3 ⟨rfl,rfl⟩);refine hK.out _ _ (⟨k0.drew.cell,k1.drew.cell⟩) ?_;clear aH hK K;intro aH;refine aX 8 rfl fun K hK=>?_;(try simp only[zz]);(go_simp;refine(iO A1 A2 c1 c2 a (kG ⟨fe,fa,fb⟩) _ (hV.o.bz hB.drew) HFS.o).mono ?_;rintro e w3 ⟨gA,gT,rfl,hA,hT,kA,kT,hB3⟩;replace hB3:Below w2.heap.size w2 w3:=aU.drew.trans hB3;replace k0:=k0.nz hB3;replace k1:=k1.nz hB3;replace k2:=k2.nz hB3;replace hB:=aP hB hB3);refine hK.out _ _ (⟨k0.cell,k1.cell⟩) ?_;clear aH hK K;intro aH;refine jP ?_;have hzA:w2.heap.size<=gA:=hA;have hzT:w2.heap.size<=gT:=hT;have hzO:=k2.lt;have hz:=hB.size;have hz3:=hB3.size;have U4:=hV.o.bz hB;clear hB3 q0 q1 q2 r2 l0 l1 l2 hA hT
 gi_wp2_with fail
 refine wH (gf:=158) (lb:=#[.pointer (some ⟨gA,0,none⟩),.pointer (some ⟨gT,0,none⟩)]) rfl (enters_of Tryz.func158 (by kernel_rfl) rfl)
  (MH (n₀:=w.heap.size) w3 HV.o HFS.o U4 hhi (by omega) kA kT) (fun h k=>h.trans k) (Kept.ma (by omega)) aU (fun _=>rfl)
  (fun pre W=>aJ (∀y∈pre,aF.fits y.1 ⟨fe,fa,fb⟩=true)/\ae W (w.heap.size+1) tF #[.bool fe,.int .i64 fa,.int .i64 fb]/\ae W (w.heap.size+1+1) 4 #[.bool false]/\Below w.heap.size w W)
  (fun c pre W=>∃x∈pre,c=.ret/\aJ (aF.fits x.1 ⟨fe,fa,fb⟩=false)/\ae W (w.heap.size+1+1) 4 #[.bool false]/\Below w.heap.size w W)
  (fun s X Y row hs hg hr=>by
   obtain⟨e1,k1,k2,k3⟩:=hs
   exact⟨e1,k1.turn hg hr (Or.inr (by omega)),k2.turn hg hr (Or.inr (by omega)),Below.turn k3 hg hr (by omega) k3.size⟩)
  (fun c s X Y row hs hg hr=>by
   obtain⟨x,e1,e2,e3,k1,k2⟩:=hs
   exact⟨x,e1,e2,e3,k1.turn hg hr (Or.inr (by omega)),Below.turn k2 hg hr (by omega) k2.size⟩)
  ⟨fun y hy=>absurd hy (by simp),k1,k2,hB⟩ ?round ?done ?stop
 case round=>
  rintro l pre x W hl ⟨HP,k1,k2,hB⟩ -;have hwz:=hB.size
  gi_wp2
  refine⟨(KeepsOthers.alloc _ _).from _,Kept.alloc (by omega) _,fun o o' ho hc=>?_⟩;have kX:=(ae.new W lq (bM x.1)).ma o' ho hc;replace k1:=(k1.alloc (.cells (bM x.1) lq)).ma o' ho hc;replace k2:=(k2.alloc (.cells (bM x.1) lq)).ma o' ho hc;have hB':=(ai hB (.cells (bM x.1) lq)).trans (Kept.put (T1:=lq) (T2:=aC) (n₀:=w.heap.size) o' (by omega) ho hc).bz;clear ho;obtain⟨V,JI⟩:∃V,V=(W.alloc (.cells (bM x.1) lq)).putObj l o':=⟨_,rfl⟩;rw[<-JI] at kX k1 k2 hB'⊢;clear JI hB;have q1:=k1.cell;have hxl:=ax x.len;have Mc:=hB'.size;have lX:=kX.lt
  gi_wp2_with fail
  refine⟨trivial,(CallsIn.inRound l (callsIn_wide.2 (kQ ⟨fe,fa,fb⟩ x.1 W.heap.size _ (kX.case hxl.o) hxl.o Ui.o.1 Ui.o.2))).mono ?_⟩;rintro e w4 ⟨rfl,hB4⟩;replace k1:=k1.nz hB4;replace k2:=k2.nz hB4;have Uh:=aP hB' hB4;have YS:Kept lq aC w.heap.size V w4:=Kept.nz hB4 Mc;have U':KeepsOthers V w4:=(KX.of hB4).keeps;clear q1 hB4;have q2:=k2.cell 0;have r2:=k2.frozen;have l2:=k2.lt;cases he:aF.fits x.1 ⟨fe,fa,fb⟩
  ·have HE:=ax he;clear he
   gi_wp2
   exact⟨(U'.trans (KeepsOthers.setCell _ _ _)).from _,x,by simp,rfl,HE,k2.ag 0 (.bool false),iq Uh (w.heap.size+1+1) 0 _⟩
  ·have HP2:aJ (∀y∈pre++[x],aF.fits y.1 ⟨fe,fa,fb⟩=true):=fun y hy=>by
    rcases List.mem_append.1 hy with hy|hy
    ·exact HP.o y hy
    ·rw[List.mem_singleton.1 hy];exact he
   clear he
   gi_wp2
   exact⟨U'.from _,YS,HP2,k1,k2,Uh⟩
 case done=>
  rintro D ys W hD hS ⟨HP,k1,k2,hB⟩ hK
  have E:aJ (mF a ⟨fe,fa,fb⟩=true):=by
   show _=_;rw[HE2.o,<-hS,all_eq_true];intro y hy;obtain⟨z,hz,rfl⟩:=List.mem_map.1 hy;exact HP.o z hz
  clear hS k1;have q2:=k2.cell 0;have r2:=k2.frozen;have l2:=k2.lt
  gi_wp2
  have z2:=k2.ag 0 (.bool true);have zB:=iq hB (w.heap.size+1+1) 0 (.bool true);have zK:=(KeepsOthers.setCell W ⟨w.heap.size+1+1,0,none⟩ (.bool true)).same D _ hK rfl;obtain⟨V,JI⟩:∃V,V=W.setCell ⟨w.heap.size+1+1,0,none⟩ (.bool true):=⟨_,rfl⟩;rw[<-JI] at z2 zB zK⊢;refine⟨by simp,.inl ⟨_,_,rfl,run_takeDeferred zK,?_⟩⟩;have y2:=(z2.ma (.deferred none) zK rfl).cell 0;refine⟨.bool true,?_,by rw[E.o],zB.trans (belowK_b (w:=w) bn V D _ _ (by omega) zK rfl rfl)⟩;simp at y2;simp[results,Tryz.f149,go_sem,y2]
 case stop=>
  rintro D c pre W hD hPre ⟨x,hx,rfl,HX,k2,hB⟩ hK
  have E:aJ (mF a ⟨fe,fa,fb⟩=false):=by
   show _=_;rw[HE2.o,List.all_eq_false];exact⟨x.1,x.2,by rw[HX.o];decide⟩
  have q2:=k2.cell 0;have l2:=k2.lt
  gi_wp2
  refine⟨by simp,.inl ⟨_,_,rfl,run_takeDeferred hK,?_⟩⟩;have y2:=(k2.ma (.deferred none) hK rfl).cell 0;refine⟨.bool false,?_,by rw[E.o],hB.trans (belowK_b (w:=w) bn W D _ _ (by omega) hK rfl rfl)⟩;simp at y2;simp[results,Tryz.f149,go_sem,y2]
end
section
open Go Go.RowKit Go.Proofs
attribute [local go_sem ↓] Go.wp_at_zero Go.wp_at_succ
def eB(w:World)(lo hi:Nat)(v:Value)(a:au):Prop:=
 ∃A1 c1 A2 c2,v=.agg #[.slice A1 a.facts.length c1,.slice A2 a.atoms.length c2]/\aG w lo hi A1 a.facts/\aB w lo hi A2 a.atoms/\a.atoms.length<=c2
theorem eB.V{w:World}{lo hi:Nat}{v:Value}{a:au}(h:eB w lo hi v a):aM w lo hi v a:=by
 obtain⟨A1,c1,A2,c2,e,h1,h2,-⟩:=h;exact⟨A1,c1,A2,c2,e,h1,h2⟩
theorem eB.bz{w w':World}{lo hi:Nat}{v:Value}{a:au}(h:eB w lo hi v a)(hb:Below w.heap.size w w'):eB w' lo hi v a:=by
 obtain⟨A1,c1,A2,c2,e,h1,h2,h3⟩:=h;exact⟨A1,c1,A2,c2,e,h1.bz hb,h2.bz hb,h3⟩
theorem Pw{w:World}{base:Nat}{e:TypeId}{size n c:Nat}{A:Option Addr}{xs:List Value}(h:w.ownsRow base e size (.slice A n c) n xs):n<=c:=by
 rcases h.2 with ⟨e1,e2⟩|⟨g,cap,cur,e1,-,-,hn,-⟩
 ·omega
 ·injection e1 with e1 e2 e3;omega
theorem aI.C{w:World}{base:Nat}{v:Value}{a:au}(h:aI w base v a):eB w base w.heap.size v a:=by
 obtain⟨fv,av,rfl,h1,h2⟩:=h;obtain⟨A1,c1,rfl,f1⟩:=h1.rj;obtain⟨A2,c2,rfl,f2⟩:=h2.rj;exact⟨A1,c1,A2,c2,rfl,f1,f2,Pw h2.1⟩
def kC(S:Nat):Option Nat:=(range' 5 4).find? fun t=>!S.testBit t
def gX(S:Nat):Int:=match kC S with|some t=>(t:Int)|none=>0
theorem E8{S t:Nat}(h5:5<=t)(h8:t<=8)(h1:∀k,5<=k->k<t->S.testBit k=true)(h2:S.testBit t=false):kC S=some t:=by
 unfold kC
 have e:range' 5 4=range' 5 (t - 5)++t :: range' (t+1) (8 - t):=by
  have:t=5\/t=6\/t=7\/t=8:=by omega
  rcases this with rfl|rfl|rfl|rfl<;>rfl
 rw[e,List.find?_append]
 have:(range' 5 (t - 5)).find? (fun t=>!S.testBit t)=none:=by
  rw[List.find?_eq_none];intro x hx;have:=List.mem_range'_1.1 hx;simp[h1 x (by omega) (by omega)]
 rw[this,List.find?_cons,h2];rfl
theorem JO{S:Nat}(h1:∀k,5<=k->k<=8->S.testBit k=true):kC S=none:=by
 unfold kC;rw[List.find?_eq_none];intro x hx;have:=List.mem_range'_1.1 hx;simp[h1 x (by omega) (by omega)]
theorem BJ(S:Nat)(w:World)(hS:S<512):Calls Tryz.prog 161 #[.int .u16 S] w fun e w'=>e=.returned (.tuple #[.int .i64 (gX S),.bool (kC S).isSome])/\w=w':=by
 (go_enter Tryz.func161,Tryz.ntmps161);(go_wp2_with fail)
 go_loop [4] (fun i=>∃k:Nat,5<=k/\k<=9/\i=.int .i64 k/\aJ (∀j,5<=j->j<k->S.testBit j=true)) (fun i=>10 - (intOf i).toNat)
 case atStart=>exact⟨5,by omega,by omega,rfl,ax fun j h1 h2=>by omega⟩
 case round=>
  obtain⟨k,h5,h9,rfl,HA⟩:=hrel;by_cases hlt:k<9
  ·have hki:(k:Int)<=8:=by omega
   have ht:jq (k:Int)=true:=by simp[jq];omega
   have et:((k:Int)).toNat=k:=by omega
   (go_wp2_with fail);refine(fK S _ _ hS).mono ?_;rintro e w1 ⟨rfl,rfl⟩;rw[ht,et];clear ht et;cases hb:S.testBit k
   ·have E:=ax (E8 h5 (by omega) HA.o hb);clear hb;go_wp2;go_ret2;exact⟨by unfold gX;rw[E.o];rfl,rfl⟩
   ·have HA2:aJ (∀j,5<=j->j<k+1->S.testBit j=true):=ax fun j h1 h2=>by
     by_cases e:j=k
     ·rw[e];exact hb
     ·exact HA.o j h1 (by omega)
    clear hb HA;(go_wp2_with fail)
    go_round
    case rel=>exact⟨k+1,by omega,by omega,by go_num,HA2⟩
    case measure=>simp[intOf];omega
  ·obtain rfl:k=9:=by omega
   have E:=ax (JO (S:=S) fun j h1 h2=>HA.o j h1 (by omega));go_wp2;go_ret2;exact⟨by unfold gX;rw[E.o];rfl,rfl⟩
theorem mV{lo hi:Nat}(v:Value)(a:au)(K:Nat)(w:World)(h:aM w lo hi v a)(hK:K<512):Calls Tryz.prog 148 #[v,.int .u16 K] w fun e w'=>e=.returned (.tuple #[.int .i64 (gX (aO (mz a)|||K)),.bool (kC (aO (mz a)|||K)).isSome])/\Below w.heap.size w w':=by
 have hV:=ax h;obtain⟨A1,c1,A2,c2,rfl,-,-⟩:=h;have HT:=ax (dI (mz a));have HO:aJ (bits .or .u16 (aO (mz a):Int) (K:Int)=((aO (mz a)|||K:Nat):Int)):=ax (u16_or_nat _ _ (by have:=dI (mz a);omega) (by omega));have HL:aJ (aO (mz a)|||K<512):=ax (Nat.or_lt_two_pow (n:=9) (dI _) hK);(go_enter Tryz.func148,Tryz.ntmps148);(go_wp2_with fail);refine(di _ a _ (hV.o.bz aj)).mono ?_;rintro e w1 ⟨rfl,hB1⟩;have hB:=aP (w:=w) aj hB1;clear hB1;(go_wp2_with fail);rw[HO.o];refine(BJ _ _ HL.o).mono ?_;rintro e w2 ⟨rfl,rfl⟩;go_wp2;go_ret2;exact⟨rfl,hB⟩
theorem aB.QN{w:World}{lo hi:Nat}{A:Option Addr}{xs:List aL}(h:aB w lo hi A xs){k:Nat}(hk:k<=xs.length):aB w lo hi A (xs.take k):=by
 have hl:(xs.take k).length=k:=by rw[length_take];omega
 have e:gK xs=gK (xs.take k)++gK (xs.drop k):=by rw[<-flatMap_append,List.take_append_drop]
 refine⟨⟨Rp _ _ _ _,fun hn=>?_⟩,by rw[hl];exact Nat.le_trans hk h.lim⟩;obtain⟨b,o,e2,h1,h2,hc⟩:=h.raw.2 (by omega);refine⟨b,o,e2,h1,h2,fun j u hu=>hc j u ?_⟩;rw[e,List.getElem?_append_left ?_]
 ·exact hu
 ·exact(List.getElem?_eq_some_iff.1 hu).1
theorem aB.MQ{w:World}{lo hi b o:Nat}{xs:List aL}(h:aB w lo hi (some ⟨b,o,none⟩) xs){k:Nat}(hk:k<=xs.length):aB w lo hi (some ⟨b,o+k * 3,none⟩) (xs.drop k):=by
 have hl:(xs.drop k).length=xs.length - k:=length_drop;have e:gK xs=gK (xs.take k)++gK (xs.drop k):=by rw[<-flatMap_append,List.take_append_drop]
 have ht:(gK (xs.take k)).length=k * 3:=by rw[Rp,length_take];omega
 refine⟨⟨Rp _ _ _ _,fun hn=>?_⟩,by rw[hl];exact Nat.le_trans (Nat.sub_le _ _) h.lim⟩;obtain⟨b',o',e2,h1,h2,hc⟩:=h.raw.2 (by omega);injection e2 with e2;injection e2 with e3 e4;subst e3 e4;refine⟨_,_,rfl,h1,h2,fun j u hu=>?_⟩;have:=hc (k * 3+j) u (by rw[e,List.getElem?_append_right (by omega),ht,Nat.add_sub_cancel_left];exact hu)
 rwa [<-Nat.add_assoc] at this
theorem JP(b o M d m:Nat)(hm:m<=d)(w:World):(Instr.slice 24 (.slice (some ⟨b,o,none⟩) M d) none (some (.int .i64 (m:Int))) none).run Tryz.prog w=.ok (.slice (some ⟨b,o,none⟩) m d) w:=by
 have h1:(0:Int)<=(m:Int):=by omega
 have h2:(m:Int)<=(d:Int):=by omega
 go_simp
theorem Dq(b o M d m:Nat)(hm:m<=M)(hd:M<=d):∃A',(∀w:World,(Instr.slice 24 (.slice (some ⟨b,o,none⟩) M d) (some (.int .i64 (m:Int))) none none).run Tryz.prog w=.ok (.slice A' (M - m) (d - m)) w)/\(m<d->A'=some ⟨b,o+m * 3,none⟩):=by
 have h1:(0:Int)<=(m:Int):=by omega
 have h2:(m:Int)<=(M:Int):=by omega
 by_cases hmd:m<d
 ·refine⟨some ⟨b,o+m * 3,none⟩,fun w=>?_,fun _=>rfl⟩;go_simp;intro h;omega
 ·obtain rfl:m=d:=by omega
  refine⟨some ⟨b,o,none⟩,fun w=>?_,fun h=>by omega⟩;go_simp
def zv(xs:List aL)(i:Nat):List aL:=xs.take i++xs.drop (i+1)
theorem ja{xs:List aL}{i:Nat}(h:i<xs.length):(zv xs i).length+1=xs.length:=by
 unfold zv;rw[List.length_append,length_take,length_drop];omega
theorem jZ{lo hi:Nat}(v:Value)(a:au)(i:Nat)(w:World)(h:eB w lo hi v a)(hi:i<a.atoms.length) :
  Calls Tryz.prog 136 #[v,.int .i64 i] w fun e w'=>∃r,e=.returned r/\af w' w.heap.size r (zv a.atoms i)/\Below w.heap.size w w':=by
 obtain⟨A1,c1,A2,c2,rfl,h1,h2,hcap⟩:=h;obtain⟨b,o,rfl,-⟩:=h2.at hi;have HV:=ax h2;have hl:=h2.le;have hs1:=JP b o a.atoms.length c2 i (by omega);obtain⟨A',hs2,hA'⟩:=Dq b o a.atoms.length c2 (i+1) (by omega) hcap;have hT:=ax (h2.QN (k:=i) (by omega))
 have hD:aJ (aB w lo _ A' (a.atoms.drop (i+1))):=ax (by
  by_cases hlt:i+1<a.atoms.length
  ·rw[hA' (by omega)];exact h2.MQ (by omega)
  ·rw[List.drop_eq_nil_of_le (by omega)]
   exact Rd.nil _ _ _ _ _)
 have e1:(a.atoms.take i).length=i:=by rw[length_take];omega
 have e2:(a.atoms.drop (i+1)).length=a.atoms.length - (i+1):=length_drop
 have hj:=ax (fun(W:World) (hb:Below w.heap.size w W)=>(show Calls Tryz.prog 99 #[.slice (some ⟨b,o,none⟩) i c2,.slice A' (a.atoms.length - (i+1)) (c2 - (i+1))] W fun e w'=>∃r,e=.returned r/\af w' W.heap.size r (zv a.atoms i)/\Below W.heap.size W w' from by
  have:=nI (some ⟨b,o,none⟩) A' c2 (c2 - (i+1)) (a.atoms.take i) (a.atoms.drop (i+1)) W (hT.o.bz hb) (hD.o.bz hb) (by rw[e1,e2];omega)
  rwa [e1,e2] at this))
 clear h1 h2 hA' e1 e2
 push_cast at hs2
 have hw:IntKind.i64.wrap ((i:Int)+1)=(i:Int)+1:=IntWalk.i64_in _ (by omega);(go_enter Tryz.func136,Tryz.ntmps136);have k0:ae (w.alloc (.cells #[.slice A1 a.facts.length c1,.slice (some ⟨b,o,none⟩) a.atoms.length c2] aC)) w.heap.size aC #[.slice A1 a.facts.length c1,.slice (some ⟨b,o,none⟩) a.atoms.length c2]:=az;go_wp2;refine lS (S:=(fun w'=>∀i,w'.cell? ⟨w.heap.size,i,none⟩=#[.slice A1 a.facts.length c1,.slice (some ⟨b,o,none⟩) a.atoms.length c2][i]?)) (ae.cell az) fun aH=>?_;refine jQ 0 1 2 3 4 ?_;refine O7 5 6 7 8 ?_;refine aX 9 rfl fun K hK=>?_;(try simp only[zz]);(go_simp;refine(hj.o _ aj).mono ?_;rintro e w1 ⟨r,rfl,o1,hB1⟩;have hB:=aP (w:=w) aj hB1;have O1:=ax (o1.bq (base':=w.heap.size) (by simp));replace k0:=ae.nz (g:=w.heap.size) az hB1);refine hK.out _ _ (k0.cell) ?_;clear aH hK K;intro aH;refine aX 10 rfl fun K hK=>?_;(try simp only[zz]);go_simp;refine hK.out _ _ (k0.cell) ?_;clear aH hK K;intro aH;refine jP ?_;go_wp2;go_ret;exact⟨r,rfl,O1.o,hB⟩
def jd(a:au)(kind t:Int)(i:Nat):Bool:=match a.atoms[i]? with
 | some x=>decide (x.kind=kind)&&mF a ⟨true,x.a,t⟩
 | none=>false
def iQ(a:au)(kind t:Int):Option Nat:=(range a.atoms.length).find? (jd a kind t)
def ve(a:au)(kind t:Int):Int:=match iQ a kind t with|some i=>(i:Int)|none=>0
theorem sO{a:au}{kind t:Int}{k:Nat}(hk:k<a.atoms.length)(h1:∀j,j<k->jd a kind t j=false)(h2:jd a kind t k=true):iQ a kind t=some k:=by
 unfold iQ
 have e:range a.atoms.length=range k++(range' k (a.atoms.length - k)):=by
  rw[List.range_eq_range',List.range_eq_range',show a.atoms.length=k+(a.atoms.length - k) by omega,<-List.range'_append];simp
 rw[e,List.find?_append]
 have:(range k).find? (jd a kind t)=none:=by
  rw[List.find?_eq_none];intro x hx;simp[h1 x (List.mem_range.1 hx)]
 rw[this,show a.atoms.length - k=(a.atoms.length - k - 1)+1 by omega,List.range'_succ,List.find?_cons,h2];rfl
theorem zX{a:au}{kind t:Int}(h1:∀j,j<a.atoms.length->jd a kind t j=false):iQ a kind t=none:=by
 unfold iQ;rw[List.find?_eq_none];intro x hx;simp[h1 x (List.mem_range.1 hx)]
theorem mW{lo hi:Nat}(v:Value)(a:au)(kind t:Int)(w:World)(h:aM w lo hi v a)(hhi:hi<=w.heap.size) :
  Calls Tryz.prog 133 #[v,.int .i64 kind,.int .i64 t] w fun e w'=>e=.returned (.tuple #[.int .i64 (ve a kind t),.bool (iQ a kind t).isSome])/\Below w.heap.size w w':=by
 have hV:=ax h;obtain⟨A1,c1,A2,c2,rfl,-,h2⟩:=h;have H2:=ax h2;have hl:=h2.le;clear h2;(go_enter Tryz.func133,Tryz.ntmps133);have k0:ae (w.alloc (.cells #[.slice A1 a.facts.length c1,.slice A2 a.atoms.length c2] aC)) w.heap.size aC #[.slice A1 a.facts.length c1,.slice A2 a.atoms.length c2]:=az;have hB:Below w.heap.size w (w.alloc (.cells #[.slice A1 a.facts.length c1,.slice A2 a.atoms.length c2] aC)):=aj;(go_wp2_with fail)
 go_loopw [13] (fun i wr=>∃k:Nat,k<=a.atoms.length/\i=.int .i64 k/\aJ (∀j,j<k->jd a kind t j=false)/\ae wr w.heap.size aC #[.slice A1 a.facts.length c1,.slice A2 a.atoms.length c2]/\aJ (Below w.heap.size w wr)) (fun i _=>a.atoms.length - (intOf i).toNat)
 case atStart=>exact⟨0,dJ,rfl,ax fun j h=>by omega,k0,hB⟩
 case round=>
  clear k0 hB;obtain⟨k,hk,rfl,HA,k0,HB⟩:=hrel;have xx:=HB.o.size;by_cases hlt:k<a.atoms.length
  ·obtain⟨b,off,rfl,g0,g1,g2⟩:=(H2.o.bz HB.o).at hlt;have hki:(k:Int)<(a.atoms.length:Int):=by omega
   have HP:aJ (jd a kind t k=(decide (a.atoms[k].kind=kind)&&mF a ⟨true,a.atoms[k].a,t⟩)):=ax (by unfold jd;rw[List.getElem?_eq_getElem hlt]);obtain⟨x,hx⟩:∃x,x=a.atoms[k]:=⟨_,rfl⟩;rw[<-hx] at g0 g1 g2 HP;have hbx:Below wr.heap.size wr (wr.alloc (.cells #[.int .i64 x.kind,.int .i64 x.a,.int .i64 x.b] tA)):=ai aU _;have k1:=k0.nz hbx;have HB1:=bF HB hbx;have q1:=k1.cell;have l1:=k1.lt;have hz1:=hbx.size;clear hx hbx;by_cases hkd:x.kind=kind
   case neg=>
    have hkb:(x.kind == kind)=false:=by simpa using hkd
    have HA2:aJ (∀j,j<k+1->jd a kind t j=false):=ax fun j hj=>by
     by_cases e:j=k
     ·rw[e,HP.o];simp[hkd]
     ·exact HA.o j (by omega)
    clear HA HP hkd;(go_wp2_with fail)
    go_round
    case rel=>exact⟨k+1,by omega,by go_num,HA2,k1,HB1.o⟩
    case measure=>simp[intOf];omega
   subst hkd;(go_wp2_with fail);refine(zW _ a ⟨true,x.a,t⟩ _ (hV.o.bz HB1.o) (by omega)).mono ?_;rintro e w3 ⟨rfl,hB3⟩;replace k1:=k1.nz hB3;have HB3:=bF HB1 hB3;clear hB3 q1 l1;cases hi:mF a ⟨true,x.a,t⟩
   ·have HA2:aJ (∀j,j<k+1->jd a x.kind t j=false):=ax fun j hj=>by
     by_cases e:j=k
     ·rw[e,HP.o,hi];simp
     ·exact HA.o j (by omega)
    clear HA HP hi;(go_wp2_with fail)
    go_round
    case rel=>exact⟨k+1,by omega,by go_num,HA2,k1,HB3.o⟩
    case measure=>simp[intOf];omega
   ·have E:=ax (sO hlt HA.o (by rw[HP.o,hi];simp));clear HA HP hi;go_wp2;go_ret2;exact⟨by unfold ve;rw[E.o];rfl,HB3.o⟩
  ·obtain rfl:k=a.atoms.length:=by omega
   have E:=ax (zX (fun j hj=>HA.o j hj));go_wp2;go_ret2;exact⟨by unfold ve;rw[E.o];rfl,HB.o⟩
theorem oM{B:Nat}{w w':World}(h:Below B w w'){g:Nat}(hg:g<B){cs:Array Value}(hc:∀i,w.cell? ⟨g,i,none⟩=cs[i]?):∀i,w'.cell? ⟨g,i,none⟩=cs[i]?:=fun i=>(h.cell (p:=⟨g,i,none⟩) hg).trans (hc i)
def cZ(a:au)(x:aL)(i:Nat)(t:Int):au:=⟨a.facts++(if x.a=t then [] else [⟨true,x.a,t⟩]),⟨1,t,x.b⟩ :: zv a.atoms i⟩
theorem tK{lo hi0:Nat}(v:Value)(a:au)(i:Nat)(t:Int)(w:World)(h:eB w lo hi0 v a)(hi:i<a.atoms.length)(hfl:a.facts.length+1<=1049600) :
  Calls Tryz.prog 134 #[v,.int .i64 i,.int .i64 t] w fun e w'=>∃r,e=.returned (.tuple #[r,.bool (cZ a a.atoms[i] i t).valid])/\aI w' w.heap.size r (cZ a a.atoms[i] i t)/\Below w.heap.size w w':=by
 have hV:=ax h;obtain⟨A1,c1,A2,c2,rfl,h1,h2,-⟩:=h;have H1:=ax h1;have hl:=h2.le;have hwl:=ja hi;obtain⟨b,o,rfl,g0,g1,g2⟩:=h2.at hi;obtain⟨x,hx⟩:∃x,x=a.atoms[i]:=⟨_,rfl⟩;rw[<-hx] at g0 g1 g2⊢;have hbl:=block_lt_of_cell g0;simp only at hbl;have hii:(i:Int)<(a.atoms.length:Int):=by omega
 have RU:aJ (([(⟨1,t,x.b⟩:aL)]++zv a.atoms i).length=a.atoms.length):=ax (by simp;omega);clear hx h1 h2;(go_enter Tryz.func134,Tryz.ntmps134);have k0:ae ((w.alloc (.cells #[.slice A1 a.facts.length c1,.slice (some ⟨b,o,none⟩) a.atoms.length c2] aC)).alloc (.cells #[.slice none 0 0,.slice none 0 0] aC)) w.heap.size aC #[.slice A1 a.facts.length c1,.slice (some ⟨b,o,none⟩) a.atoms.length c2]:=az;have k6:ae ((w.alloc (.cells #[.slice A1 a.facts.length c1,.slice (some ⟨b,o,none⟩) a.atoms.length c2] aC)).alloc (.cells #[.slice none 0 0,.slice none 0 0] aC)) (w.heap.size+1) aC #[.slice none 0 0,.slice none 0 0]:=az;have hB0:aJ (Below w.heap.size w ((w.alloc (.cells #[.slice A1 a.facts.length c1,.slice (some ⟨b,o,none⟩) a.atoms.length c2] aC)).alloc (.cells #[.slice none 0 0,.slice none 0 0] aC))):=ax aj;have hs0:((w.alloc (.cells #[.slice A1 a.facts.length c1,.slice (some ⟨b,o,none⟩) a.atoms.length c2] aC)).alloc (.cells #[.slice none 0 0,.slice none 0 0] aC)).heap.size=w.heap.size+2:=by simp
 (go_upto_region 3 with fail);generalize ((w.alloc (.cells #[.slice A1 a.facts.length c1,.slice (some ⟨b,o,none⟩) a.atoms.length c2] aC)).alloc (.cells #[.slice none 0 0,.slice none 0 0] aC))=W0 at k0 k6 hB0 hs0⊢;have hk2:w.heap.size+2=W0.heap.size:=by omega
 have kx:ae ((W0.alloc (.cells #[.int .i64 x.kind,.int .i64 x.a,.int .i64 x.b] tA)).alloc (.cells #[.int .i64 1,.int .i64 t,.int .i64 x.b] tA)) (w.heap.size+2) tA #[.int .i64 x.kind,.int .i64 x.a,.int .i64 x.b]:=(ae.dA hk2).alloc _;have kf:ae ((W0.alloc (.cells #[.int .i64 x.kind,.int .i64 x.a,.int .i64 x.b] tA)).alloc (.cells #[.int .i64 1,.int .i64 t,.int .i64 x.b] tA)) (w.heap.size+2+1) tA #[.int .i64 1,.int .i64 t,.int .i64 x.b]:=ae.dA (by simp;omega);have hbq:Below W0.heap.size W0 ((W0.alloc (.cells #[.int .i64 x.kind,.int .i64 x.a,.int .i64 x.b] tA)).alloc (.cells #[.int .i64 1,.int .i64 t,.int .i64 x.b] tA)):=ai (ai aU _) _;replace k0:=k0.nz hbq;replace k6:=k6.nz hbq;have HB:=bF hB0 hbq;have QO:((W0.alloc (.cells #[.int .i64 x.kind,.int .i64 x.a,.int .i64 x.b] tA)).alloc (.cells #[.int .i64 1,.int .i64 t,.int .i64 x.b] tA)).heap.size=w.heap.size+4:=by simp;omega
 clear hbq hB0;generalize ((W0.alloc (.cells #[.int .i64 x.kind,.int .i64 x.a,.int .i64 x.b] tA)).alloc (.cells #[.int .i64 1,.int .i64 t,.int .i64 x.b] tA))=W at k0 k6 kx kf HB QO⊢;clear hk2 hs0 g0 g1 g2
 go_cut [10] (fun s10 wc=>∃(xb:Nat) (F1:Option Addr) (e1:Nat) (G2:Option Addr) (e3:Nat),s10=.pointer (some ⟨xb,0,none⟩)/\aJ (ah wc w.heap.size (.slice F1 a.facts.length e1) a.facts)/\aJ (af wc w.heap.size (.slice G2 a.atoms.length e3) ([⟨1,t,x.b⟩]++zv a.atoms i))/\ae wc xb aC #[.slice F1 a.facts.length e1,.slice G2 a.atoms.length e3]/\ae wc (w.heap.size+2) tA #[.int .i64 x.kind,.int .i64 x.a,.int .i64 x.b]/\ae wc (w.heap.size+1) aC #[.slice none 0 0,.slice none 0 0]/\w.heap.size+4<=xb/\aJ (Below w.heap.size w wc))
 case first=>
  have EE:=k0.lt;have YT:=kf.lt;go_wp2;refine lS (S:=(fun w'=>(∀i,w'.cell? ⟨w.heap.size,i,none⟩=#[.slice A1 a.facts.length c1,.slice (some ⟨b,o,none⟩) a.atoms.length c2][i]?)/\(∀i,w'.cell? ⟨w.heap.size+2+1,i,none⟩=#[.int .i64 1,.int .i64 t,.int .i64 x.b][i]?))) (⟨k0.drew.cell,kf.drew.cell⟩) fun aH=>?_;clear EE YT;replace k0:=k0.drew;replace k6:=k6.drew;replace kx:=kx.drew;replace kf:=kf.drew;replace HB:=ax HB.o.drew;have df:W.heap.size<=W.drew.heap.size:=bn;generalize W.drew=wq at k0 kx k6 kf HB df aH⊢;refine jQ 0 1 3 4 5 ?_;refine wB 2 9 rfl rfl (fun K hK=>?_) fun K hK=>?_;(try simp only[zz]);(go_simp;refine(nH A1 none c1 0 a.facts [] _ (H1.o.bz HB.o) (Rd.nil _ 0 0 _ _) (by simpa using Nat.le_of_succ_le hfl)).mono ?_;rintro e wq ⟨rF,rfl,oF,aN⟩;rw[append_nil] at oF;obtain⟨F1,e1,rfl,-⟩:=oF.rj;have OF:=ax (oF.bq (base':=w.heap.size));clear oF;replace k0:=k0.nz aN;replace kx:=kx.nz aN;replace k6:=k6.nz aN;replace kf:=kf.nz aN;replace HB:=bF HB aN;replace df:=Nat.le_trans df aN.size;try replace bK:=bK.nz aN);refine hK.out _ _ (⟨k0.cell,kf.cell⟩) ?_;clear aH hK K;intro aH;(try simp only[zz]);clear aN;refine wB 6 9 rfl rfl (fun K hK=>?_) fun K hK=>?_;(try simp only[zz]);(go_simp;refine(jZ _ a i _ (hV.o.bz HB.o) hi).mono ?_;rintro e wq ⟨rA,rfl,oA,aN⟩;obtain⟨G1,e2,rfl,fA⟩:=oA.rj;have FA:=ax fA;replace OF:=ax (OF.o.bz aN);clear oA fA;replace k0:=k0.nz aN;replace kx:=kx.nz aN;replace k6:=k6.nz aN;replace kf:=kf.nz aN;replace HB:=bF HB aN;replace df:=Nat.le_trans df aN.size;try replace bK:=bK.nz aN);refine hK.out _ _ (⟨k0.cell,kf.cell⟩) ?_;clear aH hK K;intro aH;(try simp only[zz]);clear aN;refine wB 7 9 rfl rfl (fun K hK=>?_) fun K hK=>?_;(try simp only[zz]);(go_simp;refine(nI (some ⟨w.heap.size+2+1,0,none⟩) G1 1 e2 [⟨1,t,x.b⟩] (zv a.atoms i) _ (aB.one (f:=⟨1,t,x.b⟩) kf) FA.o (by simp<;>omega)).mono ?_;rintro e wq ⟨rB,rfl,oB,aN⟩;obtain⟨G2,e3,rfl,-⟩:=oB.rj;rw[RU.o] at oB;have OB:=ax (oB.bq (base':=w.heap.size));replace OF:=ax (OF.o.bz aN);clear oB;replace k0:=k0.nz aN;replace kx:=kx.nz aN;replace k6:=k6.nz aN;replace kf:=kf.nz aN;replace HB:=bF HB aN;replace df:=Nat.le_trans df aN.size;try replace bK:=bK.nz aN);refine hK.out _ _ (⟨k0.cell,kf.cell⟩) ?_;clear aH hK K;intro aH;(try simp only[zz]);clear aN;refine jh 8 ?_;refine aX 9 rfl fun K hK=>?_
  all_goals
   (try simp only[zz]);go_simp;refine hK.out _ _ ⟨oM (ai aU _) k0.lt k0.cell,oM (ai aU _) kf.lt kf.cell⟩ ?_;clear aH hK K;intro aH;have aN:Below wq.heap.size wq (wq.alloc (.cells #[.slice none 0 0,.slice none 0 0] aC)):=ai aU _;have bK:ae (wq.alloc (.cells #[.slice none 0 0,.slice none 0 0] aC)) wq.heap.size aC #[.slice none 0 0,.slice none 0 0]:=ae.new _ _ _;obtain⟨xb,hxb⟩:∃x,x=wq.heap.size:=⟨_,rfl⟩;have Va:W.heap.size<=xb:=by omega
   replace k0:=k0.nz aN;replace kx:=kx.nz aN;replace k6:=k6.nz aN;replace kf:=kf.nz aN;replace HB:=bF HB aN;replace df:=Nat.le_trans df aN.size;(try replace OF:=ax (OF.o.bz aN));(try replace FA:=ax (FA.o.bz aN));(try replace OB:=ax (OB.o.bz aN));rw[<-hxb] at bK⊢;clear aN hxb;generalize wq.alloc (.cells #[.slice none 0 0,.slice none 0 0] aC)=wq at*
  rotate_right
  refine aX 2 rfl fun K hK=>?_;(try simp only[zz]);(go_simp;refine(nH A1 none c1 0 a.facts [] _ (H1.o.bz HB.o) (Rd.nil _ 0 0 _ _) (by simpa using Nat.le_of_succ_le hfl)).mono ?_;rintro e wq ⟨rF,rfl,oF,aN⟩;rw[append_nil] at oF;obtain⟨F1,e1,rfl,-⟩:=oF.rj;have OF:=ax (oF.bq (base':=w.heap.size));clear oF;replace k0:=k0.nz aN;replace kx:=kx.nz aN;replace k6:=k6.nz aN;replace kf:=kf.nz aN;replace HB:=bF HB aN;replace df:=Nat.le_trans df aN.size;try replace bK:=bK.nz aN);refine hK.out _ _ (⟨k0.cell,kf.cell⟩) ?_;clear aH hK K;intro aH;(try simp only[zz]);clear aN
  any_goals
   fail_if_success have:=FA
   refine aX 6 rfl fun K hK=>?_;(try simp only[zz]);(go_simp;refine(jZ _ a i _ (hV.o.bz HB.o) hi).mono ?_;rintro e wq ⟨rA,rfl,oA,aN⟩;obtain⟨G1,e2,rfl,fA⟩:=oA.rj;have FA:=ax fA;replace OF:=ax (OF.o.bz aN);clear oA fA;replace k0:=k0.nz aN;replace kx:=kx.nz aN;replace k6:=k6.nz aN;replace kf:=kf.nz aN;replace HB:=bF HB aN;replace df:=Nat.le_trans df aN.size;try replace bK:=bK.nz aN);refine hK.out _ _ (⟨k0.cell,kf.cell⟩) ?_;clear aH hK K;intro aH;(try simp only[zz]);clear aN
  any_goals
   fail_if_success have:=OB
   refine aX 7 rfl fun K hK=>?_;(try simp only[zz]);(go_simp;refine(nI (some ⟨w.heap.size+2+1,0,none⟩) G1 1 e2 [⟨1,t,x.b⟩] (zv a.atoms i) _ (aB.one (f:=⟨1,t,x.b⟩) kf) FA.o (by simp<;>omega)).mono ?_;rintro e wq ⟨rB,rfl,oB,aN⟩;obtain⟨G2,e3,rfl,-⟩:=oB.rj;rw[RU.o] at oB;have OB:=ax (oB.bq (base':=w.heap.size));replace OF:=ax (OF.o.bz aN);clear oB;replace k0:=k0.nz aN;replace kx:=kx.nz aN;replace k6:=k6.nz aN;replace kf:=kf.nz aN;replace HB:=bF HB aN;replace df:=Nat.le_trans df aN.size;try replace bK:=bK.nz aN);refine hK.out _ _ (⟨k0.cell,kf.cell⟩) ?_;clear aH hK K;intro aH;(try simp only[zz]);clear aN;refine jh 8 ?_
  all_goals
   have hlB:=bK.lt;have qb:=bK.cell;have rb:=bK.frozen;refine aX 10 rfl fun K hK=>?_;(try simp only[zz]);go_simp;refine hK.out _ _ (⟨((k0.fz xb 0 _).fz xb 1 _).cell,((kf.far (p:=⟨xb,0,none⟩) (kf.Bq bK (by decide)) _).far (p:=⟨xb,1,none⟩) (kf.Bq bK (by decide)) _).cell⟩) ?_;clear aH hK K;intro aH;refine jP ?_;(go_wp2_with fail);go_meet
   case rel=>
    refine⟨xb,F1,e1,G2,e3,rfl,ax ((OF.o.aA bK (by decide) 0 _).aA (bK.ag 0 _) (by decide) 1 _),ax ((OB.o.aA bK (by decide) 0 _).aA (bK.ag 0 _) (by decide) 1 _),?_,(kx.far (p:=⟨xb,0,none⟩) (kx.Bq bK (by decide)) _).far (p:=⟨xb,1,none⟩) (kx.Bq bK (by decide)) _,(k6.fz xb 0 _).fz xb 1 _,by omega,ax (iq (iq HB.o xb 0 _) xb 1 _)⟩;have:=(bK.ag 0 (.slice F1 a.facts.length e1)).ag 1 (.slice G2 a.atoms.length e3);simpa using this
 case rest=>
  obtain⟨xb,F1,e1,G2,e3,rfl,OF,OB,kb,kx,k6,hxb,HB⟩:=hcut;have hl0:=kb.lt;by_cases hxt:x.a=t
  ·have KW:aJ (cZ a x i t=⟨a.facts,[⟨1,t,x.b⟩]++zv a.atoms i⟩):=ax (by unfold cZ;rw[if_pos hxt,append_nil];rfl)
   have RV:aJ (aM wc 0 wc.heap.size (.agg #[.slice F1 a.facts.length e1,.slice G2 a.atoms.length e3]) (cZ a x i t)):=ax (by
    rw[KW.o];refine⟨F1,e1,G2,e3,?_,OF.o.dG.2.mono dJ bn,OB.o.dG.2.mono dJ bn⟩
    rw[RU.o])
   have hb:(x.a != t)=false:=by simpa using hxt
   clear hxt;(replace QP:=kb.z;replace uk:=kx.z;replace oD:=k6.z);(go_upto_region 6 with fail);clear uk;refine lS (S:=(fun w'=>∀i,w'.cell? ⟨xb,i,none⟩=#[.slice F1 a.facts.length e1,.slice G2 a.atoms.length e3][i]?)) (kb.drew.cell) fun aH=>?_;refine uM 0 1 ?_;refine aX 2 rfl fun K hK=>?_;(try simp only[zz]);(go_simp;refine(jz _ (cZ a x i t) _ (RV.o.bz aU.drew)).mono ?_;rintro e w8 ⟨rfl,eQ⟩;replace eQ:Below wc.heap.size wc w8:=aU.drew.trans eQ;have Im:=kb.nz eQ;have k68:=k6.nz eQ;have YU:=ax (OF.o.bz eQ);have YV:=ax (OB.o.bz eQ);have ru:=bF HB eQ;clear eQ);refine hK.out _ _ (Im.cell) ?_;clear aH hK K;intro aH;(try simp only[zz]);have q68:=k68.cell;have r68:=k68.frozen;have l68:=k68.lt;refine aX 3 rfl fun K hK=>?_;(try simp only[zz]);go_simp;refine hK.out _ _ (((Im.fz (w.heap.size+1) 0 _).fz (w.heap.size+1) 1 _).cell) ?_;clear aH hK K;intro aH;refine aX 4 rfl fun K hK=>?_;(try simp only[zz]);go_simp;refine hK.out _ _ (((Im.fz (w.heap.size+1) 0 _).fz (w.heap.size+1) 1 _).cell) ?_;clear aH hK K;intro aH;refine jP ?_;(go_wp2_with fail);have z6:=((k68.ag 0 (.slice F1 a.facts.length e1)).ag 1 (.slice G2 a.atoms.length e3)).cell;refine bodyPost_ret (v:=.tuple #[.agg #[.slice F1 a.facts.length e1,.slice G2 a.atoms.length e3],.bool (cZ a x i t).valid]) (by simp[results,Tryz.results134,go_sem,z6]) rfl ⟨_,rfl,⟨_,_,rfl,?_,?_⟩,?_⟩
   ·rw[KW.o];exact(YU.o.aA k68 (by decide) 0 _).aA (k68.ag 0 _) (by decide) 1 _
   ·rw[KW.o];exact(YV.o.aA k68 (by decide) 0 _).aA (k68.ag 0 _) (by decide) 1 _
   ·exact iq (iq ru.o (w.heap.size+1) 0 _) (w.heap.size+1) 1 _
  ·have KW:aJ (cZ a x i t=⟨a.facts++[⟨true,x.a,t⟩],[⟨1,t,x.b⟩]++zv a.atoms i⟩):=ax (by unfold cZ;rw[if_neg hxt];rfl);have hb:(x.a != t)=true:=by simpa using hxt
   clear hxt;have JM:w.heap.size<=wc.heap.size:=HB.o.size;(replace QP:=kb.z;replace uk:=kx.z;replace oD:=k6.z);(go_wp2_with (at_builtin;refine gN (ys:=[⟨true,x.a,t⟩]) (base:=w.heap.size) rfl _ _ rfl rfl (OF.o.bz aj) rfl (aG.one (f:=⟨true,x.a,t⟩) (ae.new wc tF _)) (by simpa using hfl) (by simp;omega) ?_;intro A6 c6 w6 o6 nG iA;have kO:=OF.o.bz (w':=wc.alloc (.cells #[.bool true,.int .i64 x.a,.int .i64 t] tF)) aj;have RX:=ae.zm (hg:=nG) (kb.alloc _) kO.1 (by decide);have k66:=ae.zm (hg:=nG) (k6.alloc _) kO.1 (by decide);have OB6:aJ (af w6 w.heap.size (.slice G2 a.atoms.length e3) ([⟨1,t,x.b⟩]++zv a.atoms i)):=ax ⟨ek (OB.o.bz (w':=wc.alloc (.cells #[.bool true,.int .i64 x.a,.int .i64 t] tF)) aj).1 kO.1 nG (by decide),OB.o.2⟩;have qY:aJ (Below w.heap.size w w6):=ax ((HB.o.alloc JM _).trans iA);have OF6:=ax o6;clear iA nG o6 kO;have qb6:=RX.cell;have rb6:=RX.frozen;have lb6:=RX.lt))
   have YW:ae (w6.setCell ⟨xb,0,none⟩ (.slice A6 (a.facts.length+1) c6)) xb aC #[.slice A6 (a.facts.length+1) c6,.slice G2 a.atoms.length e3]:=by
    have:=RX.ag 0 (.slice A6 (a.facts.length+1) c6);simpa using this
   have k67:=k66.fz xb 0 (.slice A6 (a.facts.length+1) c6)
   have YX:aJ (ah (w6.setCell ⟨xb,0,none⟩ (.slice A6 (a.facts.length+1) c6)) w.heap.size (.slice A6 (a.facts.length+1) c6) (a.facts++[⟨true,x.a,t⟩])):=ax (by
    have:=OF6.o.aA RX (by decide) 0 (.slice A6 (a.facts.length+1) c6)
    simpa using this)
   have YY:=ax (OB6.o.aA RX (by decide) 0 (.slice A6 (a.facts.length+1) c6));have yH:=ax (iq qY.o xb 0 (.slice A6 (a.facts.length+1) c6));clear QP uk oD qb6 rb6 lb6 kb kx k6 OF OB HB RX k66 OF6 OB6 qY;generalize (w6.setCell ⟨xb,0,none⟩ (.slice A6 (a.facts.length+1) c6))=W7 at YW k67 YX YY yH⊢;have kb:=YW;have k6:=k67;have OF:=YX;have OB:=YY;have HB:=yH;clear YW k67 YX YY yH
   have RV:aJ (aM W7 0 W7.heap.size (.agg #[.slice A6 (a.facts.length+1) c6,.slice G2 a.atoms.length e3]) (cZ a x i t)):=ax (by
    rw[KW.o];refine⟨A6,c6,G2,e3,?_,by simpa using OF.o.dG.2.mono dJ bn,OB.o.dG.2.mono dJ bn⟩
    rw[RU.o];simp)
   refine lS (S:=(fun w'=>∀i,w'.cell? ⟨xb,i,none⟩=#[.slice A6 (a.facts.length+1) c6,.slice G2 a.atoms.length e3][i]?)) (kb.drew.cell) fun aH=>?_;refine uM 0 1 ?_;refine aX 2 rfl fun K hK=>?_;(try simp only[zz]);(go_simp;refine(jz _ (cZ a x i t) _ (RV.o.bz aU.drew)).mono ?_;rintro e w8 ⟨rfl,eQ⟩;replace eQ:Below W7.heap.size W7 w8:=aU.drew.trans eQ;have Im:=kb.nz eQ;have k68:=k6.nz eQ;have YU:=ax (OF.o.bz eQ);have YV:=ax (OB.o.bz eQ);have ru:=bF HB eQ;clear eQ);refine hK.out _ _ (Im.cell) ?_;clear aH hK K;intro aH;(try simp only[zz]);have q68:=k68.cell;have r68:=k68.frozen;have l68:=k68.lt;refine aX 3 rfl fun K hK=>?_;(try simp only[zz]);go_simp;refine hK.out _ _ (((Im.fz (w.heap.size+1) 0 _).fz (w.heap.size+1) 1 _).cell) ?_;clear aH hK K;intro aH;refine aX 4 rfl fun K hK=>?_;(try simp only[zz]);go_simp;refine hK.out _ _ (((Im.fz (w.heap.size+1) 0 _).fz (w.heap.size+1) 1 _).cell) ?_;clear aH hK K;intro aH;refine jP ?_;(go_wp2_with fail);have z6:=((k68.ag 0 (.slice A6 (a.facts.length+1) c6)).ag 1 (.slice G2 a.atoms.length e3)).cell;refine bodyPost_ret (v:=.tuple #[.agg #[.slice A6 (a.facts.length+1) c6,.slice G2 a.atoms.length e3],.bool (cZ a x i t).valid]) (by simp[results,Tryz.results134,go_sem,z6]) rfl ⟨_,rfl,⟨_,_,rfl,?_,?_⟩,?_⟩
   ·rw[KW.o];exact(YU.o.aA k68 (by decide) 0 _).aA (k68.ag 0 _) (by decide) 1 _
   ·rw[KW.o];exact(YV.o.aA k68 (by decide) 0 _).aA (k68.ag 0 _) (by decide) 1 _
   ·exact iq (iq ru.o (w.heap.size+1) 0 _) (w.heap.size+1) 1 _
end
section
open Go
def dD(M:Int->Int)(x:aL):Bool:=decide (x.kind=1) || !decide (M x.a=M x.b)
structure Sat (M:Int->Int) (a:au):Prop where
 facts:∀f∈a.facts,decide (M f.a=M f.b)=f.eq
 nil:∀x∈a.atoms,dD M x=true->M x.a≠M 0
 apart:((a.atoms.filter (dD M)).map fun x=>M x.a).Nodup
theorem KY{a:au}{S:Nat}(hS:S.testBit 0=true){d:List Int}(h:d∈cases a S):cl d 0=0:=by
 unfold cases at h;have hd:=(List.mem_filter.1 h).1;have:=((zx S 9 zeros d (by omega) rfl hd).2.2 0 (by omega) (by omega)).1 hS;have h2:cl d ((0:Nat):Int)=cl d 0:=rfl;omega
theorem pZ{x:aL}{c:List Int}(h:(0<=x.a/\x.a<=8)/\(0<=x.b/\x.b<=8)):bI c 8 x=dD (cl c) x:=by
 unfold bI dD aL.fill;rw[decide_eq_true h.1.2,decide_eq_true h.2.2];rfl
theorem MR{a:au}(hv:a.valid=true){S:Nat}(hS:S.testBit 0=true){d:List Int}(h:d∈cases a S):Sat (cl d) a:=by
 have h0:=KY hS h;have hok:=au.dm hv;unfold cases at h;have hf:=(List.mem_filter.1 h).2;have hp:=hf;rw[oH hok.1 hok.2] at hp;unfold jW at hp;unfold full at hf;rw[Bool.and_eq_true] at hf hp;have hA:=(mI _ _ _ _).1 hp.2;refine⟨fun f hm=>?_,fun x hm hfi=>?_,?_⟩
 ·have:=List.all_eq_true.1 hf.1 f hm;unfold aF.fits at this;exact eq_of_beq this
 ·rw[h0];exact(hA.1 x hm (by rw[pZ (hok.2 x hm)];exact hfi)).1
 ·rw[<-filter_congr fun x hm=>pZ (hok.2 x hm)];exact hA.2
def kV(M:Int->Int)(S j:Nat):Nat:=((range (j+1)).find? fun k=>S.testBit k&&decide (M (k:Int)=M (j:Int))).getD j
def canon(M:Int->Int)(S:Nat):List Int:=(range 9).map fun j=>if S.testBit j then ((kV M S j:Nat):Int) else -1
theorem qa{M:Int->Int}{S j:Nat}(hj:S.testBit j=true):kV M S j<=j/\S.testBit (kV M S j)=true/\M (kV M S j:Nat)=M j/\∀k,k<kV M S j->S.testBit k=true->M (k:Nat)≠M j:=by
 unfold kV
 cases h:(range (j+1)).find? fun k=>S.testBit k&&decide (M (k:Int)=M (j:Int)) with
 | none=>
  have:=List.find?_eq_none.1 h j (by simp);simp[hj] at this
 | some k=>
  obtain⟨h1,h2,h3⟩:=List.find?_range_eq_some.1 h;simp only[Bool.and_eq_true,decide_eq_true_eq] at h1;refine⟨by have:=List.mem_range.1 h2;simp only[Option.getD_some];omega,h1.1,h1.2,fun i hi hb e=>?_⟩;have:=h3 i hi;simp[hb,e] at this
theorem Fa{M:Int->Int}{S i j:Nat}(hi:S.testBit i=true)(hj:S.testBit j=true):kV M S i=kV M S j↔M (i:Nat)=M (j:Nat):=by
 have h1:=qa (M:=M) hi;have h2:=qa (M:=M) hj;constructor
 ·intro e;rw[<-h1.2.2.1,e,h2.2.2.1]
 ·intro e;rcases Nat.lt_trichotomy (kV M S i) (kV M S j) with h|h|h
  ·exact absurd (h1.2.2.1.trans e) (h2.2.2.2 _ h h1.2.1)
  ·exact h
  ·exact absurd (h2.2.2.1.trans e.symm) (h1.2.2.2 _ h h2.2.1)
theorem Dr(M:Int->Int)(S:Nat):(canon M S).length=9:=by simp[canon]
theorem oO{M:Int->Int}{S j:Nat}(hj:j<9):cl (canon M S) (j:Int)=if S.testBit j then ((kV M S j:Nat):Int) else -1:=by
 unfold cl canon;rw[Int.toNat_natCast,List.getElem?_map,List.getElem?_range hj];rfl
theorem KZ(M:Int->Int)(S:Nat):∀(n:Nat) (c:List Int),n<=9->c.length=9->(∀j:Nat,j<9 - n->cl c j=cl (canon M S) j)->canon M S∈gen S n c:=by
 intro n
 induction n with
 | zero=>
  intro c _ hc h;unfold gen;rw[mem_singleton];apply List.ext_getElem (by rw[hc];exact Dr M S);intro j h1 h2;have:=h j (by omega);simpa[cl,List.getElem?_eq_getElem h1,List.getElem?_eq_getElem h2] using this.symm
 | succ n ih=>
  intro c hn hc h;unfold gen;cases e:S.testBit (8 - n)
  ·simp only[Bool.false_eq_true,if_false];refine ih _ (by omega) (by simpa using hc) fun j hj=>?_;rw[jG hc (by omega) _ (by omega)]
   split
   ·rename_i hj';have:j=8 - n:=by omega
    subst this;rw[oO (by omega),e];rfl
   ·exact h j (by omega)
  ·rw[if_pos rfl,mem_flatMap];have hl:=qa (M:=M) e;refine⟨kV M S (8 - n),by rw[List.mem_range];omega,?_⟩;rw[if_neg]
   ·refine ih _ (by omega) (by simpa using hc) fun j hj=>?_;rw[jG hc (by omega) _ (by omega)]
    split
    ·rename_i hj';have:j=8 - n:=by omega
     subst this;rw[oO (by omega),e];rfl
    ·exact h j (by omega)
   ·rintro⟨hlt,hne⟩;apply hne;rw[h _ (by omega),oO (by omega),hl.2.1,if_pos rfl]
    congr 1
    exact(Fa hl.2.1 e).2 hl.2.2.1
theorem lI{M:Int->Int}{S:Nat}{s t:Int}(hs:(0<=s/\s<=8)/\S.testBit s.toNat=true)(ht:(0<=t/\t<=8)/\S.testBit t.toNat=true):cl (canon M S) s=cl (canon M S) t↔M s=M t:=by
 obtain⟨i,rfl⟩:=Int.eq_ofNat_of_zero_le hs.1.1;obtain⟨j,rfl⟩:=Int.eq_ofNat_of_zero_le ht.1.1;rw[Int.toNat_natCast] at hs ht;rw[oO (by omega),oO (by omega),hs.2,ht.2,if_pos rfl,if_pos rfl,Int.natCast_inj];exact Fa hs.2 ht.2
theorem MS{a:au}(hv:a.valid=true){S:Nat}(h0:S.testBit 0=true)(hS:∀t∈mz a,S.testBit t.toNat=true){M:Int->Int}(h:Sat M a):canon M S∈cases a S:=by
 have hok:=au.dm hv;have hF:∀f∈a.facts,S.testBit f.a.toNat=true/\S.testBit f.b.toNat=true:=fun f hf=>⟨hS _ (mD hf).1,hS _ (mD hf).2⟩
 have hX:∀x∈a.atoms,S.testBit x.a.toNat=true/\S.testBit x.b.toNat=true:=fun x hx=>by
  have:x.a∈mz a/\x.b∈mz a:=by
   simp only[mz,mem_append,mem_flatMap];exact⟨Or.inr ⟨x,hx,by simp[mP]⟩,Or.inr ⟨x,hx,by simp[mP]⟩⟩
  exact⟨hS _ this.1,hS _ this.2⟩
 have Fb:∀x∈a.atoms,bI (canon M S) 8 x=dD M x:=fun x hx=>by
  rw[pZ (hok.2 x hx)];unfold dD
  congr 2
  rw[decide_eq_decide];exact lI ⟨(hok.2 x hx).1,(hX x hx).1⟩ ⟨(hok.2 x hx).2,(hX x hx).2⟩
 unfold cases;rw[List.mem_filter];refine⟨KZ M S 9 zeros (by omega) rfl (fun j hj=>by omega),?_⟩;rw[oH hok.1 hok.2];unfold jW;rw[Bool.and_eq_true];constructor
 ·unfold gQ;rw[all_eq_true];intro f hf
  have:f.fits (canon M S)=true:=by
   unfold aF.fits;rw[beq_iff_eq,<-h.facts f hf,decide_eq_decide];exact lI ⟨(hok.1 f hf).1,(hF f hf).1⟩ ⟨(hok.1 f hf).2,(hF f hf).2⟩
  rw[this];simp
 ·rw[mI];refine⟨fun x hx hi=>⟨fun e=>?_,by simp⟩,?_⟩
  ·rw[Fb x hx] at hi;refine h.nil x hx hi ((lI (S:=S) (t:=0) ⟨(hok.2 x hx).1,(hX x hx).1⟩ ⟨⟨by omega,by omega⟩,h0⟩).1 ?_);rw[e];have:=oO (M:=M) (S:=S) (j:=0) (by omega);rw[h0,if_pos rfl] at this;have hl:=(qa (M:=M) h0).1;have h3:kV M S 0=0:=by omega
   rw[h3] at this;exact this.symm
  ·rw[filter_congr Fb];have h3:=h.apart;unfold List.Nodup at h3⊢;rw[List.pairwise_map] at h3⊢;refine List.Pairwise.imp_of_mem ?_ h3;intro x y hx hy hxy e;have hx':=(List.mem_filter.1 hx).1;have hy':=(List.mem_filter.1 hy).1;exact hxy ((lI ⟨(hok.2 x hx').1,(hX x hx').1⟩ ⟨(hok.2 y hy').1,(hX y hy').1⟩).1 e)
def dE(a:au):Bool:=a.valid && !(cases a (dP a 0)).isEmpty
/-! Xq -/
theorem yI{M:Int->Int}{x t:Int}(h:M x=M t)(s:Int):M (swp x t s)=M s:=by
 unfold swp;split
 ·rename_i e;rw[e,h]
 ·rfl
theorem Sat.subst{M:Int->Int}{a:au}(h:Sat M a){x t:Int}(e:M x=M t):Sat M (aZ x t a):=by
 have Fb:∀z:aL,dD M (z.sub x t)=dD M z:=fun z=>by
  unfold dD aL.sub;simp only[yI e]
 refine⟨fun f hf=>?_,fun y hy hfi=>?_,?_⟩
 ·obtain⟨g,hg,rfl⟩:=List.mem_map.1 hf;simp only[aF.sub,yI e];exact h.facts g hg
 ·obtain⟨z,hz,rfl⟩:=List.mem_map.1 hy;rw[Fb] at hfi;simp only[aL.sub,yI e];exact h.nil z hz hfi
 ·have h3:=h.apart;simp only[aZ,List.filter_map,List.map_map];rw[filter_congr (q:=dD M) fun z _=>by simp[Fb]]
  have e2:((fun y:aL=>M y.a)∘aL.sub x t)=fun y:aL=>M y.a:=by
   funext z;simp only[Function.comp,aL.sub,yI e]
  rw[e2];exact h3
theorem Sat.less{M:Int->Int}{a:au}(h:Sat M a){fs:List aF}{xs:List aL}(hf:∀f∈fs,f∈a.facts)(hx:xs.Sublist a.atoms):Sat M ⟨fs,xs⟩:=
 ⟨fun f hm=>h.facts f (hf f hm),fun x hm=>h.nil x (hx.subset hm),h.apart.sublist ((hx.filter _).map _)⟩
theorem Io{K:Nat}{f:aF}{x t:Int}(h:iH K f=some (x,t)):f.eq=true:=by
 unfold iH at h
 split at h
 ·rename_i hc;simp at hc;exact hc.1
 ·cases h
theorem Sat.jk{M:Int->Int}{K:Nat}:∀(n:Nat) (a:au),(left K a).length<=n->Sat M a->Sat M (jk K a):=by
 intro n
 induction n with
 | zero=>
  intro a hn hv
  cases h:bD K a.facts with
  | none=>rw[gU h];exact hv
  | some p=>obtain⟨x,t⟩:=p;have:=nL h;omega
 | succ n ih=>
  intro a hn hv
  cases h:bD K a.facts with
  | none=>rw[gU h];exact hv
  | some p=>
   obtain⟨x,t⟩:=p;rw[jJ h];refine ih _ (by have:=nL h;omega) (hv.subst ?_);obtain⟨f,hf,hs⟩:=List.exists_of_findSome?_eq_some h;have h1:=hv.facts f hf;rw[Io hs,decide_eq_true_eq] at h1;rcases(mR hs).2.2 with ⟨e1,e2⟩|⟨e1,e2⟩<;>rw[e1,e2]
   ·exact h1
   ·exact h1.symm
theorem Ck(fs:List aF):∀(acc:List aF) (g:aF),g∈fs.foldl dL acc->g∈acc\/∃f∈fs,g=H5 f:=by
 induction fs with
 | nil=>intro acc g h;exact Or.inl h
 | cons f fs ih=>
  intro acc g h;rw[List.foldl_cons] at h;rcases ih _ _ h with h|⟨f',hf',e⟩
  ·unfold dL at h
   split at h
   ·exact Or.inl h
   ·split at h
    ·exact Or.inl h
    ·rcases List.mem_append.1 h with h|h
     ·exact Or.inl h
     ·exact Or.inr ⟨f,List.mem_cons_self,List.mem_singleton.1 h⟩
  ·exact Or.inr ⟨f',List.mem_cons_of_mem _ hf',e⟩
theorem Dt(fs:List aF):∀(acc:List aF),(fs.foldl dL acc).length<=acc.length+fs.length:=by
 induction fs with
 | nil=>intro acc;simp
 | cons f fs ih=>
  intro acc;rw[List.foldl_cons];have h1:=ih (dL acc f);have h2:=BD acc f;simp only[length_cons];omega
theorem Sat.normal{M:Int->Int}{a:au}(h:Sat M a):Sat M (iZ a):=by
 have hs:=h.less (fs:=[]) (xs:=a.atoms.filter uq) (fun _ hf=>by cases hf) List.filter_sublist;refine⟨fun g hg=>?_,hs.nil,hs.apart⟩;rcases Ck _ _ _ hg with h1|⟨f,hf,rfl⟩
 ·cases h1
 ·have:=h.facts f hf;unfold H5
  split
  ·simp only[];rw[<-this,decide_eq_decide];exact eq_comm
  ·exact this
theorem Du{a:au}(h:a.valid=true):(iZ a).valid=true:=by
 simp only[au.valid,aS,Bool.and_eq_true,decide_eq_true_eq,all_eq_true] at h⊢;refine⟨⟨?_,fun g hg=>?_⟩,?_,fun x hx=>?_⟩
 ·have:=Dt a.facts [];simp only[iZ,length_nil] at this⊢;omega
 ·rcases Ck _ _ _ hg with h1|⟨f,hf,rfl⟩
  ·cases h1
  ·have:=h.1.2 f hf;simp only[aF.valid,Bool.and_eq_true] at this⊢;unfold H5
   split
   ·exact⟨this.2,this.1⟩
   ·exact this
 ·have:=List.length_filter_le uq a.atoms;simp only[iZ];omega
 ·exact h.2.2 x (List.mem_filter.1 hx).1
theorem Fe{a:au}(p:aF->Bool)(h:a.valid=true):(⟨a.facts.filter p,a.atoms⟩:au).valid=true:=by
 simp only[au.valid,aS,Bool.and_eq_true,decide_eq_true_eq,all_eq_true] at h⊢;exact⟨⟨Nat.le_trans (List.length_filter_le _ _) h.1.1,fun f hf=>h.1.2 f (List.mem_filter.1 hf).1⟩,h.2⟩
theorem zY{K:Nat}{a:au}(h:a.valid=true):(bL K a).valid=true:=Du (Fe _ (Dj _ a (Nat.le_refl _) h))
end
section
open Go Go.RowKit
end
end Go.Proofs.YtjbboklnegfohaaGreat
