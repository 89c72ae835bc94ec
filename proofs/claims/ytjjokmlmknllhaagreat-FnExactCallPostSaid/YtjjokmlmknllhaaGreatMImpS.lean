/- Contracts: the spec's cases: filled atoms, the open case. -/
import Derived.Test.YtjjokmlmknllhaaGreatCaseS
import Derived.Test.YtjjokmlmknllhaaGreatMCov
import Derived.Test.YtjjokmlmknllhaaGreatMCmdA
import Derived.Deep.RegionHeld3
import Derived.Test.YtjjokmlmknllhaaGreatMCmd
import Derived.Deep.LoopGhost
import Derived.Test.YtjjokmlmknllhaaGreatCaseW
import Derived.Deep.DeepCutAuto
import Derived.Test.YtjjokmlmknllhaaGreatSubst
set_option linter.unusedSimpArgs false
set_option linter.unusedVariables false
namespace Go.Proofs.YtjjokmlmknllhaaGreat
open Go Go.RowKit Go.Proofs
attribute [local go_sem ↓] Go.wp_at_zero Go.wp_at_succ
set_option maxRecDepth 100000 in
set_option maxHeartbeats 3200000 in
theorem c_spec_l5Filled {lo hi lo' hi':Nat} (A B:Option Addr) (c0 c1:Nat) (xs:List Atm) (c:List Int) (w:World) (h:AtomsV w lo hi A xs) (h':IntsV w lo' hi' B c) (hc:c.length=9) (hx:AtomsOk xs) :
  Calls Tryz.prog 204 #[.slice A xs.length c0,.slice B c.length c1] w fun e w'=>∃ r,e=.returned r∧AtomsO w' w.heap.size r (filledL xs c)∧Below w.heap.size w w':=by
 have hl:=h.le
 obtain ⟨pb,ob,rfl,lpb⟩:=h'.blt (k:=0) (by omega)
 have HC:=Lib.hid hc
 have HX:=Lib.hid hx
 have H':=Lib.hid h'
 clear hx h'
 rw[hc]
 clear hc
 go_enter Tryz.func204,Tryz.ntmps204
 go_wp2_with fail
 go_loopw [5,6] (fun r i wr=>∃ (k:Nat) (D:Option Addr) (n e:Nat),k≤xs.length∧i=.int .i64 k∧n=(filledL (xs.take k) c).length∧r=.slice D n e∧AtomsO wr w.heap.size (.slice D n e) (filledL (xs.take k) c)∧Below w.heap.size w wr) (fun _ i _=>xs.length - (intOf i).toNat)
 case atStart=>exact ⟨0,some ⟨w.heap.size,0,none⟩,0,0,Nat.zero_le _,rfl,rfl,rfl,AtomsO.empty w,bel⟩
 case round=>
  obtain ⟨k,D,n,e,hkk,rfl,hn,rfl,of,hB⟩:=hrel
  have HN:=Lib.hid hn
  have hnl:n≤k:=by
   rw[hn];exact Nat.le_trans (filledL_len _ _) (by simp;omega)
  clear hn
  by_cases hlt:k<xs.length
  ·obtain ⟨b,off,rfl,hbl⟩:=h.blt hlt
   have HH:=Lib.hid h
   have HT:=Lib.hid (filledL_take xs c k hlt)
   have hxk:=HX.out _ (List.getElem_mem hlt)
   obtain ⟨x,hxe⟩:∃ x,x=xs[k]:=⟨_,rfl⟩
   have HCL:Hid (∀ w':World,Below w.heap.size w w'→w'.cell? ⟨b,off+k*3,none⟩=some (.int .i64 x.kind)∧w'.cell? ⟨b,off+k*3+1,none⟩=some (.int .i64 x.a)∧w'.cell? ⟨b,off+k*3+2,none⟩=some (.int .i64 x.b)):=fun w' hw'=>by rw[hxe];exact (HH.out.below hw').cl hlt
   rw[←hxe] at HT hxk
   clear hxe
   obtain ⟨q,xa,xb⟩:=x
   dsimp only at hxk HCL
   obtain ⟨⟨a1,a2⟩,⟨b1,b2⟩⟩:=hxk
   obtain ⟨xa,rfl⟩:=Int.eq_ofNat_of_zero_le a1
   obtain ⟨xb,rfl⟩:=Int.eq_ofNat_of_zero_le b1
   have ha9:(xa:Int)<9:=by omega
   have hb9:(xb:Int)<9:=by omega
   have HCI:Hid (∀ w':World,Below w.heap.size w w'→w'.cell? ⟨pb,ob+xa,none⟩=some (.int .i64 (cl c xa))∧w'.cell? ⟨pb,ob+xb,none⟩=some (.int .i64 (cl c xb))):=fun w' hw'=>⟨ints_cl (H'.out.below hw') (by rw[HC.out];omega),ints_cl (H'.out.below hw') (by rw[HC.out];omega)⟩
   have hwz:=hB.size
   have hlx:(k:Int)<(xs.length:Int):=by omega
   clear a1 a2 b1 b2 h
   have HS:Hid (∀ w':World,Below w.heap.size w w'→(w'.cell? ⟨b,off+k*3,none⟩=some (.int .i64 q)∧w'.cell? ⟨b,off+k*3+1,none⟩=some (.int .i64 xa)∧w'.cell? ⟨b,off+k*3+2,none⟩=some (.int .i64 xb))∧w'.cell? ⟨pb,ob+xa,none⟩=some (.int .i64 (cl c xa))∧w'.cell? ⟨pb,ob+xb,none⟩=some (.int .i64 (cl c xb))):=fun w' hw'=>⟨HCL.out w' hw',HCI.out w' hw'⟩
   go_wp2_with fail
   refine wp_region_noPanic ?_
   refine wp_region_held_drew (S:=(fun w'=>(w'.cell? ⟨b,off+k*3,none⟩=some (.int .i64 q)∧w'.cell? ⟨b,off+k*3+1,none⟩=some (.int .i64 xa)∧w'.cell? ⟨b,off+k*3+2,none⟩=some (.int .i64 xb))∧w'.cell? ⟨pb,ob+xa,none⟩=some (.int .i64 (cl c xa))∧w'.cell? ⟨pb,ob+xb,none⟩=some (.int .i64 (cl c xb)))) (by kernel_rfl) (HS.out _ bel) (fun hHeld=>?_)
   refine tk 0 ?_ rfl (fun w hSw=>?_) hHeld ?_
   rotate_left
   ·((try dsimp only at hSw);go_split_ands;go_simp;(try with_reducible rfl))
   try simp only[Act.put,zA,zB,zC,zD,zE,zF]
   refine tk 1 ?_ rfl (fun w hSw=>?_) hHeld ?_
   rotate_left
   ·((try dsimp only at hSw);go_split_ands;go_simp;(try with_reducible rfl))
   try simp only[Act.put,zA,zB,zC,zD,zE,zF]
   refine tk 2 ?_ rfl (fun w hSw=>?_) hHeld ?_
   rotate_left
   ·((try dsimp only at hSw);go_split_ands;go_simp;(try with_reducible rfl))
   try simp only[Act.put,zA,zB,zC,zD,zE,zF]
   refine tk 3 ?_ rfl (fun w hSw=>?_) hHeld ?_
   rotate_left
   ·((try dsimp only at hSw);go_split_ands;go_simp;(try with_reducible rfl))
   try simp only[Act.put,zA,zB,zC,zD,zE,zF]
   refine tk 4 ?_ rfl (fun w hSw=>?_) hHeld ?_
   rotate_left
   ·((try dsimp only at hSw);go_split_ands;go_simp;(try with_reducible rfl))
   try simp only[Act.put,zA,zB,zC,zD,zE,zF]
   refine tk 5 ?_ rfl (fun w hSw=>?_) hHeld ?_
   rotate_left
   ·((try dsimp only at hSw);go_split_ands;go_simp;(try with_reducible rfl))
   try simp only[Act.put,zA,zB,zC,zD,zE,zF]
   refine tk 6 ?_ rfl (fun w hSw=>?_) hHeld ?_
   rotate_left
   ·((try dsimp only at hSw);go_split_ands;go_simp;(try with_reducible rfl))
   try simp only[Act.put,zA,zB,zC,zD,zE,zF]
   refine tk 7 ?_ rfl (fun w hSw=>?_) hHeld ?_
   rotate_left
   ·((try dsimp only at hSw);go_split_ands;go_simp;(try with_reducible rfl))
   try simp only[Act.put,zA,zB,zC,zD,zE,zF]
   refine tk 8 ?_ rfl (fun w hSw=>?_) hHeld ?_
   rotate_left
   ·((try dsimp only at hSw);go_split_ands;go_simp;(try with_reducible rfl))
   try simp only[Act.put,zA,zB,zC,zD,zE,zF]
   refine tk 9 ?_ rfl (fun w hSw=>?_) hHeld ?_
   rotate_left
   ·((try dsimp only at hSw);go_split_ands;go_simp;(try with_reducible rfl))
   try simp only[Act.put,zA,zB,zC,zD,zE,zF]
   refine tk 10 ?_ rfl (fun w hSw=>?_) hHeld ?_
   rotate_left
   ·((try dsimp only at hSw);go_split_ands;go_simp;(try with_reducible rfl))
   try simp only[Act.put,zA,zB,zC,zD,zE,zF]
   refine tk 11 ?_ rfl (fun w hSw=>?_) hHeld ?_
   rotate_left
   ·((try dsimp only at hSw);go_split_ands;go_simp;(try with_reducible rfl))
   try simp only[Act.put,zA,zB,zC,zD,zE,zF]
   refine tk 12 ?_ rfl (fun w hSw=>?_) hHeld ?_
   rotate_left
   ·((try dsimp only at hSw);go_split_ands;go_simp;(try with_reducible rfl))
   try simp only[Act.put,zA,zB,zC,zD,zE,zF]
   refine tk 13 ?_ rfl (fun w hSw=>?_) hHeld ?_
   rotate_left
   ·((try dsimp only at hSw);go_split_ands;go_simp;(try with_reducible rfl))
   try simp only[Act.put,zA,zB,zC,zD,zE,zF]
   refine tk 14 ?_ rfl (fun w hSw=>?_) hHeld ?_
   rotate_left
   ·((try dsimp only at hSw);go_split_ands;go_simp;(try with_reducible rfl))
   try simp only[Act.put,zA,zB,zC,zD,zE,zF]
   refine tk 15 ?_ rfl (fun w hSw=>?_) hHeld ?_
   rotate_left
   ·((try dsimp only at hSw);go_split_ands;go_simp;(try with_reducible rfl))
   try simp only[Act.put,zA,zB,zC,zD,zE,zF]
   refine tk 16 ?_ rfl (fun w hSw=>?_) hHeld ?_
   rotate_left
   ·((try dsimp only at hSw);go_split_ands;go_simp;(try with_reducible rfl))
   try simp only[Act.put,zA,zB,zC,zD,zE,zF]
   refine tk 17 ?_ rfl (fun w hSw=>?_) hHeld ?_
   rotate_left
   ·((try dsimp only at hSw);go_split_ands;go_simp;(try with_reducible rfl))
   try simp only[Act.put,zA,zB,zC,zD,zE,zF]
   refine tk 18 ?_ rfl (fun w hSw=>?_) hHeld ?_
   rotate_left
   ·((try dsimp only at hSw);go_split_ands;go_simp;(try with_reducible rfl))
   try simp only[Act.put,zA,zB,zC,zD,zE,zF]
   refine tk 19 ?_ rfl (fun w hSw=>?_) hHeld ?_
   rotate_left
   ·((try dsimp only at hSw);go_split_ands;go_simp;(try with_reducible rfl))
   try simp only[Act.put,zA,zB,zC,zD,zE,zF]
   refine tk 20 ?_ rfl (fun w hSw=>?_) hHeld ?_
   rotate_left
   ·((try dsimp only at hSw);go_split_ands;go_simp;(try with_reducible rfl))
   try simp only[Act.put,zA,zB,zC,zD,zE,zF]
   refine tk 21 ?_ rfl (fun w hSw=>?_) hHeld ?_
   rotate_left
   ·((try dsimp only at hSw);go_split_ands;go_simp;(try with_reducible rfl))
   try simp only[Act.put,zA,zB,zC,zD,zE,zF]
   refine rdc 22 rfl fun K hK=>?_
   try simp only[zA,zB,zC]
   go_simp
   refine hK.out _ _ (HS.out _ bel) ?_
   clear hHeld hK K
   intro hHeld
   try simp only[Act.put,zA,zB,zC,zD,zE,zF]
   refine rdc 23 rfl fun K hK=>?_
   try simp only[zA,zB,zC]
   go_simp
   refine hK.out _ _ (HS.out _ bel) ?_
   clear hHeld hK K
   intro hHeld
   try simp only[Act.put,zA,zB,zC,zD,zE,zF]
   refine wpAnyH_done (by kernel_rfl) ?_ _
   refine NoPanic.normal ?_
   clear hHeld
   have kx:Blk (wr.alloc (.cells #[.int .i64 q,.int .i64 (cl c xa),.int .i64 (cl c xb)] tA)).drew wr.heap.size tA #[.int .i64 q,.int .i64 (cl c xa),.int .i64 (cl c xb)]:=blks
   have hB2:Below w.heap.size w (wr.alloc (.cells #[.int .i64 q,.int .i64 (cl c xa),.int .i64 (cl c xb)] tA)).drew:=bel
   have of2:=of.below (w':=(wr.alloc (.cells #[.int .i64 q,.int .i64 (cl c xa),.int .i64 (cl c xb)] tA)).drew) bel
   have hz2:wr.heap.size<(wr.alloc (.cells #[.int .i64 q,.int .i64 (cl c xa),.int .i64 (cl c xb)] tA)).drew.heap.size:=kx.lt
   generalize (wr.alloc (.cells #[.int .i64 q,.int .i64 (cl c xa),.int .i64 (cl c xb)] tA)).drew=W2 at kx hB2 of2 hz2 ⊢
   have HF:Hid (∀ s t:Bool,(q == 1)=s→(cl c xa == cl c xb)=t→filledL (xs.take (k+1)) c=filledL (xs.take k) c++if (s || !t) then [⟨q,cl c xa,cl c xb⟩] else []):=by
    intro s t hs ht
    rw[HT.out]
    have:Atm.fill c ⟨q,xa,xb⟩=(s || !t):=by rw[←hs,←ht];rfl
    rw[this];rfl
   have qx:=kx.cell
   obtain ⟨u,hu⟩:∃ u,u=cl c xa:=⟨_,rfl⟩
   obtain ⟨v,hv⟩:∃ v,v=cl c xb:=⟨_,rfl⟩
   rw[←hu,←hv] at kx qx HF ⊢
   clear hu hv HT HS HCI HCL of hB
   cases hq:(q == 1)
   ·cases hab:(u == v)
    ·have HZ:Hid (filledL (xs.take (k+1)) c=filledL (xs.take k) c++[⟨q,u,v⟩]):=HF.out _ _ hq hab
     go_wp2_with (at_builtin;refine appAL rfl _ _ rfl (v:=.slice D n e) rfl (of2.below (w':=W2.alloc (.cells #[.int .i64 q,.int .i64 u,.int .i64 v] tA)) bel) rfl (AtomsV.one' (Blk.newE rfl)) (by simp only[List.length_cons,List.length_nil];rw[←HN.out];omega) (by simp;omega) ?_;intro A' c' w2 of3 hg2 hB3)
     go_round
     case rel=>exact ⟨k+1,A',_,c',by omega,by go_num,rfl,by rw[HZ.out];simp,by rw[HZ.out];exact of3,Below.trans (bbox hB2 _) (hB3.mono (Nat.le_refl _))⟩
     case measure=>simp[intOf];omega
    ·have HZ:Hid (filledL (xs.take (k+1)) c=filledL (xs.take k) c++[]):=HF.out _ _ hq hab
     go_wp2_with fail
     go_round
     case rel=>exact ⟨k+1,D,n,e,by omega,by go_num,by rw[HZ.out,List.append_nil];exact HN.out,rfl,by rw[HZ.out,List.append_nil];exact of2,hB2⟩
     case measure=>simp[intOf];omega
   ·have HZ:Hid (filledL (xs.take (k+1)) c=filledL (xs.take k) c++[⟨q,u,v⟩]):=HF.out _ _ hq rfl
    go_wp2_with (at_builtin;refine appAL rfl _ _ rfl (v:=.slice D n e) rfl (of2.below (w':=W2.alloc (.cells #[.int .i64 q,.int .i64 u,.int .i64 v] tA)) bel) rfl (AtomsV.one' (Blk.newE rfl)) (by simp only[List.length_cons,List.length_nil];rw[←HN.out];omega) (by simp;omega) ?_;intro A' c' w2 of3 hg2 hB3)
    go_round
    case rel=>exact ⟨k+1,A',_,c',by omega,by go_num,rfl,by rw[HZ.out];simp,by rw[HZ.out];exact of3,Below.trans (bbox hB2 _) (hB3.mono (Nat.le_refl _))⟩
    case measure=>simp[intOf];omega
  ·obtain rfl:k=xs.length:=by omega
   go_wp2_with fail
   go_ret
   refine ⟨_,rfl,?_,hB⟩
   rw[List.take_length] at of
   exact of
theorem opened_take (n:Nat) (h1:1≤n) (h9:n<9):opened.take (n+1)=opened.take n++[-1]:=by
 obtain rfl|rfl|rfl|rfl|rfl|rfl|rfl|rfl:n=1∨n=2∨n=3∨n=4∨n=5∨n=6∨n=7∨n=8:=by omega
 all_goals rfl
set_option maxHeartbeats 1600000 in
theorem c_spec_l5Open (w:World) :
  Calls Tryz.prog 182 #[] w fun e w'=>∃ r,e=.returned r∧IntsO w' w.heap.size r opened∧Below w.heap.size w w':=by
 go_enter Tryz.func182,Tryz.ntmps182
 go_wp2_with fail
 go_loopw [1] (fun r wr=>∃ (n:Nat) (D:Option Addr) (e:Nat),1≤n∧n≤9∧r=.slice D n e∧IntsO wr w.heap.size (.slice D n e) (opened.take n)∧Below w.heap.size w wr) (fun r _=>match r with | .slice _ n _=>9 - n|_=>0)
 case atStart=>exact ⟨1,some ⟨w.heap.size,0,none⟩,1,by omega,by omega,rfl,IntsO.one w 0 (Nat.le_refl _),bel⟩
 case round=>
  obtain ⟨n,D,e,h1,h9,rfl,o,hB⟩:=hrel
  have hwz:=hB.size
  by_cases hlt:n<9
  ·have hn8:(n:Int)≤8:=by omega
   have HT:=Lib.hid (opened_take n h1 hlt)
   have hll:Hid ((opened.take n).length=n):=by show _=_;rw[List.length_take];show min n 9=n;omega
   have o1:=o.below (w':=wr.alloc (.cells #[.int .i64 (-1)] tI)) bel
   go_wp2_with (at_builtin;refine appI rfl _ _ rfl (v:=.slice D n e) rfl o1 wr.heap.size (-1) rfl (cell_box _ _ _) (by rw[hll.out];omega) (by simp;omega) ?_;intro g cc w2 o2 hg2 hB3;rw[hll.out,←HT.out] at o2;rw[hll.out])
   go_round
   case rel=>exact ⟨n+1,_,_,by omega,by omega,rfl,o2,Below.trans bel hB3⟩
   case measure=>simp;omega
  ·obtain rfl:n=9:=by omega
   go_wp2_with fail
   go_ret
   exact ⟨_,rfl,o,hB⟩
end Go.Proofs.YtjjokmlmknllhaaGreat

/- Contracts: the spec's first case. -/
namespace Go.Proofs.YtjjokmlmknllhaaGreat
open Go Go.RowKit Go.Proofs
attribute [local go_sem ↓] Go.wp_at_zero Go.wp_at_succ
theorem IntsO.open_ {w:World} {base:Nat} {A:Option Addr} {n c k:Nat} {fs:List Int} (h:IntsO w base (.slice A n c) fs) (hk:k<fs.length):∃ g cur,n=fs.length∧A=some ⟨g,0,none⟩∧base≤g∧Blk w g tI cur∧cur[k]? = some (.int .i64 fs[k])∧
  (∀ v:Int,IntsO (w.setCell ⟨g,k,none⟩ (.int .i64 v)) base (.slice A n c) (fs.set k v)):=by
 obtain ⟨⟨hl,h2⟩,hL⟩:=h
 rcases h2 with ⟨e,hn⟩|⟨g,cap,cur,e,hb,hh,hn,hm,hs,ht⟩
 ·omega
 ·injection e with e1 e2 e3
  subst e1 e2 e3
  have hK:Blk w g tI cur:=hh
  have hP:Pre cur (encI fs) (fs.length * 1):=by
   intro j hj
   rw[←ht,List.getElem?_take,if_pos hj];simp
  refine ⟨g,cur,rfl,rfl,hb,hK,(hP _ (by omega)).trans (by simp[List.getElem?_eq_getElem hk]),?_⟩
  intro v
  refine ⟨?_,by rw[List.length_set];exact hL⟩
  rw[show encI (fs.set k v)=(encI fs).set k (.int .i64 v) from by simp[encI,List.map_set],List.length_set]
  exact own_of_blk (hK.set_ k (.int .i64 v)) hb (by rw[List.length_set,hl]) (hP.setL k (.int .i64 v) (by rw[hs];exact Nat.mul_le_mul hn (Nat.le_refl _)) (by rw[hl];exact Nat.le_refl _)) hn hm (by simpa using hs)
def seekAt (a:Asn) (S n:Nat) (c:List Int) (k:Nat):List (List Int):=if k<8 - n∧cl c k≠k then [] else seek a S n (c.set (8 - n) k)
theorem seek_cut {a:Asn} {S:Nat} (n:Nat) {c:List Int} (h:(fitsS c a.facts&&earlyF c [] a.atoms)=false):seek a S n c=[]:=by
 cases n<;>(unfold seek;rw[h];rfl)
theorem seek_leaf {a:Asn} {S:Nat} {c:List Int} (h:(fitsS c a.facts&&earlyF c [] a.atoms)=true):seek a S 0 c=if apartF [] (filledL a.atoms c) then [c] else []:=by
 unfold seek;rw[h,if_pos rfl]
theorem seek_step {a:Asn} {S n:Nat} {c:List Int} (h:(fitsS c a.facts&&earlyF c [] a.atoms)=true):seek a S (n+1) c=if S.testBit (8 - n) then (List.range (9 - n)).flatMap (seekAt a S n c) else seek a S n c:=by
 conv=>lhs;unfold seek
 rw[h,if_pos rfl];rfl
theorem flatMap_first {α:Type} {f:Nat→List α} {k N:Nat} (hk:k<N) (h:(List.range k).flatMap f=[]) (hne:f k≠[]):∃ y,(f k).head? = some y∧((List.range N).flatMap f).head? = some y:=by
 obtain ⟨m,rfl⟩:∃ m,N=k+(m+1):=⟨N - k - 1,by omega⟩
 rw[List.range_add,List.range_succ_eq_map,List.map_cons,List.flatMap_append,List.flatMap_cons,Nat.add_zero,h,List.nil_append]
 cases e:f k with
 | nil=>exact absurd e hne
 | cons y ys=>exact ⟨y,rfl,rfl⟩
def firstI (L:List (List Int)):List Int:=L.head?.getD []
theorem c_fits9 {lo hi lo' hi':Nat} (A B:Option Addr) (c0 c1:Nat) (fs:List Fct) (c:List Int) (w:World) (h:FactsV w lo hi A fs) (h':IntsV w lo' hi' B c) (hc:c.length=9) (hf:FactsOk fs) :
  Calls Tryz.prog 201 #[.slice A fs.length c0,.slice B 9 c1] w fun e w'=>e=.returned (.bool (fitsS c fs))∧w=w':=by
 have:=c_spec_l5Fits A B c0 c1 fs c w h h' hc hf;rwa [hc] at this
theorem c_early9 {lo hi lo' hi':Nat} (A B:Option Addr) (c0 c1:Nat) (xs:List Atm) (c:List Int) (w:World) (h:AtomsV w lo hi A xs) (h':IntsV w lo' hi' B c) (hc:c.length=9) (hx:AtomsOk xs) (hcl:∀ x∈xs,cl c x.a≤8) :
  Calls Tryz.prog 202 #[.slice A xs.length c0,.slice B 9 c1] w fun e w'=>e=.returned (.bool (earlyF c [] xs))∧Below w.heap.size w w':=by
 have:=c_spec_l5Early A B c0 c1 xs c w h h' hc hx hcl;rwa [hc] at this
theorem c_filled9 {lo hi lo' hi':Nat} (A B:Option Addr) (c0 c1:Nat) (xs:List Atm) (c:List Int) (w:World) (h:AtomsV w lo hi A xs) (h':IntsV w lo' hi' B c) (hc:c.length=9) (hx:AtomsOk xs) :
  Calls Tryz.prog 204 #[.slice A xs.length c0,.slice B 9 c1] w fun e w'=>∃ r,e=.returned r∧AtomsO w' w.heap.size r (filledL xs c)∧Below w.heap.size w w':=by
 have:=c_spec_l5Filled A B c0 c1 xs c w h h' hc hx;rwa [hc] at this
theorem openedB:(∀ j:Nat,j<9→cl opened j≤8)∧∀ (S:Nat) (j:Nat),j<9 - 8→S.testBit j=true→0≤cl opened j∧cl opened j≤j:=by
 refine ⟨fun j hj=>?_,fun S j hj _=>?_⟩
 ·obtain rfl|rfl|rfl|rfl|rfl|rfl|rfl|rfl|rfl:j=0∨j=1∨j=2∨j=3∨j=4∨j=5∨j=6∨j=7∨j=8:=by omega
  all_goals decide
 ·obtain rfl:j=0:=by omega
  decide
end Go.Proofs.YtjjokmlmknllhaaGreat

/- Contracts: the spec's Consistent; facts added; SymTest. -/
namespace Go.Proofs.YtjjokmlmknllhaaGreat
open Go Go.RowKit Go.Proofs
attribute [local go_sem ↓] Go.wp_at_zero Go.wp_at_succ
theorem seek_congr (a:Asn) {S S':Nat} (h:∀ j,1≤j→j<9→S.testBit j=S'.testBit j):∀ (n:Nat) (c:List Int),n≤8→seek a S n c=seek a S' n c:=by
 intro n
 induction n with
 | zero=>intro c _;rfl
 | succ n ih=>
  intro c hn
  unfold seek
  rw[h (8 - n) (by omega) (by omega)]
  have e:∀ c',seek a S n c'=seek a S' n c':=fun c'=>ih c' (by omega)
  split
  ·split
   ·apply flatMap_congr'
    intro k _
    rw[e]
   ·exact e _
  ·rfl
theorem seek_caseS {a:Asn} (hv:a.valid=true) (F S:Nat) (h:∀ j,1≤j→j<9→S.testBit j=(caseS a F).testBit j):seek a S 8 opened=cases a (caseS a F):=by
 rw[seek_congr a h 8 opened (by omega)]
 exact seek_cases (Asn.valid_ok hv).1 (Asn.valid_ok hv).2 (caseS_zero a F) (caseS_not hv F)
def addF (a:Asn) (f:Fct):Asn:=⟨a.facts++[f],a.atoms⟩
def symF (a:Asn) (f:Fct):Option Asn:=if (addF a f).valid && !(cases (addF a f) (caseS (addF a f) 0)).isEmpty then some (addF a f) else none
end Go.Proofs.YtjjokmlmknllhaaGreat

/- Contracts: all cases: impl and spec. -/
namespace Go.Proofs.YtjjokmlmknllhaaGreat
open Go Go.RowKit Go.Proofs
attribute [local go_sem ↓] Go.wp_at_zero Go.wp_at_succ
attribute [local go_sem] Oper.semAt_some
structure KX (w w':World):Prop where
 os:w'.os=w.os
 tape:w'.tape=w.tape
 output:w'.output=w.output
 size:w.heap.size≤w'.heap.size
 keep:∀ (k:Nat) (o:Obj),w.heap[k]? = some o→(∀ cs,o≠.cells cs tIS (0,0))→w'.heap[k]? = some o
section
variable {w w' w1:World}
theorem KX.of (h:Below w.heap.size w w'):KX w w':=⟨h.os,h.tape,h.output,h.size,fun k o hk _=>(h.block k (Array.getElem?_eq_some_iff.1 hk).1).trans hk⟩
theorem KX.trans (h:KX w w1) (k:KX w1 w'):KX w w':=⟨k.os.trans h.os,k.tape.trans h.tape,k.output.trans h.output,Nat.le_trans h.size k.size,fun i o hi ho=>k.keep i o (h.keep i o hi ho) ho⟩
theorem KX.set (h:KX w w1) {p:Addr} (hp:w.heap.size≤p.block) (u:Value):KX w (w1.setCell p u):=
 ⟨h.os,h.tape,h.output,by have:=h.size;simpa using this,fun k o hk ho=>(Below.heap_setCell w1 p u k (by have:=(Array.getElem?_eq_some_iff.1 hk).1;omega)).trans (h.keep k o hk ho)⟩
theorem KX.blk (h:KX w w') {g:Nat} {t:TypeId} {cs:Array Value} (hb:Blk w g t cs) (ht:t≠tIS):Blk w' g t cs:=h.keep g _ hb fun c e=>by injection e with _ e2;exact ht e2
theorem KX.ints (h:KX w w') {base:Nat} {v:Value} {xs:List Int} (ho:IntsO w base v xs):IntsO w' base v xs:=by
 obtain ⟨⟨h1,h2⟩,h3⟩:=ho
 refine ⟨⟨h1,?_⟩,h3⟩
 rcases h2 with h2|⟨k,cap,cur,hv,hg,hh,r⟩
 ·exact Or.inl h2
 ·exact Or.inr ⟨k,cap,cur,hv,hg,h.blk (g:=k) hh (by decide),r⟩
end
theorem KX.keeps {w w':World} (h:KX w w'):KeepsOthers w w':=⟨h.size,fun k o hk ho=>h.keep k o hk fun cs e=>by subst e;cases ho⟩
theorem KX.kept {T1 T2:TypeId} {n₀:Nat} {w w':World} (h:KX w w') (hb:Below n₀ w w') (h1:T1≠tIS) (h2:T2≠tIS):Kept T1 T2 n₀ w w':=⟨hb,fun g t cs ht hk=>h.blk hk (by rcases ht with rfl|rfl;exact h1;exact h2)⟩
section
variable {P:Program} {n:Nat}
end
def casesV (a:Asn):List (List Int):=if a.valid then cases a (caseS a 0) else []
def fall:Nat→Nat
 | 0=>1
 | n+1=>(9 - n) * fall n
section
variable {ops:Array Oper} {rest:List Oper} {o:Oper} {a:Act} {Q:Exit→Act→World→Prop} {w w0:World} {base:Nat} {v:Value} {vs:List Value} {xss:List (List Int)}
theorem rwS {w:World} {g:Nat} {sv:Value} (h:Blk w g tIS #[sv]):Rw w g (g+1) 1 (some ⟨g,0,none⟩) 1 [sv]:=
 ⟨rfl,fun _=>⟨g,0,rfl,Nat.le_refl _,Nat.lt_succ_self _,fun j u hu=>by
  match j,hu with
  | 0,hu=>simp at hu;subst hu;exact h.cell 0⟩⟩
end
end Go.Proofs.YtjjokmlmknllhaaGreat

/- Contracts: impl's matching of filled atoms. -/
namespace Go.Proofs.YtjjokmlmknllhaaGreat
open Go Go.RowKit Go.Proofs
attribute [local go_sem ↓] Go.wp_at_zero Go.wp_at_succ
theorem fits_drop (c:List Int) (fs:List Fct) (k:Nat) (hk:k<fs.length):(fs.drop k).all (Fct.fits c)=(fs[k].fits c&&(fs.drop (k+1)).all (Fct.fits c)):=by
 rw[List.drop_eq_getElem_cons hk];rfl
set_option maxHeartbeats 1600000 in
theorem c_impl_factsHold {lo hi:Nat} (A:Option Addr) (d:Nat) (fs:List Fct) (c:List Int) (g:Nat) (w:World) (h:FactsV w lo hi A fs) (hk:Blk w g tTc (encI c).toArray) (hc:c.length=9) (hf:FactsOk fs) :
  Calls Tryz.prog 210 #[.pointer (some ⟨g,0,none⟩),.slice A fs.length d] w fun e w'=>e=.returned (.bool (fs.all (Fct.fits c)))∧Below w.heap.size w w':=by
 have hl:=h.le
 have hgl:=hk.lt
 have HF:=Lib.hid hf
 have H:=Lib.hid h
 clear hf h
 go_enter Tryz.func210,Tryz.ntmps210
 go_wp2_with fail
 go_loopw [9] (fun i wr=>∃ k:Nat,k≤fs.length∧i=.int .i64 k∧Hid (fs.all (Fct.fits c)=(fs.drop k).all (Fct.fits c))∧Below w.heap.size w wr) (fun i _=>fs.length - (intOf i).toNat)
 case atStart=>exact ⟨0,Nat.zero_le _,rfl,rfl,bel⟩
 case round=>
  obtain ⟨k,hkk,rfl,HA,hB⟩:=hrel
  by_cases hlt:k<fs.length
  ·obtain ⟨b,off,rfl,hbl⟩:=H.out.blt hlt
   obtain ⟨g0,g1,g2⟩:=(H.out.below hB).cl hlt
   have HD:=Lib.hid (fits_drop c fs k hlt)
   have hfk:=HF.out _ (List.getElem_mem hlt)
   obtain ⟨f,hfe⟩:∃ f,f=fs[k]:=⟨_,rfl⟩
   rw[←hfe] at g0 g1 g2 HD hfk
   clear hfe
   have kg:Blk wr g tTc (encI c).toArray:=hk.below hB hgl
   have hgr:=kg.lt
   go_wp2_with fail
   refine (c_impl_factHolds f c g _ (kg.alloc _) hc hfk.1 hfk.2).mono ?_
   rintro e w1 ⟨rfl,hB1⟩
   have hBx:Below w.heap.size w w1:=bgo (w:=w) bel hB1
   cases hff:f.fits c
   ·have HZ:=Lib.hid (show fs.all (Fct.fits c)=false by rw[HA.out,HD.out,hff];rfl)
    clear hff hB1
    go_wp2_with fail
    go_ret
    exact ⟨ret_bool (by rw[HZ.out]),hBx⟩
   ·have HZ:=Lib.hid (show (fs.drop k).all (Fct.fits c)=(fs.drop (k+1)).all (Fct.fits c) by rw[HD.out,hff];rfl)
    clear hff hB1
    go_wp2_with fail
    go_round
    case rel=>exact ⟨k+1,by omega,by go_num,by show _=_;rw[HA.out,HZ.out],hBx⟩
    case measure=>simp[intOf];omega
  ·obtain rfl:k=fs.length:=by omega
   have HZ:Hid (fs.all (Fct.fits c)=true):=by show _=_;rw[HA.out,List.drop_length];rfl
   go_wp2_with fail
   go_ret
   exact ⟨ret_bool (by rw[HZ.out]),hB⟩
theorem any_drop (p:Atm→Bool) (xs:List Atm) (k:Nat) (hk:k<xs.length):(xs.drop k).any p=(p xs[k] || (xs.drop (k+1)).any p):=by
 rw[List.drop_eq_getElem_cons hk];rfl
def begB (xs:List Atm) (b:Int):Bool:=xs.any fun x=>decide (x.a=b)
set_option maxHeartbeats 1600000 in
theorem c_impl_beginsAt {lo hi:Nat} (A:Option Addr) (d:Nat) (xs:List Atm) (b:Int) (w:World) (h:AtomsV w lo hi A xs) :
  Calls Tryz.prog 92 #[.slice A xs.length d,.int .i64 b] w fun e w'=>e=.returned (.bool (begB xs b))∧Below w.heap.size w w':=by
 have hl:=h.le
 have H:=Lib.hid h
 clear h
 go_enter Tryz.func92,Tryz.ntmps92
 go_wp2_with fail
 go_loopw [9] (fun i wr=>∃ k:Nat,k≤xs.length∧i=.int .i64 k∧Hid (begB xs b=begB (xs.drop k) b)∧Below w.heap.size w wr) (fun i _=>xs.length - (intOf i).toNat)
 case atStart=>exact ⟨0,Nat.zero_le _,rfl,rfl,bel⟩
 case round=>
  obtain ⟨k,hkk,rfl,HA,hB⟩:=hrel
  by_cases hlt:k<xs.length
  ·obtain ⟨bb,off,rfl,hbl⟩:=H.out.blt hlt
   obtain ⟨g0,g1,g2⟩:=(H.out.below hB).cl hlt
   have HD:=Lib.hid (any_drop (fun x=>decide (x.a=b)) xs k hlt)
   obtain ⟨x,hxe⟩:∃ x,x=xs[k]:=⟨_,rfl⟩
   rw[←hxe] at g0 g1 g2 HD
   clear hxe
   by_cases he:x.a=b
   ·have HZ:Hid (begB xs b=true):=by show _=_;rw[HA.out];unfold begB;rw[HD.out,decide_eq_true he];rfl
    have he':(x.a == b)=true:=by simpa using he
    clear he
    go_wp2_with fail
    go_ret
    exact ⟨ret_bool (by rw[HZ.out]),bel⟩
   ·have HZ:Hid (begB xs b=begB (xs.drop (k+1)) b):=by show _=_;rw[HA.out];unfold begB;rw[HD.out,decide_eq_false he];rfl
    have he':(x.a == b)=false:=by simpa using he
    clear he
    go_wp2_with fail
    go_round
    case rel=>exact ⟨k+1,by omega,by go_num,HZ,bel⟩
    case measure=>simp[intOf];omega
  ·obtain rfl:k=xs.length:=by omega
   have HZ:Hid (begB xs b=false):=by show _=_;rw[HA.out,List.drop_length];rfl
   go_wp2_with fail
   go_ret
   exact ⟨ret_bool (by rw[HZ.out]),hB⟩
abbrev tMt:Nat:=238
def ub (used:List Bool) (k:Nat):Bool:=(used[k]?).getD false
abbrev cmC (V:Value) (used:List Bool) (cnt:Nat):Array Value:=#[V,.bool (ub used 0),.bool (ub used 1),.bool (ub used 2),.bool (ub used 3),.bool (ub used 4),.bool (ub used 5),.int .i64 (cnt:Int)]
theorem cm_used {w:World} {g cnt:Nat} {t:TypeId} {V:Value} {used:List Bool} (h:Blk w g t (cmC V used cnt)) {k:Nat} (hk:k<6):w.cell? ⟨g,1+k,none⟩=some (.bool (ub used k)):=by
 rw[h.cell]
 obtain rfl|rfl|rfl|rfl|rfl|rfl:k=0∨k=1∨k=2∨k=3∨k=4∨k=5:=by omega
 all_goals rfl
theorem freeAt_of {xs:List Atm} {used:List Bool} {c:Int} {k:Nat} (hk:k<xs.length) (hu:used.length=xs.length):freeAt xs used c k=(decide (xs[k].a=c) && !ub used k):=by
 unfold freeAt ub
 rw[List.getElem?_eq_getElem hk,List.getElem?_eq_getElem (by omega)]
 rfl
set_option maxRecDepth 100000 in
set_option maxHeartbeats 1600000 in
theorem c_impl_unusedAt {lo hi:Nat} (A:Option Addr) (d cnt:Nat) (xs:List Atm) (used:List Bool) (b:Int) (g:Nat) (w:World) (h:AtomsV w lo hi A xs) (hk:Blk w g tMt (cmC (.slice A xs.length d) used cnt)) (hl6:xs.length≤6) (hu:used.length=xs.length) :
  Calls Tryz.prog 222 #[.pointer (some ⟨g,0,none⟩),.int .i64 b] w fun e w'=>e=.returned (.tuple #[.int .i64 ((findU xs used b).getD 0:Nat),.bool (findU xs used b).isSome])∧Below w.heap.size w w':=by
 have hgl:=hk.lt
 have H:=Lib.hid h
 have HU:=Lib.hid hu
 have q0:=hk.cell 0
 have HK:=Lib.hid hk
 clear h hu hk
 go_enter Tryz.func222,Tryz.ntmps222
 go_wp2_with fail
 go_loopw [13] (fun i wr=>∃ k:Nat,k≤xs.length∧i=.int .i64 k∧Hid (∀ j,j<k→freeAt xs used b j=false)∧Below w.heap.size w wr) (fun i _=>xs.length - (intOf i).toNat)
 case atStart=>exact ⟨0,Nat.zero_le _,rfl,fun j hj=>absurd hj (Nat.not_lt_zero _),bel⟩
 case round=>
  clear q0
  obtain ⟨k,hkk,rfl,HA,hB⟩:=hrel
  have kg:Blk wr g tMt (cmC (.slice A xs.length d) used cnt):=HK.out.below hB hgl
  by_cases hlt:k<xs.length
  ·obtain ⟨bb,off,rfl,hbl⟩:=H.out.blt hlt
   obtain ⟨g0,g1,g2⟩:=(H.out.below hB).cl hlt
   have HD:=Lib.hid (freeAt_of (c:=b) hlt HU.out)
   have qu:=cm_used kg (k:=k) (by omega)
   have hgr:=kg.lt
   have hk6:(k:Int)<6:=by omega
   obtain ⟨x,hxe⟩:∃ x,x=xs[k]:=⟨_,rfl⟩
   rw[←hxe] at g0 g1 g2 HD
   clear hxe
   clear kg
   cases hff:freeAt xs used b k
   ·have HZ:Hid (∀ j,j<k+1→freeAt xs used b j=false):=fun j hj=>by
     by_cases e:j=k
     ·rw[e];exact hff
     ·exact HA.out j (by omega)
    rw[HD.out] at hff
    by_cases he:x.a=b
    ·have he':(x.a == b)=true:=by simpa using he
     have hub:ub used k=true:=by rw[decide_eq_true he] at hff;simpa using hff
     rw[hub] at qu
     clear he hff hub
     go_wp2_with fail
     go_round
     case rel=>exact ⟨k+1,by omega,by go_num,HZ,bel⟩
     case measure=>simp[intOf];omega
    ·have he':(x.a == b)=false:=by simpa using he
     clear he hff
     go_wp2_with fail
     go_round
     case rel=>exact ⟨k+1,by omega,by go_num,HZ,bel⟩
     case measure=>simp[intOf];omega
   ·have HZ:Hid (findU xs used b=some k):=range_find_some hlt hff HA.out
    rw[HD.out,Bool.and_eq_true,decide_eq_true_eq] at hff
    have he':(x.a == b)=true:=by simpa using hff.1
    have hub:ub used k=false:=by simpa using hff.2
    rw[hub] at qu
    clear hff hub
    go_wp2_with fail
    go_ret2
    exact ⟨by rw[HZ.out];rfl,bel⟩
  ·obtain rfl:k=xs.length:=by omega
   have HZ:Hid (findU xs used b=none):=range_find_none HA.out
   go_wp2_with fail
   go_ret2
   exact ⟨by rw[HZ.out];rfl,hB⟩
theorem ub_set {used:List Bool} {k:Nat} (hk:k<used.length) (j:Nat):ub (used.set k true) j=if k=j then true else ub used j:=by
 unfold ub
 rw[List.getElem?_set]
 by_cases e:k=j
 ·subst e;simp[hk]
 ·simp[e]
theorem cm_take {V:Value} {used:List Bool} {cnt k:Nat} (hk:k<used.length) (h6:k<6):((cmC V used cnt).setIfInBounds (1+k) (.bool true)).setIfInBounds 7 (.int .i64 ((cnt:Int)+1))=cmC V (used.set k true) (cnt+1):=by
 unfold cmC
 simp only[ub_set hk]
 obtain rfl|rfl|rfl|rfl|rfl|rfl:k=0∨k=1∨k=2∨k=3∨k=4∨k=5:=by omega
 all_goals simp
abbrev cmU (V:Value) (used:List Bool):Array Value:=cmC V used (used.count true)
set_option maxRecDepth 100000 in
set_option maxHeartbeats 1600000 in
theorem c_impl_take {V:Value} {used:List Bool} (k g:Nat) (w:World) (hk:Blk w g tMt (cmU V used)) (hku:used[k]? = some false) (h6:used.length≤6) :
  Calls Tryz.prog 223 #[.pointer (some ⟨g,0,none⟩),.int .i64 k] w fun e w'=>(∃ v,e=.returned v)∧Blk w' g tMt (cmU V (used.set k true))∧Mk (fun h=>h=g) w w':=by
 have hgl:=hk.lt
 have hkl:k<used.length:=(List.getElem?_eq_some_iff.1 hku).1
 have hcnt:=List.count_le_length (a:=true) (l:=used)
 obtain ⟨cnt,hcn⟩:∃ n,n=used.count true:=⟨_,rfl⟩
 have HE:Hid ((used.set k true).count true=cnt+1):=by show _=_;rw[count_take hku,hcn]
 unfold cmU at hk
 rw[←hcn] at hk hcnt
 have qu:=cm_used hk (k:=k) (by omega)
 have q7:w.cell? ⟨g,7,none⟩=some (.int .i64 (cnt:Int)):=hk.cell 7
 have r:=hk.frozen
 have hk6:(k:Int)<6:=by omega
 have HT:=Lib.hid (cm_take (V:=V) (cnt:=cnt) hkl (by omega))
 have HK:=Lib.hid hk
 have hne:¬(1+k=7):=by omega
 have hne':¬(7=1+k):=by omega
 clear hk hku hcn
 go_enter Tryz.func223,Tryz.ntmps223
 go_wp2_with fail
 go_end0
 refine ⟨⟨_,rfl⟩,?_,((Mk.refl (fun h=>h=g) _).set (x:=⟨g,1+k,none⟩) rfl _).set (x:=⟨g,7,none⟩) rfl _⟩
 show Blk _ _ _ (cmC V (used.set k true) ((used.set k true).count true))
 rw[HE.out,←HT.out]
 exact (HK.out.set_ _ _).set_ _ _
def cellF (xs:List Atm) (used:List Bool) (x:Atm):Option (List Bool):=(findU xs used x.a).bind fun k=>if (xs[k]?).getD default=x then some (used.set k true) else none
theorem AtomsV.keepM {w w':World} {lo hi g:Nat} {A:Option Addr} {xs:List Atm} (h:AtomsV w lo hi A xs) (hm:Mk (fun h=>h=g) w w') (hg:hi≤g) (hw:g≤w.heap.size):AtomsV w' lo hi A xs:=h.keepB (hm.below (lo:=g) (fun k e=>by omega) hw) hg
set_option maxRecDepth 100000 in
set_option maxHeartbeats 3200000 in
theorem c_impl_useCell {lo hi:Nat} (A:Option Addr) (d:Nat) (xs:List Atm) (used:List Bool) (x:Atm) (g:Nat) (w:World) (h:AtomsV w lo hi A xs) (hhi:hi≤g) (hk:Blk w g tMt (cmU (.slice A xs.length d) used)) (hl6:xs.length≤6) (hu:used.length=xs.length) :
  Calls Tryz.prog 211 #[.pointer (some ⟨g,0,none⟩),x.val] w fun e w'=>∃ r ys,e=.returned (.tuple #[r,.bool (cellF xs used x).isSome])∧IntsO w' w.heap.size r ys∧Mk (fun h=>h=g) w w'∧(∀ u,cellF xs used x=some u→Blk w' g tMt (cmU (.slice A xs.length d) u)):=by
 have hgl:=hk.lt
 have H:=Lib.hid h
 have HU:=Lib.hid hu
 have HK:=Lib.hid hk
 clear h hu hk
 go_enter Tryz.func211,Tryz.ntmps211
 go_wp2_with fail
 refine (c_impl_unusedAt A d _ xs used x.a g _ (H.out.below bel) (HK.out.alloc _) hl6 HU.out).mono ?_
 rintro e w1 ⟨rfl,hB1⟩
 have hB:Below w.heap.size w w1:=bgo (w:=w) bel hB1
 have kg:=HK.out.below hB hgl
 have k0:Blk w1 w.heap.size tA #[.int .i64 x.kind,.int .i64 x.a,.int .i64 x.b]:=Blk.next blks hB1
 have q0:=k0.cell
 have l0:=k0.lt
 have gl1:=kg.lt
 clear hB1
 cases hf:findU xs used x.a
 ·have E:Hid (cellF xs used x=none):=by show _=_;unfold cellF;rw[hf];rfl
  clear hf
  go_wp2_with fail
  go_quiet (fail)
  go_wp2_with fail
  go_ret2
  exact ⟨_,[],by rw[E.out];rfl,IntsO.nil _ _,Mk.below_ bel,fun u hu=>by rw[E.out] at hu;cases hu⟩
 ·rename_i k
  obtain ⟨hkl,hfr⟩:=findU_some hf
  have hfu:=freeAt_used hfr
  obtain ⟨b,off,rfl,hbl⟩:=H.out.blt hkl
  obtain ⟨g0,g1,g2⟩:=(H.out.below hB).cl hkl
  rw[freeAt_of hkl HU.out,Bool.and_eq_true,decide_eq_true_eq] at hfr
  have q1:w1.cell? ⟨g,0,none⟩=some (.slice (some ⟨b,off,none⟩) xs.length d):=kg.cell 0
  have E:Hid (cellF xs used x=if xs[k]=x then some (used.set k true) else none):=by show _=_;unfold cellF;rw[hf];simp only[Option.bind_some,List.getElem?_eq_getElem hkl,Option.getD_some]
  obtain ⟨y,hy⟩:∃ y,y=xs[k]:=⟨_,rfl⟩
  rw[←hy] at g0 g1 g2 E hfr
  have hya:=hfr.1
  have hkx:(k:Int)<(xs.length:Int):=by omega
  have HKG:=Lib.hid kg
  have HFU:=Lib.hid hfu
  clear hf hy hfr kg hfu
  have hq2:∀ i,w1.cell? ⟨w.heap.size,i,none⟩=#[.int .i64 x.kind,.int .i64 x.a,.int .i64 x.b][i]?:=q0
  rw[hya] at g1
  have e2:(x.a == x.a)=true:=by simp
  by_cases f1:y.kind=x.kind
  ·by_cases f3:y.b=x.b
   ·have E2:Hid (cellF xs used x=some (used.set k true)):=by
     show _=_
     rw[E.out,if_pos]
     cases y;cases x;simp_all
    rw[f1] at g0
    rw[f3] at g2
    go_wp2_with fail
    go_quiet (fail)
    go_wp2_with fail
    have kg:=HKG.out
    refine (c_impl_take k g _ (used:=used) (V:=.slice (some ⟨b,off,none⟩) xs.length d) blks HFU.out.2 (by rw[HU.out];exact hl6)).mono ?_
    rintro e w3 ⟨⟨v,rfl⟩,k3,hM⟩
    have hMM:Mk (fun h=>h=g) w w3:=Mk.trans (Mk.below_ (w:=w) bel) hM
    have hz3:=hMM.size
    clear kg
    go_wp2_with fail
    go_ret2
    exact ⟨_,[(k:Int)],by rw[E2.out];rfl,IntsO.one w3 k hz3,hMM.trans (Mk.below_ bel),fun u hu=>by rw[E2.out] at hu;cases hu;exact k3.alloc _⟩
   ·have e3:(y.b == x.b)=false:=by simpa using f3
    have E2:Hid (cellF xs used x=none):=by show _=_;rw[E.out,if_neg (fun e=>f3 (by rw[e]))]
    rw[f1] at g0
    go_wp2_with fail
    go_quiet (fail)
    go_wp2_with fail
    go_ret2
    exact ⟨_,[],by rw[E2.out];rfl,IntsO.nil _ _,Mk.below_ bel,fun u hu=>by rw[E2.out] at hu;cases hu⟩
  ·have e1:(y.kind == x.kind)=false:=by simpa using f1
   have E2:Hid (cellF xs used x=none):=by show _=_;rw[E.out,if_neg (fun e=>f1 (by rw[e]))]
   go_wp2_with fail
   go_quiet (fail)
   go_wp2_with fail
   go_ret2
   exact ⟨_,[],by rw[E2.out];rfl,IntsO.nil _ _,Mk.below_ bel,fun u hu=>by rw[E2.out] at hu;cases hu⟩
end Go.Proofs.YtjjokmlmknllhaaGreat

/- Contracts: the spec's matching of filled atoms. -/
namespace Go.Proofs.YtjjokmlmknllhaaGreat
open Go Go.RowKit Go.Proofs
attribute [local go_sem ↓] Go.wp_at_zero Go.wp_at_succ
set_option maxHeartbeats 1600000 in
theorem c_spec_l5Begins {lo hi:Nat} (A:Option Addr) (d:Nat) (xs:List Atm) (b:Int) (w:World) (h:AtomsV w lo hi A xs) :
  Calls Tryz.prog 235 #[.slice A xs.length d,.int .i64 b] w fun e w'=>e=.returned (.bool (begB xs b))∧w=w':=by
 have hl:=h.le
 have H:=Lib.hid h
 clear h
 go_enter Tryz.func235,Tryz.ntmps235
 go_wp2_with fail
 go_loop [5] (fun i=>∃ k:Nat,k≤xs.length∧i=.int .i64 k∧Hid (begB xs b=begB (xs.drop k) b)) (fun i=>xs.length - (intOf i).toNat)
 case atStart=>exact ⟨0,Nat.zero_le _,rfl,rfl⟩
 case round=>
  obtain ⟨k,hkk,rfl,HA⟩:=hrel
  by_cases hlt:k<xs.length
  ·obtain ⟨bb,off,rfl,hbl⟩:=H.out.blt hlt
   obtain ⟨g0,g1,g2⟩:=H.out.cl hlt
   have HD:=Lib.hid (any_drop (fun x=>decide (x.a=b)) xs k hlt)
   obtain ⟨x,hxe⟩:∃ x,x=xs[k]:=⟨_,rfl⟩
   rw[←hxe] at g0 g1 g2 HD
   clear hxe
   by_cases he:x.a=b
   ·have HZ:Hid (begB xs b=true):=by show _=_;rw[HA.out];unfold begB;rw[HD.out,decide_eq_true he];rfl
    have he':(x.a == b)=true:=by simpa using he
    clear he
    go_wp2_with fail
    go_ret
    exact ⟨ret_bool (by rw[HZ.out]),rfl⟩
   ·have HZ:Hid (begB xs b=begB (xs.drop (k+1)) b):=by show _=_;rw[HA.out];unfold begB;rw[HD.out,decide_eq_false he];rfl
    have he':(x.a == b)=false:=by simpa using he
    clear he
    go_wp2_with fail
    go_round
    case rel=>exact ⟨k+1,by omega,by go_num,HZ⟩
    case measure=>simp[intOf];omega
  ·obtain rfl:k=xs.length:=by omega
   have HZ:Hid (begB xs b=false):=by show _=_;rw[HA.out,List.drop_length];rfl
   go_wp2_with fail
   go_ret
   exact ⟨ret_bool (by rw[HZ.out]),rfl⟩
def fndI (o:Option Nat):Int:=match o with|some k=>k|none=>-1
set_option maxHeartbeats 1600000 in
theorem c_spec_l6Find {lo hi lo2 hi2:Nat} (A B:Option Addr) (d e:Nat) (xs:List Atm) (used:List Bool) (b:Int) (w:World) (h:AtomsV w lo hi A xs) (h':BoolsV w lo2 hi2 B used) (hu:used.length=xs.length) :
  Calls Tryz.prog 232 #[.slice A xs.length d,.slice B xs.length e,.int .i64 b] w fun e w'=>e=.returned (.int .i64 (fndI (findU xs used b)))∧w=w':=by
 have hl:=h.le
 have H:=Lib.hid h
 have H':=Lib.hid h'
 have HU:=Lib.hid hu
 clear h h' hu
 go_enter Tryz.func232,Tryz.ntmps232
 go_wp2_with fail
 go_loop [7] (fun i=>∃ k:Nat,k≤xs.length∧i=.int .i64 k∧Hid (∀ j,j<k→freeAt xs used b j=false)) (fun i=>xs.length - (intOf i).toNat)
 case atStart=>exact ⟨0,Nat.zero_le _,rfl,fun j hj=>absurd hj (Nat.not_lt_zero _)⟩
 case round=>
  obtain ⟨k,hkk,rfl,HA⟩:=hrel
  by_cases hlt:k<xs.length
  ·obtain ⟨bb,off,rfl,hbl⟩:=H.out.blt hlt
   obtain ⟨g0,g1,g2⟩:=H.out.cl hlt
   obtain ⟨b2,off2,rfl,hbl2⟩:=H'.out.blt (k:=k) (by rw[HU.out];exact hlt)
   have qu:w.cell? ⟨b2,off2+k,none⟩=some (.bool (ub used k)):=by rw[H'.out.cl (k:=k) (by rw[HU.out];exact hlt)];unfold ub;rw[List.getElem?_eq_getElem];rfl
   have HD:=Lib.hid (freeAt_of (c:=b) hlt HU.out)
   obtain ⟨x,hxe⟩:∃ x,x=xs[k]:=⟨_,rfl⟩
   rw[←hxe] at g0 g1 g2 HD
   clear hxe
   cases hff:freeAt xs used b k
   ·have HZ:Hid (∀ j,j<k+1→freeAt xs used b j=false):=fun j hj=>by
     by_cases e:j=k
     ·rw[e];exact hff
     ·exact HA.out j (by omega)
    rw[HD.out] at hff
    cases hub:ub used k
    ·rw[hub] at qu hff
     have he':(x.a == b)=false:=by simpa using hff
     clear hff hub
     go_wp2_with fail
     go_round
     case rel=>exact ⟨k+1,by omega,by go_num,HZ⟩
     case measure=>simp[intOf];omega
    ·rw[hub] at qu
     clear hff hub
     go_wp2_with fail
     go_round
     case rel=>exact ⟨k+1,by omega,by go_num,HZ⟩
     case measure=>simp[intOf];omega
   ·have HZ:Hid (findU xs used b=some k):=range_find_some hlt hff HA.out
    rw[HD.out,Bool.and_eq_true,decide_eq_true_eq] at hff
    have he':(x.a == b)=true:=by simpa using hff.1
    have hub:ub used k=false:=by simpa using hff.2
    rw[hub] at qu
    clear hff hub
    go_wp2_with fail
    go_ret
    exact ⟨by rw[HZ.out];rfl,rfl⟩
  ·obtain rfl:k=xs.length:=by omega
   have HZ:Hid (findU xs used b=none):=range_find_none HA.out
   go_wp2_with fail
   go_ret
   exact ⟨by rw[HZ.out];rfl,rfl⟩
theorem BoolsO.open_ {w:World} {base:Nat} {A:Option Addr} {n c k:Nat} {fs:List Bool} (h:BoolsO w base (.slice A n c) fs) (hk:k<fs.length):∃ g cur,n=fs.length∧A=some ⟨g,0,none⟩∧base≤g∧Blk w g tB cur∧cur[k]? = some (.bool fs[k])∧
  (∀ v:Bool,BoolsO (w.setCell ⟨g,k,none⟩ (.bool v)) base (.slice A n c) (fs.set k v)):=by
 obtain ⟨⟨hl,h2⟩,hL⟩:=h
 rcases h2 with ⟨e,hn⟩|⟨g,cap,cur,e,hb,hh,hn,hm,hs,ht⟩
 ·omega
 ·injection e with e1 e2 e3
  subst e1 e2 e3
  have hK:Blk w g tB cur:=hh
  have hP:Pre cur (encB fs) (fs.length * 1):=by
   intro j hj
   rw[←ht,List.getElem?_take,if_pos hj];simp
  refine ⟨g,cur,rfl,rfl,hb,hK,(hP _ (by omega)).trans (by simp[List.getElem?_eq_getElem hk]),?_⟩
  intro v
  refine ⟨?_,by rw[List.length_set];exact hL⟩
  rw[show encB (fs.set k v)=(encB fs).set k (.bool v) from by simp[encB,List.map_set],List.length_set]
  exact own_of_blk (hK.set_ k (.bool v)) hb (by rw[List.length_set,hl]) (hP.setL k (.bool v) (by rw[hs];exact Nat.mul_le_mul hn (Nat.le_refl _)) (by rw[hl];exact Nat.le_refl _)) hn hm (by simpa using hs)
def chainG (xs:List Atm) (b:Int) (n:Nat) (used:List Bool) (c:Int):Option (List Bool):=if c=b then some used else chainF xs b n used c
def cutB (xs:List Atm) (y:Atm) (b:Int):Bool:=decide (y.kind=2) && !decide (y.b=b) && !decide (b=0) && !begB xs b
theorem cut_cases (xs:List Atm) (y:Atm) (b:Int):(cutB xs y b=true∧(y.kind == 2)=true∧(y.b != b)=true∧(b != 0)=true∧begB xs b=false)∨
  ((cutB xs y b=false∧(y.kind == 2)=false)∨(cutB xs y b=false∧(y.kind == 2)=true∧(y.b != b)=false)∨(cutB xs y b=false∧(y.kind == 2)=true∧(y.b != b)=true∧(b != 0)=false)∨(cutB xs y b=false∧(y.kind == 2)=true∧(y.b != b)=true∧(b != 0)=true∧begB xs b=true)):=by
 unfold cutB
 by_cases h1:y.kind=2<;>by_cases h2:y.b=b<;>by_cases h3:b=0<;>cases h4:begB xs b<;>simp_all
theorem closed_beg (xs:List Atm) (b:Int):closedB xs b=(decide (b=0) || begB xs b):=rfl
theorem chainG_none {xs:List Atm} {b:Int} {n:Nat} {used:List Bool} {c:Int} (h:c≠b) (hf:findU xs used c=none):chainG xs b n used c=none:=by
 unfold chainG;rw[if_neg h]
 cases n with
 | zero=>rfl
 | succ n=>unfold chainF;rw[hf];rfl
theorem chainG_some {xs:List Atm} {b:Int} {n:Nat} {used:List Bool} {c:Int} {k:Nat} (h:c≠b) (hf:findU xs used c=some k) (hk:k<xs.length):chainG xs b (n+1) used c=if cutB xs xs[k] b then none else chainG xs b n (used.set k true) xs[k].b:=by
 unfold chainG;rw[if_neg h]
 rw[show chainF xs b (n+1) used c=(findU xs used c).bind (fun k=>if ((xs[k]?).getD default).b=b then some (used.set k true) else if ((xs[k]?).getD default).kind=2∧closedB xs b=false then none else chainF xs b n (used.set k true) ((xs[k]?).getD default).b) from rfl,hf]
 simp only[Option.bind_some,List.getElem?_eq_getElem hk,Option.getD_some]
 unfold cutB
 rw[closed_beg]
 generalize chainF xs b n (used.set k true) xs[k].b=R
 generalize xs[k]=y
 generalize decide (b=0)=t
 generalize begB xs b=s
 by_cases h1:y.b=b<;>by_cases h2:y.kind=2<;>cases t<;>cases s<;>simp[h1,h2]
theorem AtomsV.hi_ {w:World} {lo hi b o k:Nat} {xs:List Atm} (h:AtomsV w lo hi (some ⟨b,o,none⟩) xs) (hk:k<xs.length):b<hi:=by
 obtain ⟨g,o',e,h1,h2,-⟩:=h.raw.2 (by omega)
 injection e with e
 injection e with e1
 omega
set_option maxRecDepth 100000 in
set_option maxHeartbeats 6400000 in
theorem c_spec_l6Chain {lo hi base:Nat} (A B:Option Addr) (d e:Nat) (xs:List Atm) (used:List Bool) (c b:Int) (w:World) (h:AtomsV w lo hi A xs) (h':BoolsO w base (.slice B xs.length e) used) (hu:used.length=xs.length) (hhi:hi≤base) (hbw:base≤w.heap.size) :
  Calls Tryz.prog 231 #[.slice A xs.length d,.slice B xs.length e,.int .i64 c,.int .i64 b] w fun e' w'=>e'=.returned (.bool (chainG xs b (xs.length+1) used c).isSome)∧(∀ u,chainG xs b (xs.length+1) used c=some u→BoolsO w' base (.slice B xs.length e) u∧u.length=xs.length)∧Mk (fun g=>(Value.slice B xs.length e).ownBlock=some g) w w':=by
 have hl:=h.le
 have hown:∀ g,(Value.slice B xs.length e).ownBlock=some g→base≤g:=fun g hg=>(h'.1.lt g hg).1
 have H:=Lib.hid h
 have HO:=Lib.hid h'
 have HU:=Lib.hid hu
 have HW:=Lib.hid hown
 clear h h' hu hown
 go_enter Tryz.func231,Tryz.ntmps231
 go_wp2_with fail
 go_loopg [2] (xs.length - used.count true) (fun gh s2 wr=>∃ (u:List Bool) (n:Nat) (at_:Int),s2=.int .i64 at_∧Hid (xs.length - u.count true≤gh)∧Hid (chainG xs b (xs.length+1) used c=chainG xs b n u at_)∧Hid (xs.length<n+u.count true)∧Hid (u.length=xs.length)∧Hid (BoolsO wr base (.slice B xs.length e) u)∧Hid (Mk (fun g=>(Value.slice B xs.length e).ownBlock=some g) w wr))
 case atStart=>exact ⟨used,xs.length+1,c,rfl,Nat.le_refl _,rfl,by show _<_;omega,HU.out,HO.out,Mk.refl _ _⟩
 case round=>
  obtain ⟨u,n,at_,rfl,HG,HC,HN,HL,HB,HM⟩:=hrel
  have hA:Hid (AtomsV wr lo hi A xs):=H.out.keepB (HM.out.below (lo:=base) (fun k e=>HW.out k e) hbw) hhi
  by_cases hat:at_=b
  ·have E:Hid (chainG xs b (xs.length+1) used c=some u):=by show _=_;rw[HC.out];unfold chainG;rw[if_pos hat]
   have hne:(at_ != b)=false:=by simpa using hat
   clear hat
   go_wp2_with fail
   go_ret
   exact ⟨ret_bool (by rw[E.out];rfl),fun u' hu'=>(by rw[E.out] at hu';cases hu';exact ⟨HB.out,HL.out⟩),HM.out⟩
  ·have hne:(at_ != b)=true:=by simpa using hat
   obtain ⟨BB,eB,eqB,hBV⟩:=HB.out.reads
   injection eqB with eB1 eB2 eB3
   subst eB1
   clear eB2 eB3
   go_wp2_with fail
   refine (c_spec_l6Find A B d e xs u at_ _ hA.out (by simpa using hBV) HL.out).mono ?_
   rintro e w1 ⟨rfl,rfl⟩
   cases hf:findU xs u at_
   ·have E:Hid (chainG xs b (xs.length+1) used c=none):=by show _=_;rw[HC.out];exact chainG_none hat hf
    clear hf hat
    simp only[fndI]
    go_wp2_with fail
    go_ret
    exact ⟨ret_bool (by rw[E.out];rfl),fun u' hu'=>(by rw[E.out] at hu';cases hu'),HM.out⟩
   ·rename_i k
    obtain ⟨hkl,hfr⟩:=findU_some hf
    have hfu:=freeAt_used hfr
    have hct:=count_take hfu.2
    have hcl:=List.count_le_length (a:=true) (l:=u.set k true)
    rw[List.length_set,HL.out] at hcl
    obtain ⟨m,rfl⟩:∃ m,n=m+1:=⟨n - 1,by have:=HN.out;omega⟩
    have HS:=Lib.hid (chainG_some (n:=m) hat hf hkl)
    obtain ⟨g,cur,-,rfl,hgb,kg,hcm,hset⟩:=HB.out.open_ (k:=k) hfu.1
    have qg:wr.cell? ⟨g,k,none⟩=some (.bool false):=(kg.cell k).trans (hcm.trans (by rw[(List.getElem?_eq_some_iff.1 hfu.2).2]))
    have rg:=kg.frozen
    have HSET:=Lib.hid (hset true)
    obtain ⟨bb,off,rfl,hbl⟩:=hA.out.blt hkl
    obtain ⟨g0,g1,g2⟩:=hA.out.cl hkl
    have hbg:bb<g:=by have:=hA.out.hi_ hkl;omega
    have hbn:¬(bb=g):=by omega
    have hbn':¬(g=bb):=by omega
    obtain ⟨y,hy⟩:∃ y,y=xs[k]:=⟨_,rfl⟩
    rw[←hy] at g0 g1 g2 HS
    have HCT:=Lib.hid hct
    have HCL:=Lib.hid hcl
    have hkx:(k:Int)<(xs.length:Int):=by omega
    have hk0:¬(k:Int)<0:=by omega
    have HAK:=Lib.hid hA.out
    clear hf hat hy hfr hfu hct hcl hset kg hcm
    simp only[fndI]
    rcases cut_cases xs y b with ⟨hc,f1,f2,f3,f4⟩|hcc
    ·have E:Hid (chainG xs b (xs.length+1) used c=none):=by show _=_;rw[HC.out,HS.out,hc];rfl
     clear hc
     go_wp2_with (refine (c_spec_l5Begins _ _ xs b _ HAK.out).mono ?_;rintro e2 w2 ⟨rfl,rfl⟩)
     go_ret
     exact ⟨ret_bool (by rw[E.out];rfl),fun u' hu'=>(by rw[E.out] at hu';cases hu'),HM.out⟩
    ·have E:Hid (cutB xs y b=false→chainG xs b (xs.length+1) used c=chainG xs b m (u.set k true) y.b):=fun hc=>by rw[HC.out,HS.out,hc];rfl
     rcases hcc with ⟨hc,f1⟩|⟨hc,f1,f2⟩|⟨hc,f1,f2,f3⟩|⟨hc,f1,f2,f3,f4⟩
     all_goals
      have E2:=Lib.hid (E.out hc)
      clear hc
      go_wp2_with (refine (c_spec_l5Begins _ _ xs b _ HAK.out).mono ?_;rintro e2 w2 ⟨rfl,rfl⟩)
      go_roundg (xs.length - (u.set k true).count true)
      case rel=>exact ⟨u.set k true,m,y.b,rfl,Nat.le_refl _,E2.out,by show _<_;have:=HN.out;have:=HCT.out;omega,by show _=_;rw[List.length_set];exact HL.out,HSET.out,HM.out.set (x:=⟨g,k,none⟩) rfl _⟩
      case measure=>have:=HG.out;have:=HCT.out;have:=HCL.out;omega
end Go.Proofs.YtjjokmlmknllhaaGreat

/- What an assertion implies; plain. -/
namespace Go.Proofs.YtjjokmlmknllhaaGreat
open Go Go.RowKit Go.Proofs
abbrev factS (f:Fct):Nat:=tins (tins 0 f.a) f.b
def impB (a:Asn) (f:Fct):Bool:=a.valid&&f.valid&&(cases a (caseS a (factS f))).all (Fct.fits · f)
theorem Fct.valid_ok {f:Fct} (h:f.valid=true):(0≤f.a∧f.a≤8)∧(0≤f.b∧f.b≤8):=by
 simpa [Fct.valid,isTermB] using h
end Go.Proofs.YtjjokmlmknllhaaGreat

/- Contracts: impl's Implies. -/
namespace Go.Proofs.YtjjokmlmknllhaaGreat
open Go Go.RowKit Go.Proofs
attribute [local go_sem ↓] Go.wp_at_zero Go.wp_at_succ
attribute [local go_sem] Oper.semAt_some
end Go.Proofs.YtjjokmlmknllhaaGreat

/- Exposing cells: the helpers of impl. -/
namespace Go.Proofs.YtjjokmlmknllhaaGreat
open Go Go.RowKit Go.Proofs
attribute [local go_sem ↓] Go.wp_at_zero Go.wp_at_succ
def AsnC (w:World) (lo hi:Nat) (v:Value) (a:Asn):Prop:=
 ∃ A1 c1 A2 c2,v=.agg #[.slice A1 a.facts.length c1,.slice A2 a.atoms.length c2]∧FactsV w lo hi A1 a.facts∧AtomsV w lo hi A2 a.atoms∧a.atoms.length≤c2
theorem AsnC.V {w:World} {lo hi:Nat} {v:Value} {a:Asn} (h:AsnC w lo hi v a):AsnV w lo hi v a:=by
 obtain ⟨A1,c1,A2,c2,e,h1,h2,-⟩:=h;exact ⟨A1,c1,A2,c2,e,h1,h2⟩
theorem AsnC.below {w w':World} {lo hi:Nat} {v:Value} {a:Asn} (h:AsnC w lo hi v a) (hb:Below w.heap.size w w'):AsnC w' lo hi v a:=by
 obtain ⟨A1,c1,A2,c2,e,h1,h2,h3⟩:=h;exact ⟨A1,c1,A2,c2,e,h1.below hb,h2.below hb,h3⟩
theorem own_cap {w:World} {base:Nat} {e:TypeId} {size n c:Nat} {A:Option Addr} {xs:List Value} (h:w.ownsRow base e size (.slice A n c) n xs):n≤c:=by
 rcases h.2 with ⟨e1,e2⟩|⟨g,cap,cur,e1,-,-,hn,-⟩
 ·omega
 ·injection e1 with e1 e2 e3;omega
theorem AsnO.C {w:World} {base:Nat} {v:Value} {a:Asn} (h:AsnO w base v a):AsnC w base w.heap.size v a:=by
 obtain ⟨fv,av,rfl,h1,h2⟩:=h
 obtain ⟨A1,c1,rfl,f1⟩:=h1.reads
 obtain ⟨A2,c2,rfl,f2⟩:=h2.reads
 exact ⟨A1,c1,A2,c2,rfl,f1,f2,own_cap h2.1⟩
def newT (S:Nat):Option Nat:=(List.range' 5 4).find? fun t=>!S.testBit t
def unusedI (S:Nat):Int:=match newT S with|some t=>(t:Int)|none=>0
theorem newT_yes {S t:Nat} (h5:5≤t) (h8:t≤8) (h1:∀ k,5≤k→k<t→S.testBit k=true) (h2:S.testBit t=false):newT S=some t:=by
 unfold newT
 have e:List.range' 5 4=List.range' 5 (t - 5)++t :: List.range' (t+1) (8 - t):=by
  have:t=5∨t=6∨t=7∨t=8:=by omega
  rcases this with rfl|rfl|rfl|rfl<;>rfl
 rw[e,List.find?_append]
 have:(List.range' 5 (t - 5)).find? (fun t=>!S.testBit t)=none:=by
  rw[List.find?_eq_none]
  intro x hx
  have:=List.mem_range'_1.1 hx
  simp[h1 x (by omega) (by omega)]
 rw[this,List.find?_cons,h2];rfl
theorem newT_no {S:Nat} (h1:∀ k,5≤k→k≤8→S.testBit k=true):newT S=none:=by
 unfold newT
 rw[List.find?_eq_none]
 intro x hx
 have:=List.mem_range'_1.1 hx
 simp[h1 x (by omega) (by omega)]
set_option maxRecDepth 100000 in
set_option maxHeartbeats 1600000 in
theorem c_impl_unused (S:Nat) (w:World) (hS:S<512):Calls Tryz.prog 172 #[.int .u16 S] w fun e w'=>e=.returned (.tuple #[.int .i64 (unusedI S),.bool (newT S).isSome])∧w=w':=by
 go_enter Tryz.func172,Tryz.ntmps172
 go_wp2_with fail
 go_loop [4] (fun i=>∃ k:Nat,5≤k∧k≤9∧i=.int .i64 k∧Hid (∀ j,5≤j→j<k→S.testBit j=true)) (fun i=>10 - (intOf i).toNat)
 case atStart=>exact ⟨5,by omega,by omega,rfl,Lib.hid fun j h1 h2=>by omega⟩
 case round=>
  obtain ⟨k,h5,h9,rfl,HA⟩:=hrel
  by_cases hlt:k<9
  ·have hki:(k:Int)≤8:=by omega
   have ht:isTermB (k:Int)=true:=by simp[isTermB];omega
   have et:((k:Int)).toNat=k:=by omega
   go_wp2_with fail
   refine (c_impl_tHas S _ _ hS).mono ?_
   rintro e w1 ⟨rfl,rfl⟩
   rw[ht,et]
   clear ht et
   cases hb:S.testBit k
   ·have E:=Lib.hid (newT_yes h5 (by omega) HA.out hb)
    clear hb
    go_wp2_with fail
    go_ret2
    exact ⟨by unfold unusedI;rw[E.out];rfl,rfl⟩
   ·have HA2:Hid (∀ j,5≤j→j<k+1→S.testBit j=true):=Lib.hid fun j h1 h2=>by
     by_cases e:j=k
     ·rw[e];exact hb
     ·exact HA.out j h1 (by omega)
    clear hb HA
    go_wp2_with fail
    go_round
    case rel=>exact ⟨k+1,by omega,by omega,by go_num,HA2⟩
    case measure=>simp[intOf];omega
  ·obtain rfl:k=9:=by omega
   have E:=Lib.hid (newT_no (S:=S) fun j h1 h2=>HA.out j h1 (by omega))
   go_wp2_with fail
   go_ret2
   exact ⟨by unfold unusedI;rw[E.out];rfl,rfl⟩
set_option maxRecDepth 100000 in
set_option maxHeartbeats 1600000 in
theorem c_impl_newVariable {lo hi:Nat} (v:Value) (a:Asn) (K:Nat) (w:World) (h:AsnV w lo hi v a) (hK:K<512):Calls Tryz.prog 130 #[v,.int .u16 K] w fun e w'=>e=.returned (.tuple #[.int .i64 (unusedI (tset (termsL a)|||K)),.bool (newT (tset (termsL a)|||K)).isSome])∧Below w.heap.size w w':=by
 have hV:=Lib.hid h
 obtain ⟨A1,c1,A2,c2,rfl,-,-⟩:=h
 have HT:=Lib.hid (tset_lt (termsL a))
 have HO:Hid (bits .or .u16 (tset (termsL a):Int) (K:Int)=((tset (termsL a)|||K:Nat):Int)):=Lib.hid (u16_or_nat _ _ (by have:=tset_lt (termsL a);omega) (by omega))
 have HL:Hid (tset (termsL a)|||K<512):=Lib.hid (Nat.or_lt_two_pow (n:=9) (tset_lt _) hK)
 go_enter Tryz.func130,Tryz.ntmps130
 go_wp2_with fail
 refine (c_impl_termsIn _ a _ (hV.out.below bel)).mono ?_
 rintro e w1 ⟨rfl,hB1⟩
 have hB:=bgo (w:=w) bel hB1
 clear hB1
 go_wp2_with fail
 rw[HO.out]
 refine (c_impl_unused _ _ HL.out).mono ?_
 rintro e w2 ⟨rfl,rfl⟩
 go_wp2_with fail
 go_ret2
 exact ⟨rfl,hB⟩
def withoutL (xs:List Atm) (i:Nat):List Atm:=xs.take i++xs.drop (i+1)
def findP (a:Asn) (kind t:Int) (i:Nat):Bool:=match a.atoms[i]? with
 | some x=>decide (x.kind=kind)&&impB a ⟨true,x.a,t⟩
 | none=>false
def findK (a:Asn) (kind t:Int):Option Nat:=(List.range a.atoms.length).find? (findP a kind t)
def findI (a:Asn) (kind t:Int):Int:=match findK a kind t with|some i=>(i:Int)|none=>0
end Go.Proofs.YtjjokmlmknllhaaGreat

/- Exposing cells: the cell of a term moved to the front (impl.exposeCellAt). Printed by genExpB.py. -/
namespace Go.Proofs.YtjjokmlmknllhaaGreat
open Go Go.RowKit Go.Proofs
attribute [local go_sem ↓] Go.wp_at_zero Go.wp_at_succ
def cellX (a:Asn) (x:Atm) (i:Nat) (t:Int):Asn:=⟨a.facts++(if x.a=t then [] else [⟨true,x.a,t⟩]),⟨1,t,x.b⟩ :: withoutL a.atoms i⟩
end Go.Proofs.YtjjokmlmknllhaaGreat

/- Exposing cells; plain. -/
namespace Go.Proofs.YtjjokmlmknllhaaGreat
open Go Go.RowKit Go.Proofs
def emptyX (a:Asn) (x:Atm) (i:Nat):Asn:=⟨a.facts++[⟨true,x.a,x.b⟩],withoutL a.atoms i⟩
def fullX (a:Asn) (x:Atm) (i:Nat) (m:Int):Asn:=⟨a.facts++[⟨false,x.a,x.b⟩],([⟨1,x.a,m⟩]++withoutL a.atoms i)++[⟨2,m,x.b⟩]⟩
def exposeF:Nat→Asn→Int→Nat→Option (List Asn)
 | 0,_,_,_=>none
 | n+1,a,t,K=>
  if a.valid=false then none
  else if consB a=false then some []
  else match findK a 1 t with
   | some i=>if (cellX a (a.atoms[i]?.getD default) i t).valid then some [cellX a (a.atoms[i]?.getD default) i t] else none
   | none=>match findK a 2 t with
    | none=>none
    | some i=>match newT (tset (termsL a)|||tins K t) with
     | none=>none
     | some m=>match exposeF n (emptyX a (a.atoms[i]?.getD default) i) t K with
      | none=>none
      | some l1=>match exposeF n (fullX a (a.atoms[i]?.getD default) i (m:Int)) t K with
       | none=>none
       | some l2=>some (l1++l2)
end Go.Proofs.YtjjokmlmknllhaaGreat

/- Exposing cells: impl.expose by its parts. -/
namespace Go.Proofs.YtjjokmlmknllhaaGreat
open Go Go.RowKit Go.Proofs
attribute [local go_sem ↓] Go.wp_at_zero Go.wp_at_succ
def listF (n:Nat) (a:Asn) (x:Atm) (i:Nat) (t:Int) (K:Nat):Option (List Asn):=
 match newT (tset (termsL a)|||tins K t) with
 | none=>none
 | some m=>match exposeF n (emptyX a x i) t K with
  | none=>none
  | some l1=>match exposeF n (fullX a x i (m:Int)) t K with
   | none=>none
   | some l2=>some (l1++l2)
def ExpC (n:Nat) (a:Asn) (t:Int) (K:Nat):Prop:=∀ (lo hi:Nat) (v:Value) (w:World),AsnC w lo hi v a→hi≤w.heap.size→a.valid=true→
 Calls Tryz.prog 91 #[v,.int .i64 t,.int .u16 K] w fun e w'=>∃ r vs,e=.returned (.tuple #[r,.bool (exposeF n a t K).isSome])∧A2O w' w.heap.size r vs ((exposeF n a t K).getD [])∧Below w.heap.size w w'
def ExpL (n:Nat) (a:Asn) (x:Atm) (i:Nat) (t:Int) (K:Nat):Prop:=∀ (lo hi:Nat) (v:Value) (w:World),AsnC w lo hi v a→hi≤w.heap.size→
 Calls Tryz.prog 157 #[v,.int .i64 i,.int .i64 t,.int .u16 K] w fun e w'=>∃ r vs,e=.returned (.tuple #[r,.bool (listF n a x i t K).isSome])∧A2O w' w.heap.size r vs ((listF n a x i t K).getD [])∧Below w.heap.size w w'
end Go.Proofs.YtjjokmlmknllhaaGreat

/- Exposing cells: impl.exposeListAt. Printed by genExpD2.py. -/
namespace Go.Proofs.YtjjokmlmknllhaaGreat
open Go Go.RowKit Go.Proofs
attribute [local go_sem ↓] Go.wp_at_zero Go.wp_at_succ
section
variable {ops:Array Oper} {o:Oper} {a:Act} {K:Act→World→Prop} {Q:Exit→Act→World→Prop} {E:Prop} {w:World} {base lo hi c n:Nat} {v:Value} {A:Option Addr}
end
end Go.Proofs.YtjjokmlmknllhaaGreat

/- Exposing cells: impl.expose, impl.ExposeCell. -/
namespace Go.Proofs.YtjjokmlmknllhaaGreat
open Go Go.RowKit Go.Proofs
attribute [local go_sem ↓] Go.wp_at_zero Go.wp_at_succ
def exposeR (a:Asn) (t:Int) (ks:List Int):Option (List Asn):=if a.valid&&isTermB t then exposeF 7 a t (tset ks) else none
end Go.Proofs.YtjjokmlmknllhaaGreat

/- Symbolic execution of a basic command; plain. -/
namespace Go.Proofs.YtjjokmlmknllhaaGreat
open Go Go.RowKit Go.Proofs
def forgetF (a:Asn) (x:Int) (K:Nat):Option (Asn×Int):=if (tset (termsL a)).testBit x.toNat then (newT (tset (termsL a)|||K)).map fun n=>(substA x (n:Int) a,(n:Int)) else some (a,x)
def setX (a:Asn) (x p t:Int):Asn:=⟨a.facts++[⟨true,x,swp x p t⟩],a.atoms⟩
def newX (a:Asn) (x:Int):Asn:=⟨a.facts,⟨1,x,0⟩ :: a.atoms⟩
def okX (a:Asn):Option Asn:=if a.valid then some a else none
def assignF (a:Asn) (x t:Int) (K:Nat):Option Asn:=(forgetF a x K).bind fun p=>okX (setX p.1 x p.2 t)
def cellNF (a:Asn) (x:Int) (K:Nat):Option Asn:=(forgetF a x K).bind fun p=>okX (newX p.1 x)
def head0 (a:Asn):Atm:=(a.atoms[0]?).getD default
def storeX (a:Asn) (B:Int):Asn:=⟨a.facts,a.atoms.set 0 ⟨(head0 a).kind,(head0 a).a,B⟩⟩
def freeX (a:Asn):Asn:=⟨a.facts,withoutL a.atoms 0⟩
def accF (k A B:Int) (a:Asn) (K:Nat):Option Asn:=if k=2 then assignF a A (head0 a).b K else if k=3 then some (storeX a B) else some (freeX a)
def mapF (f:Asn→Option Asn):List Asn→Option (List Asn)
 | []=>some []
 | x :: xs=>(f x).bind fun y=>(mapF f xs).map (y :: ·)
def symT (k A B:Int):Int:=if k=2 then B else A
def symB (a:Asn) (k A B:Int) (K:Nat):Option (List Asn):=
 if k=1 then (if A=B then some [a] else (assignF a A B K).map fun x=>[x])
 else if k=4 then (cellNF a A K).map fun x=>[x]
 else (exposeF 7 a (symT k A B) K).bind fun l=>mapF (fun x=>accF k A B x K) l
def keepK (K:Nat) (A B:Int):Nat:=tins (tins K A) B
def symR (a:Asn) (ok:Bool) (k A B:Int) (ks:List Int):Option (List Asn):=if a.valid&&ok then symB a k A B (keepK (tset ks) A B) else none
theorem okX_ok {a b:Asn} (h:okX a=some b):b.valid=true∧b=a:=by
 unfold okX at h
 split at h
 ·rename_i hv;obtain rfl:=Option.some.inj h;exact ⟨hv,rfl⟩
 ·cases h
end Go.Proofs.YtjjokmlmknllhaaGreat

/- Exposing cells: spec.l6Without, functional. -/
namespace Go.Proofs.YtjjokmlmknllhaaGreat
open Go Go.RowKit Go.Proofs
attribute [local go_sem ↓] Go.wp_at_zero Go.wp_at_succ
def wo (xs:List Atm) (i k:Int):Nat→List Atm
 | 0=>[]
 | j+1=>if (j:Int)=i∨(j:Int)=k then wo xs i k j else wo xs i k j++(xs[j]?).toList
end Go.Proofs.YtjjokmlmknllhaaGreat

/- Contracts: the spec's first case, for terms that are terms. -/
namespace Go.Proofs.YtjjokmlmknllhaaGreat
open Go Go.RowKit Go.Proofs
attribute [local go_sem ↓] Go.wp_at_zero Go.wp_at_succ
end Go.Proofs.YtjjokmlmknllhaaGreat

/- Contracts: the spec's Implies. -/
namespace Go.Proofs.YtjjokmlmknllhaaGreat
open Go Go.RowKit Go.Proofs
attribute [local go_sem ↓] Go.wp_at_zero Go.wp_at_succ
end Go.Proofs.YtjjokmlmknllhaaGreat
