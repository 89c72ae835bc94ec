/- Contracts: the spec's cases: filled atoms, the open case. -/
import Derived.Test.YtgdfdmjnadnlnaaGreatCaseS
import Derived.Test.YtgdfdmjnadnlnaaGreatMCov
import Derived.Deep.RegionHeld3
import Derived.Deep.LoopGhost
set_option linter.unusedSimpArgs false
set_option linter.unusedVariables false
set_option maxRecDepth 100000
set_option maxHeartbeats 25600000
namespace Go.Proofs.YtgdfdmjnadnlnaaGreat
section
open Go Go.RowKit Go.Proofs
attribute [local go_sem ↓] Go.wp_at_zero Go.wp_at_succ
theorem c_spec_l5Filled {lo hi lo' hi':Nat} (A B:Option Addr) (c0 c1:Nat) (xs:List Atm) (c:List Int) (w:World) (h:AtomsV w lo hi A xs) (h':IntsV w lo' hi' B c) (hc:c.length=9) (hx:AtomsOk xs) :
  Calls Tryz.prog 244 #[.slice A xs.length c0,.slice B c.length c1] w fun e w'=>∃ r,e=.returned r∧AtomsO w' w.heap.size r (filledL xs c)∧Below w.heap.size w w':=by
 have hl:=h.le;obtain ⟨pb,ob,rfl,lpb⟩:=h'.blt (k:=0) (by omega);have HC:=ax hc;have HX:=ax hx;have H':=ax h';clear hx h';rw[hc];clear hc;(go_enter Tryz.func244,Tryz.ntmps244);(go_wp2_with fail)
 go_loopw [5,6] (fun r i wr=>∃ (k:Nat) (D:Option Addr) (n e:Nat),k≤xs.length∧i=.int .i64 k∧n=(filledL (xs.take k) c).length∧r=.slice D n e∧AtomsO wr w.heap.size (.slice D n e) (filledL (xs.take k) c)∧Below w.heap.size w wr) (fun _ i _=>xs.length - (intOf i).toNat)
 case atStart=>exact ⟨0,some ⟨w.heap.size,0,none⟩,0,0,Nat.zero_le _,rfl,rfl,rfl,AtomsO.empty w,bel⟩
 case round=>
  obtain ⟨k,D,n,e,hkk,rfl,hn,rfl,of,hB⟩:=hrel;have HN:=ax hn
  have hnl:n≤k:=by
   rw[hn];exact Nat.le_trans (filledL_len _ _) (by simp;omega)
  clear hn;by_cases hlt:k<xs.length
  ·obtain ⟨b,off,rfl,hbl⟩:=h.blt hlt;have HH:=ax h;have HT:=ax (filledL_take xs c k hlt);have hxk:=HX.o _ (List.getElem_mem hlt);obtain ⟨x,hxe⟩:∃ x,x=xs[k]:=⟨_,rfl⟩;have HCL:aJ (∀ w':World,Below w.heap.size w w'→w'.cell? ⟨b,off+k*3,none⟩=some (.int .i64 x.kind)∧w'.cell? ⟨b,off+k*3+1,none⟩=some (.int .i64 x.a)∧w'.cell? ⟨b,off+k*3+2,none⟩=some (.int .i64 x.b)):=fun w' hw'=>by rw[hxe];exact (HH.o.bz hw').cl hlt
   rw[←hxe] at HT hxk;clear hxe;obtain ⟨q,xa,xb⟩:=x;dsimp only at hxk HCL;obtain ⟨⟨a1,a2⟩,⟨b1,b2⟩⟩:=hxk;obtain ⟨xa,rfl⟩:=Int.eq_ofNat_of_zero_le a1;obtain ⟨xb,rfl⟩:=Int.eq_ofNat_of_zero_le b1;have ha9:(xa:Int)<9:=by omega
   have hb9:(xb:Int)<9:=by omega
   have HCI:aJ (∀ w':World,Below w.heap.size w w'→w'.cell? ⟨pb,ob+xa,none⟩=some (.int .i64 (cl c xa))∧w'.cell? ⟨pb,ob+xb,none⟩=some (.int .i64 (cl c xb))):=fun w' hw'=>⟨ints_cl (H'.o.bz hw') (by rw[HC.o];omega),ints_cl (H'.o.bz hw') (by rw[HC.o];omega)⟩;have hwz:=hB.size;have hlx:(k:Int)<(xs.length:Int):=by omega
   clear a1 a2 b1 b2 h;have HS:aJ (∀ w':World,Below w.heap.size w w'→(w'.cell? ⟨b,off+k*3,none⟩=some (.int .i64 q)∧w'.cell? ⟨b,off+k*3+1,none⟩=some (.int .i64 xa)∧w'.cell? ⟨b,off+k*3+2,none⟩=some (.int .i64 xb))∧w'.cell? ⟨pb,ob+xa,none⟩=some (.int .i64 (cl c xa))∧w'.cell? ⟨pb,ob+xb,none⟩=some (.int .i64 (cl c xb))):=fun w' hw'=>⟨HCL.o w' hw',HCI.o w' hw'⟩;(go_wp2_with fail);refine wp_region_noPanic ?_;refine wp_region_held_drew (S:=(fun w'=>(w'.cell? ⟨b,off+k*3,none⟩=some (.int .i64 q)∧w'.cell? ⟨b,off+k*3+1,none⟩=some (.int .i64 xa)∧w'.cell? ⟨b,off+k*3+2,none⟩=some (.int .i64 xb))∧w'.cell? ⟨pb,ob+xa,none⟩=some (.int .i64 (cl c xa))∧w'.cell? ⟨pb,ob+xb,none⟩=some (.int .i64 (cl c xb)))) (by kernel_rfl) (HS.o _ bel) (fun aH=>?_);refine tk2 0 rfl aH (h:=tk2 1 rfl aH (h:=tk2 2 rfl aH (h:=?_)));(try simp only[zz]);refine tk2 3 rfl aH (h:=tk2 4 rfl aH (h:=tk2 5 rfl aH (h:=?_)));(try simp only[zz]);refine tk2 6 rfl aH (h:=tk2 7 rfl aH (h:=tk2 8 rfl aH (h:=?_)));(try simp only[zz]);refine tk2 9 rfl aH (h:=tk2 10 rfl aH (h:=tk2 11 rfl aH (h:=?_)));(try simp only[zz]);refine tk2 12 rfl aH (h:=tk2 13 rfl aH (h:=tk2 14 rfl aH (h:=?_)));(try simp only[zz]);refine tk2 15 rfl aH (h:=tk2 16 rfl aH (h:=tk2 17 rfl aH (h:=?_)));(try simp only[zz]);refine tk2 18 rfl aH (h:=tk2 19 rfl aH (h:=tk2 20 rfl aH (h:=?_)));(try simp only[zz]);refine tk2 21 rfl aH (h:=?_);refine rdc 22 rfl fun K hK=>?_;(try simp only[zz]);go_simp;refine hK.out _ _ (HS.o _ bel) ?_;clear aH hK K;intro aH;refine rdc 23 rfl fun K hK=>?_;(try simp only[zz]);go_simp;refine hK.out _ _ (HS.o _ bel) ?_;clear aH hK K;intro aH;(try simp only[zz]);refine dn1 ?_;clear aH;have kx:Blk (wr.alloc (.cells #[.int .i64 q,.int .i64 (cl c xa),.int .i64 (cl c xb)] tA)).drew wr.heap.size tA #[.int .i64 q,.int .i64 (cl c xa),.int .i64 (cl c xb)]:=blks;have hB2:Below w.heap.size w (wr.alloc (.cells #[.int .i64 q,.int .i64 (cl c xa),.int .i64 (cl c xb)] tA)).drew:=bel;have of2:=of.bz (w':=(wr.alloc (.cells #[.int .i64 q,.int .i64 (cl c xa),.int .i64 (cl c xb)] tA)).drew) bel;have hz2:wr.heap.size<(wr.alloc (.cells #[.int .i64 q,.int .i64 (cl c xa),.int .i64 (cl c xb)] tA)).drew.heap.size:=kx.lt;generalize (wr.alloc (.cells #[.int .i64 q,.int .i64 (cl c xa),.int .i64 (cl c xb)] tA)).drew=W2 at kx hB2 of2 hz2 ⊢
   have HF:aJ (∀ s t:Bool,(q == 1)=s→(cl c xa == cl c xb)=t→filledL (xs.take (k+1)) c=filledL (xs.take k) c++if (s || !t) then [⟨q,cl c xa,cl c xb⟩] else []):=by
    intro s t hs ht;rw[HT.o];have:Atm.fill c ⟨q,xa,xb⟩=(s || !t):=by rw[←hs,←ht];rfl
    rw[this];rfl
   have qx:=kx.cell;obtain ⟨u,hu⟩:∃ u,u=cl c xa:=⟨_,rfl⟩;obtain ⟨v,hv⟩:∃ v,v=cl c xb:=⟨_,rfl⟩;rw[←hu,←hv] at kx qx HF ⊢;clear hu hv HT HS HCI HCL of hB;cases hq:(q == 1)
   ·cases hab:(u == v)
    ·have HZ:aJ (filledL (xs.take (k+1)) c=filledL (xs.take k) c++[⟨q,u,v⟩]):=HF.o _ _ hq hab;(go_wp2_with (at_builtin;refine appAL rfl _ _ rfl (v:=.slice D n e) rfl (of2.bz (w':=W2.alloc (.cells #[.int .i64 q,.int .i64 u,.int .i64 v] tA)) bel) rfl (AtomsV.one' (Blk.newE rfl)) (by simp only[List.length_cons,List.length_nil];rw[←HN.o];omega) (by simp;omega) ?_;intro A' c' w2 of3 hg2 hB3))
     go_round
     case rel=>exact ⟨k+1,A',_,c',by omega,by go_num,rfl,by rw[HZ.o];simp,by rw[HZ.o];exact of3,Below.trans (bbox hB2 _) (hB3.mono (Nat.le_refl _))⟩
     case measure=>simp[intOf];omega
    ·have HZ:aJ (filledL (xs.take (k+1)) c=filledL (xs.take k) c++[]):=HF.o _ _ hq hab;(go_wp2_with fail)
     go_round
     case rel=>exact ⟨k+1,D,n,e,by omega,by go_num,by rw[HZ.o,List.append_nil];exact HN.o,rfl,by rw[HZ.o,List.append_nil];exact of2,hB2⟩
     case measure=>simp[intOf];omega
   ·have HZ:aJ (filledL (xs.take (k+1)) c=filledL (xs.take k) c++[⟨q,u,v⟩]):=HF.o _ _ hq rfl;(go_wp2_with (at_builtin;refine appAL rfl _ _ rfl (v:=.slice D n e) rfl (of2.bz (w':=W2.alloc (.cells #[.int .i64 q,.int .i64 u,.int .i64 v] tA)) bel) rfl (AtomsV.one' (Blk.newE rfl)) (by simp only[List.length_cons,List.length_nil];rw[←HN.o];omega) (by simp;omega) ?_;intro A' c' w2 of3 hg2 hB3))
    go_round
    case rel=>exact ⟨k+1,A',_,c',by omega,by go_num,rfl,by rw[HZ.o];simp,by rw[HZ.o];exact of3,Below.trans (bbox hB2 _) (hB3.mono (Nat.le_refl _))⟩
    case measure=>simp[intOf];omega
  ·obtain rfl:k=xs.length:=by omega
   (go_wp2_with fail);go_ret;refine ⟨_,rfl,?_,hB⟩;rw[List.take_length] at of;exact of
theorem opened_take (n:Nat) (h1:1≤n) (h9:n<9):opened.take (n+1)=opened.take n++[-1]:=by
 obtain rfl|rfl|rfl|rfl|rfl|rfl|rfl|rfl:n=1∨n=2∨n=3∨n=4∨n=5∨n=6∨n=7∨n=8:=by omega
 all_goals rfl
theorem c_spec_l5Open (w:World) :
  Calls Tryz.prog 195 #[] w fun e w'=>∃ r,e=.returned r∧IntsO w' w.heap.size r opened∧Below w.heap.size w w':=by
 (go_enter Tryz.func195,Tryz.ntmps195);(go_wp2_with fail)
 go_loopw [1] (fun r wr=>∃ (n:Nat) (D:Option Addr) (e:Nat),1≤n∧n≤9∧r=.slice D n e∧IntsO wr w.heap.size (.slice D n e) (opened.take n)∧Below w.heap.size w wr) (fun r _=>match r with | .slice _ n _=>9 - n|_=>0)
 case atStart=>exact ⟨1,some ⟨w.heap.size,0,none⟩,1,by omega,by omega,rfl,IntsO.one w 0 (Nat.le_refl _),bel⟩
 case round=>
  obtain ⟨n,D,e,h1,h9,rfl,o,hB⟩:=hrel;have hwz:=hB.size;by_cases hlt:n<9
  ·have hn8:(n:Int)≤8:=by omega
   have HT:=ax (opened_take n h1 hlt);have hll:aJ ((opened.take n).length=n):=by show _=_;rw[List.length_take];show min n 9=n;omega
   have o1:=o.bz (w':=wr.alloc (.cells #[.int .i64 (-1)] tI)) bel;(go_wp2_with (at_builtin;refine appI rfl _ _ rfl (v:=.slice D n e) rfl o1 wr.heap.size (-1) rfl (cell_box _ _ _) (by rw[hll.o];omega) (by simp;omega) ?_;intro g cc w2 o2 hg2 hB3;rw[hll.o,←HT.o] at o2;rw[hll.o]))
   go_round
   case rel=>exact ⟨n+1,_,_,by omega,by omega,rfl,o2,Below.trans bel hB3⟩
   case measure=>simp;omega
  ·obtain rfl:n=9:=by omega
   (go_wp2_with fail);go_ret;exact ⟨_,rfl,o,hB⟩
theorem IntsO.open_ {w:World} {base:Nat} {A:Option Addr} {n c k:Nat} {fs:List Int} (h:IntsO w base (.slice A n c) fs) (hk:k<fs.length):∃ g cur,n=fs.length∧A=some ⟨g,0,none⟩∧base≤g∧Blk w g tI cur∧cur[k]? = some (.int .i64 fs[k])∧
  (∀ v:Int,IntsO (w.setCell ⟨g,k,none⟩ (.int .i64 v)) base (.slice A n c) (fs.set k v)):=by
 obtain ⟨⟨hl,h2⟩,hL⟩:=h;rcases h2 with ⟨e,hn⟩|⟨g,cap,cur,e,hb,hh,hn,hm,hs,ht⟩
 ·omega
 ·injection e with e1 e2 e3;subst e1 e2 e3;have hK:Blk w g tI cur:=hh
  have hP:Pre cur (encI fs) (fs.length * 1):=by
   intro j hj;rw[←ht,List.getElem?_take,if_pos hj];simp
  refine ⟨g,cur,rfl,rfl,hb,hK,(hP _ (by omega)).trans (by simp[List.getElem?_eq_getElem hk]),?_⟩;intro v;refine ⟨?_,by rw[List.length_set];exact hL⟩;rw[show encI (fs.set k v)=(encI fs).set k (.int .i64 v) from by simp[encI,List.map_set],List.length_set];exact own_of_blk (hK.set_ k (.int .i64 v)) hb (by rw[List.length_set,hl]) (hP.setL k (.int .i64 v) (by rw[hs];exact Nat.mul_le_mul hn (Nat.le_refl _)) (by rw[hl];exact Nat.le_refl _)) hn hm (by simpa using hs)
def seekAt (a:Asn) (S n:Nat) (c:List Int) (k:Nat):List (List Int):=if k<8 - n∧cl c k≠k then [] else seek a S n (c.set (8 - n) k)
theorem seek_cut {a:Asn} {S:Nat} (n:Nat) {c:List Int} (h:(fitsS c a.facts&&earlyF c [] a.atoms)=false):seek a S n c=[]:=by
 cases n<;>(unfold seek;rw[h];rfl)
theorem seek_leaf {a:Asn} {S:Nat} {c:List Int} (h:(fitsS c a.facts&&earlyF c [] a.atoms)=true):seek a S 0 c=if apartF [] (filledL a.atoms c) then [c] else []:=by
 unfold seek;rw[h,if_pos rfl]
theorem seek_step {a:Asn} {S n:Nat} {c:List Int} (h:(fitsS c a.facts&&earlyF c [] a.atoms)=true):seek a S (n+1) c=if S.testBit (8 - n) then (List.range (9 - n)).flatMap (seekAt a S n c) else seek a S n c:=by
 conv=>lhs;unfold seek
 rw[h,if_pos rfl];rfl
theorem flatMap_first {α:Type} {f:Nat→List α} {k N:Nat} (hk:k<N) (h:(List.range k).flatMap f=[]) (hne:f k≠[]):∃ y,(f k).head? = some y∧((List.range N).flatMap f).head? = some y:=by
 obtain ⟨m,rfl⟩:∃ m,N=k+(m+1):=⟨N - k - 1,by omega⟩;rw[List.range_add,List.range_succ_eq_map,List.map_cons,List.flatMap_append,List.flatMap_cons,Nat.add_zero,h,List.nil_append]
 cases e:f k with
 | nil=>exact absurd e hne
 | cons y ys=>exact ⟨y,rfl,rfl⟩
def firstI (L:List (List Int)):List Int:=L.head?.getD []
theorem c_fits9 {lo hi lo' hi':Nat} (A B:Option Addr) (c0 c1:Nat) (fs:List Fct) (c:List Int) (w:World) (h:FactsV w lo hi A fs) (h':IntsV w lo' hi' B c) (hc:c.length=9) (hf:FactsOk fs) :
  Calls Tryz.prog 241 #[.slice A fs.length c0,.slice B 9 c1] w fun e w'=>e=.returned (.bool (fitsS c fs))∧w=w':=by
 have:=c_spec_l5Fits A B c0 c1 fs c w h h' hc hf;rwa [hc] at this
theorem c_early9 {lo hi lo' hi':Nat} (A B:Option Addr) (c0 c1:Nat) (xs:List Atm) (c:List Int) (w:World) (h:AtomsV w lo hi A xs) (h':IntsV w lo' hi' B c) (hc:c.length=9) (hx:AtomsOk xs) (hcl:∀ x∈xs,cl c x.a≤8) :
  Calls Tryz.prog 242 #[.slice A xs.length c0,.slice B 9 c1] w fun e w'=>e=.returned (.bool (earlyF c [] xs))∧Below w.heap.size w w':=by
 have:=c_spec_l5Early A B c0 c1 xs c w h h' hc hx hcl;rwa [hc] at this
theorem c_filled9 {lo hi lo' hi':Nat} (A B:Option Addr) (c0 c1:Nat) (xs:List Atm) (c:List Int) (w:World) (h:AtomsV w lo hi A xs) (h':IntsV w lo' hi' B c) (hc:c.length=9) (hx:AtomsOk xs) :
  Calls Tryz.prog 244 #[.slice A xs.length c0,.slice B 9 c1] w fun e w'=>∃ r,e=.returned r∧AtomsO w' w.heap.size r (filledL xs c)∧Below w.heap.size w w':=by
 have:=c_spec_l5Filled A B c0 c1 xs c w h h' hc hx;rwa [hc] at this
theorem c_spec_l5FirstG {a:Asn} {S lo hi lo2 hi2:Nat} {A1 A2:Option Addr} {d1 d2:Nat} (T:Option Addr) (tc:Nat) (hOK:aJ (FactsOk a.facts∧AtomsOk a.atoms)) (hvl0:aJ (a.facts.length≤40∧a.atoms.length≤6)) :
  ∀ (n:Nat) (c:List Int) (B:Option Addr) (cc lo' hi':Nat) (w:World),n≤8→c.length=9→(∀ j:Nat,j<9 - n→S.testBit j=true→0≤cl c j∧cl c j≤j)→(∀ j:Nat,j<9→cl c j≤8)→
   AsnV w lo hi (.agg #[.slice A1 a.facts.length d1,.slice A2 a.atoms.length d2]) a→BoolsV w lo2 hi2 T (flagsOf S)→IntsV w lo' hi' B c→
   Calls Tryz.prog 216 #[.agg #[.slice A1 a.facts.length d1,.slice A2 a.atoms.length d2],.slice T 9 tc,.slice B 9 cc,.int .i64 ((9 - n:Nat):Int)] w fun e w'=>
    ∃ r,e=.returned (.tuple #[r,.bool (!(seek a S n c).isEmpty)])∧IntsO w' w.heap.size r (firstI (seek a S n c))∧Below w.heap.size w w':=by
 intro n
 induction n with
 | zero=>
  intro c B cc lo' hi' w hn hc _ hc8 hA hT hI;have HO:=hOK;have hV:=ax hA;have HC:=ax hc;have HI:=ax hI
  have HCL:aJ (∀ x∈a.atoms,cl c x.a≤8):=fun x hx=>by
   have:=(HO.o.2 x hx).1;obtain ⟨t,et⟩:=Int.eq_ofNat_of_zero_le this.1;rw[et];exact hc8 t (by omega)
  obtain ⟨B1,e1,B2,e2,he,h1,h2⟩:=hA;injection he with he;injection he with he;injection he with he1 he2;injection he2 with he2 he3;injection he1 with he1 _ he4;injection he2 with he2 _ he5;subst he1 he4 he2 he5;have H1:=ax h1;have H2:=ax h2;have hvl:=hvl0.o;clear h1 h2 hc hc8 hT hI he3;(go_enter Tryz.func216,Tryz.ntmps216);(go_wp2_with fail);refine (c_fits9 A1 B d1 cc a.facts c _ (H1.o.bz bel) (HI.o.bz bel) HC.o HO.o.1).mono ?_;rintro e w1 ⟨rfl,rfl⟩;cases hf:fitsS c a.facts
  ·have E:=ax (seek_cut (a:=a) (S:=S) 0 (c:=c) (by rw[hf];rfl));clear hf;(go_wp2_with fail);go_ret2;exact ⟨_,by rw[E.o];rfl,by rw[E.o];exact IntsO.lower (IntsO.empty _ (by simp)) (by simp),bel⟩
  have HF:=ax hf;clear hf;(go_wp2_with fail);refine (c_early9 A2 B d2 cc a.atoms c _ (H2.o.bz bel) (HI.o.bz bel) HC.o HO.o.2 HCL.o).mono ?_;rintro e w2 ⟨rfl,hB2⟩;have hB:Below w.heap.size w w2:=bgo (w:=w) bel hB2;have k0:Blk w2 w.heap.size tAs #[.slice A1 a.facts.length d1,.slice A2 a.atoms.length d2]:=Blk.nz blks hB2;have q0:=k0.cell;have l0:=k0.lt;clear hB2;cases he:earlyF c [] a.atoms
  ·have E:=ax (seek_cut (a:=a) (S:=S) 0 (c:=c) (by rw[HF.o,he];rfl));clear he;(go_wp2_with fail);go_ret2;exact ⟨_,by rw[E.o];rfl,by rw[E.o];exact IntsO.lower (IntsO.empty _ rfl) (by omega),bel⟩
  have E0:=ax (seek_leaf (a:=a) (S:=S) (c:=c) (by rw[HF.o,he];rfl));clear he;(go_wp2_with fail);refine (c_filled9 A2 B d2 cc a.atoms c _ (H2.o.bz hB) (HI.o.bz hB) HC.o HO.o.2).mono ?_;rintro e w3 ⟨r3,rfl,o3,hB3⟩;obtain ⟨R3,e3,rfl,v3⟩:=o3.reads;have hBB:Below w.heap.size w w3:=bgo hB hB3;(go_wp2_with fail);refine (c_spec_l5Apart R3 e3 (filledL a.atoms c) _ v3).mono ?_;rintro e w4 ⟨rfl,hB4⟩;have hB5:Below w.heap.size w w4:=bgo hBB hB4;have hz:=hB5.size;clear o3 v3 hB3 hB4 hBB q0 l0 k0 hB;cases hap:apartF [] (filledL a.atoms c)
  ·have E:=ax (show seek a S 0 c=[] by rw[E0.o,hap];rfl);clear hap;(go_wp2_with fail);go_ret2;exact ⟨_,by rw[E.o];rfl,by rw[E.o];exact IntsO.lower (IntsO.empty _ rfl) (by omega),bel⟩
  ·have E:=ax (show seek a S 0 c=[c] by rw[E0.o,hap];rfl);clear hap;(go_wp2_with (at_builtin;refine appIL (ys:=c) rfl _ _ rfl (v:=.slice (some ⟨w4.heap.size,0,none⟩) 0 0) rfl (IntsO.empty w4 rfl) (by rw[HC.o];rfl) (HI.o.bz bel) (by rw[HC.o];simp) (by simp) ?_;intro A' c' w5 o5 hg5 hB6;rw[List.nil_append,HC.o]));go_ret2;exact ⟨_,by rw[E.o];rfl,by rw[E.o];rw[List.nil_append,HC.o] at o5;exact o5.lower hz,Below.trans bel (hB6.mono hz)⟩
 | succ n ih=>
  intro c B cc lo' hi' w hn hc hcl hc8 hA hT hI;have HO:=hOK;have hV:=ax hA;have HC:=ax hc;have HI:=ax hI;have HTT:=ax hT;have HC8:=ax hc8;have HCL0:=ax hcl;have IH:=ax ih
  have HCL:aJ (∀ x∈a.atoms,cl c x.a≤8):=fun x hx=>by
   have:=(HO.o.2 x hx).1;obtain ⟨t,et⟩:=Int.eq_ofNat_of_zero_le this.1;rw[et];exact hc8 t (by omega)
  obtain ⟨B1,e1,B2,e2,he,h1,h2⟩:=hA;injection he with he;injection he with he;injection he with he1 he2;injection he2 with he2 he3;injection he1 with he1 _ he4;injection he2 with he2 _ he5;subst he1 he4 he2 he5;have H1:=ax h1;have H2:=ax h2;obtain ⟨tb,tz0,rfl,ltb⟩:=flags_addr hT;obtain ⟨pb,ob,rfl,lpb⟩:=hI.blt (k:=0) (by omega);obtain ⟨m,hm8⟩:∃ m,m=8 - n:=⟨_,rfl⟩;have E1:aJ (((9 - n:Nat):Int)=(m:Int)+1):=by show _=_;omega
  rw[show 9 - (n+1)=m from by omega] at HCL0 ⊢;have HM8:=ax hm8;have HN:=ax hn;have hmg:¬(8<(m:Int)):=by omega
  have hmi9:(m:Int)<9:=by omega
  clear h1 h2 hc hc8 hcl hT hI he3 ih hm8 hn;(go_enter Tryz.func216,Tryz.ntmps216);(go_wp2_with fail);refine (c_fits9 A1 _ d1 cc a.facts c _ (H1.o.bz bel) (HI.o.bz bel) HC.o HO.o.1).mono ?_;rintro e w1 ⟨rfl,rfl⟩;cases hf:fitsS c a.facts
  ·have E:=ax (seek_cut (a:=a) (S:=S) (n+1) (c:=c) (by rw[hf];rfl));clear hf;(go_wp2_with fail);go_ret2;exact ⟨_,by rw[E.o];rfl,by rw[E.o];exact IntsO.lower (IntsO.empty _ (by simp)) (by simp),bel⟩
  have HF:=ax hf;clear hf;(go_wp2_with fail);refine (c_early9 A2 _ d2 cc a.atoms c _ (H2.o.bz bel) (HI.o.bz bel) HC.o HO.o.2 HCL.o).mono ?_;rintro e w2 ⟨rfl,hB2⟩;have hB:Below w.heap.size w w2:=bgo (w:=w) bel hB2;have k0:Blk w2 w.heap.size tAs #[.slice A1 a.facts.length d1,.slice A2 a.atoms.length d2]:=Blk.nz blks hB2;have q0:=k0.cell;have l0:=k0.lt;clear hB2;cases he:earlyF c [] a.atoms
  ·have E:=ax (seek_cut (a:=a) (S:=S) (n+1) (c:=c) (by rw[HF.o,he];rfl));clear he;(go_wp2_with fail);go_ret2;exact ⟨_,by rw[E.o];rfl,by rw[E.o];exact IntsO.lower (IntsO.empty _ rfl) (by omega),bel⟩
  have E0:=ax (seek_step (a:=a) (S:=S) (n:=n) (c:=c) (by rw[HF.o,he];rfl));clear he;have qt:=flags_at (HTT.o.bz hB) (m:=m) (by omega);cases ht:S.testBit m
  ·rw[ht] at qt;have E:aJ (seek a S (n+1) c=seek a S n c):=by show _=_;rw[E0.o,←HM8.o,ht];rfl
   have ih1:=IH.o c _ cc _ _ w2 (by have:=HN.o;omega) HC.o (fun j hj hS=>by
    by_cases e:j=m
    ·subst e;rw[ht] at hS;cases hS
    ·exact HCL0.o j (by have:=HM8.o;have:=HN.o;omega) hS) HC8.o (hV.o.bz hB) (HTT.o.bz hB) (HI.o.bz hB)
   rw[E1.o] at ih1;have IH1:=ax ih1;clear ih1 ht;(go_wp2_with fail);refine IH1.o.mono ?_;rintro e w3 ⟨r,rfl,o3,hB3⟩;have O3:=ax o3;have hz:=hB.size;clear o3;(go_wp2_with fail);go_ret2;exact ⟨r,by rw[E.o];rfl,by rw[E.o];exact O3.o.lower hz,bgo hB hB3⟩
  ·rw[ht] at qt;have E:aJ (seek a S (n+1) c=(List.range (9 - n)).flatMap (seekAt a S n c)):=by show _=_;rw[E0.o,←HM8.o,ht];rfl
   clear ht;(go_wp2_with fail)
   go_loopw [10] (fun i wr=>∃ k:Nat,k≤m+1∧i=.int .i64 k∧aJ ((List.range k).flatMap (seekAt a S n c)=[])∧Blk wr w.heap.size tAs #[.slice A1 a.facts.length d1,.slice A2 a.atoms.length d2]∧Below w.heap.size w wr) (fun i _=>9 - (intOf i).toNat)
   case atStart=>exact ⟨0,Nat.zero_le _,rfl,rfl,k0,hB⟩
   case round=>
    clear k0 hB q0 l0 qt;obtain ⟨k,hk,rfl,HP,k0,hB⟩:=hrel;have q0:=k0.cell;have l0:=k0.lt;have hz:=hB.size;by_cases hlt:k≤m
    ·have hki:(k:Int)≤(m:Int):=by omega
     have hk9:(k:Int)<9:=by omega
     have hkc:=ints_cl (HI.o.bz hB) (m:=k) (by rw[HC.o];omega);have HNX:aJ ((List.range (k+1)).flatMap (seekAt a S n c)=seekAt a S n c k):=by show _=_;rw[List.range_succ,List.flatMap_append,HP.o];simp
     by_cases hskip:k<m∧cl c k≠k
     ·have HX:aJ (seekAt a S n c k=[]):=by show _=_;rw[seekAt,if_pos (by rw[←HM8.o];exact hskip)]
      have hkm:(k:Int)<(m:Int):=by omega
      have hne:(cl c k != (k:Int))=true:=by simpa using hskip.2
      clear hskip hki hlt;(go_wp2_with fail)
      go_round
      case rel=>exact ⟨k+1,by omega,by go_num,by show _=_;rw[HNX.o,HX.o],k0,hB⟩
      case measure=>simp[intOf];omega
     ·have hsk2:k<m→(cl c k != (k:Int))=false:=fun h=>by
       cases Int.decEq (cl c k) k with
       | isTrue h=>simp[h]
       | isFalse h'=>exact absurd ⟨h,h'⟩ hskip
      have HX:aJ (seekAt a S n c k=seek a S n (c.set m k)):=by
       show _=_;rw[seekAt,←HM8.o,if_neg hskip]
      clear hskip;have hcs:(c.set m (k:Int)).length=9:=by simpa using HC.o
      have HCS:=ax hcs
      have hcl':∀ j:Nat,j<9 - n→S.testBit j=true→0≤cl (c.set m (k:Int)) j∧cl (c.set m (k:Int)) j≤j:=fun j hj hSj=>by
       have:=HM8.o;have:=HN.o;rw[cl_set HC.o (by omega) _ (by omega)]
       split
       ·omega
       ·exact HCL0.o j (by omega) hSj
      have HCL':=ax hcl'
      have hc8':∀ j:Nat,j<9→cl (c.set m (k:Int)) j≤8:=fun j hj=>by
       rw[cl_set HC.o (by omega) _ (by omega)]
       split
       ·omega
       ·exact HC8.o j hj
      have HC8':=ax hc8';clear hcl' hc8' hcs;obtain hkm|hkm:k<m∨k=m:=by omega
      case' inl=>have h1:(k:Int)<(m:Int):=by omega
      case' inl=>have h2:=hsk2 hkm
      case' inr=>have h1:¬(k:Int)<(m:Int):=by omega
      all_goals
       clear hkm hsk2;(go_wp2_with (at_builtin;refine appIL (ys:=c) (base:=wr.heap.size) rfl _ _ rfl (v:=.slice (some ⟨wr.heap.size,0,none⟩) 0 0) rfl (IntsO.empty wr rfl) (by rw[HC.o];rfl) (HI.o.bz bel) (by rw[HC.o];simp) (by simp) ?_;intro A' c' w5 o5 hg5 hB6;rw[List.nil_append,HC.o] at o5 ⊢;obtain ⟨g,cur,-,rfl,hgb,kg,hcm,hset⟩:=o5.open_ (k:=m) (by rw[HC.o];omega);have qg:=(kg.cell m).trans hcm;have rg:=kg.frozen;have lg:=kg.lt;have HSET:=ax (hset k);have k5:=Blk.bz (g:=w.heap.size) (w:=wr.alloc (.cells #[] tI)) (k0.alloc _) hB6 l0;have hB5:Below w.heap.size w w5:=Below.trans bel (hB6.mono (by omega));have k6:=k5.far (p:=⟨g,m,none⟩) (by simp only;omega) (.int .i64 k);have q6:=k6.cell;clear hset o5 kg hcm q0 hg5));have hB7:Below w.heap.size w (w5.setCell ⟨g,m,none⟩ (.int .i64 k)):=hB5.setCell (p:=⟨g,m,none⟩) (by simp only;omega) _;have hz7:=hB7.size;have v7:=HSET.o.readsI.2;have ih1:=IH.o (c.set m (k:Int)) _ c' _ _ _ (by have:=HN.o;omega) HCS.o HCL'.o HC8'.o (hV.o.bz hB7) (HTT.o.bz hB7) v7;rw[E1.o] at ih1;refine ih1.mono ?_;clear ih1 v7 q6 k5 qg rg;rintro e w8 ⟨r,rfl,o8,hB8⟩;have O8:=ax o8;have k8:=k6.nz hB8;have hBn:=bgo hB7 hB8;clear o8 hB8 k6 hB7 hB5 hB6;cases hem:(seek a S n (c.set m (k:Int))).isEmpty
       ·have hne:seekAt a S n c k≠[]:=by rw[HX.o];intro h;rw[h] at hem;cases hem
        obtain ⟨y,y1,y2⟩:=flatMap_first (N:=9 - n) (by have:=HM8.o;have:=HN.o;omega) HP.o hne;rw[HX.o] at y1
        have E2:aJ ((seek a S (n+1) c).isEmpty=false∧firstI (seek a S (n+1) c)=firstI (seek a S n (c.set m (k:Int)))):=by
         refine ⟨?_,?_⟩
         ·rw[E.o]
          cases h:(List.range (9 - n)).flatMap (seekAt a S n c) with
          | nil=>rw[h] at y2;cases y2
          | cons _ _=>rfl
         ·unfold firstI;rw[E.o,y1,y2]
        clear hem hne y1 y2;(go_wp2_with fail);go_ret2;exact ⟨r,by rw[E2.o.1];rfl,by rw[E2.o.2];exact O8.o.lower hz7,hBn⟩
       ·have HX2:aJ (seekAt a S n c k=[]):=by show _=_;rw[HX.o];simpa using hem
        clear hem;(go_wp2_with fail)
        go_round
        case rel=>exact ⟨k+1,by omega,by go_num,by show _=_;rw[HNX.o,HX2.o],k8,hBn⟩
        case measure=>simp[intOf];omega
    ·obtain rfl:k=m+1:=by omega
     have E2:aJ (seek a S (n+1) c=[]):=by show _=_;rw[E.o,show 9 - n=m+1 from by have:=HM8.o;have:=HN.o;omega];exact HP.o
     (go_wp2_with fail);go_ret2;exact ⟨_,by rw[E2.o];rfl,by rw[E2.o];exact IntsO.lower (IntsO.empty _ rfl) (by omega),bel⟩
theorem c_spec_l5First {a:Asn} {S lo hi lo2 hi2:Nat} {A1 A2:Option Addr} {d1 d2:Nat} (T:Option Addr) (tc:Nat) (hv:a.valid=true) :
  ∀ (n:Nat) (c:List Int) (B:Option Addr) (cc lo' hi':Nat) (w:World),n≤8→c.length=9→(∀ j:Nat,j<9 - n→S.testBit j=true→0≤cl c j∧cl c j≤j)→(∀ j:Nat,j<9→cl c j≤8)→
   AsnV w lo hi (.agg #[.slice A1 a.facts.length d1,.slice A2 a.atoms.length d2]) a→BoolsV w lo2 hi2 T (flagsOf S)→IntsV w lo' hi' B c→
   Calls Tryz.prog 216 #[.agg #[.slice A1 a.facts.length d1,.slice A2 a.atoms.length d2],.slice T 9 tc,.slice B 9 cc,.int .i64 ((9 - n:Nat):Int)] w fun e w'=>
    ∃ r,e=.returned (.tuple #[r,.bool (!(seek a S n c).isEmpty)])∧IntsO w' w.heap.size r (firstI (seek a S n c))∧Below w.heap.size w w':=
 c_spec_l5FirstG T tc (ax (Asn.valid_ok hv)) (ax (by have:=valid_len hv;omega))
theorem openedB:(∀ j:Nat,j<9→cl opened j≤8)∧∀ (S:Nat) (j:Nat),j<9 - 8→S.testBit j=true→0≤cl opened j∧cl opened j≤j:=by
 refine ⟨fun j hj=>?_,fun S j hj _=>?_⟩
 ·obtain rfl|rfl|rfl|rfl|rfl|rfl|rfl|rfl|rfl:j=0∨j=1∨j=2∨j=3∨j=4∨j=5∨j=6∨j=7∨j=8:=by omega
  all_goals decide
 ·obtain rfl:j=0:=by omega
  decide
theorem seek_congr (a:Asn) {S S':Nat} (h:∀ j,1≤j→j<9→S.testBit j=S'.testBit j):∀ (n:Nat) (c:List Int),n≤8→seek a S n c=seek a S' n c:=by
 intro n
 induction n with
 | zero=>intro c _;rfl
 | succ n ih=>
  intro c hn;unfold seek;rw[h (8 - n) (by omega) (by omega)];have e:∀ c',seek a S n c'=seek a S' n c':=fun c'=>ih c' (by omega)
  split
  ·split
   ·apply flatMap_congr';intro k _;rw[e]
   ·exact e _
  ·rfl
theorem seek_caseS {a:Asn} (hv:a.valid=true) (F S:Nat) (h:∀ j,1≤j→j<9→S.testBit j=(caseS a F).testBit j):seek a S 8 opened=cases a (caseS a F):=by
 rw[seek_congr a h 8 opened (by omega)];exact seek_cases (Asn.valid_ok hv).1 (Asn.valid_ok hv).2 (caseS_zero a F) (caseS_not hv F)
theorem seek_terms {a:Asn} (hv:a.valid=true):seek a (tset (termsL a)) 8 opened=cases a (caseS a 0):=by
 refine seek_caseS hv 0 _ fun j h1 h2=>?_;rw[caseS_bit,tset_bit];have:¬j=0:=by omega
 simp[this]
theorem c_spec_Consistent {lo hi:Nat} (v:Value) (a:Asn) (w:World) (h:AsnV w lo hi v a) :
  Calls Tryz.prog 166 #[v] w fun e w'=>e=.returned (.bool (a.valid && !(cases a (caseS a 0)).isEmpty))∧Below w.heap.size w w':=by
 have hV:=ax h;obtain ⟨A1,c1,A2,c2,rfl,-,-⟩:=h;(go_enter Tryz.func166,Tryz.ntmps166);(go_wp2_with fail);refine (c_spec_AssertionValid _ a _ (hV.o.bz bel)).mono ?_;rintro e w1 ⟨rfl,hB1⟩;have k0:Blk w1 w.heap.size tAs #[.slice A1 a.facts.length c1,.slice A2 a.atoms.length c2]:=Blk.nz blks hB1;have hB:Below w.heap.size w w1:=bgo (w:=w) bel hB1;clear hB1;have q0:=k0.cell;have l0:=k0.lt;cases hv:a.valid
 ·(go_wp2_with fail);go_ret;exact ⟨ret_bool (by simp[hv]),hB⟩
 ·have HV:=ax hv;have HT:=ax (termsL_ok hv);have HS:=ax (seek_terms hv);have HOP:=ax openedB;clear hv;(go_wp2_with fail);refine wp_region_noPanic ?_;refine wp_region_held_drew (S:=(fun w'=>∀ i,w'.cell? ⟨w.heap.size,i,none⟩=#[.slice A1 a.facts.length c1,.slice A2 a.atoms.length c2][i]?)) (by kernel_rfl) (Blk.cell blks) (fun aH=>?_);refine tk2 0 rfl aH (h:=tk2 1 rfl aH (h:=?_));refine rdc 2 rfl fun K hK=>?_;(try simp only[zz]);(go_simp;refine (c_spec_l3Terms _ a _ (hV.o.bz bel) HT.o).mono ?_;rintro e w3 ⟨r3,rfl,o3,hB3⟩;obtain ⟨Tb,ct,rfl,fT⟩:=o3.reads;rw[flagsOf_length];have hB':=bgo (w:=w) bel hB3;replace k0:=Blk.nz (g:=w.heap.size) blks hB3);refine hK.out _ _ (Blk.cell blks) ?_;clear aH hK K;intro aH;refine rdc 3 rfl fun K hK=>?_;(try simp only[zz]);(go_simp;refine (c_spec_l5Open _).mono ?_;rintro e w4 ⟨r4,rfl,o4,hB4⟩;obtain ⟨Cb,cc,rfl,fC⟩:=o4.reads;have hB2:=bgo hB' hB4;have fT4:=fT.bz hB4;replace k0:=Blk.nz (g:=w.heap.size) blks hB4);refine hK.out _ _ (Blk.cell blks) ?_;clear aH hK K;intro aH;refine rdc 4 rfl fun K hK=>?_;(try simp only[zz]);(go_simp;refine (c_spec_l5First Tb ct HV.o 8 opened Cb cc _ _ _ (by omega) rfl (HOP.o.2 _) HOP.o.1 (hV.o.bz bel) (fT4.bz bel) (fC.bz bel)).mono ?_;rintro e w5 ⟨r5,rfl,o5,hB5⟩;have hB6:=bgo (w:=w) bel hB5;replace k0:=Blk.nz (g:=w.heap.size) blks hB5);refine hK.out _ _ (Blk.cell blks) ?_;clear aH hK K;intro aH;(try simp only[zz]);refine tk2 5 rfl aH (h:=tk2 6 rfl aH (h:=tk2 7 rfl aH (h:=?_)));(try simp only[zz]);refine tk2 8 rfl aH (h:=tk2 9 rfl aH (h:=?_));(try simp only[zz]);refine dn1 ?_;(go_wp2_with fail);go_ret;exact ⟨ret_bool (by rw[HS.o,HV.o];rfl),bel⟩
def addF (a:Asn) (f:Fct):Asn:=⟨a.facts++[f],a.atoms⟩
theorem c_impl_withFact {lo hi:Nat} (v:Value) (a:Asn) (f:Fct) (w:World) (h:AsnV w lo hi v a) (hn:a.facts.length+1≤1049600) :
  Calls Tryz.prog 202 #[v,f.val] w fun e w'=>∃ r,e=.returned r∧AsnO w' w.heap.size r (addF a f)∧Below w.heap.size w w':=by
 obtain ⟨A1,c1,A2,c2,rfl,h1,h2⟩:=h;have l2:=h2.le;(go_enter Tryz.func202,Tryz.ntmps202);obtain ⟨k0,k1,k2⟩:=blk3 w 36 61 36 #[.slice A1 a.facts.length c1,.slice A2 a.atoms.length c2] #[.bool f.eq,.int .i64 f.a,.int .i64 f.b] #[.slice none 0 0,.slice none 0 0];(go_wp2_with fail);refine wp_region_noPanic ?_;refine wp_region_held_drew (S:=(fun w'=>(∀ i,w'.cell? ⟨w.heap.size,i,none⟩=#[.slice A1 a.facts.length c1,.slice A2 a.atoms.length c2][i]?)∧(∀ i,w'.cell? ⟨w.heap.size+1,i,none⟩=#[.bool f.eq,.int .i64 f.a,.int .i64 f.b][i]?))) (by kernel_rfl) (⟨Blk.cell blks,Blk.cell blks⟩) (fun aH=>?_);refine tk2 0 rfl aH (h:=tk2 1 rfl aH (h:=tk2 2 rfl aH (h:=?_)));(try simp only[zz]);refine tk2 5 rfl aH (h:=tk2 6 rfl aH (h:=?_));refine rdc 3 rfl fun K hK=>?_;(try simp only[zz]);go_simp;refine hK.out _ _ (⟨Blk.cell blks,Blk.cell blks⟩) ?_;clear aH hK K;intro aH;refine rdc 4 rfl fun K hK=>?_;(try simp only[zz]);(go_simp;refine (c_joinF A1 _ c1 1 a.facts [f] _ (h1.bz bel) (FactsV.one (f:=f) blks) (by simpa using hn)).mono ?_;rintro e w1 ⟨r1,rfl,o1,hB1⟩;obtain ⟨F1,e1,rfl,-⟩:=o1.reads;have hB:=bgo (w:=w) bel hB1;replace k0:=Blk.nz (g:=w.heap.size) blks hB1;replace k1:=Blk.nz (g:=w.heap.size+1) blks hB1;replace k2:=Blk.nz (g:=w.heap.size+1+1) blks hB1);refine hK.out _ _ (⟨Blk.cell blks,Blk.cell blks⟩) ?_;clear aH hK K;intro aH;refine rdc 7 rfl fun K hK=>?_;(try simp only[zz]);(go_simp;refine (c_joinA A2 none c2 0 a.atoms [] _ (h2.bz bel) (Rd.nil _ 0 0 _ _) (by simpa using l2)).mono ?_;rintro e w2 ⟨r2,rfl,o2,hB2⟩;obtain ⟨F2,e2,rfl,-⟩:=o2.reads;have hBB:=bgo hB hB2;have o1':=o1.bz hB2;replace k0:=Blk.nz (g:=w.heap.size) blks hB2;replace k1:=Blk.nz (g:=w.heap.size+1) blks hB2;replace k2:=Blk.nz (g:=w.heap.size+1+1) blks hB2;have q2:=k2.cell;have f2:=k2.frozen);refine hK.out _ _ (⟨Blk.cell blks,Blk.cell blks⟩) ?_;clear aH hK K;intro aH;(try simp only[zz]);refine tk2 8 rfl aH (h:=?_);refine rdc 9 rfl fun K hK=>?_;(try simp only[zz]);go_simp;refine hK.out _ _ (⟨Blk.cell blks,Blk.cell blks⟩) ?_;clear aH hK K;intro aH;(try simp only[zz]);refine dn1 ?_;clear aH;(go_wp2_with fail);have p1:=o1'.lower (base':=w.heap.size) (by (try simp)<;>omega);have p2:=o2.lower (base':=w.heap.size) hB.size;rw[show (a.facts++[f]).length=a.facts.length+1 from by simp] at p1;rw[List.append_nil] at p2;refine bodyPost_ret (v:=.agg #[.slice F1 (a.facts.length+1) e1,.slice F2 a.atoms.length e2]) (by simp[results,Tryz.results202,go_sem,q2]) rfl ⟨_,rfl,⟨_,_,rfl,?_,?_⟩,bel⟩
 ·exact (p1.setT k2 (by decide) 0 (.slice F1 (a.facts.length+1) e1)).setT (k2.set_ 0 _) (by decide) 1 (.slice F2 a.atoms.length e2)
 ·exact (p2.setT k2 (by decide) 0 (.slice F1 (a.facts.length+1) e1)).setT (k2.set_ 0 _) (by decide) 1 (.slice F2 a.atoms.length e2)
end
section
open Go Go.RowKit Go.Proofs
attribute [local go_sem ↓] Go.wp_at_zero Go.wp_at_succ
attribute [local go_sem] Oper.semAt_some
structure KX (w w':World):Prop where
 os:w'.os=w.os
 tape:w'.tape=w.tape
 output:w'.output=w.output
 size:w.heap.size≤w'.heap.size
 keep:∀ (k:Nat) (o:Obj),w.heap[k]? = some o→(∀ cs,o≠.cells cs tIS (0,0))→w'.heap[k]? = some o
section
variable {w w' w1:World}
theorem KX.of (h:Below w.heap.size w w'):KX w w':=⟨h.os,h.tape,h.output,h.size,fun k o hk _=>(h.block k (Array.getElem?_eq_some_iff.1 hk).1).trans hk⟩
theorem KX.trans (h:KX w w1) (k:KX w1 w'):KX w w':=⟨k.os.trans h.os,k.tape.trans h.tape,k.output.trans h.output,Nat.le_trans h.size k.size,fun i o hi ho=>k.keep i o (h.keep i o hi ho) ho⟩
theorem KX.set (h:KX w w1) {p:Addr} (hp:w.heap.size≤p.block) (u:Value):KX w (w1.setCell p u):=
 ⟨h.os,h.tape,h.output,by have:=h.size;simpa using this,fun k o hk ho=>(Below.heap_setCell w1 p u k (by have:=(Array.getElem?_eq_some_iff.1 hk).1;omega)).trans (h.keep k o hk ho)⟩
theorem KX.blk (h:KX w w') {g:Nat} {t:TypeId} {cs:Array Value} (hb:Blk w g t cs) (ht:t≠tIS):Blk w' g t cs:=h.keep g _ hb fun c e=>by injection e with _ e2;exact ht e2
theorem KX.ints (h:KX w w') {base:Nat} {v:Value} {xs:List Int} (ho:IntsO w base v xs):IntsO w' base v xs:=by
 obtain ⟨⟨h1,h2⟩,h3⟩:=ho;refine ⟨⟨h1,?_⟩,h3⟩;rcases h2 with h2|⟨k,cap,cur,hv,hg,hh,r⟩
 ·exact Or.inl h2
 ·exact Or.inr ⟨k,cap,cur,hv,hg,h.blk (g:=k) hh (by decide),r⟩
end
theorem KX.keeps {w w':World} (h:KX w w'):KeepsOthers w w':=⟨h.size,fun k o hk ho=>h.keep k o hk fun cs e=>by subst e;cases ho⟩
theorem KX.kept {T1 T2:TypeId} {n₀:Nat} {w w':World} (h:KX w w') (hb:Below n₀ w w') (h1:T1≠tIS) (h2:T2≠tIS):Kept T1 T2 n₀ w w':=⟨hb,fun g t cs ht hk=>h.blk hk (by rcases ht with rfl|rfl;exact h1;exact h2)⟩
section
variable {P:Program} {n:Nat}
end
section
variable {ops:Array Oper} {rest:List Oper} {o:Oper} {a:Act} {Q:Exit→Act→World→Prop} {w w0:World} {base:Nat} {v:Value} {vs:List Value} {xss:List (List Int)}
theorem rwS {w:World} {g:Nat} {sv:Value} (h:Blk w g tIS #[sv]):Rw w g (g+1) 1 (some ⟨g,0,none⟩) 1 [sv]:=
 ⟨rfl,fun _=>⟨g,0,rfl,Nat.le_refl _,Nat.lt_succ_self _,fun j u hu=>by
  match j,hu with
  | 0,hu=>simp at hu;subst hu;exact h.cell 0⟩⟩
end
end
section
open Go Go.RowKit Go.Proofs
attribute [local go_sem ↓] Go.wp_at_zero Go.wp_at_succ
theorem fits_drop (c:List Int) (fs:List Fct) (k:Nat) (hk:k<fs.length):(fs.drop k).all (Fct.fits c)=(fs[k].fits c&&(fs.drop (k+1)).all (Fct.fits c)):=by
 rw[List.drop_eq_getElem_cons hk];rfl
theorem c_impl_factsHold {lo hi:Nat} (A:Option Addr) (d:Nat) (fs:List Fct) (c:List Int) (g:Nat) (w:World) (h:FactsV w lo hi A fs) (hk:Blk w g tTc (encI c).toArray) (hc:c.length=9) (hf:FactsOk fs) :
  Calls Tryz.prog 233 #[.pointer (some ⟨g,0,none⟩),.slice A fs.length d] w fun e w'=>e=.returned (.bool (fs.all (Fct.fits c)))∧Below w.heap.size w w':=by
 have hl:=h.le;have hgl:=hk.lt;have HF:=ax hf;have H:=ax h;clear hf h;(go_enter Tryz.func233,Tryz.ntmps233);(go_wp2_with fail)
 go_loopw [9] (fun i wr=>∃ k:Nat,k≤fs.length∧i=.int .i64 k∧aJ (fs.all (Fct.fits c)=(fs.drop k).all (Fct.fits c))∧Below w.heap.size w wr) (fun i _=>fs.length - (intOf i).toNat)
 case atStart=>exact ⟨0,Nat.zero_le _,rfl,rfl,bel⟩
 case round=>
  obtain ⟨k,hkk,rfl,HA,hB⟩:=hrel;by_cases hlt:k<fs.length
  ·obtain ⟨b,off,rfl,hbl⟩:=H.o.blt hlt;obtain ⟨g0,g1,g2⟩:=(H.o.bz hB).cl hlt;have HD:=ax (fits_drop c fs k hlt);have hfk:=HF.o _ (List.getElem_mem hlt);obtain ⟨f,hfe⟩:∃ f,f=fs[k]:=⟨_,rfl⟩;rw[←hfe] at g0 g1 g2 HD hfk;clear hfe;have kg:Blk wr g tTc (encI c).toArray:=hk.bz hB hgl;have hgr:=kg.lt;(go_wp2_with fail);refine (c_impl_factHolds f c g _ (kg.alloc _) hc hfk.1 hfk.2).mono ?_;rintro e w1 ⟨rfl,hB1⟩;have hBx:Below w.heap.size w w1:=bgo (w:=w) bel hB1;cases hff:f.fits c
   ·have HZ:=ax (show fs.all (Fct.fits c)=false by rw[HA.o,HD.o,hff];rfl);clear hff hB1;(go_wp2_with fail);go_ret;exact ⟨ret_bool (by rw[HZ.o]),hBx⟩
   ·have HZ:=ax (show (fs.drop k).all (Fct.fits c)=(fs.drop (k+1)).all (Fct.fits c) by rw[HD.o,hff];rfl);clear hff hB1;(go_wp2_with fail)
    go_round
    case rel=>exact ⟨k+1,by omega,by go_num,by show _=_;rw[HA.o,HZ.o],hBx⟩
    case measure=>simp[intOf];omega
  ·obtain rfl:k=fs.length:=by omega
   have HZ:aJ (fs.all (Fct.fits c)=true):=by show _=_;rw[HA.o,List.drop_length];rfl
   (go_wp2_with fail);go_ret;exact ⟨ret_bool (by rw[HZ.o]),hB⟩
theorem any_drop (p:Atm→Bool) (xs:List Atm) (k:Nat) (hk:k<xs.length):(xs.drop k).any p=(p xs[k] || (xs.drop (k+1)).any p):=by
 rw[List.drop_eq_getElem_cons hk];rfl
def begB (xs:List Atm) (b:Int):Bool:=xs.any fun x=>decide (x.a=b)
theorem c_impl_beginsAt {lo hi:Nat} (A:Option Addr) (d:Nat) (xs:List Atm) (b:Int) (w:World) (h:AtomsV w lo hi A xs) :
  Calls Tryz.prog 264 #[.slice A xs.length d,.int .i64 b] w fun e w'=>e=.returned (.bool (begB xs b))∧Below w.heap.size w w':=by
 have hl:=h.le;have H:=ax h;clear h;(go_enter Tryz.func264,Tryz.ntmps264);(go_wp2_with fail)
 go_loopw [9] (fun i wr=>∃ k:Nat,k≤xs.length∧i=.int .i64 k∧aJ (begB xs b=begB (xs.drop k) b)∧Below w.heap.size w wr) (fun i _=>xs.length - (intOf i).toNat)
 case atStart=>exact ⟨0,Nat.zero_le _,rfl,rfl,bel⟩
 case round=>
  obtain ⟨k,hkk,rfl,HA,hB⟩:=hrel;by_cases hlt:k<xs.length
  ·obtain ⟨bb,off,rfl,hbl⟩:=H.o.blt hlt;obtain ⟨g0,g1,g2⟩:=(H.o.bz hB).cl hlt;have HD:=ax (any_drop (fun x=>decide (x.a=b)) xs k hlt);obtain ⟨x,hxe⟩:∃ x,x=xs[k]:=⟨_,rfl⟩;rw[←hxe] at g0 g1 g2 HD;clear hxe;by_cases he:x.a=b
   ·have HZ:aJ (begB xs b=true):=by show _=_;rw[HA.o];unfold begB;rw[HD.o,decide_eq_true he];rfl
    have he':(x.a == b)=true:=by simpa using he
    clear he;(go_wp2_with fail);go_ret;exact ⟨ret_bool (by rw[HZ.o]),bel⟩
   ·have HZ:aJ (begB xs b=begB (xs.drop (k+1)) b):=by show _=_;rw[HA.o];unfold begB;rw[HD.o,decide_eq_false he];rfl
    have he':(x.a == b)=false:=by simpa using he
    clear he;(go_wp2_with fail)
    go_round
    case rel=>exact ⟨k+1,by omega,by go_num,HZ,bel⟩
    case measure=>simp[intOf];omega
  ·obtain rfl:k=xs.length:=by omega
   have HZ:aJ (begB xs b=false):=by show _=_;rw[HA.o,List.drop_length];rfl
   (go_wp2_with fail);go_ret;exact ⟨ret_bool (by rw[HZ.o]),hB⟩
abbrev tMt:Nat:=259
def ub (used:List Bool) (k:Nat):Bool:=(used[k]?).getD false
abbrev cmC (V:Value) (used:List Bool) (cnt:Nat):Array Value:=#[V,.bool (ub used 0),.bool (ub used 1),.bool (ub used 2),.bool (ub used 3),.bool (ub used 4),.bool (ub used 5),.int .i64 (cnt:Int)]
theorem cm_used {w:World} {g cnt:Nat} {t:TypeId} {V:Value} {used:List Bool} (h:Blk w g t (cmC V used cnt)) {k:Nat} (hk:k<6):w.cell? ⟨g,1+k,none⟩=some (.bool (ub used k)):=by
 rw[h.cell];obtain rfl|rfl|rfl|rfl|rfl|rfl:k=0∨k=1∨k=2∨k=3∨k=4∨k=5:=by omega
 all_goals rfl
theorem freeAt_of {xs:List Atm} {used:List Bool} {c:Int} {k:Nat} (hk:k<xs.length) (hu:used.length=xs.length):freeAt xs used c k=(decide (xs[k].a=c) && !ub used k):=by
 unfold freeAt ub;rw[List.getElem?_eq_getElem hk,List.getElem?_eq_getElem (by omega)];rfl
theorem c_impl_unusedAt {lo hi:Nat} (A:Option Addr) (d cnt:Nat) (xs:List Atm) (used:List Bool) (b:Int) (g:Nat) (w:World) (h:AtomsV w lo hi A xs) (hk:Blk w g tMt (cmC (.slice A xs.length d) used cnt)) (hl6:xs.length≤6) (hu:used.length=xs.length) :
  Calls Tryz.prog 262 #[.pointer (some ⟨g,0,none⟩),.int .i64 b] w fun e w'=>e=.returned (.tuple #[.int .i64 ((findU xs used b).getD 0:Nat),.bool (findU xs used b).isSome])∧Below w.heap.size w w':=by
 have hgl:=hk.lt;have H:=ax h;have HU:=ax hu;have q0:=hk.cell 0;have HK:=ax hk;clear h hu hk;(go_enter Tryz.func262,Tryz.ntmps262);(go_wp2_with fail)
 go_loopw [13] (fun i wr=>∃ k:Nat,k≤xs.length∧i=.int .i64 k∧aJ (∀ j,j<k→freeAt xs used b j=false)∧Below w.heap.size w wr) (fun i _=>xs.length - (intOf i).toNat)
 case atStart=>exact ⟨0,Nat.zero_le _,rfl,fun j hj=>absurd hj (Nat.not_lt_zero _),bel⟩
 case round=>
  clear q0;obtain ⟨k,hkk,rfl,HA,hB⟩:=hrel;have kg:Blk wr g tMt (cmC (.slice A xs.length d) used cnt):=HK.o.bz hB hgl;by_cases hlt:k<xs.length
  ·obtain ⟨bb,off,rfl,hbl⟩:=H.o.blt hlt;obtain ⟨g0,g1,g2⟩:=(H.o.bz hB).cl hlt;have HD:=ax (freeAt_of (c:=b) hlt HU.o);have qu:=cm_used kg (k:=k) (by omega);have hgr:=kg.lt;have hk6:(k:Int)<6:=by omega
   obtain ⟨x,hxe⟩:∃ x,x=xs[k]:=⟨_,rfl⟩;rw[←hxe] at g0 g1 g2 HD;clear hxe;clear kg;cases hff:freeAt xs used b k
   ·have HZ:aJ (∀ j,j<k+1→freeAt xs used b j=false):=fun j hj=>by
     by_cases e:j=k
     ·rw[e];exact hff
     ·exact HA.o j (by omega)
    rw[HD.o] at hff;by_cases he:x.a=b
    ·have he':(x.a == b)=true:=by simpa using he
     have hub:ub used k=true:=by rw[decide_eq_true he] at hff;simpa using hff
     rw[hub] at qu;clear he hff hub;(go_wp2_with fail)
     go_round
     case rel=>exact ⟨k+1,by omega,by go_num,HZ,bel⟩
     case measure=>simp[intOf];omega
    ·have he':(x.a == b)=false:=by simpa using he
     clear he hff;(go_wp2_with fail)
     go_round
     case rel=>exact ⟨k+1,by omega,by go_num,HZ,bel⟩
     case measure=>simp[intOf];omega
   ·have HZ:aJ (findU xs used b=some k):=range_find_some hlt hff HA.o;rw[HD.o,Bool.and_eq_true,decide_eq_true_eq] at hff;have he':(x.a == b)=true:=by simpa using hff.1
    have hub:ub used k=false:=by simpa using hff.2
    rw[hub] at qu;clear hff hub;(go_wp2_with fail);go_ret2;exact ⟨by rw[HZ.o];rfl,bel⟩
  ·obtain rfl:k=xs.length:=by omega
   have HZ:aJ (findU xs used b=none):=range_find_none HA.o;(go_wp2_with fail);go_ret2;exact ⟨by rw[HZ.o];rfl,hB⟩
theorem ub_set {used:List Bool} {k:Nat} (hk:k<used.length) (j:Nat):ub (used.set k true) j=if k=j then true else ub used j:=by
 unfold ub;rw[List.getElem?_set];by_cases e:k=j
 ·subst e;simp[hk]
 ·simp[e]
theorem cm_take {V:Value} {used:List Bool} {cnt k:Nat} (hk:k<used.length) (h6:k<6):((cmC V used cnt).setIfInBounds (1+k) (.bool true)).setIfInBounds 7 (.int .i64 ((cnt:Int)+1))=cmC V (used.set k true) (cnt+1):=by
 unfold cmC;simp only[ub_set hk];obtain rfl|rfl|rfl|rfl|rfl|rfl:k=0∨k=1∨k=2∨k=3∨k=4∨k=5:=by omega
 all_goals simp
abbrev cmU (V:Value) (used:List Bool):Array Value:=cmC V used (used.count true)
theorem c_impl_take {V:Value} {used:List Bool} (k g:Nat) (w:World) (hk:Blk w g tMt (cmU V used)) (hku:used[k]? = some false) (h6:used.length≤6) :
  Calls Tryz.prog 263 #[.pointer (some ⟨g,0,none⟩),.int .i64 k] w fun e w'=>(∃ v,e=.returned v)∧Blk w' g tMt (cmU V (used.set k true))∧Mk (fun h=>h=g) w w':=by
 have hgl:=hk.lt;have hkl:k<used.length:=(List.getElem?_eq_some_iff.1 hku).1;have hcnt:=List.count_le_length (a:=true) (l:=used);obtain ⟨cnt,hcn⟩:∃ n,n=used.count true:=⟨_,rfl⟩;have HE:aJ ((used.set k true).count true=cnt+1):=by show _=_;rw[count_take hku,hcn]
 unfold cmU at hk;rw[←hcn] at hk hcnt;have qu:=cm_used hk (k:=k) (by omega);have q7:w.cell? ⟨g,7,none⟩=some (.int .i64 (cnt:Int)):=hk.cell 7;have r:=hk.frozen;have hk6:(k:Int)<6:=by omega
 have HT:=ax (cm_take (V:=V) (cnt:=cnt) hkl (by omega));have HK:=ax hk;have hne:¬(1+k=7):=by omega
 have hne':¬(7=1+k):=by omega
 clear hk hku hcn;(go_enter Tryz.func263,Tryz.ntmps263);(go_wp2_with fail)
 go_end0
 refine ⟨⟨_,rfl⟩,?_,((Mk.refl (fun h=>h=g) _).set (x:=⟨g,1+k,none⟩) rfl _).set (x:=⟨g,7,none⟩) rfl _⟩;show Blk _ _ _ (cmC V (used.set k true) ((used.set k true).count true));rw[HE.o,←HT.o];exact (HK.o.set_ _ _).set_ _ _
def cellF (xs:List Atm) (used:List Bool) (x:Atm):Option (List Bool):=(findU xs used x.a).bind fun k=>if (xs[k]?).getD default=x then some (used.set k true) else none
theorem AtomsV.keepM {w w':World} {lo hi g:Nat} {A:Option Addr} {xs:List Atm} (h:AtomsV w lo hi A xs) (hm:Mk (fun h=>h=g) w w') (hg:hi≤g) (hw:g≤w.heap.size):AtomsV w' lo hi A xs:=h.keepB (hm.bz (lo:=g) (fun k e=>by omega) hw) hg
theorem c_impl_useCell {lo hi:Nat} (A:Option Addr) (d:Nat) (xs:List Atm) (used:List Bool) (x:Atm) (g:Nat) (w:World) (h:AtomsV w lo hi A xs) (hhi:hi≤g) (hk:Blk w g tMt (cmU (.slice A xs.length d) used)) (hl6:xs.length≤6) (hu:used.length=xs.length) :
  Calls Tryz.prog 234 #[.pointer (some ⟨g,0,none⟩),x.val] w fun e w'=>∃ r ys,e=.returned (.tuple #[r,.bool (cellF xs used x).isSome])∧IntsO w' w.heap.size r ys∧Mk (fun h=>h=g) w w'∧(∀ u,cellF xs used x=some u→Blk w' g tMt (cmU (.slice A xs.length d) u)):=by
 have hgl:=hk.lt;have H:=ax h;have HU:=ax hu;have HK:=ax hk;clear h hu hk;(go_enter Tryz.func234,Tryz.ntmps234);(go_wp2_with fail);refine (c_impl_unusedAt A d _ xs used x.a g _ (H.o.bz bel) (HK.o.alloc _) hl6 HU.o).mono ?_;rintro e w1 ⟨rfl,hB1⟩;have hB:Below w.heap.size w w1:=bgo (w:=w) bel hB1;have kg:=HK.o.bz hB hgl;have k0:Blk w1 w.heap.size tA #[.int .i64 x.kind,.int .i64 x.a,.int .i64 x.b]:=Blk.nz blks hB1;have q0:=k0.cell;have l0:=k0.lt;have gl1:=kg.lt;clear hB1;cases hf:findU xs used x.a
 ·have E:aJ (cellF xs used x=none):=by show _=_;unfold cellF;rw[hf];rfl
  clear hf;(go_wp2_with fail);(go_quiet (fail));(go_wp2_with fail);go_ret2;exact ⟨_,[],by rw[E.o];rfl,IntsO.nil _ _,Mk.below_ bel,fun u hu=>by rw[E.o] at hu;cases hu⟩
 ·rename_i k;obtain ⟨hkl,hfr⟩:=findU_some hf;have hfu:=freeAt_used hfr;obtain ⟨b,off,rfl,hbl⟩:=H.o.blt hkl;obtain ⟨g0,g1,g2⟩:=(H.o.bz hB).cl hkl;rw[freeAt_of hkl HU.o,Bool.and_eq_true,decide_eq_true_eq] at hfr;have q1:w1.cell? ⟨g,0,none⟩=some (.slice (some ⟨b,off,none⟩) xs.length d):=kg.cell 0;have E:aJ (cellF xs used x=if xs[k]=x then some (used.set k true) else none):=by show _=_;unfold cellF;rw[hf];simp only[Option.bind_some,List.getElem?_eq_getElem hkl,Option.getD_some]
  obtain ⟨y,hy⟩:∃ y,y=xs[k]:=⟨_,rfl⟩;rw[←hy] at g0 g1 g2 E hfr;have hya:=hfr.1;have hkx:(k:Int)<(xs.length:Int):=by omega
  have HKG:=ax kg;have HFU:=ax hfu;clear hf hy hfr kg hfu;have hq2:∀ i,w1.cell? ⟨w.heap.size,i,none⟩=#[.int .i64 x.kind,.int .i64 x.a,.int .i64 x.b][i]?:=q0;rw[hya] at g1;have e2:(x.a == x.a)=true:=by simp
  by_cases f1:y.kind=x.kind
  ·by_cases f3:y.b=x.b
   ·have E2:aJ (cellF xs used x=some (used.set k true)):=by
     show _=_;rw[E.o,if_pos];cases y;cases x;simp_all
    rw[f1] at g0;rw[f3] at g2;(go_wp2_with fail);(go_quiet (fail));(go_wp2_with fail);have kg:=HKG.o;refine (c_impl_take k g _ (used:=used) (V:=.slice (some ⟨b,off,none⟩) xs.length d) blks HFU.o.2 (by rw[HU.o];exact hl6)).mono ?_;rintro e w3 ⟨⟨v,rfl⟩,k3,hM⟩;have hMM:Mk (fun h=>h=g) w w3:=Mk.trans (Mk.below_ (w:=w) bel) hM;have hz3:=hMM.size;clear kg;(go_wp2_with fail);go_ret2;exact ⟨_,[(k:Int)],by rw[E2.o];rfl,IntsO.one w3 k hz3,hMM.trans (Mk.below_ bel),fun u hu=>by rw[E2.o] at hu;cases hu;exact k3.alloc _⟩
   ·have e3:(y.b == x.b)=false:=by simpa using f3
    have E2:aJ (cellF xs used x=none):=by show _=_;rw[E.o,if_neg (fun e=>f3 (by rw[e]))]
    rw[f1] at g0;(go_wp2_with fail);(go_quiet (fail));(go_wp2_with fail);go_ret2;exact ⟨_,[],by rw[E2.o];rfl,IntsO.nil _ _,Mk.below_ bel,fun u hu=>by rw[E2.o] at hu;cases hu⟩
  ·have e1:(y.kind == x.kind)=false:=by simpa using f1
   have E2:aJ (cellF xs used x=none):=by show _=_;rw[E.o,if_neg (fun e=>f1 (by rw[e]))]
   (go_wp2_with fail);(go_quiet (fail));(go_wp2_with fail);go_ret2;exact ⟨_,[],by rw[E2.o];rfl,IntsO.nil _ _,Mk.below_ bel,fun u hu=>by rw[E2.o] at hu;cases hu⟩
theorem c_spec_l5Begins {lo hi:Nat} (A:Option Addr) (d:Nat) (xs:List Atm) (b:Int) (w:World) (h:AtomsV w lo hi A xs) :
  Calls Tryz.prog 277 #[.slice A xs.length d,.int .i64 b] w fun e w'=>e=.returned (.bool (begB xs b))∧w=w':=by
 have hl:=h.le;have H:=ax h;clear h;(go_enter Tryz.func277,Tryz.ntmps277);(go_wp2_with fail)
 go_loop [5] (fun i=>∃ k:Nat,k≤xs.length∧i=.int .i64 k∧aJ (begB xs b=begB (xs.drop k) b)) (fun i=>xs.length - (intOf i).toNat)
 case atStart=>exact ⟨0,Nat.zero_le _,rfl,rfl⟩
 case round=>
  obtain ⟨k,hkk,rfl,HA⟩:=hrel;by_cases hlt:k<xs.length
  ·obtain ⟨bb,off,rfl,hbl⟩:=H.o.blt hlt;obtain ⟨g0,g1,g2⟩:=H.o.cl hlt;have HD:=ax (any_drop (fun x=>decide (x.a=b)) xs k hlt);obtain ⟨x,hxe⟩:∃ x,x=xs[k]:=⟨_,rfl⟩;rw[←hxe] at g0 g1 g2 HD;clear hxe;by_cases he:x.a=b
   ·have HZ:aJ (begB xs b=true):=by show _=_;rw[HA.o];unfold begB;rw[HD.o,decide_eq_true he];rfl
    have he':(x.a == b)=true:=by simpa using he
    clear he;(go_wp2_with fail);go_ret;exact ⟨ret_bool (by rw[HZ.o]),rfl⟩
   ·have HZ:aJ (begB xs b=begB (xs.drop (k+1)) b):=by show _=_;rw[HA.o];unfold begB;rw[HD.o,decide_eq_false he];rfl
    have he':(x.a == b)=false:=by simpa using he
    clear he;(go_wp2_with fail)
    go_round
    case rel=>exact ⟨k+1,by omega,by go_num,HZ⟩
    case measure=>simp[intOf];omega
  ·obtain rfl:k=xs.length:=by omega
   have HZ:aJ (begB xs b=false):=by show _=_;rw[HA.o,List.drop_length];rfl
   (go_wp2_with fail);go_ret;exact ⟨ret_bool (by rw[HZ.o]),rfl⟩
def fndI (o:Option Nat):Int:=match o with|some k=>k|none=>-1
theorem c_spec_l6Find {lo hi lo2 hi2:Nat} (A B:Option Addr) (d e:Nat) (xs:List Atm) (used:List Bool) (b:Int) (w:World) (h:AtomsV w lo hi A xs) (h':BoolsV w lo2 hi2 B used) (hu:used.length=xs.length) :
  Calls Tryz.prog 275 #[.slice A xs.length d,.slice B xs.length e,.int .i64 b] w fun e w'=>e=.returned (.int .i64 (fndI (findU xs used b)))∧w=w':=by
 have hl:=h.le;have H:=ax h;have H':=ax h';have HU:=ax hu;clear h h' hu;(go_enter Tryz.func275,Tryz.ntmps275);(go_wp2_with fail)
 go_loop [7] (fun i=>∃ k:Nat,k≤xs.length∧i=.int .i64 k∧aJ (∀ j,j<k→freeAt xs used b j=false)) (fun i=>xs.length - (intOf i).toNat)
 case atStart=>exact ⟨0,Nat.zero_le _,rfl,fun j hj=>absurd hj (Nat.not_lt_zero _)⟩
 case round=>
  obtain ⟨k,hkk,rfl,HA⟩:=hrel;by_cases hlt:k<xs.length
  ·obtain ⟨bb,off,rfl,hbl⟩:=H.o.blt hlt;obtain ⟨g0,g1,g2⟩:=H.o.cl hlt;obtain ⟨b2,off2,rfl,hbl2⟩:=H'.o.blt (k:=k) (by rw[HU.o];exact hlt);have qu:w.cell? ⟨b2,off2+k,none⟩=some (.bool (ub used k)):=by rw[H'.o.cl (k:=k) (by rw[HU.o];exact hlt)];unfold ub;rw[List.getElem?_eq_getElem];rfl
   have HD:=ax (freeAt_of (c:=b) hlt HU.o);obtain ⟨x,hxe⟩:∃ x,x=xs[k]:=⟨_,rfl⟩;rw[←hxe] at g0 g1 g2 HD;clear hxe;cases hff:freeAt xs used b k
   ·have HZ:aJ (∀ j,j<k+1→freeAt xs used b j=false):=fun j hj=>by
     by_cases e:j=k
     ·rw[e];exact hff
     ·exact HA.o j (by omega)
    rw[HD.o] at hff;cases hub:ub used k
    ·rw[hub] at qu hff;have he':(x.a == b)=false:=by simpa using hff
     clear hff hub;(go_wp2_with fail)
     go_round
     case rel=>exact ⟨k+1,by omega,by go_num,HZ⟩
     case measure=>simp[intOf];omega
    ·rw[hub] at qu;clear hff hub;(go_wp2_with fail)
     go_round
     case rel=>exact ⟨k+1,by omega,by go_num,HZ⟩
     case measure=>simp[intOf];omega
   ·have HZ:aJ (findU xs used b=some k):=range_find_some hlt hff HA.o;rw[HD.o,Bool.and_eq_true,decide_eq_true_eq] at hff;have he':(x.a == b)=true:=by simpa using hff.1
    have hub:ub used k=false:=by simpa using hff.2
    rw[hub] at qu;clear hff hub;(go_wp2_with fail);go_ret;exact ⟨by rw[HZ.o];rfl,rfl⟩
  ·obtain rfl:k=xs.length:=by omega
   have HZ:aJ (findU xs used b=none):=range_find_none HA.o;(go_wp2_with fail);go_ret;exact ⟨by rw[HZ.o];rfl,rfl⟩
theorem BoolsO.open_ {w:World} {base:Nat} {A:Option Addr} {n c k:Nat} {fs:List Bool} (h:BoolsO w base (.slice A n c) fs) (hk:k<fs.length):∃ g cur,n=fs.length∧A=some ⟨g,0,none⟩∧base≤g∧Blk w g tB cur∧cur[k]? = some (.bool fs[k])∧
  (∀ v:Bool,BoolsO (w.setCell ⟨g,k,none⟩ (.bool v)) base (.slice A n c) (fs.set k v)):=by
 obtain ⟨⟨hl,h2⟩,hL⟩:=h;rcases h2 with ⟨e,hn⟩|⟨g,cap,cur,e,hb,hh,hn,hm,hs,ht⟩
 ·omega
 ·injection e with e1 e2 e3;subst e1 e2 e3;have hK:Blk w g tB cur:=hh
  have hP:Pre cur (encB fs) (fs.length * 1):=by
   intro j hj;rw[←ht,List.getElem?_take,if_pos hj];simp
  refine ⟨g,cur,rfl,rfl,hb,hK,(hP _ (by omega)).trans (by simp[List.getElem?_eq_getElem hk]),?_⟩;intro v;refine ⟨?_,by rw[List.length_set];exact hL⟩;rw[show encB (fs.set k v)=(encB fs).set k (.bool v) from by simp[encB,List.map_set],List.length_set];exact own_of_blk (hK.set_ k (.bool v)) hb (by rw[List.length_set,hl]) (hP.setL k (.bool v) (by rw[hs];exact Nat.mul_le_mul hn (Nat.le_refl _)) (by rw[hl];exact Nat.le_refl _)) hn hm (by simpa using hs)
def chainG (xs:List Atm) (b:Int) (n:Nat) (used:List Bool) (c:Int):Option (List Bool):=if c=b then some used else chainF xs b n used c
def cutB (xs:List Atm) (y:Atm) (b:Int):Bool:=decide (y.kind=2) && !decide (y.b=b) && !decide (b=0) && !begB xs b
theorem cut_cases (xs:List Atm) (y:Atm) (b:Int):(cutB xs y b=true∧(y.kind == 2)=true∧(y.b != b)=true∧(b != 0)=true∧begB xs b=false)∨
  ((cutB xs y b=false∧(y.kind == 2)=false)∨(cutB xs y b=false∧(y.kind == 2)=true∧(y.b != b)=false)∨(cutB xs y b=false∧(y.kind == 2)=true∧(y.b != b)=true∧(b != 0)=false)∨(cutB xs y b=false∧(y.kind == 2)=true∧(y.b != b)=true∧(b != 0)=true∧begB xs b=true)):=by
 unfold cutB;by_cases h1:y.kind=2<;>by_cases h2:y.b=b<;>by_cases h3:b=0<;>cases h4:begB xs b<;>simp_all
theorem closed_beg (xs:List Atm) (b:Int):closedB xs b=(decide (b=0) || begB xs b):=rfl
theorem chainG_none {xs:List Atm} {b:Int} {n:Nat} {used:List Bool} {c:Int} (h:c≠b) (hf:findU xs used c=none):chainG xs b n used c=none:=by
 unfold chainG;rw[if_neg h]
 cases n with
 | zero=>rfl
 | succ n=>unfold chainF;rw[hf];rfl
theorem chainG_some {xs:List Atm} {b:Int} {n:Nat} {used:List Bool} {c:Int} {k:Nat} (h:c≠b) (hf:findU xs used c=some k) (hk:k<xs.length):chainG xs b (n+1) used c=if cutB xs xs[k] b then none else chainG xs b n (used.set k true) xs[k].b:=by
 unfold chainG;rw[if_neg h];rw[show chainF xs b (n+1) used c=(findU xs used c).bind (fun k=>if ((xs[k]?).getD default).b=b then some (used.set k true) else if ((xs[k]?).getD default).kind=2∧closedB xs b=false then none else chainF xs b n (used.set k true) ((xs[k]?).getD default).b) from rfl,hf];simp only[Option.bind_some,List.getElem?_eq_getElem hk,Option.getD_some];unfold cutB;rw[closed_beg];generalize chainF xs b n (used.set k true) xs[k].b=R;generalize xs[k]=y;generalize decide (b=0)=t;generalize begB xs b=s;by_cases h1:y.b=b<;>by_cases h2:y.kind=2<;>cases t<;>cases s<;>simp[h1,h2]
theorem AtomsV.hi_ {w:World} {lo hi b o k:Nat} {xs:List Atm} (h:AtomsV w lo hi (some ⟨b,o,none⟩) xs) (hk:k<xs.length):b<hi:=by
 obtain ⟨g,o',e,h1,h2,-⟩:=h.raw.2 (by omega);injection e with e;injection e with e1;omega
theorem c_spec_l6Chain {lo hi base:Nat} (A B:Option Addr) (d e:Nat) (xs:List Atm) (used:List Bool) (c b:Int) (w:World) (h:AtomsV w lo hi A xs) (h':BoolsO w base (.slice B xs.length e) used) (hu:used.length=xs.length) (hhi:hi≤base) (hbw:base≤w.heap.size) :
  Calls Tryz.prog 274 #[.slice A xs.length d,.slice B xs.length e,.int .i64 c,.int .i64 b] w fun e' w'=>e'=.returned (.bool (chainG xs b (xs.length+1) used c).isSome)∧(∀ u,chainG xs b (xs.length+1) used c=some u→BoolsO w' base (.slice B xs.length e) u∧u.length=xs.length)∧Mk (fun g=>(Value.slice B xs.length e).ownBlock=some g) w w':=by
 have hl:=h.le;have hown:∀ g,(Value.slice B xs.length e).ownBlock=some g→base≤g:=fun g hg=>(h'.1.lt g hg).1;have H:=ax h;have HO:=ax h';have HU:=ax hu;have HW:=ax hown;clear h h' hu hown;(go_enter Tryz.func274,Tryz.ntmps274);(go_wp2_with fail)
 go_loopg [2] (xs.length - used.count true) (fun gh s2 wr=>∃ (u:List Bool) (n:Nat) (at_:Int),s2=.int .i64 at_∧aJ (xs.length - u.count true≤gh)∧aJ (chainG xs b (xs.length+1) used c=chainG xs b n u at_)∧aJ (xs.length<n+u.count true)∧aJ (u.length=xs.length)∧aJ (BoolsO wr base (.slice B xs.length e) u)∧aJ (Mk (fun g=>(Value.slice B xs.length e).ownBlock=some g) w wr))
 case atStart=>exact ⟨used,xs.length+1,c,rfl,Nat.le_refl _,rfl,by show _<_;omega,HU.o,HO.o,Mk.refl _ _⟩
 case round=>
  obtain ⟨u,n,at_,rfl,HG,HC,HN,HL,HB,HM⟩:=hrel;have hA:aJ (AtomsV wr lo hi A xs):=H.o.keepB (HM.o.bz (lo:=base) (fun k e=>HW.o k e) hbw) hhi;by_cases hat:at_=b
  ·have E:aJ (chainG xs b (xs.length+1) used c=some u):=by show _=_;rw[HC.o];unfold chainG;rw[if_pos hat]
   have hne:(at_ != b)=false:=by simpa using hat
   clear hat;(go_wp2_with fail);go_ret;exact ⟨ret_bool (by rw[E.o];rfl),fun u' hu'=>(by rw[E.o] at hu';cases hu';exact ⟨HB.o,HL.o⟩),HM.o⟩
  ·have hne:(at_ != b)=true:=by simpa using hat
   obtain ⟨BB,eB,eqB,hBV⟩:=HB.o.reads;injection eqB with eB1 eB2 eB3;subst eB1;clear eB2 eB3;(go_wp2_with fail);refine (c_spec_l6Find A B d e xs u at_ _ hA.o (by simpa using hBV) HL.o).mono ?_;rintro e w1 ⟨rfl,rfl⟩;cases hf:findU xs u at_
   ·have E:aJ (chainG xs b (xs.length+1) used c=none):=by show _=_;rw[HC.o];exact chainG_none hat hf
    clear hf hat;simp only[fndI];(go_wp2_with fail);go_ret;exact ⟨ret_bool (by rw[E.o];rfl),fun u' hu'=>(by rw[E.o] at hu';cases hu'),HM.o⟩
   ·rename_i k;obtain ⟨hkl,hfr⟩:=findU_some hf;have hfu:=freeAt_used hfr;have hct:=count_take hfu.2;have hcl:=List.count_le_length (a:=true) (l:=u.set k true);rw[List.length_set,HL.o] at hcl;obtain ⟨m,rfl⟩:∃ m,n=m+1:=⟨n - 1,by have:=HN.o;omega⟩;have HS:=ax (chainG_some (n:=m) hat hf hkl);obtain ⟨g,cur,-,rfl,hgb,kg,hcm,hset⟩:=HB.o.open_ (k:=k) hfu.1;have qg:wr.cell? ⟨g,k,none⟩=some (.bool false):=(kg.cell k).trans (hcm.trans (by rw[(List.getElem?_eq_some_iff.1 hfu.2).2]));have rg:=kg.frozen;have HSET:=ax (hset true);obtain ⟨bb,off,rfl,hbl⟩:=hA.o.blt hkl;obtain ⟨g0,g1,g2⟩:=hA.o.cl hkl;have hbg:bb<g:=by have:=hA.o.hi_ hkl;omega
    have hbn:¬(bb=g):=by omega
    have hbn':¬(g=bb):=by omega
    obtain ⟨y,hy⟩:∃ y,y=xs[k]:=⟨_,rfl⟩;rw[←hy] at g0 g1 g2 HS;have HCT:=ax hct;have HCL:=ax hcl;have hkx:(k:Int)<(xs.length:Int):=by omega
    have hk0:¬(k:Int)<0:=by omega
    have HAK:=ax hA.o;clear hf hat hy hfr hfu hct hcl hset kg hcm;simp only[fndI];rcases cut_cases xs y b with ⟨hc,f1,f2,f3,f4⟩|hcc
    ·have E:aJ (chainG xs b (xs.length+1) used c=none):=by show _=_;rw[HC.o,HS.o,hc];rfl
     clear hc;(go_wp2_with (refine (c_spec_l5Begins _ _ xs b _ HAK.o).mono ?_;rintro e2 w2 ⟨rfl,rfl⟩));go_ret;exact ⟨ret_bool (by rw[E.o];rfl),fun u' hu'=>(by rw[E.o] at hu';cases hu'),HM.o⟩
    ·have E:aJ (cutB xs y b=false→chainG xs b (xs.length+1) used c=chainG xs b m (u.set k true) y.b):=fun hc=>by rw[HC.o,HS.o,hc];rfl
     rcases hcc with ⟨hc,f1⟩|⟨hc,f1,f2⟩|⟨hc,f1,f2,f3⟩|⟨hc,f1,f2,f3,f4⟩
     all_goals
      have E2:=ax (E.o hc);clear hc;(go_wp2_with (refine (c_spec_l5Begins _ _ xs b _ HAK.o).mono ?_;rintro e2 w2 ⟨rfl,rfl⟩))
      go_roundg (xs.length - (u.set k true).count true)
      case rel=>exact ⟨u.set k true,m,y.b,rfl,Nat.le_refl _,E2.o,by show _<_;have:=HN.o;have:=HCT.o;omega,by show _=_;rw[List.length_set];exact HL.o,HSET.o,HM.o.set (x:=⟨g,k,none⟩) rfl _⟩
      case measure=>have:=HG.o;have:=HCT.o;have:=HCL.o;omega
end
section
open Go Go.RowKit Go.Proofs
abbrev factS (f:Fct):Nat:=tins (tins 0 f.a) f.b
def impB (a:Asn) (f:Fct):Bool:=a.valid&&f.valid&&(cases a (caseS a (factS f))).all (Fct.fits · f)
theorem Fct.not_fits (c:List Int) (f:Fct):Fct.fits c ⟨!f.eq,f.a,f.b⟩ = !Fct.fits c f:=by
 unfold Fct.fits;cases f.eq<;>cases decide (cl c f.a=cl c f.b)<;>rfl
theorem Fct.valid_ok {f:Fct} (h:f.valid=true):(0≤f.a∧f.a≤8)∧(0≤f.b∧f.b≤8):=by
 simpa [Fct.valid,isTermB] using h
theorem cases_not (a:Asn) (f:Fct) (S:Nat):cases ⟨a.facts++[⟨!f.eq,f.a,f.b⟩],a.atoms⟩ S=(cases a S).filter fun c=>!Fct.fits c f:=by
 unfold cases;rw[List.filter_filter]
 congr 1
 funext c
 simp only[full,List.all_append,List.all_cons,List.all_nil,Bool.and_true,Fct.not_fits];cases a.facts.all (Fct.fits c)<;>cases apartF [] (filledL a.atoms c)<;>cases Fct.fits c f<;>rfl
theorem filter_empty {α:Type} (p:α→Bool):∀ (L:List α),(L.filter fun x=>!p x).isEmpty=L.all p
 | []=>rfl
 | x :: L=>by
  rw[List.filter_cons,List.all_cons];cases h:p x
  ·rfl
  ·simpa using filter_empty p L
theorem imp_seek {a:Asn} {f:Fct} (hv:a.valid=true) (hf:f.valid=true) :
  (seek ⟨a.facts++[⟨!f.eq,f.a,f.b⟩],a.atoms⟩ ((tset (termsL a)|||1 <<< f.a.toNat)|||1 <<< f.b.toNat) 8 opened).isEmpty=(cases a (caseS a (factS f))).all (Fct.fits · f):=by
 have hfo:=Fct.valid_ok hf;have ha:isTermB f.a=true:=by simp[isTermB];omega
 have hb:isTermB f.b=true:=by simp[isTermB];omega
 have hbit:∀ j:Nat,(factS f).testBit j=(decide (f.a=(j:Int)) || decide (f.b=(j:Int))):=fun j=>by
  rw[tins_bit,tins_bit,Nat.zero_testBit,ha,hb];simp
 have hone:∀ (n j:Nat),(1 <<< n).testBit j=decide (n=j):=fun n j=>by
  rw[Nat.one_shiftLeft,Nat.testBit_two_pow]
 have e1:seek ⟨a.facts++[⟨!f.eq,f.a,f.b⟩],a.atoms⟩ ((tset (termsL a)|||1 <<< f.a.toNat)|||1 <<< f.b.toNat) 8 opened=seek ⟨a.facts++[⟨!f.eq,f.a,f.b⟩],a.atoms⟩ (caseS a (factS f)) 8 opened:=by
  refine seek_congr _ (fun j h1 h2=>?_) 8 opened (by omega);rw[caseS_bit,hbit,Nat.testBit_or,Nat.testBit_or,tset_bit,hone,hone];have h0:¬j=0:=by omega
  have x1:decide (f.a.toNat=j)=decide (f.a=(j:Int)):=by rw[decide_eq_decide];omega
  have x2:decide (f.b.toNat=j)=decide (f.b=(j:Int)):=by rw[decide_eq_decide];omega
  rw[x1,x2];simp[h0,Bool.or_assoc]
 rw[e1,seek_cases (a:=Asn.mk (a.facts++[Fct.mk (!f.eq) f.a f.b]) a.atoms) ?_ (Asn.valid_ok hv).2 (caseS_zero a (factS f)) ?_,cases_not,filter_empty]
 ·intro g hg;rw[List.mem_append,List.mem_singleton] at hg;rcases hg with hg|rfl
  ·exact (Asn.valid_ok hv).1 g hg
  ·exact hfo
 ·intro t ht;obtain ⟨h1,h2⟩:=caseS_not hv (factS f) t ht;refine ⟨fun g hg=>?_,h2⟩;rw[List.mem_append,List.mem_singleton] at hg;rcases hg with hg|rfl
  ·exact h1 g hg
  ·rw[caseS_bit,hbit] at ht;simp only[Bool.or_eq_false_iff,decide_eq_false_iff_not] at ht;exact ⟨ht.2.1,ht.2.2⟩
end
section
open Go Go.RowKit Go.Proofs
attribute [local go_sem ↓] Go.wp_at_zero Go.wp_at_succ
attribute [local go_sem] Oper.semAt_some
theorem c_impl_Implies {lo hi:Nat} (v:Value) (a:Asn) (f:Fct) (w:World) (h:AsnV w lo hi v a) (hhi:hi≤w.heap.size) :
  Calls Tryz.prog 250 #[v,f.val] w fun e w'=>e=.returned (.bool (impB a f))∧Below w.heap.size w w':=by
 have hV:=ax h;obtain ⟨A1,c1,A2,c2,rfl,-,-⟩:=h;have HE:aJ (impB a f=(a.valid&&f.valid&&(cases a (caseS a (factS f))).all (Fct.fits · f))):=ax rfl;have HFS:aJ (factS f<512):=ax (tins_lt (tins_lt (by decide) _) _);obtain ⟨fe,fa,fb⟩:=f;refine (callsIn_wide (n:=3)).1 ?_;(refine callsIn_of_wp_marks Tryz.func250 rfl trivial ?_ rfl;simp only[Tryz.ntmps250,List.size_toArray,List.length_cons,List.length_nil,Nat.reduceAdd,Nat.reduceSub,Array.replicate_succ,Array.replicate_zero,List.push_toArray,List.append_toArray,List.nil_append,List.cons_append])
 gi_wp2_with fail
 refine ⟨trivial,(callsIn_wide.2 (c_impl_AssertionValid _ a _ (hV.o.bz bel))).mono ?_⟩;rintro e w1 ⟨rfl,hB1⟩;have k0:Blk w1 w.heap.size tAs #[.slice A1 a.facts.length c1,.slice A2 a.atoms.length c2]:=Blk.nz blks hB1;have k1:Blk w1 (w.heap.size+1) tF #[.bool fe,.int .i64 fa,.int .i64 fb]:=Blk.nz blks hB1;have k2:Blk w1 (w.heap.size+1+1) 4 #[.bool false]:=Blk.nz blks hB1;have hB:Below w.heap.size w w1:=bgo (w:=w) bel hB1;have hz1:=hB1.size;simp only[World.size_alloc] at hz1;clear hB1;have q0:=k0.cell;have q1:=k1.cell;have q2:=k2.cell;have r2:=k2.frozen;have l2:=k2.lt;have l1:=k1.lt;have l0:=k0.lt;cases hv:a.valid
 ·gi_wp2_with fail
  refine ⟨trivial,?_⟩
  gi_wp2_with fail
  have z2:=(k2.set_ 0 (.bool false)).cell 0;refine ⟨.bool false,by simp[results,Tryz.f250,go_sem,z2,q2,l2],by rw[HE.o,hv];rfl,hB.setCell (p:=⟨w.heap.size+1+1,0,none⟩) (by simp only;omega) _⟩
 have HV:=ax hv;clear hv
 gi_wp2_with fail
 refine ⟨trivial,(callsIn_wide.2 (c_impl_FactValid ⟨fe,fa,fb⟩ _)).mono ?_⟩;rintro e w2 ⟨rfl,hB2⟩;replace k0:=k0.nz hB2;replace k1:=k1.nz hB2;replace k2:=k2.nz hB2;replace hB:=bgo hB hB2;have hz2:=hB2.size;clear hB2 q0 q1 q2 r2 l0 l1 l2;have q0:=k0.cell;have q1:=k1.cell;have q2:=k2.cell;have r2:=k2.frozen;have l2:=k2.lt;have l1:=k1.lt;have l0:=k0.lt;cases hf:Fct.valid ⟨fe,fa,fb⟩
 ·gi_wp2_with fail
  have z2:=(k2.set_ 0 (.bool false)).cell 0;refine ⟨.bool false,by simp[results,Tryz.f250,go_sem,z2,q2,l2],by rw[HE.o,hf];simp,hB.setCell (p:=⟨w.heap.size+1+1,0,none⟩) (by simp only;omega) _⟩
 have HFO:=ax (Fct.valid_ok hf);have HE2:aJ (impB a ⟨fe,fa,fb⟩=(cases a (caseS a (factS ⟨fe,fa,fb⟩))).all (Fct.fits · ⟨fe,fa,fb⟩)):=ax (by rw[HE.o,HV.o,hf];rfl);clear hf HE
 gi_wp2_with fail
 refine wpIn_wide.2 ?_;refine wp_region_noPanic ?_;refine wp_region_held_drew (S:=(fun w'=>(∀ i,w'.cell? ⟨w.heap.size,i,none⟩=#[.slice A1 a.facts.length c1,.slice A2 a.atoms.length c2][i]?)∧(∀ i,w'.cell? ⟨w.heap.size+1,i,none⟩=#[.bool fe,.int .i64 fa,.int .i64 fb][i]?))) (by kernel_rfl) (⟨k0.drew.cell,k1.drew.cell⟩) (fun aH=>?_);refine tk2 0 rfl aH (h:=tk2 1 rfl aH (h:=tk2 2 rfl aH (h:=?_)));(try simp only[zz]);refine tk2 3 rfl aH (h:=tk2 5 rfl aH (h:=tk2 6 rfl aH (h:=?_)));refine rdc 4 rfl fun K hK=>?_;(try simp only[zz]);(go_simp;refine (c_impl_with 0 fa _ (by decide)).mono ?_;rintro e w3 ⟨rfl,rfl⟩);refine hK.out _ _ (⟨k0.drew.cell,k1.drew.cell⟩) ?_;clear aH hK K;intro aH;refine rdc 7 rfl fun K hK=>?_;(try simp only[zz]);(go_simp;refine (c_impl_with (tins 0 fa) fb _ (tins_lt (by decide) _)).mono ?_;rintro e w3 ⟨rfl,rfl⟩);refine hK.out _ _ (⟨k0.drew.cell,k1.drew.cell⟩) ?_;clear aH hK K;intro aH;refine rdc 8 rfl fun K hK=>?_;(try simp only[zz]);(go_simp;refine (c_impl_possibleCases A1 A2 c1 c2 a (factS ⟨fe,fa,fb⟩) _ (hV.o.bz hB.drew) HFS.o).mono ?_;rintro e w3 ⟨gA,gT,rfl,hA,hT,kA,kT,hB3⟩;replace hB3:Below w2.heap.size w2 w3:=(Below.refl _ _).drew.trans hB3;replace k0:=k0.nz hB3;replace k1:=k1.nz hB3;replace k2:=k2.nz hB3;replace hB:=bgo hB hB3);refine hK.out _ _ (⟨k0.cell,k1.cell⟩) ?_;clear aH hK K;intro aH;(try simp only[zz]);refine dn1 ?_;have hzA:w2.heap.size≤gA:=hA;have hzT:w2.heap.size≤gT:=hT;have hzO:=k2.lt;have hz:=hB.size;have hz3:=hB3.size;have hAw:=hV.o.bz hB;clear hB3 q0 q1 q2 r2 l0 l1 l2 hA hT
 gi_wp2_with fail
 refine wp_rangeT (gf:=219) (lb:=#[.pointer (some ⟨gA,0,none⟩),.pointer (some ⟨gT,0,none⟩)]) rfl (enters_of Tryz.func219 (by kernel_rfl) rfl)
  (c_seq (n₀:=w.heap.size) w3 HV.o HFS.o hAw hhi (by omega) kA kT) (fun h k=>h.trans k) (Kept.putl (by omega)) (Below.refl _ _) (fun _=>rfl)
  (fun pre W=>aJ (∀ y∈pre,Fct.fits y.1 ⟨fe,fa,fb⟩=true)∧Blk W (w.heap.size+1) tF #[.bool fe,.int .i64 fa,.int .i64 fb]∧Blk W (w.heap.size+1+1) 4 #[.bool false]∧Below w.heap.size w W)
  (fun c pre W=>∃ x∈pre,c=.ret∧aJ (Fct.fits x.1 ⟨fe,fa,fb⟩=false)∧Blk W (w.heap.size+1+1) 4 #[.bool false]∧Below w.heap.size w W)
  (fun s X Y row hs hg hr=>by
   obtain ⟨e1,k1,k2,k3⟩:=hs
   exact ⟨e1,k1.turn hg hr (Or.inr (by omega)),k2.turn hg hr (Or.inr (by omega)),Below.turn k3 hg hr (by omega) k3.size⟩)
  (fun c s X Y row hs hg hr=>by
   obtain ⟨x,e1,e2,e3,k1,k2⟩:=hs
   exact ⟨x,e1,e2,e3,k1.turn hg hr (Or.inr (by omega)),Below.turn k2 hg hr (by omega) k2.size⟩)
  ⟨fun y hy=>absurd hy (by simp),k1,k2,hB⟩ ?round ?done ?stop
 case round=>
  rintro l pre x W hl ⟨HP,k1,k2,hB⟩ -;have hwz:=hB.size
  gi_wp2
  refine ⟨(KeepsOthers.alloc _ _).from _,Kept.alloc (by omega) _,fun o o' ho hc=>?_⟩;have kX:=(Blk.new W tTc (case9 x.1)).putl o' ho hc;replace k1:=(k1.alloc (.cells (case9 x.1) tTc)).putl o' ho hc;replace k2:=(k2.alloc (.cells (case9 x.1) tTc)).putl o' ho hc;have hB':=(bbox hB (.cells (case9 x.1) tTc)).trans (Kept.put (T1:=tTc) (T2:=tAs) (n₀:=w.heap.size) o' (by omega) ho hc).bz;clear ho;obtain ⟨V,hVe⟩:∃ V,V=(W.alloc (.cells (case9 x.1) tTc)).putObj l o':=⟨_,rfl⟩;rw[←hVe] at kX k1 k2 hB' ⊢;clear hVe hB;have q1:=k1.cell;have hxl:=ax x.len;have hzV:=hB'.size;have lX:=kX.lt
  gi_wp2_with fail
  refine ⟨trivial,(CallsIn.inRound l (callsIn_wide.2 (c_impl_factHolds ⟨fe,fa,fb⟩ x.1 W.heap.size _ (kX.case hxl.o) hxl.o HFO.o.1 HFO.o.2))).mono ?_⟩;rintro e w4 ⟨rfl,hB4⟩;replace k1:=k1.nz hB4;replace k2:=k2.nz hB4;have hBV:=bgo hB' hB4;have hKV:Kept tTc tAs w.heap.size V w4:=Kept.nz hB4 hzV;have hKF:KeepsOthers V w4:=(KX.of hB4).keeps;clear q1 hB4;have q2:=k2.cell 0;have r2:=k2.frozen;have l2:=k2.lt;cases he:Fct.fits x.1 ⟨fe,fa,fb⟩
  ·have HE:=ax he;clear he
   gi_wp2
   exact ⟨(hKF.trans (KeepsOthers.setCell _ _ _)).from _,x,by simp,rfl,HE,k2.set_ 0 (.bool false),hBV.setCell (p:=⟨w.heap.size+1+1,0,none⟩) (by simp only;omega) _⟩
  ·have HP2:aJ (∀ y∈pre++[x],Fct.fits y.1 ⟨fe,fa,fb⟩=true):=fun y hy=>by
    rcases List.mem_append.1 hy with hy|hy
    ·exact HP.o y hy
    ·rw[List.mem_singleton.1 hy];exact he
   clear he
   gi_wp2
   exact ⟨hKF.from _,hKV,HP2,k1,k2,hBV⟩
 case done=>
  rintro D ys W hD hS ⟨HP,k1,k2,hB⟩ hK
  have E:aJ (impB a ⟨fe,fa,fb⟩=true):=by
   show _=_;rw[HE2.o,←hS,List.all_eq_true];intro y hy;obtain ⟨z,hz,rfl⟩:=List.mem_map.1 hy;exact HP.o z hz
  clear hS k1;have q2:=k2.cell 0;have r2:=k2.frozen;have l2:=k2.lt
  gi_wp2
  have z2:=k2.set_ 0 (.bool true);have zB:=hB.setCell (p:=⟨w.heap.size+1+1,0,none⟩) (by simp only;omega) (.bool true);have zK:=(KeepsOthers.setCell W ⟨w.heap.size+1+1,0,none⟩ (.bool true)).same D _ hK rfl;obtain ⟨V,hVe⟩:∃ V,V=W.setCell ⟨w.heap.size+1+1,0,none⟩ (.bool true):=⟨_,rfl⟩;rw[←hVe] at z2 zB zK ⊢;refine ⟨by simp,.inl ⟨_,_,rfl,run_takeDeferred zK,?_⟩⟩;have y2:=(z2.putl (.deferred none) zK rfl).cell 0;refine ⟨.bool true,?_,by rw[E.o],zB.trans (belowK_b (w:=w) (Nat.le_refl _) V D _ _ (by omega) zK rfl rfl)⟩;simp at y2;simp[results,Tryz.f250,go_sem,y2]
 case stop=>
  rintro D c pre W hD hPre ⟨x,hx,rfl,HX,k2,hB⟩ hK
  have E:aJ (impB a ⟨fe,fa,fb⟩=false):=by
   show _=_;rw[HE2.o,List.all_eq_false];exact ⟨x.1,x.2,by rw[HX.o];decide⟩
  have q2:=k2.cell 0;have l2:=k2.lt
  gi_wp2
  refine ⟨by simp,.inl ⟨_,_,rfl,run_takeDeferred hK,?_⟩⟩;have y2:=(k2.putl (.deferred none) hK rfl).cell 0;refine ⟨.bool false,?_,by rw[E.o],hB.trans (belowK_b (w:=w) (Nat.le_refl _) W D _ _ (by omega) hK rfl rfl)⟩;simp at y2;simp[results,Tryz.f250,go_sem,y2]
end
section
open Go Go.RowKit Go.Proofs
attribute [local go_sem ↓] Go.wp_at_zero Go.wp_at_succ
def AsnC (w:World) (lo hi:Nat) (v:Value) (a:Asn):Prop:=
 ∃ A1 c1 A2 c2,v=.agg #[.slice A1 a.facts.length c1,.slice A2 a.atoms.length c2]∧FactsV w lo hi A1 a.facts∧AtomsV w lo hi A2 a.atoms∧a.atoms.length≤c2
theorem AsnC.V {w:World} {lo hi:Nat} {v:Value} {a:Asn} (h:AsnC w lo hi v a):AsnV w lo hi v a:=by
 obtain ⟨A1,c1,A2,c2,e,h1,h2,-⟩:=h;exact ⟨A1,c1,A2,c2,e,h1,h2⟩
theorem AsnC.bz {w w':World} {lo hi:Nat} {v:Value} {a:Asn} (h:AsnC w lo hi v a) (hb:Below w.heap.size w w'):AsnC w' lo hi v a:=by
 obtain ⟨A1,c1,A2,c2,e,h1,h2,h3⟩:=h;exact ⟨A1,c1,A2,c2,e,h1.bz hb,h2.bz hb,h3⟩
theorem own_cap {w:World} {base:Nat} {e:TypeId} {size n c:Nat} {A:Option Addr} {xs:List Value} (h:w.ownsRow base e size (.slice A n c) n xs):n≤c:=by
 rcases h.2 with ⟨e1,e2⟩|⟨g,cap,cur,e1,-,-,hn,-⟩
 ·omega
 ·injection e1 with e1 e2 e3;omega
theorem AsnO.C {w:World} {base:Nat} {v:Value} {a:Asn} (h:AsnO w base v a):AsnC w base w.heap.size v a:=by
 obtain ⟨fv,av,rfl,h1,h2⟩:=h;obtain ⟨A1,c1,rfl,f1⟩:=h1.reads;obtain ⟨A2,c2,rfl,f2⟩:=h2.reads;exact ⟨A1,c1,A2,c2,rfl,f1,f2,own_cap h2.1⟩
def newT (S:Nat):Option Nat:=(List.range' 5 4).find? fun t=>!S.testBit t
def unusedI (S:Nat):Int:=match newT S with|some t=>(t:Int)|none=>0
theorem newT_yes {S t:Nat} (h5:5≤t) (h8:t≤8) (h1:∀ k,5≤k→k<t→S.testBit k=true) (h2:S.testBit t=false):newT S=some t:=by
 unfold newT
 have e:List.range' 5 4=List.range' 5 (t - 5)++t :: List.range' (t+1) (8 - t):=by
  have:t=5∨t=6∨t=7∨t=8:=by omega
  rcases this with rfl|rfl|rfl|rfl<;>rfl
 rw[e,List.find?_append]
 have:(List.range' 5 (t - 5)).find? (fun t=>!S.testBit t)=none:=by
  rw[List.find?_eq_none];intro x hx;have:=List.mem_range'_1.1 hx;simp[h1 x (by omega) (by omega)]
 rw[this,List.find?_cons,h2];rfl
theorem newT_no {S:Nat} (h1:∀ k,5≤k→k≤8→S.testBit k=true):newT S=none:=by
 unfold newT;rw[List.find?_eq_none];intro x hx;have:=List.mem_range'_1.1 hx;simp[h1 x (by omega) (by omega)]
theorem c_impl_unused (S:Nat) (w:World) (hS:S<512):Calls Tryz.prog 269 #[.int .u16 S] w fun e w'=>e=.returned (.tuple #[.int .i64 (unusedI S),.bool (newT S).isSome])∧w=w':=by
 (go_enter Tryz.func269,Tryz.ntmps269);(go_wp2_with fail)
 go_loop [4] (fun i=>∃ k:Nat,5≤k∧k≤9∧i=.int .i64 k∧aJ (∀ j,5≤j→j<k→S.testBit j=true)) (fun i=>10 - (intOf i).toNat)
 case atStart=>exact ⟨5,by omega,by omega,rfl,ax fun j h1 h2=>by omega⟩
 case round=>
  obtain ⟨k,h5,h9,rfl,HA⟩:=hrel;by_cases hlt:k<9
  ·have hki:(k:Int)≤8:=by omega
   have ht:isTermB (k:Int)=true:=by simp[isTermB];omega
   have et:((k:Int)).toNat=k:=by omega
   (go_wp2_with fail);refine (c_impl_tHas S _ _ hS).mono ?_;rintro e w1 ⟨rfl,rfl⟩;rw[ht,et];clear ht et;cases hb:S.testBit k
   ·have E:=ax (newT_yes h5 (by omega) HA.o hb);clear hb;(go_wp2_with fail);go_ret2;exact ⟨by unfold unusedI;rw[E.o];rfl,rfl⟩
   ·have HA2:aJ (∀ j,5≤j→j<k+1→S.testBit j=true):=ax fun j h1 h2=>by
     by_cases e:j=k
     ·rw[e];exact hb
     ·exact HA.o j h1 (by omega)
    clear hb HA;(go_wp2_with fail)
    go_round
    case rel=>exact ⟨k+1,by omega,by omega,by go_num,HA2⟩
    case measure=>simp[intOf];omega
  ·obtain rfl:k=9:=by omega
   have E:=ax (newT_no (S:=S) fun j h1 h2=>HA.o j h1 (by omega));(go_wp2_with fail);go_ret2;exact ⟨by unfold unusedI;rw[E.o];rfl,rfl⟩
theorem c_impl_newVariable {lo hi:Nat} (v:Value) (a:Asn) (K:Nat) (w:World) (h:AsnV w lo hi v a) (hK:K<512):Calls Tryz.prog 248 #[v,.int .u16 K] w fun e w'=>e=.returned (.tuple #[.int .i64 (unusedI (tset (termsL a)|||K)),.bool (newT (tset (termsL a)|||K)).isSome])∧Below w.heap.size w w':=by
 have hV:=ax h;obtain ⟨A1,c1,A2,c2,rfl,-,-⟩:=h;have HT:=ax (tset_lt (termsL a));have HO:aJ (bits .or .u16 (tset (termsL a):Int) (K:Int)=((tset (termsL a)|||K:Nat):Int)):=ax (u16_or_nat _ _ (by have:=tset_lt (termsL a);omega) (by omega));have HL:aJ (tset (termsL a)|||K<512):=ax (Nat.or_lt_two_pow (n:=9) (tset_lt _) hK);(go_enter Tryz.func248,Tryz.ntmps248);(go_wp2_with fail);refine (c_impl_termsIn _ a _ (hV.o.bz bel)).mono ?_;rintro e w1 ⟨rfl,hB1⟩;have hB:=bgo (w:=w) bel hB1;clear hB1;(go_wp2_with fail);rw[HO.o];refine (c_impl_unused _ _ HL.o).mono ?_;rintro e w2 ⟨rfl,rfl⟩;(go_wp2_with fail);go_ret2;exact ⟨rfl,hB⟩
theorem AtomsV.take_ {w:World} {lo hi:Nat} {A:Option Addr} {xs:List Atm} (h:AtomsV w lo hi A xs) {k:Nat} (hk:k≤xs.length):AtomsV w lo hi A (xs.take k):=by
 have hl:(xs.take k).length=k:=by rw[List.length_take];omega
 have e:encA xs=encA (xs.take k)++encA (xs.drop k):=by rw[←List.flatMap_append,List.take_append_drop]
 refine ⟨⟨len3 _ _ _ _,fun hn=>?_⟩,by rw[hl];exact Nat.le_trans hk h.lim⟩;obtain ⟨b,o,e2,h1,h2,hc⟩:=h.raw.2 (by omega);refine ⟨b,o,e2,h1,h2,fun j u hu=>hc j u ?_⟩;rw[e,List.getElem?_append_left ?_]
 ·exact hu
 ·exact (List.getElem?_eq_some_iff.1 hu).1
theorem AtomsV.drop_ {w:World} {lo hi b o:Nat} {xs:List Atm} (h:AtomsV w lo hi (some ⟨b,o,none⟩) xs) {k:Nat} (hk:k≤xs.length):AtomsV w lo hi (some ⟨b,o+k * 3,none⟩) (xs.drop k):=by
 have hl:(xs.drop k).length=xs.length - k:=List.length_drop;have e:encA xs=encA (xs.take k)++encA (xs.drop k):=by rw[←List.flatMap_append,List.take_append_drop]
 have ht:(encA (xs.take k)).length=k * 3:=by rw[len3,List.length_take];omega
 refine ⟨⟨len3 _ _ _ _,fun hn=>?_⟩,by rw[hl];exact Nat.le_trans (Nat.sub_le _ _) h.lim⟩;obtain ⟨b',o',e2,h1,h2,hc⟩:=h.raw.2 (by omega);injection e2 with e2;injection e2 with e3 e4;subst e3 e4;refine ⟨_,_,rfl,h1,h2,fun j u hu=>?_⟩;have:=hc (k * 3+j) u (by rw[e,List.getElem?_append_right (by omega),ht,Nat.add_sub_cancel_left];exact hu)
 rwa [←Nat.add_assoc] at this
theorem sliceAh (b o M d m:Nat) (hm:m≤d) (w:World):(Instr.slice 34 (.slice (some ⟨b,o,none⟩) M d) none (some (.int .i64 (m:Int))) none).run Tryz.prog w=.ok (.slice (some ⟨b,o,none⟩) m d) w:=by
 have h1:(0:Int)≤(m:Int):=by omega
 have h2:(m:Int)≤(d:Int):=by omega
 go_simp
theorem sliceAl (b o M d m:Nat) (hm:m≤M) (hd:M≤d):∃ A',(∀ w:World,(Instr.slice 34 (.slice (some ⟨b,o,none⟩) M d) (some (.int .i64 (m:Int))) none none).run Tryz.prog w=.ok (.slice A' (M - m) (d - m)) w)∧(m<d→A'=some ⟨b,o+m * 3,none⟩):=by
 have h1:(0:Int)≤(m:Int):=by omega
 have h2:(m:Int)≤(M:Int):=by omega
 by_cases hmd:m<d
 ·refine ⟨some ⟨b,o+m * 3,none⟩,fun w=>?_,fun _=>rfl⟩;go_simp;intro h;omega
 ·obtain rfl:m=d:=by omega
  refine ⟨some ⟨b,o,none⟩,fun w=>?_,fun h=>by omega⟩;go_simp
def withoutL (xs:List Atm) (i:Nat):List Atm:=xs.take i++xs.drop (i+1)
theorem withoutL_len {xs:List Atm} {i:Nat} (h:i<xs.length):(withoutL xs i).length+1=xs.length:=by
 unfold withoutL;rw[List.length_append,List.length_take,List.length_drop];omega
theorem c_impl_without {lo hi:Nat} (v:Value) (a:Asn) (i:Nat) (w:World) (h:AsnC w lo hi v a) (hi:i<a.atoms.length) :
  Calls Tryz.prog 213 #[v,.int .i64 i] w fun e w'=>∃ r,e=.returned r∧AtomsO w' w.heap.size r (withoutL a.atoms i)∧Below w.heap.size w w':=by
 obtain ⟨A1,c1,A2,c2,rfl,h1,h2,hcap⟩:=h;obtain ⟨b,o,rfl,-⟩:=h2.at hi;have HV:=ax h2;have hl:=h2.le;have hs1:=sliceAh b o a.atoms.length c2 i (by omega);obtain ⟨A',hs2,hA'⟩:=sliceAl b o a.atoms.length c2 (i+1) (by omega) hcap;have hT:=ax (h2.take_ (k:=i) (by omega))
 have hD:aJ (AtomsV w lo _ A' (a.atoms.drop (i+1))):=ax (by
  by_cases hlt:i+1<a.atoms.length
  ·rw[hA' (by omega)];exact h2.drop_ (by omega)
  ·rw[List.drop_eq_nil_of_le (by omega)]
   exact Rd.nil _ _ _ _ _)
 have e1:(a.atoms.take i).length=i:=by rw[List.length_take];omega
 have e2:(a.atoms.drop (i+1)).length=a.atoms.length - (i+1):=List.length_drop
 have hj:=ax (fun (W:World) (hb:Below w.heap.size w W)=>(show Calls Tryz.prog 102 #[.slice (some ⟨b,o,none⟩) i c2,.slice A' (a.atoms.length - (i+1)) (c2 - (i+1))] W fun e w'=>∃ r,e=.returned r∧AtomsO w' W.heap.size r (withoutL a.atoms i)∧Below W.heap.size W w' from by
  have:=c_joinA (some ⟨b,o,none⟩) A' c2 (c2 - (i+1)) (a.atoms.take i) (a.atoms.drop (i+1)) W (hT.o.bz hb) (hD.o.bz hb) (by rw[e1,e2];omega)
  rwa [e1,e2] at this))
 clear h1 h2 hA' e1 e2
 push_cast at hs2
 have hw:IntKind.i64.wrap ((i:Int)+1)=(i:Int)+1:=IntWalk.i64_in _ (by omega);(go_enter Tryz.func213,Tryz.ntmps213);have k0:Blk (w.alloc (.cells #[.slice A1 a.facts.length c1,.slice (some ⟨b,o,none⟩) a.atoms.length c2] tAs)) w.heap.size tAs #[.slice A1 a.facts.length c1,.slice (some ⟨b,o,none⟩) a.atoms.length c2]:=blks;(go_wp2_with fail);refine wp_region_noPanic ?_;refine wp_region_held_drew (S:=(fun w'=>∀ i,w'.cell? ⟨w.heap.size,i,none⟩=#[.slice A1 a.facts.length c1,.slice (some ⟨b,o,none⟩) a.atoms.length c2][i]?)) (by kernel_rfl) (Blk.cell blks) (fun aH=>?_);refine tk2 0 rfl aH (h:=tk2 1 rfl aH (h:=tk2 2 rfl aH (h:=?_)));(try simp only[zz]);refine tk2 3 rfl aH (h:=tk2 4 rfl aH (h:=tk2 5 rfl aH (h:=?_)));(try simp only[zz]);refine tk2 6 rfl aH (h:=tk2 7 rfl aH (h:=tk2 8 rfl aH (h:=?_)));refine rdc 9 rfl fun K hK=>?_;(try simp only[zz]);(go_simp;refine (hj.o _ bel).mono ?_;rintro e w1 ⟨r,rfl,o1,hB1⟩;have hB:=bgo (w:=w) bel hB1;have O1:=ax (o1.lower (base':=w.heap.size) (by simp));replace k0:=Blk.nz (g:=w.heap.size) blks hB1);refine hK.out _ _ (k0.cell) ?_;clear aH hK K;intro aH;refine rdc 10 rfl fun K hK=>?_;(try simp only[zz]);go_simp;refine hK.out _ _ (k0.cell) ?_;clear aH hK K;intro aH;(try simp only[zz]);refine dn1 ?_;(go_wp2_with fail);go_ret;exact ⟨r,rfl,O1.o,hB⟩
def findP (a:Asn) (kind t:Int) (i:Nat):Bool:=match a.atoms[i]? with
 | some x=>decide (x.kind=kind)&&impB a ⟨true,x.a,t⟩
 | none=>false
def findK (a:Asn) (kind t:Int):Option Nat:=(List.range a.atoms.length).find? (findP a kind t)
def findI (a:Asn) (kind t:Int):Int:=match findK a kind t with|some i=>(i:Int)|none=>0
theorem findK_yes {a:Asn} {kind t:Int} {k:Nat} (hk:k<a.atoms.length) (h1:∀ j,j<k→findP a kind t j=false) (h2:findP a kind t k=true):findK a kind t=some k:=by
 unfold findK
 have e:List.range a.atoms.length=List.range k++(List.range' k (a.atoms.length - k)):=by
  rw[List.range_eq_range',List.range_eq_range',show a.atoms.length=k+(a.atoms.length - k) by omega,←List.range'_append];simp
 rw[e,List.find?_append]
 have:(List.range k).find? (findP a kind t)=none:=by
  rw[List.find?_eq_none];intro x hx;simp[h1 x (List.mem_range.1 hx)]
 rw[this,show a.atoms.length - k=(a.atoms.length - k - 1)+1 by omega,List.range'_succ,List.find?_cons,h2];rfl
theorem findK_no {a:Asn} {kind t:Int} (h1:∀ j,j<a.atoms.length→findP a kind t j=false):findK a kind t=none:=by
 unfold findK;rw[List.find?_eq_none];intro x hx;simp[h1 x (List.mem_range.1 hx)]
theorem c_impl_firstAtomAt {lo hi:Nat} (v:Value) (a:Asn) (kind t:Int) (w:World) (h:AsnV w lo hi v a) (hhi:hi≤w.heap.size) :
  Calls Tryz.prog 210 #[v,.int .i64 kind,.int .i64 t] w fun e w'=>e=.returned (.tuple #[.int .i64 (findI a kind t),.bool (findK a kind t).isSome])∧Below w.heap.size w w':=by
 have hV:=ax h;obtain ⟨A1,c1,A2,c2,rfl,-,h2⟩:=h;have H2:=ax h2;have hl:=h2.le;clear h2;(go_enter Tryz.func210,Tryz.ntmps210);have k0:Blk (w.alloc (.cells #[.slice A1 a.facts.length c1,.slice A2 a.atoms.length c2] tAs)) w.heap.size tAs #[.slice A1 a.facts.length c1,.slice A2 a.atoms.length c2]:=blks;have hB:Below w.heap.size w (w.alloc (.cells #[.slice A1 a.facts.length c1,.slice A2 a.atoms.length c2] tAs)):=bel;(go_wp2_with fail)
 go_loopw [13] (fun i wr=>∃ k:Nat,k≤a.atoms.length∧i=.int .i64 k∧aJ (∀ j,j<k→findP a kind t j=false)∧Blk wr w.heap.size tAs #[.slice A1 a.facts.length c1,.slice A2 a.atoms.length c2]∧aJ (Below w.heap.size w wr)) (fun i _=>a.atoms.length - (intOf i).toNat)
 case atStart=>exact ⟨0,Nat.zero_le _,rfl,ax fun j h=>by omega,k0,hB⟩
 case round=>
  clear k0 hB;obtain ⟨k,hk,rfl,HA,k0,HB⟩:=hrel;have hzr:=HB.o.size;by_cases hlt:k<a.atoms.length
  ·obtain ⟨b,off,rfl,g0,g1,g2⟩:=(H2.o.bz HB.o).at hlt;have hki:(k:Int)<(a.atoms.length:Int):=by omega
   have HP:aJ (findP a kind t k=(decide (a.atoms[k].kind=kind)&&impB a ⟨true,a.atoms[k].a,t⟩)):=ax (by unfold findP;rw[List.getElem?_eq_getElem hlt]);obtain ⟨x,hx⟩:∃ x,x=a.atoms[k]:=⟨_,rfl⟩;rw[←hx] at g0 g1 g2 HP;have hbx:Below wr.heap.size wr (wr.alloc (.cells #[.int .i64 x.kind,.int .i64 x.a,.int .i64 x.b] tA)):=bbox (Below.refl _ _) _;have k1:=k0.nz hbx;have HB1:=ax (bgo HB.o hbx);have q1:=k1.cell;have l1:=k1.lt;have hz1:=hbx.size;clear hx hbx;by_cases hkd:x.kind=kind
   case neg=>
    have hkb:(x.kind == kind)=false:=by simpa using hkd
    have HA2:aJ (∀ j,j<k+1→findP a kind t j=false):=ax fun j hj=>by
     by_cases e:j=k
     ·rw[e,HP.o];simp[hkd]
     ·exact HA.o j (by omega)
    clear HA HP hkd;(go_wp2_with fail)
    go_round
    case rel=>exact ⟨k+1,by omega,by go_num,HA2,k1,HB1.o⟩
    case measure=>simp[intOf];omega
   subst hkd;(go_wp2_with fail);refine (c_impl_Implies _ a ⟨true,x.a,t⟩ _ (hV.o.bz HB1.o) (by omega)).mono ?_;rintro e w3 ⟨rfl,hB3⟩;replace k1:=k1.nz hB3;have HB3:=ax (bgo HB1.o hB3);clear hB3 q1 l1;cases hi:impB a ⟨true,x.a,t⟩
   ·have HA2:aJ (∀ j,j<k+1→findP a x.kind t j=false):=ax fun j hj=>by
     by_cases e:j=k
     ·rw[e,HP.o,hi];simp
     ·exact HA.o j (by omega)
    clear HA HP hi;(go_wp2_with fail)
    go_round
    case rel=>exact ⟨k+1,by omega,by go_num,HA2,k1,HB3.o⟩
    case measure=>simp[intOf];omega
   ·have E:=ax (findK_yes hlt HA.o (by rw[HP.o,hi];simp));clear HA HP hi;(go_wp2_with fail);go_ret2;exact ⟨by unfold findI;rw[E.o];rfl,HB3.o⟩
  ·obtain rfl:k=a.atoms.length:=by omega
   have E:=ax (findK_no (fun j hj=>HA.o j hj));(go_wp2_with fail);go_ret2;exact ⟨by unfold findI;rw[E.o];rfl,HB.o⟩
end
end Go.Proofs.YtgdfdmjnadnlnaaGreat
