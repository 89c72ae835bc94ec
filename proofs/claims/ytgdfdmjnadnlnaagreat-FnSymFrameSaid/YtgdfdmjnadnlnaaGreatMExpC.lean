/- Contracts: the spec's cases: filled atoms, the open case. -/
import Derived.Test.YtgdfdmjnadnlnaaGreatCaseS
import Derived.Test.YtgdfdmjnadnlnaaGreatMModP
import Derived.Deep.RegionHeld3
import Derived.Deep.DeepCutAuto
set_option linter.unusedSimpArgs false
set_option linter.unusedVariables false
set_option maxRecDepth 100000
set_option maxHeartbeats 25600000
namespace Go.Proofs.YtgdfdmjnadnlnaaGreat
section
open Go Go.RowKit Go.Proofs
attribute [local go_sem ↓] Go.wp_at_zero Go.wp_at_succ
theorem c_spec_l5Filled {lo hi lo' hi':Nat} (A B:Option Addr) (c0 c1:Nat) (xs:List Atm) (c:List Int) (w:World) (h:AtomsV w lo hi A xs) (h':IntsV w lo' hi' B c) (hc:c.length=9) (hx:AtomsOk xs) :
  Calls Tryz.prog 244 #[.slice A xs.length c0,.slice B c.length c1] w fun e w'=>∃ r,e=.returned r∧AtomsO w' w.heap.size r (filledL xs c)∧Below w.heap.size w w':=by
 have hl:=h.le;obtain ⟨pb,ob,rfl,lpb⟩:=h'.blt (k:=0) (by omega);have HC:=ax hc;have HX:=ax hx;have H':=ax h';clear hx h';rw[hc];clear hc;(go_enter Tryz.func244,Tryz.ntmps244);(go_wp2_with fail)
 go_loopw [5,6] (fun r i wr=>∃ (k:Nat) (D:Option Addr) (n e:Nat),k≤xs.length∧i=.int .i64 k∧n=(filledL (xs.take k) c).length∧r=.slice D n e∧AtomsO wr w.heap.size (.slice D n e) (filledL (xs.take k) c)∧Below w.heap.size w wr) (fun _ i _=>xs.length - (intOf i).toNat)
 case atStart=>exact ⟨0,some ⟨w.heap.size,0,none⟩,0,0,Nat.zero_le _,rfl,rfl,rfl,AtomsO.empty w,bel⟩
 case round=>
  obtain ⟨k,D,n,e,hkk,rfl,hn,rfl,of,hB⟩:=hrel;have HN:=ax hn
  have hnl:n≤k:=by
   rw[hn];exact Nat.le_trans (filledL_len _ _) (by simp;omega)
  clear hn;by_cases hlt:k<xs.length
  ·obtain ⟨b,off,rfl,hbl⟩:=h.blt hlt;have HH:=ax h;have HT:=ax (filledL_take xs c k hlt);have hxk:=HX.o _ (List.getElem_mem hlt);obtain ⟨x,hxe⟩:∃ x,x=xs[k]:=⟨_,rfl⟩;have HCL:aJ (∀ w':World,Below w.heap.size w w'→w'.cell? ⟨b,off+k*3,none⟩=some (.int .i64 x.kind)∧w'.cell? ⟨b,off+k*3+1,none⟩=some (.int .i64 x.a)∧w'.cell? ⟨b,off+k*3+2,none⟩=some (.int .i64 x.b)):=fun w' hw'=>by rw[hxe];exact (HH.o.bz hw').cl hlt
   rw[←hxe] at HT hxk;clear hxe;obtain ⟨q,xa,xb⟩:=x;dsimp only at hxk HCL;obtain ⟨⟨a1,a2⟩,⟨b1,b2⟩⟩:=hxk;obtain ⟨xa,rfl⟩:=Int.eq_ofNat_of_zero_le a1;obtain ⟨xb,rfl⟩:=Int.eq_ofNat_of_zero_le b1;have ha9:(xa:Int)<9:=by omega
   have hb9:(xb:Int)<9:=by omega
   have HCI:aJ (∀ w':World,Below w.heap.size w w'→w'.cell? ⟨pb,ob+xa,none⟩=some (.int .i64 (cl c xa))∧w'.cell? ⟨pb,ob+xb,none⟩=some (.int .i64 (cl c xb))):=fun w' hw'=>⟨ints_cl (H'.o.bz hw') (by rw[HC.o];omega),ints_cl (H'.o.bz hw') (by rw[HC.o];omega)⟩;have hwz:=hB.size;have hlx:(k:Int)<(xs.length:Int):=by omega
   clear a1 a2 b1 b2 h;have HS:aJ (∀ w':World,Below w.heap.size w w'→(w'.cell? ⟨b,off+k*3,none⟩=some (.int .i64 q)∧w'.cell? ⟨b,off+k*3+1,none⟩=some (.int .i64 xa)∧w'.cell? ⟨b,off+k*3+2,none⟩=some (.int .i64 xb))∧w'.cell? ⟨pb,ob+xa,none⟩=some (.int .i64 (cl c xa))∧w'.cell? ⟨pb,ob+xb,none⟩=some (.int .i64 (cl c xb))):=fun w' hw'=>⟨HCL.o w' hw',HCI.o w' hw'⟩;(go_wp2_with fail);refine wp_region_noPanic ?_;refine wp_region_held_drew (S:=(fun w'=>(w'.cell? ⟨b,off+k*3,none⟩=some (.int .i64 q)∧w'.cell? ⟨b,off+k*3+1,none⟩=some (.int .i64 xa)∧w'.cell? ⟨b,off+k*3+2,none⟩=some (.int .i64 xb))∧w'.cell? ⟨pb,ob+xa,none⟩=some (.int .i64 (cl c xa))∧w'.cell? ⟨pb,ob+xb,none⟩=some (.int .i64 (cl c xb)))) (by kernel_rfl) (HS.o _ bel) (fun hHeld=>?_);refine tk2 0 rfl hHeld (h:=tk2 1 rfl hHeld (h:=tk2 2 rfl hHeld (h:=?_)));(try simp only[zz]);refine tk2 3 rfl hHeld (h:=tk2 4 rfl hHeld (h:=tk2 5 rfl hHeld (h:=?_)));(try simp only[zz]);refine tk2 6 rfl hHeld (h:=tk2 7 rfl hHeld (h:=tk2 8 rfl hHeld (h:=?_)));(try simp only[zz]);refine tk2 9 rfl hHeld (h:=tk2 10 rfl hHeld (h:=tk2 11 rfl hHeld (h:=?_)));(try simp only[zz]);refine tk2 12 rfl hHeld (h:=tk2 13 rfl hHeld (h:=tk2 14 rfl hHeld (h:=?_)));(try simp only[zz]);refine tk2 15 rfl hHeld (h:=tk2 16 rfl hHeld (h:=tk2 17 rfl hHeld (h:=?_)));(try simp only[zz]);refine tk2 18 rfl hHeld (h:=tk2 19 rfl hHeld (h:=tk2 20 rfl hHeld (h:=?_)));(try simp only[zz]);refine tk2 21 rfl hHeld (h:=?_);refine rdc 22 rfl fun K hK=>?_;(try simp only[zz]);go_simp;refine hK.out _ _ (HS.o _ bel) ?_;clear hHeld hK K;intro hHeld;refine rdc 23 rfl fun K hK=>?_;(try simp only[zz]);go_simp;refine hK.out _ _ (HS.o _ bel) ?_;clear hHeld hK K;intro hHeld;(try simp only[zz]);refine dn1 ?_;clear hHeld;have kx:Blk (wr.alloc (.cells #[.int .i64 q,.int .i64 (cl c xa),.int .i64 (cl c xb)] tA)).drew wr.heap.size tA #[.int .i64 q,.int .i64 (cl c xa),.int .i64 (cl c xb)]:=blks;have hB2:Below w.heap.size w (wr.alloc (.cells #[.int .i64 q,.int .i64 (cl c xa),.int .i64 (cl c xb)] tA)).drew:=bel;have of2:=of.bz (w':=(wr.alloc (.cells #[.int .i64 q,.int .i64 (cl c xa),.int .i64 (cl c xb)] tA)).drew) bel;have hz2:wr.heap.size<(wr.alloc (.cells #[.int .i64 q,.int .i64 (cl c xa),.int .i64 (cl c xb)] tA)).drew.heap.size:=kx.lt;generalize (wr.alloc (.cells #[.int .i64 q,.int .i64 (cl c xa),.int .i64 (cl c xb)] tA)).drew=W2 at kx hB2 of2 hz2 ⊢
   have HF:aJ (∀ s t:Bool,(q == 1)=s→(cl c xa == cl c xb)=t→filledL (xs.take (k+1)) c=filledL (xs.take k) c++if (s || !t) then [⟨q,cl c xa,cl c xb⟩] else []):=by
    intro s t hs ht;rw[HT.o];have:Atm.fill c ⟨q,xa,xb⟩=(s || !t):=by rw[←hs,←ht];rfl
    rw[this];rfl
   have qx:=kx.cell;obtain ⟨u,hu⟩:∃ u,u=cl c xa:=⟨_,rfl⟩;obtain ⟨v,hv⟩:∃ v,v=cl c xb:=⟨_,rfl⟩;rw[←hu,←hv] at kx qx HF ⊢;clear hu hv HT HS HCI HCL of hB;cases hq:(q == 1)
   ·cases hab:(u == v)
    ·have HZ:aJ (filledL (xs.take (k+1)) c=filledL (xs.take k) c++[⟨q,u,v⟩]):=HF.o _ _ hq hab;(go_wp2_with (at_builtin;refine appAL rfl _ _ rfl (v:=.slice D n e) rfl (of2.bz (w':=W2.alloc (.cells #[.int .i64 q,.int .i64 u,.int .i64 v] tA)) bel) rfl (AtomsV.one' (Blk.newE rfl)) (by simp only[List.length_cons,List.length_nil];rw[←HN.o];omega) (by simp;omega) ?_;intro A' c' w2 of3 hg2 hB3))
     go_round
     case rel=>exact ⟨k+1,A',_,c',by omega,by go_num,rfl,by rw[HZ.o];simp,by rw[HZ.o];exact of3,Below.trans (bbox hB2 _) (hB3.mono (Nat.le_refl _))⟩
     case measure=>simp[intOf];omega
    ·have HZ:aJ (filledL (xs.take (k+1)) c=filledL (xs.take k) c++[]):=HF.o _ _ hq hab;(go_wp2_with fail)
     go_round
     case rel=>exact ⟨k+1,D,n,e,by omega,by go_num,by rw[HZ.o,List.append_nil];exact HN.o,rfl,by rw[HZ.o,List.append_nil];exact of2,hB2⟩
     case measure=>simp[intOf];omega
   ·have HZ:aJ (filledL (xs.take (k+1)) c=filledL (xs.take k) c++[⟨q,u,v⟩]):=HF.o _ _ hq rfl;(go_wp2_with (at_builtin;refine appAL rfl _ _ rfl (v:=.slice D n e) rfl (of2.bz (w':=W2.alloc (.cells #[.int .i64 q,.int .i64 u,.int .i64 v] tA)) bel) rfl (AtomsV.one' (Blk.newE rfl)) (by simp only[List.length_cons,List.length_nil];rw[←HN.o];omega) (by simp;omega) ?_;intro A' c' w2 of3 hg2 hB3))
    go_round
    case rel=>exact ⟨k+1,A',_,c',by omega,by go_num,rfl,by rw[HZ.o];simp,by rw[HZ.o];exact of3,Below.trans (bbox hB2 _) (hB3.mono (Nat.le_refl _))⟩
    case measure=>simp[intOf];omega
  ·obtain rfl:k=xs.length:=by omega
   (go_wp2_with fail);go_ret;refine ⟨_,rfl,?_,hB⟩;rw[List.take_length] at of;exact of
theorem opened_take (n:Nat) (h1:1≤n) (h9:n<9):opened.take (n+1)=opened.take n++[-1]:=by
 obtain rfl|rfl|rfl|rfl|rfl|rfl|rfl|rfl:n=1∨n=2∨n=3∨n=4∨n=5∨n=6∨n=7∨n=8:=by omega
 all_goals rfl
theorem c_spec_l5Open (w:World) :
  Calls Tryz.prog 195 #[] w fun e w'=>∃ r,e=.returned r∧IntsO w' w.heap.size r opened∧Below w.heap.size w w':=by
 (go_enter Tryz.func195,Tryz.ntmps195);(go_wp2_with fail)
 go_loopw [1] (fun r wr=>∃ (n:Nat) (D:Option Addr) (e:Nat),1≤n∧n≤9∧r=.slice D n e∧IntsO wr w.heap.size (.slice D n e) (opened.take n)∧Below w.heap.size w wr) (fun r _=>match r with | .slice _ n _=>9 - n|_=>0)
 case atStart=>exact ⟨1,some ⟨w.heap.size,0,none⟩,1,by omega,by omega,rfl,IntsO.one w 0 (Nat.le_refl _),bel⟩
 case round=>
  obtain ⟨n,D,e,h1,h9,rfl,o,hB⟩:=hrel;have hwz:=hB.size;by_cases hlt:n<9
  ·have hn8:(n:Int)≤8:=by omega
   have HT:=ax (opened_take n h1 hlt);have hll:aJ ((opened.take n).length=n):=by show _=_;rw[List.length_take];show min n 9=n;omega
   have o1:=o.bz (w':=wr.alloc (.cells #[.int .i64 (-1)] tI)) bel;(go_wp2_with (at_builtin;refine appI rfl _ _ rfl (v:=.slice D n e) rfl o1 wr.heap.size (-1) rfl (cell_box _ _ _) (by rw[hll.o];omega) (by simp;omega) ?_;intro g cc w2 o2 hg2 hB3;rw[hll.o,←HT.o] at o2;rw[hll.o]))
   go_round
   case rel=>exact ⟨n+1,_,_,by omega,by omega,rfl,o2,Below.trans bel hB3⟩
   case measure=>simp;omega
  ·obtain rfl:n=9:=by omega
   (go_wp2_with fail);go_ret;exact ⟨_,rfl,o,hB⟩
theorem IntsO.open_ {w:World} {base:Nat} {A:Option Addr} {n c k:Nat} {fs:List Int} (h:IntsO w base (.slice A n c) fs) (hk:k<fs.length):∃ g cur,n=fs.length∧A=some ⟨g,0,none⟩∧base≤g∧Blk w g tI cur∧cur[k]? = some (.int .i64 fs[k])∧
  (∀ v:Int,IntsO (w.setCell ⟨g,k,none⟩ (.int .i64 v)) base (.slice A n c) (fs.set k v)):=by
 obtain ⟨⟨hl,h2⟩,hL⟩:=h;rcases h2 with ⟨e,hn⟩|⟨g,cap,cur,e,hb,hh,hn,hm,hs,ht⟩
 ·omega
 ·injection e with e1 e2 e3;subst e1 e2 e3;have hK:Blk w g tI cur:=hh
  have hP:Pre cur (encI fs) (fs.length * 1):=by
   intro j hj;rw[←ht,List.getElem?_take,if_pos hj];simp
  refine ⟨g,cur,rfl,rfl,hb,hK,(hP _ (by omega)).trans (by simp[List.getElem?_eq_getElem hk]),?_⟩;intro v;refine ⟨?_,by rw[List.length_set];exact hL⟩;rw[show encI (fs.set k v)=(encI fs).set k (.int .i64 v) from by simp[encI,List.map_set],List.length_set];exact own_of_blk (hK.set_ k (.int .i64 v)) hb (by rw[List.length_set,hl]) (hP.setL k (.int .i64 v) (by rw[hs];exact Nat.mul_le_mul hn (Nat.le_refl _)) (by rw[hl];exact Nat.le_refl _)) hn hm (by simpa using hs)
def seekAt (a:Asn) (S n:Nat) (c:List Int) (k:Nat):List (List Int):=if k<8 - n∧cl c k≠k then [] else seek a S n (c.set (8 - n) k)
theorem seek_cut {a:Asn} {S:Nat} (n:Nat) {c:List Int} (h:(fitsS c a.facts&&earlyF c [] a.atoms)=false):seek a S n c=[]:=by
 cases n<;>(unfold seek;rw[h];rfl)
theorem seek_leaf {a:Asn} {S:Nat} {c:List Int} (h:(fitsS c a.facts&&earlyF c [] a.atoms)=true):seek a S 0 c=if apartF [] (filledL a.atoms c) then [c] else []:=by
 unfold seek;rw[h,if_pos rfl]
theorem seek_step {a:Asn} {S n:Nat} {c:List Int} (h:(fitsS c a.facts&&earlyF c [] a.atoms)=true):seek a S (n+1) c=if S.testBit (8 - n) then (List.range (9 - n)).flatMap (seekAt a S n c) else seek a S n c:=by
 conv=>lhs;unfold seek
 rw[h,if_pos rfl];rfl
theorem flatMap_first {α:Type} {f:Nat→List α} {k N:Nat} (hk:k<N) (h:(List.range k).flatMap f=[]) (hne:f k≠[]):∃ y,(f k).head? = some y∧((List.range N).flatMap f).head? = some y:=by
 obtain ⟨m,rfl⟩:∃ m,N=k+(m+1):=⟨N - k - 1,by omega⟩;rw[List.range_add,List.range_succ_eq_map,List.map_cons,List.flatMap_append,List.flatMap_cons,Nat.add_zero,h,List.nil_append]
 cases e:f k with
 | nil=>exact absurd e hne
 | cons y ys=>exact ⟨y,rfl,rfl⟩
def firstI (L:List (List Int)):List Int:=L.head?.getD []
theorem c_fits9 {lo hi lo' hi':Nat} (A B:Option Addr) (c0 c1:Nat) (fs:List Fct) (c:List Int) (w:World) (h:FactsV w lo hi A fs) (h':IntsV w lo' hi' B c) (hc:c.length=9) (hf:FactsOk fs) :
  Calls Tryz.prog 241 #[.slice A fs.length c0,.slice B 9 c1] w fun e w'=>e=.returned (.bool (fitsS c fs))∧w=w':=by
 have:=c_spec_l5Fits A B c0 c1 fs c w h h' hc hf;rwa [hc] at this
theorem c_early9 {lo hi lo' hi':Nat} (A B:Option Addr) (c0 c1:Nat) (xs:List Atm) (c:List Int) (w:World) (h:AtomsV w lo hi A xs) (h':IntsV w lo' hi' B c) (hc:c.length=9) (hx:AtomsOk xs) (hcl:∀ x∈xs,cl c x.a≤8) :
  Calls Tryz.prog 242 #[.slice A xs.length c0,.slice B 9 c1] w fun e w'=>e=.returned (.bool (earlyF c [] xs))∧Below w.heap.size w w':=by
 have:=c_spec_l5Early A B c0 c1 xs c w h h' hc hx hcl;rwa [hc] at this
theorem c_filled9 {lo hi lo' hi':Nat} (A B:Option Addr) (c0 c1:Nat) (xs:List Atm) (c:List Int) (w:World) (h:AtomsV w lo hi A xs) (h':IntsV w lo' hi' B c) (hc:c.length=9) (hx:AtomsOk xs) :
  Calls Tryz.prog 244 #[.slice A xs.length c0,.slice B 9 c1] w fun e w'=>∃ r,e=.returned r∧AtomsO w' w.heap.size r (filledL xs c)∧Below w.heap.size w w':=by
 have:=c_spec_l5Filled A B c0 c1 xs c w h h' hc hx;rwa [hc] at this
theorem c_spec_l5FirstG {a:Asn} {S lo hi lo2 hi2:Nat} {A1 A2:Option Addr} {d1 d2:Nat} (T:Option Addr) (tc:Nat) (hOK:aJ (FactsOk a.facts∧AtomsOk a.atoms)) (hvl0:aJ (a.facts.length≤40∧a.atoms.length≤6)) :
  ∀ (n:Nat) (c:List Int) (B:Option Addr) (cc lo' hi':Nat) (w:World),n≤8→c.length=9→(∀ j:Nat,j<9 - n→S.testBit j=true→0≤cl c j∧cl c j≤j)→(∀ j:Nat,j<9→cl c j≤8)→
   AsnV w lo hi (.agg #[.slice A1 a.facts.length d1,.slice A2 a.atoms.length d2]) a→BoolsV w lo2 hi2 T (flagsOf S)→IntsV w lo' hi' B c→
   Calls Tryz.prog 216 #[.agg #[.slice A1 a.facts.length d1,.slice A2 a.atoms.length d2],.slice T 9 tc,.slice B 9 cc,.int .i64 ((9 - n:Nat):Int)] w fun e w'=>
    ∃ r,e=.returned (.tuple #[r,.bool (!(seek a S n c).isEmpty)])∧IntsO w' w.heap.size r (firstI (seek a S n c))∧Below w.heap.size w w':=by
 intro n
 induction n with
 | zero=>
  intro c B cc lo' hi' w hn hc _ hc8 hA hT hI;have HO:=hOK;have hV:=ax hA;have HC:=ax hc;have HI:=ax hI
  have HCL:aJ (∀ x∈a.atoms,cl c x.a≤8):=fun x hx=>by
   have:=(HO.o.2 x hx).1;obtain ⟨t,et⟩:=Int.eq_ofNat_of_zero_le this.1;rw[et];exact hc8 t (by omega)
  obtain ⟨B1,e1,B2,e2,he,h1,h2⟩:=hA;injection he with he;injection he with he;injection he with he1 he2;injection he2 with he2 he3;injection he1 with he1 _ he4;injection he2 with he2 _ he5;subst he1 he4 he2 he5;have H1:=ax h1;have H2:=ax h2;have hvl:=hvl0.o;clear h1 h2 hc hc8 hT hI he3;(go_enter Tryz.func216,Tryz.ntmps216);(go_wp2_with fail);refine (c_fits9 A1 B d1 cc a.facts c _ (H1.o.bz bel) (HI.o.bz bel) HC.o HO.o.1).mono ?_;rintro e w1 ⟨rfl,rfl⟩;cases hf:fitsS c a.facts
  ·have E:=ax (seek_cut (a:=a) (S:=S) 0 (c:=c) (by rw[hf];rfl));clear hf;(go_wp2_with fail);go_ret2;exact ⟨_,by rw[E.o];rfl,by rw[E.o];exact IntsO.lower (IntsO.empty _ (by simp)) (by simp),bel⟩
  have HF:=ax hf;clear hf;(go_wp2_with fail);refine (c_early9 A2 B d2 cc a.atoms c _ (H2.o.bz bel) (HI.o.bz bel) HC.o HO.o.2 HCL.o).mono ?_;rintro e w2 ⟨rfl,hB2⟩;have hB:Below w.heap.size w w2:=bgo (w:=w) bel hB2;have k0:Blk w2 w.heap.size tAs #[.slice A1 a.facts.length d1,.slice A2 a.atoms.length d2]:=Blk.nz blks hB2;have q0:=k0.cell;have l0:=k0.lt;clear hB2;cases he:earlyF c [] a.atoms
  ·have E:=ax (seek_cut (a:=a) (S:=S) 0 (c:=c) (by rw[HF.o,he];rfl));clear he;(go_wp2_with fail);go_ret2;exact ⟨_,by rw[E.o];rfl,by rw[E.o];exact IntsO.lower (IntsO.empty _ rfl) (by omega),bel⟩
  have E0:=ax (seek_leaf (a:=a) (S:=S) (c:=c) (by rw[HF.o,he];rfl));clear he;(go_wp2_with fail);refine (c_filled9 A2 B d2 cc a.atoms c _ (H2.o.bz hB) (HI.o.bz hB) HC.o HO.o.2).mono ?_;rintro e w3 ⟨r3,rfl,o3,hB3⟩;obtain ⟨R3,e3,rfl,v3⟩:=o3.reads;have hBB:Below w.heap.size w w3:=bgo hB hB3;(go_wp2_with fail);refine (c_spec_l5Apart R3 e3 (filledL a.atoms c) _ v3).mono ?_;rintro e w4 ⟨rfl,hB4⟩;have hB5:Below w.heap.size w w4:=bgo hBB hB4;have hz:=hB5.size;clear o3 v3 hB3 hB4 hBB q0 l0 k0 hB;cases hap:apartF [] (filledL a.atoms c)
  ·have E:=ax (show seek a S 0 c=[] by rw[E0.o,hap];rfl);clear hap;(go_wp2_with fail);go_ret2;exact ⟨_,by rw[E.o];rfl,by rw[E.o];exact IntsO.lower (IntsO.empty _ rfl) (by omega),bel⟩
  ·have E:=ax (show seek a S 0 c=[c] by rw[E0.o,hap];rfl);clear hap;(go_wp2_with (at_builtin;refine appIL (ys:=c) rfl _ _ rfl (v:=.slice (some ⟨w4.heap.size,0,none⟩) 0 0) rfl (IntsO.empty w4 rfl) (by rw[HC.o];rfl) (HI.o.bz bel) (by rw[HC.o];simp) (by simp) ?_;intro A' c' w5 o5 hg5 hB6;rw[List.nil_append,HC.o]));go_ret2;exact ⟨_,by rw[E.o];rfl,by rw[E.o];rw[List.nil_append,HC.o] at o5;exact o5.lower hz,Below.trans bel (hB6.mono hz)⟩
 | succ n ih=>
  intro c B cc lo' hi' w hn hc hcl hc8 hA hT hI;have HO:=hOK;have hV:=ax hA;have HC:=ax hc;have HI:=ax hI;have HTT:=ax hT;have HC8:=ax hc8;have HCL0:=ax hcl;have IH:=ax ih
  have HCL:aJ (∀ x∈a.atoms,cl c x.a≤8):=fun x hx=>by
   have:=(HO.o.2 x hx).1;obtain ⟨t,et⟩:=Int.eq_ofNat_of_zero_le this.1;rw[et];exact hc8 t (by omega)
  obtain ⟨B1,e1,B2,e2,he,h1,h2⟩:=hA;injection he with he;injection he with he;injection he with he1 he2;injection he2 with he2 he3;injection he1 with he1 _ he4;injection he2 with he2 _ he5;subst he1 he4 he2 he5;have H1:=ax h1;have H2:=ax h2;obtain ⟨tb,tz0,rfl,ltb⟩:=flags_addr hT;obtain ⟨pb,ob,rfl,lpb⟩:=hI.blt (k:=0) (by omega);obtain ⟨m,hm8⟩:∃ m,m=8 - n:=⟨_,rfl⟩;have E1:aJ (((9 - n:Nat):Int)=(m:Int)+1):=by show _=_;omega
  rw[show 9 - (n+1)=m from by omega] at HCL0 ⊢;have HM8:=ax hm8;have HN:=ax hn;have hmg:¬(8<(m:Int)):=by omega
  have hmi9:(m:Int)<9:=by omega
  clear h1 h2 hc hc8 hcl hT hI he3 ih hm8 hn;(go_enter Tryz.func216,Tryz.ntmps216);(go_wp2_with fail);refine (c_fits9 A1 _ d1 cc a.facts c _ (H1.o.bz bel) (HI.o.bz bel) HC.o HO.o.1).mono ?_;rintro e w1 ⟨rfl,rfl⟩;cases hf:fitsS c a.facts
  ·have E:=ax (seek_cut (a:=a) (S:=S) (n+1) (c:=c) (by rw[hf];rfl));clear hf;(go_wp2_with fail);go_ret2;exact ⟨_,by rw[E.o];rfl,by rw[E.o];exact IntsO.lower (IntsO.empty _ (by simp)) (by simp),bel⟩
  have HF:=ax hf;clear hf;(go_wp2_with fail);refine (c_early9 A2 _ d2 cc a.atoms c _ (H2.o.bz bel) (HI.o.bz bel) HC.o HO.o.2 HCL.o).mono ?_;rintro e w2 ⟨rfl,hB2⟩;have hB:Below w.heap.size w w2:=bgo (w:=w) bel hB2;have k0:Blk w2 w.heap.size tAs #[.slice A1 a.facts.length d1,.slice A2 a.atoms.length d2]:=Blk.nz blks hB2;have q0:=k0.cell;have l0:=k0.lt;clear hB2;cases he:earlyF c [] a.atoms
  ·have E:=ax (seek_cut (a:=a) (S:=S) (n+1) (c:=c) (by rw[HF.o,he];rfl));clear he;(go_wp2_with fail);go_ret2;exact ⟨_,by rw[E.o];rfl,by rw[E.o];exact IntsO.lower (IntsO.empty _ rfl) (by omega),bel⟩
  have E0:=ax (seek_step (a:=a) (S:=S) (n:=n) (c:=c) (by rw[HF.o,he];rfl));clear he;have qt:=flags_at (HTT.o.bz hB) (m:=m) (by omega);cases ht:S.testBit m
  ·rw[ht] at qt;have E:aJ (seek a S (n+1) c=seek a S n c):=by show _=_;rw[E0.o,←HM8.o,ht];rfl
   have ih1:=IH.o c _ cc _ _ w2 (by have:=HN.o;omega) HC.o (fun j hj hS=>by
    by_cases e:j=m
    ·subst e;rw[ht] at hS;cases hS
    ·exact HCL0.o j (by have:=HM8.o;have:=HN.o;omega) hS) HC8.o (hV.o.bz hB) (HTT.o.bz hB) (HI.o.bz hB)
   rw[E1.o] at ih1;have IH1:=ax ih1;clear ih1 ht;(go_wp2_with fail);refine IH1.o.mono ?_;rintro e w3 ⟨r,rfl,o3,hB3⟩;have O3:=ax o3;have hz:=hB.size;clear o3;(go_wp2_with fail);go_ret2;exact ⟨r,by rw[E.o];rfl,by rw[E.o];exact O3.o.lower hz,bgo hB hB3⟩
  ·rw[ht] at qt;have E:aJ (seek a S (n+1) c=(List.range (9 - n)).flatMap (seekAt a S n c)):=by show _=_;rw[E0.o,←HM8.o,ht];rfl
   clear ht;(go_wp2_with fail)
   go_loopw [10] (fun i wr=>∃ k:Nat,k≤m+1∧i=.int .i64 k∧aJ ((List.range k).flatMap (seekAt a S n c)=[])∧Blk wr w.heap.size tAs #[.slice A1 a.facts.length d1,.slice A2 a.atoms.length d2]∧Below w.heap.size w wr) (fun i _=>9 - (intOf i).toNat)
   case atStart=>exact ⟨0,Nat.zero_le _,rfl,rfl,k0,hB⟩
   case round=>
    clear k0 hB q0 l0 qt;obtain ⟨k,hk,rfl,HP,k0,hB⟩:=hrel;have q0:=k0.cell;have l0:=k0.lt;have hz:=hB.size;by_cases hlt:k≤m
    ·have hki:(k:Int)≤(m:Int):=by omega
     have hk9:(k:Int)<9:=by omega
     have hkc:=ints_cl (HI.o.bz hB) (m:=k) (by rw[HC.o];omega);have HNX:aJ ((List.range (k+1)).flatMap (seekAt a S n c)=seekAt a S n c k):=by show _=_;rw[List.range_succ,List.flatMap_append,HP.o];simp
     by_cases hskip:k<m∧cl c k≠k
     ·have HX:aJ (seekAt a S n c k=[]):=by show _=_;rw[seekAt,if_pos (by rw[←HM8.o];exact hskip)]
      have hkm:(k:Int)<(m:Int):=by omega
      have hne:(cl c k != (k:Int))=true:=by simpa using hskip.2
      clear hskip hki hlt;(go_wp2_with fail)
      go_round
      case rel=>exact ⟨k+1,by omega,by go_num,by show _=_;rw[HNX.o,HX.o],k0,hB⟩
      case measure=>simp[intOf];omega
     ·have hsk2:k<m→(cl c k != (k:Int))=false:=fun h=>by
       cases Int.decEq (cl c k) k with
       | isTrue h=>simp[h]
       | isFalse h'=>exact absurd ⟨h,h'⟩ hskip
      have HX:aJ (seekAt a S n c k=seek a S n (c.set m k)):=by
       show _=_;rw[seekAt,←HM8.o,if_neg hskip]
      clear hskip;have hcs:(c.set m (k:Int)).length=9:=by simpa using HC.o
      have HCS:=ax hcs
      have hcl':∀ j:Nat,j<9 - n→S.testBit j=true→0≤cl (c.set m (k:Int)) j∧cl (c.set m (k:Int)) j≤j:=fun j hj hSj=>by
       have:=HM8.o;have:=HN.o;rw[cl_set HC.o (by omega) _ (by omega)]
       split
       ·omega
       ·exact HCL0.o j (by omega) hSj
      have HCL':=ax hcl'
      have hc8':∀ j:Nat,j<9→cl (c.set m (k:Int)) j≤8:=fun j hj=>by
       rw[cl_set HC.o (by omega) _ (by omega)]
       split
       ·omega
       ·exact HC8.o j hj
      have HC8':=ax hc8';clear hcl' hc8' hcs;obtain hkm|hkm:k<m∨k=m:=by omega
      case' inl=>have h1:(k:Int)<(m:Int):=by omega
      case' inl=>have h2:=hsk2 hkm
      case' inr=>have h1:¬(k:Int)<(m:Int):=by omega
      all_goals
       clear hkm hsk2;(go_wp2_with (at_builtin;refine appIL (ys:=c) (base:=wr.heap.size) rfl _ _ rfl (v:=.slice (some ⟨wr.heap.size,0,none⟩) 0 0) rfl (IntsO.empty wr rfl) (by rw[HC.o];rfl) (HI.o.bz bel) (by rw[HC.o];simp) (by simp) ?_;intro A' c' w5 o5 hg5 hB6;rw[List.nil_append,HC.o] at o5 ⊢;obtain ⟨g,cur,-,rfl,hgb,kg,hcm,hset⟩:=o5.open_ (k:=m) (by rw[HC.o];omega);have qg:=(kg.cell m).trans hcm;have rg:=kg.frozen;have lg:=kg.lt;have HSET:=ax (hset k);have k5:=Blk.bz (g:=w.heap.size) (w:=wr.alloc (.cells #[] tI)) (k0.alloc _) hB6 l0;have hB5:Below w.heap.size w w5:=Below.trans bel (hB6.mono (by omega));have k6:=k5.far (p:=⟨g,m,none⟩) (by simp only;omega) (.int .i64 k);have q6:=k6.cell;clear hset o5 kg hcm q0 hg5));have hB7:Below w.heap.size w (w5.setCell ⟨g,m,none⟩ (.int .i64 k)):=hB5.setCell (p:=⟨g,m,none⟩) (by simp only;omega) _;have hz7:=hB7.size;have v7:=HSET.o.readsI.2;have ih1:=IH.o (c.set m (k:Int)) _ c' _ _ _ (by have:=HN.o;omega) HCS.o HCL'.o HC8'.o (hV.o.bz hB7) (HTT.o.bz hB7) v7;rw[E1.o] at ih1;refine ih1.mono ?_;clear ih1 v7 q6 k5 qg rg;rintro e w8 ⟨r,rfl,o8,hB8⟩;have O8:=ax o8;have k8:=k6.nz hB8;have hBn:=bgo hB7 hB8;clear o8 hB8 k6 hB7 hB5 hB6;cases hem:(seek a S n (c.set m (k:Int))).isEmpty
       ·have hne:seekAt a S n c k≠[]:=by rw[HX.o];intro h;rw[h] at hem;cases hem
        obtain ⟨y,y1,y2⟩:=flatMap_first (N:=9 - n) (by have:=HM8.o;have:=HN.o;omega) HP.o hne;rw[HX.o] at y1
        have E2:aJ ((seek a S (n+1) c).isEmpty=false∧firstI (seek a S (n+1) c)=firstI (seek a S n (c.set m (k:Int)))):=by
         refine ⟨?_,?_⟩
         ·rw[E.o]
          cases h:(List.range (9 - n)).flatMap (seekAt a S n c) with
          | nil=>rw[h] at y2;cases y2
          | cons _ _=>rfl
         ·unfold firstI;rw[E.o,y1,y2]
        clear hem hne y1 y2;(go_wp2_with fail);go_ret2;exact ⟨r,by rw[E2.o.1];rfl,by rw[E2.o.2];exact O8.o.lower hz7,hBn⟩
       ·have HX2:aJ (seekAt a S n c k=[]):=by show _=_;rw[HX.o];simpa using hem
        clear hem;(go_wp2_with fail)
        go_round
        case rel=>exact ⟨k+1,by omega,by go_num,by show _=_;rw[HNX.o,HX2.o],k8,hBn⟩
        case measure=>simp[intOf];omega
    ·obtain rfl:k=m+1:=by omega
     have E2:aJ (seek a S (n+1) c=[]):=by show _=_;rw[E.o,show 9 - n=m+1 from by have:=HM8.o;have:=HN.o;omega];exact HP.o
     (go_wp2_with fail);go_ret2;exact ⟨_,by rw[E2.o];rfl,by rw[E2.o];exact IntsO.lower (IntsO.empty _ rfl) (by omega),bel⟩
theorem c_spec_l5First {a:Asn} {S lo hi lo2 hi2:Nat} {A1 A2:Option Addr} {d1 d2:Nat} (T:Option Addr) (tc:Nat) (hv:a.valid=true) :
  ∀ (n:Nat) (c:List Int) (B:Option Addr) (cc lo' hi':Nat) (w:World),n≤8→c.length=9→(∀ j:Nat,j<9 - n→S.testBit j=true→0≤cl c j∧cl c j≤j)→(∀ j:Nat,j<9→cl c j≤8)→
   AsnV w lo hi (.agg #[.slice A1 a.facts.length d1,.slice A2 a.atoms.length d2]) a→BoolsV w lo2 hi2 T (flagsOf S)→IntsV w lo' hi' B c→
   Calls Tryz.prog 216 #[.agg #[.slice A1 a.facts.length d1,.slice A2 a.atoms.length d2],.slice T 9 tc,.slice B 9 cc,.int .i64 ((9 - n:Nat):Int)] w fun e w'=>
    ∃ r,e=.returned (.tuple #[r,.bool (!(seek a S n c).isEmpty)])∧IntsO w' w.heap.size r (firstI (seek a S n c))∧Below w.heap.size w w':=
 c_spec_l5FirstG T tc (ax (Asn.valid_ok hv)) (ax (by have:=valid_len hv;omega))
theorem openedB:(∀ j:Nat,j<9→cl opened j≤8)∧∀ (S:Nat) (j:Nat),j<9 - 8→S.testBit j=true→0≤cl opened j∧cl opened j≤j:=by
 refine ⟨fun j hj=>?_,fun S j hj _=>?_⟩
 ·obtain rfl|rfl|rfl|rfl|rfl|rfl|rfl|rfl|rfl:j=0∨j=1∨j=2∨j=3∨j=4∨j=5∨j=6∨j=7∨j=8:=by omega
  all_goals decide
 ·obtain rfl:j=0:=by omega
  decide
theorem seek_congr (a:Asn) {S S':Nat} (h:∀ j,1≤j→j<9→S.testBit j=S'.testBit j):∀ (n:Nat) (c:List Int),n≤8→seek a S n c=seek a S' n c:=by
 intro n
 induction n with
 | zero=>intro c _;rfl
 | succ n ih=>
  intro c hn;unfold seek;rw[h (8 - n) (by omega) (by omega)];have e:∀ c',seek a S n c'=seek a S' n c':=fun c'=>ih c' (by omega)
  split
  ·split
   ·apply flatMap_congr';intro k _;rw[e]
   ·exact e _
  ·rfl
theorem seek_caseS {a:Asn} (hv:a.valid=true) (F S:Nat) (h:∀ j,1≤j→j<9→S.testBit j=(caseS a F).testBit j):seek a S 8 opened=cases a (caseS a F):=by
 rw[seek_congr a h 8 opened (by omega)];exact seek_cases (Asn.valid_ok hv).1 (Asn.valid_ok hv).2 (caseS_zero a F) (caseS_not hv F)
theorem seek_terms {a:Asn} (hv:a.valid=true):seek a (tset (termsL a)) 8 opened=cases a (caseS a 0):=by
 refine seek_caseS hv 0 _ fun j h1 h2=>?_;rw[caseS_bit,tset_bit];have:¬j=0:=by omega
 simp[this]
theorem c_spec_Consistent {lo hi:Nat} (v:Value) (a:Asn) (w:World) (h:AsnV w lo hi v a) :
  Calls Tryz.prog 166 #[v] w fun e w'=>e=.returned (.bool (a.valid && !(cases a (caseS a 0)).isEmpty))∧Below w.heap.size w w':=by
 have hV:=ax h;obtain ⟨A1,c1,A2,c2,rfl,-,-⟩:=h;(go_enter Tryz.func166,Tryz.ntmps166);(go_wp2_with fail);refine (c_spec_AssertionValid _ a _ (hV.o.bz bel)).mono ?_;rintro e w1 ⟨rfl,hB1⟩;have k0:Blk w1 w.heap.size tAs #[.slice A1 a.facts.length c1,.slice A2 a.atoms.length c2]:=Blk.nz blks hB1;have hB:Below w.heap.size w w1:=bgo (w:=w) bel hB1;clear hB1;have q0:=k0.cell;have l0:=k0.lt;cases hv:a.valid
 ·(go_wp2_with fail);go_ret;exact ⟨ret_bool (by simp[hv]),hB⟩
 ·have HV:=ax hv;have HT:=ax (termsL_ok hv);have HS:=ax (seek_terms hv);have HOP:=ax openedB;clear hv;(go_wp2_with fail);refine wp_region_noPanic ?_;refine wp_region_held_drew (S:=(fun w'=>∀ i,w'.cell? ⟨w.heap.size,i,none⟩=#[.slice A1 a.facts.length c1,.slice A2 a.atoms.length c2][i]?)) (by kernel_rfl) (Blk.cell blks) (fun hHeld=>?_);refine tk2 0 rfl hHeld (h:=tk2 1 rfl hHeld (h:=?_));refine rdc 2 rfl fun K hK=>?_;(try simp only[zz]);(go_simp;refine (c_spec_l3Terms _ a _ (hV.o.bz bel) HT.o).mono ?_;rintro e w3 ⟨r3,rfl,o3,hB3⟩;obtain ⟨Tb,ct,rfl,fT⟩:=o3.reads;rw[flagsOf_length];have hB':=bgo (w:=w) bel hB3;replace k0:=Blk.nz (g:=w.heap.size) blks hB3);refine hK.out _ _ (Blk.cell blks) ?_;clear hHeld hK K;intro hHeld;refine rdc 3 rfl fun K hK=>?_;(try simp only[zz]);(go_simp;refine (c_spec_l5Open _).mono ?_;rintro e w4 ⟨r4,rfl,o4,hB4⟩;obtain ⟨Cb,cc,rfl,fC⟩:=o4.reads;have hB2:=bgo hB' hB4;have fT4:=fT.bz hB4;replace k0:=Blk.nz (g:=w.heap.size) blks hB4);refine hK.out _ _ (Blk.cell blks) ?_;clear hHeld hK K;intro hHeld;refine rdc 4 rfl fun K hK=>?_;(try simp only[zz]);(go_simp;refine (c_spec_l5First Tb ct HV.o 8 opened Cb cc _ _ _ (by omega) rfl (HOP.o.2 _) HOP.o.1 (hV.o.bz bel) (fT4.bz bel) (fC.bz bel)).mono ?_;rintro e w5 ⟨r5,rfl,o5,hB5⟩;have hB6:=bgo (w:=w) bel hB5;replace k0:=Blk.nz (g:=w.heap.size) blks hB5);refine hK.out _ _ (Blk.cell blks) ?_;clear hHeld hK K;intro hHeld;(try simp only[zz]);refine tk2 5 rfl hHeld (h:=tk2 6 rfl hHeld (h:=tk2 7 rfl hHeld (h:=?_)));(try simp only[zz]);refine tk2 8 rfl hHeld (h:=tk2 9 rfl hHeld (h:=?_));(try simp only[zz]);refine dn1 ?_;(go_wp2_with fail);go_ret;exact ⟨ret_bool (by rw[HS.o,HV.o];rfl),bel⟩
def addF (a:Asn) (f:Fct):Asn:=⟨a.facts++[f],a.atoms⟩
theorem c_impl_withFact {lo hi:Nat} (v:Value) (a:Asn) (f:Fct) (w:World) (h:AsnV w lo hi v a) (hn:a.facts.length+1≤1049600) :
  Calls Tryz.prog 202 #[v,f.val] w fun e w'=>∃ r,e=.returned r∧AsnO w' w.heap.size r (addF a f)∧Below w.heap.size w w':=by
 obtain ⟨A1,c1,A2,c2,rfl,h1,h2⟩:=h;have l2:=h2.le;(go_enter Tryz.func202,Tryz.ntmps202);obtain ⟨k0,k1,k2⟩:=blk3 w 36 61 36 #[.slice A1 a.facts.length c1,.slice A2 a.atoms.length c2] #[.bool f.eq,.int .i64 f.a,.int .i64 f.b] #[.slice none 0 0,.slice none 0 0];(go_wp2_with fail);refine wp_region_noPanic ?_;refine wp_region_held_drew (S:=(fun w'=>(∀ i,w'.cell? ⟨w.heap.size,i,none⟩=#[.slice A1 a.facts.length c1,.slice A2 a.atoms.length c2][i]?)∧(∀ i,w'.cell? ⟨w.heap.size+1,i,none⟩=#[.bool f.eq,.int .i64 f.a,.int .i64 f.b][i]?))) (by kernel_rfl) (⟨Blk.cell blks,Blk.cell blks⟩) (fun hHeld=>?_);refine tk2 0 rfl hHeld (h:=tk2 1 rfl hHeld (h:=tk2 2 rfl hHeld (h:=?_)));(try simp only[zz]);refine tk2 5 rfl hHeld (h:=tk2 6 rfl hHeld (h:=?_));refine rdc 3 rfl fun K hK=>?_;(try simp only[zz]);go_simp;refine hK.out _ _ (⟨Blk.cell blks,Blk.cell blks⟩) ?_;clear hHeld hK K;intro hHeld;refine rdc 4 rfl fun K hK=>?_;(try simp only[zz]);(go_simp;refine (c_joinF A1 _ c1 1 a.facts [f] _ (h1.bz bel) (FactsV.one (f:=f) blks) (by simpa using hn)).mono ?_;rintro e w1 ⟨r1,rfl,o1,hB1⟩;obtain ⟨F1,e1,rfl,-⟩:=o1.reads;have hB:=bgo (w:=w) bel hB1;replace k0:=Blk.nz (g:=w.heap.size) blks hB1;replace k1:=Blk.nz (g:=w.heap.size+1) blks hB1;replace k2:=Blk.nz (g:=w.heap.size+1+1) blks hB1);refine hK.out _ _ (⟨Blk.cell blks,Blk.cell blks⟩) ?_;clear hHeld hK K;intro hHeld;refine rdc 7 rfl fun K hK=>?_;(try simp only[zz]);(go_simp;refine (c_joinA A2 none c2 0 a.atoms [] _ (h2.bz bel) (Rd.nil _ 0 0 _ _) (by simpa using l2)).mono ?_;rintro e w2 ⟨r2,rfl,o2,hB2⟩;obtain ⟨F2,e2,rfl,-⟩:=o2.reads;have hBB:=bgo hB hB2;have o1':=o1.bz hB2;replace k0:=Blk.nz (g:=w.heap.size) blks hB2;replace k1:=Blk.nz (g:=w.heap.size+1) blks hB2;replace k2:=Blk.nz (g:=w.heap.size+1+1) blks hB2;have q2:=k2.cell;have f2:=k2.frozen);refine hK.out _ _ (⟨Blk.cell blks,Blk.cell blks⟩) ?_;clear hHeld hK K;intro hHeld;(try simp only[zz]);refine tk2 8 rfl hHeld (h:=?_);refine rdc 9 rfl fun K hK=>?_;(try simp only[zz]);go_simp;refine hK.out _ _ (⟨Blk.cell blks,Blk.cell blks⟩) ?_;clear hHeld hK K;intro hHeld;(try simp only[zz]);refine dn1 ?_;clear hHeld;(go_wp2_with fail);have p1:=o1'.lower (base':=w.heap.size) (by (try simp)<;>omega);have p2:=o2.lower (base':=w.heap.size) hB.size;rw[show (a.facts++[f]).length=a.facts.length+1 from by simp] at p1;rw[List.append_nil] at p2;refine bodyPost_ret (v:=.agg #[.slice F1 (a.facts.length+1) e1,.slice F2 a.atoms.length e2]) (by simp[results,Tryz.results202,go_sem,q2]) rfl ⟨_,rfl,⟨_,_,rfl,?_,?_⟩,bel⟩
 ·exact (p1.setT k2 (by decide) 0 (.slice F1 (a.facts.length+1) e1)).setT (k2.set_ 0 _) (by decide) 1 (.slice F2 a.atoms.length e2)
 ·exact (p2.setT k2 (by decide) 0 (.slice F1 (a.facts.length+1) e1)).setT (k2.set_ 0 _) (by decide) 1 (.slice F2 a.atoms.length e2)
end
section
open Go Go.RowKit Go.Proofs
abbrev factS (f:Fct):Nat:=tins (tins 0 f.a) f.b
def impB (a:Asn) (f:Fct):Bool:=a.valid&&f.valid&&(cases a (caseS a (factS f))).all (Fct.fits · f)
theorem Fct.not_fits (c:List Int) (f:Fct):Fct.fits c ⟨!f.eq,f.a,f.b⟩ = !Fct.fits c f:=by
 unfold Fct.fits;cases f.eq<;>cases decide (cl c f.a=cl c f.b)<;>rfl
theorem Fct.valid_ok {f:Fct} (h:f.valid=true):(0≤f.a∧f.a≤8)∧(0≤f.b∧f.b≤8):=by
 simpa [Fct.valid,isTermB] using h
theorem cases_not (a:Asn) (f:Fct) (S:Nat):cases ⟨a.facts++[⟨!f.eq,f.a,f.b⟩],a.atoms⟩ S=(cases a S).filter fun c=>!Fct.fits c f:=by
 unfold cases;rw[List.filter_filter]
 congr 1
 funext c
 simp only[full,List.all_append,List.all_cons,List.all_nil,Bool.and_true,Fct.not_fits];cases a.facts.all (Fct.fits c)<;>cases apartF [] (filledL a.atoms c)<;>cases Fct.fits c f<;>rfl
theorem filter_empty {α:Type} (p:α→Bool):∀ (L:List α),(L.filter fun x=>!p x).isEmpty=L.all p
 | []=>rfl
 | x :: L=>by
  rw[List.filter_cons,List.all_cons];cases h:p x
  ·rfl
  ·simpa using filter_empty p L
theorem imp_seek {a:Asn} {f:Fct} (hv:a.valid=true) (hf:f.valid=true) :
  (seek ⟨a.facts++[⟨!f.eq,f.a,f.b⟩],a.atoms⟩ ((tset (termsL a)|||1 <<< f.a.toNat)|||1 <<< f.b.toNat) 8 opened).isEmpty=(cases a (caseS a (factS f))).all (Fct.fits · f):=by
 have hfo:=Fct.valid_ok hf;have ha:isTermB f.a=true:=by simp[isTermB];omega
 have hb:isTermB f.b=true:=by simp[isTermB];omega
 have hbit:∀ j:Nat,(factS f).testBit j=(decide (f.a=(j:Int)) || decide (f.b=(j:Int))):=fun j=>by
  rw[tins_bit,tins_bit,Nat.zero_testBit,ha,hb];simp
 have hone:∀ (n j:Nat),(1 <<< n).testBit j=decide (n=j):=fun n j=>by
  rw[Nat.one_shiftLeft,Nat.testBit_two_pow]
 have e1:seek ⟨a.facts++[⟨!f.eq,f.a,f.b⟩],a.atoms⟩ ((tset (termsL a)|||1 <<< f.a.toNat)|||1 <<< f.b.toNat) 8 opened=seek ⟨a.facts++[⟨!f.eq,f.a,f.b⟩],a.atoms⟩ (caseS a (factS f)) 8 opened:=by
  refine seek_congr _ (fun j h1 h2=>?_) 8 opened (by omega);rw[caseS_bit,hbit,Nat.testBit_or,Nat.testBit_or,tset_bit,hone,hone];have h0:¬j=0:=by omega
  have x1:decide (f.a.toNat=j)=decide (f.a=(j:Int)):=by rw[decide_eq_decide];omega
  have x2:decide (f.b.toNat=j)=decide (f.b=(j:Int)):=by rw[decide_eq_decide];omega
  rw[x1,x2];simp[h0,Bool.or_assoc]
 rw[e1,seek_cases (a:=Asn.mk (a.facts++[Fct.mk (!f.eq) f.a f.b]) a.atoms) ?_ (Asn.valid_ok hv).2 (caseS_zero a (factS f)) ?_,cases_not,filter_empty]
 ·intro g hg;rw[List.mem_append,List.mem_singleton] at hg;rcases hg with hg|rfl
  ·exact (Asn.valid_ok hv).1 g hg
  ·exact hfo
 ·intro t ht;obtain ⟨h1,h2⟩:=caseS_not hv (factS f) t ht;refine ⟨fun g hg=>?_,h2⟩;rw[List.mem_append,List.mem_singleton] at hg;rcases hg with hg|rfl
  ·exact h1 g hg
  ·rw[caseS_bit,hbit] at ht;simp only[Bool.or_eq_false_iff,decide_eq_false_iff_not] at ht;exact ⟨ht.2.1,ht.2.2⟩
end
section
open Go Go.RowKit Go.Proofs
attribute [local go_sem ↓] Go.wp_at_zero Go.wp_at_succ
attribute [local go_sem] Oper.semAt_some
structure KX (w w':World):Prop where
 os:w'.os=w.os
 tape:w'.tape=w.tape
 output:w'.output=w.output
 size:w.heap.size≤w'.heap.size
 keep:∀ (k:Nat) (o:Obj),w.heap[k]? = some o→(∀ cs,o≠.cells cs tIS (0,0))→w'.heap[k]? = some o
section
variable {w w' w1:World}
theorem KX.of (h:Below w.heap.size w w'):KX w w':=⟨h.os,h.tape,h.output,h.size,fun k o hk _=>(h.block k (Array.getElem?_eq_some_iff.1 hk).1).trans hk⟩
theorem KX.trans (h:KX w w1) (k:KX w1 w'):KX w w':=⟨k.os.trans h.os,k.tape.trans h.tape,k.output.trans h.output,Nat.le_trans h.size k.size,fun i o hi ho=>k.keep i o (h.keep i o hi ho) ho⟩
theorem KX.set (h:KX w w1) {p:Addr} (hp:w.heap.size≤p.block) (u:Value):KX w (w1.setCell p u):=
 ⟨h.os,h.tape,h.output,by have:=h.size;simpa using this,fun k o hk ho=>(Below.heap_setCell w1 p u k (by have:=(Array.getElem?_eq_some_iff.1 hk).1;omega)).trans (h.keep k o hk ho)⟩
theorem KX.app {v:Value} {base n:Nat} {vs:List Value} (h:w.ownsRow base tIS 1 v n vs) (hg:w.grownBy w' v.ownBlock):KX w w':=
 ⟨hg.os,hg.tape,hg.output,hg.size,fun k o hk ho=>(hg.block k (Array.getElem?_eq_some_iff.1 hk).1 (fun e=>by
  rcases h.2 with ⟨rfl,-⟩|⟨g,cap,cur,rfl,-,hh,-⟩
  ·cases e
  ·have e1:k=g:=by simpa [Value.ownBlock] using e
   subst e1;rw[hk] at hh
   exact ho cur (Option.some.inj hh))).trans hk⟩
theorem KX.blk (h:KX w w') {g:Nat} {t:TypeId} {cs:Array Value} (hb:Blk w g t cs) (ht:t≠tIS):Blk w' g t cs:=h.keep g _ hb fun c e=>by injection e with _ e2;exact ht e2
theorem KX.ints (h:KX w w') {base:Nat} {v:Value} {xs:List Int} (ho:IntsO w base v xs):IntsO w' base v xs:=by
 obtain ⟨⟨h1,h2⟩,h3⟩:=ho;refine ⟨⟨h1,?_⟩,h3⟩;rcases h2 with h2|⟨k,cap,cur,hv,hg,hh,r⟩
 ·exact Or.inl h2
 ·exact Or.inr ⟨k,cap,cur,hv,hg,h.blk (g:=k) hh (by decide),r⟩
end
theorem KX.keeps {w w':World} (h:KX w w'):KeepsOthers w w':=⟨h.size,fun k o hk ho=>h.keep k o hk fun cs e=>by subst e;cases ho⟩
theorem KX.kept {T1 T2:TypeId} {n₀:Nat} {w w':World} (h:KX w w') (hb:Below n₀ w w') (h1:T1≠tIS) (h2:T2≠tIS):Kept T1 T2 n₀ w w':=⟨hb,fun g t cs ht hk=>h.blk hk (by rcases ht with rfl|rfl;exact h1;exact h2)⟩
section
variable {P:Program} {n:Nat}
end
section
variable {ops:Array Oper} {rest:List Oper} {o:Oper} {a:Act} {Q:Exit→Act→World→Prop} {w w0:World} {base:Nat} {v:Value} {vs:List Value} {xss:List (List Int)}
end
theorem c_impl_Implies {lo hi:Nat} (v:Value) (a:Asn) (f:Fct) (w:World) (h:AsnV w lo hi v a) (hhi:hi≤w.heap.size) :
  Calls Tryz.prog 250 #[v,f.val] w fun e w'=>e=.returned (.bool (impB a f))∧Below w.heap.size w w':=by
 have hV:=ax h;obtain ⟨A1,c1,A2,c2,rfl,-,-⟩:=h;have HE:aJ (impB a f=(a.valid&&f.valid&&(cases a (caseS a (factS f))).all (Fct.fits · f))):=ax rfl;have HFS:aJ (factS f<512):=ax (tins_lt (tins_lt (by decide) _) _);obtain ⟨fe,fa,fb⟩:=f;refine (callsIn_wide (n:=3)).1 ?_;(refine callsIn_of_wp_marks Tryz.func250 rfl trivial ?_ rfl;simp only[Tryz.ntmps250,List.size_toArray,List.length_cons,List.length_nil,Nat.reduceAdd,Nat.reduceSub,Array.replicate_succ,Array.replicate_zero,List.push_toArray,List.append_toArray,List.nil_append,List.cons_append])
 gi_wp2_with fail
 refine ⟨trivial,(callsIn_wide.2 (c_impl_AssertionValid _ a _ (hV.o.bz bel))).mono ?_⟩;rintro e w1 ⟨rfl,hB1⟩;have k0:Blk w1 w.heap.size tAs #[.slice A1 a.facts.length c1,.slice A2 a.atoms.length c2]:=Blk.nz blks hB1;have k1:Blk w1 (w.heap.size+1) tF #[.bool fe,.int .i64 fa,.int .i64 fb]:=Blk.nz blks hB1;have k2:Blk w1 (w.heap.size+1+1) 4 #[.bool false]:=Blk.nz blks hB1;have hB:Below w.heap.size w w1:=bgo (w:=w) bel hB1;have hz1:=hB1.size;simp only[World.size_alloc] at hz1;clear hB1;have q0:=k0.cell;have q1:=k1.cell;have q2:=k2.cell;have r2:=k2.frozen;have l2:=k2.lt;have l1:=k1.lt;have l0:=k0.lt;cases hv:a.valid
 ·gi_wp2_with fail
  refine ⟨trivial,?_⟩
  gi_wp2_with fail
  have z2:=(k2.set_ 0 (.bool false)).cell 0;refine ⟨.bool false,by simp[results,Tryz.f250,go_sem,z2,q2,l2],by rw[HE.o,hv];rfl,hB.setCell (p:=⟨w.heap.size+1+1,0,none⟩) (by simp only;omega) _⟩
 have HV:=ax hv;clear hv
 gi_wp2_with fail
 refine ⟨trivial,(callsIn_wide.2 (c_impl_FactValid ⟨fe,fa,fb⟩ _)).mono ?_⟩;rintro e w2 ⟨rfl,hB2⟩;replace k0:=k0.nz hB2;replace k1:=k1.nz hB2;replace k2:=k2.nz hB2;replace hB:=bgo hB hB2;have hz2:=hB2.size;clear hB2 q0 q1 q2 r2 l0 l1 l2;have q0:=k0.cell;have q1:=k1.cell;have q2:=k2.cell;have r2:=k2.frozen;have l2:=k2.lt;have l1:=k1.lt;have l0:=k0.lt;cases hf:Fct.valid ⟨fe,fa,fb⟩
 ·gi_wp2_with fail
  have z2:=(k2.set_ 0 (.bool false)).cell 0;refine ⟨.bool false,by simp[results,Tryz.f250,go_sem,z2,q2,l2],by rw[HE.o,hf];simp,hB.setCell (p:=⟨w.heap.size+1+1,0,none⟩) (by simp only;omega) _⟩
 have HFO:=ax (Fct.valid_ok hf);have HE2:aJ (impB a ⟨fe,fa,fb⟩=(cases a (caseS a (factS ⟨fe,fa,fb⟩))).all (Fct.fits · ⟨fe,fa,fb⟩)):=ax (by rw[HE.o,HV.o,hf];rfl);clear hf HE
 gi_wp2_with fail
 refine wpIn_wide.2 ?_;refine wp_region_noPanic ?_;refine wp_region_held_drew (S:=(fun w'=>(∀ i,w'.cell? ⟨w.heap.size,i,none⟩=#[.slice A1 a.facts.length c1,.slice A2 a.atoms.length c2][i]?)∧(∀ i,w'.cell? ⟨w.heap.size+1,i,none⟩=#[.bool fe,.int .i64 fa,.int .i64 fb][i]?))) (by kernel_rfl) (⟨k0.drew.cell,k1.drew.cell⟩) (fun hHeld=>?_);refine tk2 0 rfl hHeld (h:=tk2 1 rfl hHeld (h:=tk2 2 rfl hHeld (h:=?_)));(try simp only[zz]);refine tk2 3 rfl hHeld (h:=tk2 5 rfl hHeld (h:=tk2 6 rfl hHeld (h:=?_)));refine rdc 4 rfl fun K hK=>?_;(try simp only[zz]);(go_simp;refine (c_impl_with 0 fa _ (by decide)).mono ?_;rintro e w3 ⟨rfl,rfl⟩);refine hK.out _ _ (⟨k0.drew.cell,k1.drew.cell⟩) ?_;clear hHeld hK K;intro hHeld;refine rdc 7 rfl fun K hK=>?_;(try simp only[zz]);(go_simp;refine (c_impl_with (tins 0 fa) fb _ (tins_lt (by decide) _)).mono ?_;rintro e w3 ⟨rfl,rfl⟩);refine hK.out _ _ (⟨k0.drew.cell,k1.drew.cell⟩) ?_;clear hHeld hK K;intro hHeld;refine rdc 8 rfl fun K hK=>?_;(try simp only[zz]);(go_simp;refine (c_impl_possibleCases A1 A2 c1 c2 a (factS ⟨fe,fa,fb⟩) _ (hV.o.bz hB.drew) HFS.o).mono ?_;rintro e w3 ⟨gA,gT,rfl,hA,hT,kA,kT,hB3⟩;replace hB3:Below w2.heap.size w2 w3:=(Below.refl _ _).drew.trans hB3;replace k0:=k0.nz hB3;replace k1:=k1.nz hB3;replace k2:=k2.nz hB3;replace hB:=bgo hB hB3);refine hK.out _ _ (⟨k0.cell,k1.cell⟩) ?_;clear hHeld hK K;intro hHeld;(try simp only[zz]);refine dn1 ?_;have hzA:w2.heap.size≤gA:=hA;have hzT:w2.heap.size≤gT:=hT;have hzO:=k2.lt;have hz:=hB.size;have hz3:=hB3.size;have hAw:=hV.o.bz hB;clear hB3 q0 q1 q2 r2 l0 l1 l2 hA hT
 gi_wp2_with fail
 refine wp_rangeT (gf:=219) (lb:=#[.pointer (some ⟨gA,0,none⟩),.pointer (some ⟨gT,0,none⟩)]) rfl (enters_of Tryz.func219 (by kernel_rfl) rfl)
  (c_seq (n₀:=w.heap.size) w3 HV.o HFS.o hAw hhi (by omega) kA kT) (fun h k=>h.trans k) (Kept.putl (by omega)) (Below.refl _ _) (fun _=>rfl)
  (fun pre W=>aJ (∀ y∈pre,Fct.fits y.1 ⟨fe,fa,fb⟩=true)∧Blk W (w.heap.size+1) tF #[.bool fe,.int .i64 fa,.int .i64 fb]∧Blk W (w.heap.size+1+1) 4 #[.bool false]∧Below w.heap.size w W)
  (fun c pre W=>∃ x∈pre,c=.ret∧aJ (Fct.fits x.1 ⟨fe,fa,fb⟩=false)∧Blk W (w.heap.size+1+1) 4 #[.bool false]∧Below w.heap.size w W)
  (fun s X Y row hs hg hr=>by
   obtain ⟨e1,k1,k2,k3⟩:=hs
   exact ⟨e1,k1.turn hg hr (Or.inr (by omega)),k2.turn hg hr (Or.inr (by omega)),Below.turn k3 hg hr (by omega) k3.size⟩)
  (fun c s X Y row hs hg hr=>by
   obtain ⟨x,e1,e2,e3,k1,k2⟩:=hs
   exact ⟨x,e1,e2,e3,k1.turn hg hr (Or.inr (by omega)),Below.turn k2 hg hr (by omega) k2.size⟩)
  ⟨fun y hy=>absurd hy (by simp),k1,k2,hB⟩ ?round ?done ?stop
 case round=>
  rintro l pre x W hl ⟨HP,k1,k2,hB⟩ -;have hwz:=hB.size
  gi_wp2
  refine ⟨(KeepsOthers.alloc _ _).from _,Kept.alloc (by omega) _,fun o o' ho hc=>?_⟩;have kX:=(Blk.new W tTc (case9 x.1)).putl o' ho hc;replace k1:=(k1.alloc (.cells (case9 x.1) tTc)).putl o' ho hc;replace k2:=(k2.alloc (.cells (case9 x.1) tTc)).putl o' ho hc;have hB':=(bbox hB (.cells (case9 x.1) tTc)).trans (Kept.put (T1:=tTc) (T2:=tAs) (n₀:=w.heap.size) o' (by omega) ho hc).bz;clear ho;obtain ⟨V,hVe⟩:∃ V,V=(W.alloc (.cells (case9 x.1) tTc)).putObj l o':=⟨_,rfl⟩;rw[←hVe] at kX k1 k2 hB' ⊢;clear hVe hB;have q1:=k1.cell;have hxl:=ax x.len;have hzV:=hB'.size;have lX:=kX.lt
  gi_wp2_with fail
  refine ⟨trivial,(CallsIn.inRound l (callsIn_wide.2 (c_impl_factHolds ⟨fe,fa,fb⟩ x.1 W.heap.size _ (kX.case hxl.o) hxl.o HFO.o.1 HFO.o.2))).mono ?_⟩;rintro e w4 ⟨rfl,hB4⟩;replace k1:=k1.nz hB4;replace k2:=k2.nz hB4;have hBV:=bgo hB' hB4;have hKV:Kept tTc tAs w.heap.size V w4:=Kept.nz hB4 hzV;have hKF:KeepsOthers V w4:=(KX.of hB4).keeps;clear q1 hB4;have q2:=k2.cell 0;have r2:=k2.frozen;have l2:=k2.lt;cases he:Fct.fits x.1 ⟨fe,fa,fb⟩
  ·have HE:=ax he;clear he
   gi_wp2
   exact ⟨(hKF.trans (KeepsOthers.setCell _ _ _)).from _,x,by simp,rfl,HE,k2.set_ 0 (.bool false),hBV.setCell (p:=⟨w.heap.size+1+1,0,none⟩) (by simp only;omega) _⟩
  ·have HP2:aJ (∀ y∈pre++[x],Fct.fits y.1 ⟨fe,fa,fb⟩=true):=fun y hy=>by
    rcases List.mem_append.1 hy with hy|hy
    ·exact HP.o y hy
    ·rw[List.mem_singleton.1 hy];exact he
   clear he
   gi_wp2
   exact ⟨hKF.from _,hKV,HP2,k1,k2,hBV⟩
 case done=>
  rintro D ys W hD hS ⟨HP,k1,k2,hB⟩ hK
  have E:aJ (impB a ⟨fe,fa,fb⟩=true):=by
   show _=_;rw[HE2.o,←hS,List.all_eq_true];intro y hy;obtain ⟨z,hz,rfl⟩:=List.mem_map.1 hy;exact HP.o z hz
  clear hS k1;have q2:=k2.cell 0;have r2:=k2.frozen;have l2:=k2.lt
  gi_wp2
  have z2:=k2.set_ 0 (.bool true);have zB:=hB.setCell (p:=⟨w.heap.size+1+1,0,none⟩) (by simp only;omega) (.bool true);have zK:=(KeepsOthers.setCell W ⟨w.heap.size+1+1,0,none⟩ (.bool true)).same D _ hK rfl;obtain ⟨V,hVe⟩:∃ V,V=W.setCell ⟨w.heap.size+1+1,0,none⟩ (.bool true):=⟨_,rfl⟩;rw[←hVe] at z2 zB zK ⊢;refine ⟨by simp,.inl ⟨_,_,rfl,run_takeDeferred zK,?_⟩⟩;have y2:=(z2.putl (.deferred none) zK rfl).cell 0;refine ⟨.bool true,?_,by rw[E.o],zB.trans (belowK_b (w:=w) (Nat.le_refl _) V D _ _ (by omega) zK rfl rfl)⟩;simp at y2;simp[results,Tryz.f250,go_sem,y2]
 case stop=>
  rintro D c pre W hD hPre ⟨x,hx,rfl,HX,k2,hB⟩ hK
  have E:aJ (impB a ⟨fe,fa,fb⟩=false):=by
   show _=_;rw[HE2.o,List.all_eq_false];exact ⟨x.1,x.2,by rw[HX.o];decide⟩
  have q2:=k2.cell 0;have l2:=k2.lt
  gi_wp2
  refine ⟨by simp,.inl ⟨_,_,rfl,run_takeDeferred hK,?_⟩⟩;have y2:=(k2.putl (.deferred none) hK rfl).cell 0;refine ⟨.bool false,?_,by rw[E.o],hB.trans (belowK_b (w:=w) (Nat.le_refl _) W D _ _ (by omega) hK rfl rfl)⟩;simp at y2;simp[results,Tryz.f250,go_sem,y2]
end
section
open Go Go.RowKit Go.Proofs
attribute [local go_sem ↓] Go.wp_at_zero Go.wp_at_succ
def AsnC (w:World) (lo hi:Nat) (v:Value) (a:Asn):Prop:=
 ∃ A1 c1 A2 c2,v=.agg #[.slice A1 a.facts.length c1,.slice A2 a.atoms.length c2]∧FactsV w lo hi A1 a.facts∧AtomsV w lo hi A2 a.atoms∧a.atoms.length≤c2
theorem AsnC.V {w:World} {lo hi:Nat} {v:Value} {a:Asn} (h:AsnC w lo hi v a):AsnV w lo hi v a:=by
 obtain ⟨A1,c1,A2,c2,e,h1,h2,-⟩:=h;exact ⟨A1,c1,A2,c2,e,h1,h2⟩
theorem AsnC.bz {w w':World} {lo hi:Nat} {v:Value} {a:Asn} (h:AsnC w lo hi v a) (hb:Below w.heap.size w w'):AsnC w' lo hi v a:=by
 obtain ⟨A1,c1,A2,c2,e,h1,h2,h3⟩:=h;exact ⟨A1,c1,A2,c2,e,h1.bz hb,h2.bz hb,h3⟩
theorem own_cap {w:World} {base:Nat} {e:TypeId} {size n c:Nat} {A:Option Addr} {xs:List Value} (h:w.ownsRow base e size (.slice A n c) n xs):n≤c:=by
 rcases h.2 with ⟨e1,e2⟩|⟨g,cap,cur,e1,-,-,hn,-⟩
 ·omega
 ·injection e1 with e1 e2 e3;omega
theorem AsnO.C {w:World} {base:Nat} {v:Value} {a:Asn} (h:AsnO w base v a):AsnC w base w.heap.size v a:=by
 obtain ⟨fv,av,rfl,h1,h2⟩:=h;obtain ⟨A1,c1,rfl,f1⟩:=h1.reads;obtain ⟨A2,c2,rfl,f2⟩:=h2.reads;exact ⟨A1,c1,A2,c2,rfl,f1,f2,own_cap h2.1⟩
def newT (S:Nat):Option Nat:=(List.range' 5 4).find? fun t=>!S.testBit t
def unusedI (S:Nat):Int:=match newT S with|some t=>(t:Int)|none=>0
theorem newT_yes {S t:Nat} (h5:5≤t) (h8:t≤8) (h1:∀ k,5≤k→k<t→S.testBit k=true) (h2:S.testBit t=false):newT S=some t:=by
 unfold newT
 have e:List.range' 5 4=List.range' 5 (t - 5)++t :: List.range' (t+1) (8 - t):=by
  have:t=5∨t=6∨t=7∨t=8:=by omega
  rcases this with rfl|rfl|rfl|rfl<;>rfl
 rw[e,List.find?_append]
 have:(List.range' 5 (t - 5)).find? (fun t=>!S.testBit t)=none:=by
  rw[List.find?_eq_none];intro x hx;have:=List.mem_range'_1.1 hx;simp[h1 x (by omega) (by omega)]
 rw[this,List.find?_cons,h2];rfl
theorem newT_no {S:Nat} (h1:∀ k,5≤k→k≤8→S.testBit k=true):newT S=none:=by
 unfold newT;rw[List.find?_eq_none];intro x hx;have:=List.mem_range'_1.1 hx;simp[h1 x (by omega) (by omega)]
theorem c_impl_unused (S:Nat) (w:World) (hS:S<512):Calls Tryz.prog 269 #[.int .u16 S] w fun e w'=>e=.returned (.tuple #[.int .i64 (unusedI S),.bool (newT S).isSome])∧w=w':=by
 (go_enter Tryz.func269,Tryz.ntmps269);(go_wp2_with fail)
 go_loop [4] (fun i=>∃ k:Nat,5≤k∧k≤9∧i=.int .i64 k∧aJ (∀ j,5≤j→j<k→S.testBit j=true)) (fun i=>10 - (intOf i).toNat)
 case atStart=>exact ⟨5,by omega,by omega,rfl,ax fun j h1 h2=>by omega⟩
 case round=>
  obtain ⟨k,h5,h9,rfl,HA⟩:=hrel;by_cases hlt:k<9
  ·have hki:(k:Int)≤8:=by omega
   have ht:isTermB (k:Int)=true:=by simp[isTermB];omega
   have et:((k:Int)).toNat=k:=by omega
   (go_wp2_with fail);refine (c_impl_tHas S _ _ hS).mono ?_;rintro e w1 ⟨rfl,rfl⟩;rw[ht,et];clear ht et;cases hb:S.testBit k
   ·have E:=ax (newT_yes h5 (by omega) HA.o hb);clear hb;(go_wp2_with fail);go_ret2;exact ⟨by unfold unusedI;rw[E.o];rfl,rfl⟩
   ·have HA2:aJ (∀ j,5≤j→j<k+1→S.testBit j=true):=ax fun j h1 h2=>by
     by_cases e:j=k
     ·rw[e];exact hb
     ·exact HA.o j h1 (by omega)
    clear hb HA;(go_wp2_with fail)
    go_round
    case rel=>exact ⟨k+1,by omega,by omega,by go_num,HA2⟩
    case measure=>simp[intOf];omega
  ·obtain rfl:k=9:=by omega
   have E:=ax (newT_no (S:=S) fun j h1 h2=>HA.o j h1 (by omega));(go_wp2_with fail);go_ret2;exact ⟨by unfold unusedI;rw[E.o];rfl,rfl⟩
theorem c_impl_newVariable {lo hi:Nat} (v:Value) (a:Asn) (K:Nat) (w:World) (h:AsnV w lo hi v a) (hK:K<512):Calls Tryz.prog 248 #[v,.int .u16 K] w fun e w'=>e=.returned (.tuple #[.int .i64 (unusedI (tset (termsL a)|||K)),.bool (newT (tset (termsL a)|||K)).isSome])∧Below w.heap.size w w':=by
 have hV:=ax h;obtain ⟨A1,c1,A2,c2,rfl,-,-⟩:=h;have HT:=ax (tset_lt (termsL a));have HO:aJ (bits .or .u16 (tset (termsL a):Int) (K:Int)=((tset (termsL a)|||K:Nat):Int)):=ax (u16_or_nat _ _ (by have:=tset_lt (termsL a);omega) (by omega));have HL:aJ (tset (termsL a)|||K<512):=ax (Nat.or_lt_two_pow (n:=9) (tset_lt _) hK);(go_enter Tryz.func248,Tryz.ntmps248);(go_wp2_with fail);refine (c_impl_termsIn _ a _ (hV.o.bz bel)).mono ?_;rintro e w1 ⟨rfl,hB1⟩;have hB:=bgo (w:=w) bel hB1;clear hB1;(go_wp2_with fail);rw[HO.o];refine (c_impl_unused _ _ HL.o).mono ?_;rintro e w2 ⟨rfl,rfl⟩;(go_wp2_with fail);go_ret2;exact ⟨rfl,hB⟩
theorem AtomsV.take_ {w:World} {lo hi:Nat} {A:Option Addr} {xs:List Atm} (h:AtomsV w lo hi A xs) {k:Nat} (hk:k≤xs.length):AtomsV w lo hi A (xs.take k):=by
 have hl:(xs.take k).length=k:=by rw[List.length_take];omega
 have e:encA xs=encA (xs.take k)++encA (xs.drop k):=by rw[←List.flatMap_append,List.take_append_drop]
 refine ⟨⟨len3 _ _ _ _,fun hn=>?_⟩,by rw[hl];exact Nat.le_trans hk h.lim⟩;obtain ⟨b,o,e2,h1,h2,hc⟩:=h.raw.2 (by omega);refine ⟨b,o,e2,h1,h2,fun j u hu=>hc j u ?_⟩;rw[e,List.getElem?_append_left ?_]
 ·exact hu
 ·exact (List.getElem?_eq_some_iff.1 hu).1
theorem AtomsV.drop_ {w:World} {lo hi b o:Nat} {xs:List Atm} (h:AtomsV w lo hi (some ⟨b,o,none⟩) xs) {k:Nat} (hk:k≤xs.length):AtomsV w lo hi (some ⟨b,o+k * 3,none⟩) (xs.drop k):=by
 have hl:(xs.drop k).length=xs.length - k:=List.length_drop;have e:encA xs=encA (xs.take k)++encA (xs.drop k):=by rw[←List.flatMap_append,List.take_append_drop]
 have ht:(encA (xs.take k)).length=k * 3:=by rw[len3,List.length_take];omega
 refine ⟨⟨len3 _ _ _ _,fun hn=>?_⟩,by rw[hl];exact Nat.le_trans (Nat.sub_le _ _) h.lim⟩;obtain ⟨b',o',e2,h1,h2,hc⟩:=h.raw.2 (by omega);injection e2 with e2;injection e2 with e3 e4;subst e3 e4;refine ⟨_,_,rfl,h1,h2,fun j u hu=>?_⟩;have:=hc (k * 3+j) u (by rw[e,List.getElem?_append_right (by omega),ht,Nat.add_sub_cancel_left];exact hu)
 rwa [←Nat.add_assoc] at this
theorem sliceAh (b o M d m:Nat) (hm:m≤d) (w:World):(Instr.slice 34 (.slice (some ⟨b,o,none⟩) M d) none (some (.int .i64 (m:Int))) none).run Tryz.prog w=.ok (.slice (some ⟨b,o,none⟩) m d) w:=by
 have h1:(0:Int)≤(m:Int):=by omega
 have h2:(m:Int)≤(d:Int):=by omega
 go_simp
theorem sliceAl (b o M d m:Nat) (hm:m≤M) (hd:M≤d):∃ A',(∀ w:World,(Instr.slice 34 (.slice (some ⟨b,o,none⟩) M d) (some (.int .i64 (m:Int))) none none).run Tryz.prog w=.ok (.slice A' (M - m) (d - m)) w)∧(m<d→A'=some ⟨b,o+m * 3,none⟩):=by
 have h1:(0:Int)≤(m:Int):=by omega
 have h2:(m:Int)≤(M:Int):=by omega
 by_cases hmd:m<d
 ·refine ⟨some ⟨b,o+m * 3,none⟩,fun w=>?_,fun _=>rfl⟩;go_simp;intro h;omega
 ·obtain rfl:m=d:=by omega
  refine ⟨some ⟨b,o,none⟩,fun w=>?_,fun h=>by omega⟩;go_simp
def withoutL (xs:List Atm) (i:Nat):List Atm:=xs.take i++xs.drop (i+1)
theorem withoutL_len {xs:List Atm} {i:Nat} (h:i<xs.length):(withoutL xs i).length+1=xs.length:=by
 unfold withoutL;rw[List.length_append,List.length_take,List.length_drop];omega
theorem c_impl_without {lo hi:Nat} (v:Value) (a:Asn) (i:Nat) (w:World) (h:AsnC w lo hi v a) (hi:i<a.atoms.length) :
  Calls Tryz.prog 213 #[v,.int .i64 i] w fun e w'=>∃ r,e=.returned r∧AtomsO w' w.heap.size r (withoutL a.atoms i)∧Below w.heap.size w w':=by
 obtain ⟨A1,c1,A2,c2,rfl,h1,h2,hcap⟩:=h;obtain ⟨b,o,rfl,-⟩:=h2.at hi;have HV:=ax h2;have hl:=h2.le;have hs1:=sliceAh b o a.atoms.length c2 i (by omega);obtain ⟨A',hs2,hA'⟩:=sliceAl b o a.atoms.length c2 (i+1) (by omega) hcap;have hT:=ax (h2.take_ (k:=i) (by omega))
 have hD:aJ (AtomsV w lo _ A' (a.atoms.drop (i+1))):=ax (by
  by_cases hlt:i+1<a.atoms.length
  ·rw[hA' (by omega)];exact h2.drop_ (by omega)
  ·rw[List.drop_eq_nil_of_le (by omega)]
   exact Rd.nil _ _ _ _ _)
 have e1:(a.atoms.take i).length=i:=by rw[List.length_take];omega
 have e2:(a.atoms.drop (i+1)).length=a.atoms.length - (i+1):=List.length_drop
 have hj:=ax (fun (W:World) (hb:Below w.heap.size w W)=>(show Calls Tryz.prog 102 #[.slice (some ⟨b,o,none⟩) i c2,.slice A' (a.atoms.length - (i+1)) (c2 - (i+1))] W fun e w'=>∃ r,e=.returned r∧AtomsO w' W.heap.size r (withoutL a.atoms i)∧Below W.heap.size W w' from by
  have:=c_joinA (some ⟨b,o,none⟩) A' c2 (c2 - (i+1)) (a.atoms.take i) (a.atoms.drop (i+1)) W (hT.o.bz hb) (hD.o.bz hb) (by rw[e1,e2];omega)
  rwa [e1,e2] at this))
 clear h1 h2 hA' e1 e2
 push_cast at hs2
 have hw:IntKind.i64.wrap ((i:Int)+1)=(i:Int)+1:=IntWalk.i64_in _ (by omega);(go_enter Tryz.func213,Tryz.ntmps213);have k0:Blk (w.alloc (.cells #[.slice A1 a.facts.length c1,.slice (some ⟨b,o,none⟩) a.atoms.length c2] tAs)) w.heap.size tAs #[.slice A1 a.facts.length c1,.slice (some ⟨b,o,none⟩) a.atoms.length c2]:=blks;(go_wp2_with fail);refine wp_region_noPanic ?_;refine wp_region_held_drew (S:=(fun w'=>∀ i,w'.cell? ⟨w.heap.size,i,none⟩=#[.slice A1 a.facts.length c1,.slice (some ⟨b,o,none⟩) a.atoms.length c2][i]?)) (by kernel_rfl) (Blk.cell blks) (fun hHeld=>?_);refine tk2 0 rfl hHeld (h:=tk2 1 rfl hHeld (h:=tk2 2 rfl hHeld (h:=?_)));(try simp only[zz]);refine tk2 3 rfl hHeld (h:=tk2 4 rfl hHeld (h:=tk2 5 rfl hHeld (h:=?_)));(try simp only[zz]);refine tk2 6 rfl hHeld (h:=tk2 7 rfl hHeld (h:=tk2 8 rfl hHeld (h:=?_)));refine rdc 9 rfl fun K hK=>?_;(try simp only[zz]);(go_simp;refine (hj.o _ bel).mono ?_;rintro e w1 ⟨r,rfl,o1,hB1⟩;have hB:=bgo (w:=w) bel hB1;have O1:=ax (o1.lower (base':=w.heap.size) (by simp));replace k0:=Blk.nz (g:=w.heap.size) blks hB1);refine hK.out _ _ (k0.cell) ?_;clear hHeld hK K;intro hHeld;refine rdc 10 rfl fun K hK=>?_;(try simp only[zz]);go_simp;refine hK.out _ _ (k0.cell) ?_;clear hHeld hK K;intro hHeld;(try simp only[zz]);refine dn1 ?_;(go_wp2_with fail);go_ret;exact ⟨r,rfl,O1.o,hB⟩
def findP (a:Asn) (kind t:Int) (i:Nat):Bool:=match a.atoms[i]? with
 | some x=>decide (x.kind=kind)&&impB a ⟨true,x.a,t⟩
 | none=>false
def findK (a:Asn) (kind t:Int):Option Nat:=(List.range a.atoms.length).find? (findP a kind t)
def findI (a:Asn) (kind t:Int):Int:=match findK a kind t with|some i=>(i:Int)|none=>0
theorem findK_yes {a:Asn} {kind t:Int} {k:Nat} (hk:k<a.atoms.length) (h1:∀ j,j<k→findP a kind t j=false) (h2:findP a kind t k=true):findK a kind t=some k:=by
 unfold findK
 have e:List.range a.atoms.length=List.range k++(List.range' k (a.atoms.length - k)):=by
  rw[List.range_eq_range',List.range_eq_range',show a.atoms.length=k+(a.atoms.length - k) by omega,←List.range'_append];simp
 rw[e,List.find?_append]
 have:(List.range k).find? (findP a kind t)=none:=by
  rw[List.find?_eq_none];intro x hx;simp[h1 x (List.mem_range.1 hx)]
 rw[this,show a.atoms.length - k=(a.atoms.length - k - 1)+1 by omega,List.range'_succ,List.find?_cons,h2];rfl
theorem findK_no {a:Asn} {kind t:Int} (h1:∀ j,j<a.atoms.length→findP a kind t j=false):findK a kind t=none:=by
 unfold findK;rw[List.find?_eq_none];intro x hx;simp[h1 x (List.mem_range.1 hx)]
theorem c_impl_firstAtomAt {lo hi:Nat} (v:Value) (a:Asn) (kind t:Int) (w:World) (h:AsnV w lo hi v a) (hhi:hi≤w.heap.size) :
  Calls Tryz.prog 210 #[v,.int .i64 kind,.int .i64 t] w fun e w'=>e=.returned (.tuple #[.int .i64 (findI a kind t),.bool (findK a kind t).isSome])∧Below w.heap.size w w':=by
 have hV:=ax h;obtain ⟨A1,c1,A2,c2,rfl,-,h2⟩:=h;have H2:=ax h2;have hl:=h2.le;clear h2;(go_enter Tryz.func210,Tryz.ntmps210);have k0:Blk (w.alloc (.cells #[.slice A1 a.facts.length c1,.slice A2 a.atoms.length c2] tAs)) w.heap.size tAs #[.slice A1 a.facts.length c1,.slice A2 a.atoms.length c2]:=blks;have hB:Below w.heap.size w (w.alloc (.cells #[.slice A1 a.facts.length c1,.slice A2 a.atoms.length c2] tAs)):=bel;(go_wp2_with fail)
 go_loopw [13] (fun i wr=>∃ k:Nat,k≤a.atoms.length∧i=.int .i64 k∧aJ (∀ j,j<k→findP a kind t j=false)∧Blk wr w.heap.size tAs #[.slice A1 a.facts.length c1,.slice A2 a.atoms.length c2]∧aJ (Below w.heap.size w wr)) (fun i _=>a.atoms.length - (intOf i).toNat)
 case atStart=>exact ⟨0,Nat.zero_le _,rfl,ax fun j h=>by omega,k0,hB⟩
 case round=>
  clear k0 hB;obtain ⟨k,hk,rfl,HA,k0,HB⟩:=hrel;have hzr:=HB.o.size;by_cases hlt:k<a.atoms.length
  ·obtain ⟨b,off,rfl,g0,g1,g2⟩:=(H2.o.bz HB.o).at hlt;have hki:(k:Int)<(a.atoms.length:Int):=by omega
   have HP:aJ (findP a kind t k=(decide (a.atoms[k].kind=kind)&&impB a ⟨true,a.atoms[k].a,t⟩)):=ax (by unfold findP;rw[List.getElem?_eq_getElem hlt]);obtain ⟨x,hx⟩:∃ x,x=a.atoms[k]:=⟨_,rfl⟩;rw[←hx] at g0 g1 g2 HP;have hbx:Below wr.heap.size wr (wr.alloc (.cells #[.int .i64 x.kind,.int .i64 x.a,.int .i64 x.b] tA)):=bbox (Below.refl _ _) _;have k1:=k0.nz hbx;have HB1:=ax (bgo HB.o hbx);have q1:=k1.cell;have l1:=k1.lt;have hz1:=hbx.size;clear hx hbx;by_cases hkd:x.kind=kind
   case neg=>
    have hkb:(x.kind == kind)=false:=by simpa using hkd
    have HA2:aJ (∀ j,j<k+1→findP a kind t j=false):=ax fun j hj=>by
     by_cases e:j=k
     ·rw[e,HP.o];simp[hkd]
     ·exact HA.o j (by omega)
    clear HA HP hkd;(go_wp2_with fail)
    go_round
    case rel=>exact ⟨k+1,by omega,by go_num,HA2,k1,HB1.o⟩
    case measure=>simp[intOf];omega
   subst hkd;(go_wp2_with fail);refine (c_impl_Implies _ a ⟨true,x.a,t⟩ _ (hV.o.bz HB1.o) (by omega)).mono ?_;rintro e w3 ⟨rfl,hB3⟩;replace k1:=k1.nz hB3;have HB3:=ax (bgo HB1.o hB3);clear hB3 q1 l1;cases hi:impB a ⟨true,x.a,t⟩
   ·have HA2:aJ (∀ j,j<k+1→findP a x.kind t j=false):=ax fun j hj=>by
     by_cases e:j=k
     ·rw[e,HP.o,hi];simp
     ·exact HA.o j (by omega)
    clear HA HP hi;(go_wp2_with fail)
    go_round
    case rel=>exact ⟨k+1,by omega,by go_num,HA2,k1,HB3.o⟩
    case measure=>simp[intOf];omega
   ·have E:=ax (findK_yes hlt HA.o (by rw[HP.o,hi];simp));clear HA HP hi;(go_wp2_with fail);go_ret2;exact ⟨by unfold findI;rw[E.o];rfl,HB3.o⟩
  ·obtain rfl:k=a.atoms.length:=by omega
   have E:=ax (findK_no (fun j hj=>HA.o j hj));(go_wp2_with fail);go_ret2;exact ⟨by unfold findI;rw[E.o];rfl,HB.o⟩
theorem rowC_ {B:Nat} {w w':World} (h:Below B w w') {g:Nat} (hg:g<B) {cs:Array Value} (hc:∀ i,w.cell? ⟨g,i,none⟩=cs[i]?):∀ i,w'.cell? ⟨g,i,none⟩=cs[i]?:=fun i=>(h.cell (p:=⟨g,i,none⟩) hg).trans (hc i)
def cellX (a:Asn) (x:Atm) (i:Nat) (t:Int):Asn:=⟨a.facts++(if x.a=t then [] else [⟨true,x.a,t⟩]),⟨1,t,x.b⟩ :: withoutL a.atoms i⟩
theorem c_impl_exposeCellAt {lo hi0:Nat} (v:Value) (a:Asn) (i:Nat) (t:Int) (w:World) (h:AsnC w lo hi0 v a) (hi:i<a.atoms.length) (hfl:a.facts.length+1≤1049600) :
  Calls Tryz.prog 211 #[v,.int .i64 i,.int .i64 t] w fun e w'=>∃ r,e=.returned (.tuple #[r,.bool (cellX a a.atoms[i] i t).valid])∧AsnO w' w.heap.size r (cellX a a.atoms[i] i t)∧Below w.heap.size w w':=by
 have hV:=ax h;obtain ⟨A1,c1,A2,c2,rfl,h1,h2,-⟩:=h;have H1:=ax h1;have hl:=h2.le;have hwl:=withoutL_len hi;obtain ⟨b,o,rfl,g0,g1,g2⟩:=h2.at hi;obtain ⟨x,hx⟩:∃ x,x=a.atoms[i]:=⟨_,rfl⟩;rw[←hx] at g0 g1 g2 ⊢;have hbl:=block_lt_of_cell g0;simp only at hbl;have hii:(i:Int)<(a.atoms.length:Int):=by omega
 have HBL:aJ (([(⟨1,t,x.b⟩:Atm)]++withoutL a.atoms i).length=a.atoms.length):=ax (by simp;omega);clear hx h1 h2;(go_enter Tryz.func211,Tryz.ntmps211);have k0:Blk ((w.alloc (.cells #[.slice A1 a.facts.length c1,.slice (some ⟨b,o,none⟩) a.atoms.length c2] tAs)).alloc (.cells #[.slice none 0 0,.slice none 0 0] tAs)) w.heap.size tAs #[.slice A1 a.facts.length c1,.slice (some ⟨b,o,none⟩) a.atoms.length c2]:=blks;have k6:Blk ((w.alloc (.cells #[.slice A1 a.facts.length c1,.slice (some ⟨b,o,none⟩) a.atoms.length c2] tAs)).alloc (.cells #[.slice none 0 0,.slice none 0 0] tAs)) (w.heap.size+1) tAs #[.slice none 0 0,.slice none 0 0]:=blks;have hB0:aJ (Below w.heap.size w ((w.alloc (.cells #[.slice A1 a.facts.length c1,.slice (some ⟨b,o,none⟩) a.atoms.length c2] tAs)).alloc (.cells #[.slice none 0 0,.slice none 0 0] tAs))):=ax bel;have hs0:((w.alloc (.cells #[.slice A1 a.facts.length c1,.slice (some ⟨b,o,none⟩) a.atoms.length c2] tAs)).alloc (.cells #[.slice none 0 0,.slice none 0 0] tAs)).heap.size=w.heap.size+2:=by simp
 (go_upto_region 3 with fail);generalize ((w.alloc (.cells #[.slice A1 a.facts.length c1,.slice (some ⟨b,o,none⟩) a.atoms.length c2] tAs)).alloc (.cells #[.slice none 0 0,.slice none 0 0] tAs))=W0 at k0 k6 hB0 hs0 ⊢;have hk2:w.heap.size+2=W0.heap.size:=by omega
 have kx:Blk ((W0.alloc (.cells #[.int .i64 x.kind,.int .i64 x.a,.int .i64 x.b] tA)).alloc (.cells #[.int .i64 1,.int .i64 t,.int .i64 x.b] tA)) (w.heap.size+2) tA #[.int .i64 x.kind,.int .i64 x.a,.int .i64 x.b]:=(Blk.newE hk2).alloc _;have kf:Blk ((W0.alloc (.cells #[.int .i64 x.kind,.int .i64 x.a,.int .i64 x.b] tA)).alloc (.cells #[.int .i64 1,.int .i64 t,.int .i64 x.b] tA)) (w.heap.size+2+1) tA #[.int .i64 1,.int .i64 t,.int .i64 x.b]:=Blk.newE (by simp;omega);have hbq:Below W0.heap.size W0 ((W0.alloc (.cells #[.int .i64 x.kind,.int .i64 x.a,.int .i64 x.b] tA)).alloc (.cells #[.int .i64 1,.int .i64 t,.int .i64 x.b] tA)):=bbox (bbox (Below.refl _ _) _) _;replace k0:=k0.nz hbq;replace k6:=k6.nz hbq;have HB:=ax (bgo hB0.o hbq);have hsW:((W0.alloc (.cells #[.int .i64 x.kind,.int .i64 x.a,.int .i64 x.b] tA)).alloc (.cells #[.int .i64 1,.int .i64 t,.int .i64 x.b] tA)).heap.size=w.heap.size+4:=by simp;omega
 clear hbq hB0;generalize ((W0.alloc (.cells #[.int .i64 x.kind,.int .i64 x.a,.int .i64 x.b] tA)).alloc (.cells #[.int .i64 1,.int .i64 t,.int .i64 x.b] tA))=W at k0 k6 kx kf HB hsW ⊢;clear hk2 hs0 g0 g1 g2
 go_cut [10] (fun s10 wc=>∃ (xb:Nat) (F1:Option Addr) (e1:Nat) (G2:Option Addr) (e3:Nat),s10=.pointer (some ⟨xb,0,none⟩)∧aJ (FactsO wc w.heap.size (.slice F1 a.facts.length e1) a.facts)∧aJ (AtomsO wc w.heap.size (.slice G2 a.atoms.length e3) ([⟨1,t,x.b⟩]++withoutL a.atoms i))∧Blk wc xb tAs #[.slice F1 a.facts.length e1,.slice G2 a.atoms.length e3]∧Blk wc (w.heap.size+2) tA #[.int .i64 x.kind,.int .i64 x.a,.int .i64 x.b]∧Blk wc (w.heap.size+1) tAs #[.slice none 0 0,.slice none 0 0]∧w.heap.size+4≤xb∧aJ (Below w.heap.size w wc))
 case first=>
  have lk0:=k0.lt;have lkf:=kf.lt;(go_wp2_with fail);refine wp_region_noPanic ?_;refine wp_region_held_drew (S:=(fun w'=>(∀ i,w'.cell? ⟨w.heap.size,i,none⟩=#[.slice A1 a.facts.length c1,.slice (some ⟨b,o,none⟩) a.atoms.length c2][i]?)∧(∀ i,w'.cell? ⟨w.heap.size+2+1,i,none⟩=#[.int .i64 1,.int .i64 t,.int .i64 x.b][i]?))) (by kernel_rfl) (⟨k0.drew.cell,kf.drew.cell⟩) (fun hHeld=>?_);clear lk0 lkf;replace k0:=k0.drew;replace k6:=k6.drew;replace kx:=kx.drew;replace kf:=kf.drew;replace HB:=ax HB.o.drew;have hzq:W.heap.size≤W.drew.heap.size:=Nat.le_refl _;generalize W.drew=wq at k0 kx k6 kf HB hzq hHeld ⊢;refine tk2 0 rfl hHeld (h:=tk2 1 rfl hHeld (h:=tk2 3 rfl hHeld (h:=?_)));(try simp only[zz]);refine tk2 4 rfl hHeld (h:=tk2 5 rfl hHeld (h:=?_));(try simp only[zz]);refine rdd 2 9 rfl rfl (fun K hK=>?_) fun K hK=>?_
  ·skip;(try simp only[zz]);go_simp;refine (c_joinF A1 none c1 0 a.facts [] _ (H1.o.bz HB.o) (Rd.nil _ 0 0 _ _) (by simpa using Nat.le_of_succ_le hfl)).mono ?_;rintro e wq ⟨rF,rfl,oF,hBq⟩;rw[List.append_nil] at oF;obtain ⟨F1,e1,rfl,-⟩:=oF.reads;have OF:=ax (oF.lower (base':=w.heap.size) (by omega));clear oF;replace k0:=k0.nz hBq;replace kx:=kx.nz hBq;replace k6:=k6.nz hBq;replace kf:=kf.nz hBq;replace HB:=ax (bgo HB.o hBq);replace hzq:=Nat.le_trans hzq hBq.size;clear hBq;refine hK.out _ _ ⟨k0.cell,kf.cell⟩ ?_;clear hHeld hK K;intro hHeld;refine rdd 6 9 rfl rfl (fun K hK=>?_) fun K hK=>?_
   ·skip;(try simp only[zz]);go_simp;refine (c_impl_without _ a i _ (hV.o.bz HB.o) hi).mono ?_;rintro e wq ⟨rA,rfl,oA,hBq⟩;obtain ⟨G1,e2,rfl,fA⟩:=oA.reads;have FA:=ax fA;replace OF:=ax (OF.o.bz hBq);clear oA fA;replace k0:=k0.nz hBq;replace kx:=kx.nz hBq;replace k6:=k6.nz hBq;replace kf:=kf.nz hBq;replace HB:=ax (bgo HB.o hBq);replace hzq:=Nat.le_trans hzq hBq.size;clear hBq;refine hK.out _ _ ⟨k0.cell,kf.cell⟩ ?_;clear hHeld hK K;intro hHeld;refine rdd 7 9 rfl rfl (fun K hK=>?_) fun K hK=>?_
    ·skip;(try simp only[zz]);go_simp;refine (c_joinA (some ⟨w.heap.size+2+1,0,none⟩) G1 1 e2 [⟨1,t,x.b⟩] (withoutL a.atoms i) _ (AtomsV.one (f:=⟨1,t,x.b⟩) kf) FA.o (by simp<;>omega)).mono ?_;rintro e wq ⟨rB,rfl,oB,hBq⟩;obtain ⟨G2,e3,rfl,-⟩:=oB.reads;rw[HBL.o] at oB;have OB:=ax (oB.lower (base':=w.heap.size) (by omega));replace OF:=ax (OF.o.bz hBq);clear oB;replace k0:=k0.nz hBq;replace kx:=kx.nz hBq;replace k6:=k6.nz hBq;replace kf:=kf.nz hBq;replace HB:=ax (bgo HB.o hBq);replace hzq:=Nat.le_trans hzq hBq.size;clear hBq;refine hK.out _ _ ⟨k0.cell,kf.cell⟩ ?_;clear hHeld hK K;intro hHeld;refine tk2 8 rfl hHeld (h:=?_);refine rdc 9 rfl fun K hK=>?_;(try simp only[zz]);go_simp;refine hK.out _ _ (⟨rowC_ (bbox (Below.refl _ _) _) k0.lt k0.cell,rowC_ (bbox (Below.refl _ _) _) kf.lt kf.cell⟩) ?_;clear hHeld hK K;intro hHeld;(try simp only[zz]);have hBq:Below wq.heap.size wq (wq.alloc (.cells #[.slice none 0 0,.slice none 0 0] tAs)):=bbox (Below.refl _ _) _;have kBox:Blk (wq.alloc (.cells #[.slice none 0 0,.slice none 0 0] tAs)) wq.heap.size tAs #[.slice none 0 0,.slice none 0 0]:=Blk.new _ _ _;obtain ⟨xb,hxb⟩:∃ x,x=wq.heap.size:=⟨_,rfl⟩;have hxb2:W.heap.size≤xb:=by omega
     replace k0:=k0.nz hBq;replace kx:=kx.nz hBq;replace k6:=k6.nz hBq;replace kf:=kf.nz hBq;replace HB:=ax (bgo HB.o hBq);replace hzq:=Nat.le_trans hzq hBq.size;(try replace OF:=ax (OF.o.bz hBq));(try replace FA:=ax (FA.o.bz hBq));(try replace OB:=ax (OB.o.bz hBq));rw[←hxb] at kBox ⊢;clear hBq hxb;generalize wq.alloc (.cells #[.slice none 0 0,.slice none 0 0] tAs)=wq at *;have hlB:=kBox.lt;have qb:=kBox.cell;have rb:=kBox.frozen;refine rdc 10 rfl fun K hK=>?_;(try simp only[zz]);go_simp;refine hK.out _ _ (⟨((k0.far (p:=⟨xb,0,none⟩) (by simp only;omega) _).far (p:=⟨xb,1,none⟩) (by simp only;omega) _).cell,((kf.far (p:=⟨xb,0,none⟩) (kf.ne_ kBox (by decide)) _).far (p:=⟨xb,1,none⟩) (kf.ne_ kBox (by decide)) _).cell⟩) ?_;clear hHeld hK K;intro hHeld;(try simp only[zz]);refine dn1 ?_;(go_wp2_with fail);go_meet
     case rel=>
      refine ⟨xb,F1,e1,G2,e3,rfl,ax ((OF.o.setT kBox (by decide) 0 _).setT (kBox.set_ 0 _) (by decide) 1 _),ax ((OB.o.setT kBox (by decide) 0 _).setT (kBox.set_ 0 _) (by decide) 1 _),?_,(kx.far (p:=⟨xb,0,none⟩) (kx.ne_ kBox (by decide)) _).far (p:=⟨xb,1,none⟩) (kx.ne_ kBox (by decide)) _,(k6.far (p:=⟨xb,0,none⟩) (by simp only;omega) _).far (p:=⟨xb,1,none⟩) (by simp only;omega) _,by omega,ax ((HB.o.setCell (p:=⟨xb,0,none⟩) (by simp only;omega) _).setCell (p:=⟨xb,1,none⟩) (by simp only;omega) _)⟩;have:=(kBox.set_ 0 (.slice F1 a.facts.length e1)).set_ 1 (.slice G2 a.atoms.length e3);simpa using this
    ·skip;(try simp only[zz]);go_simp;refine hK.out _ _ ⟨rowC_ (bbox (Below.refl _ _) _) k0.lt k0.cell,rowC_ (bbox (Below.refl _ _) _) kf.lt kf.cell⟩ ?_;clear hHeld hK K;intro hHeld;have hBq:Below wq.heap.size wq (wq.alloc (.cells #[.slice none 0 0,.slice none 0 0] tAs)):=bbox (Below.refl _ _) _;have kBox:Blk (wq.alloc (.cells #[.slice none 0 0,.slice none 0 0] tAs)) wq.heap.size tAs #[.slice none 0 0,.slice none 0 0]:=Blk.new _ _ _;obtain ⟨xb,hxb⟩:∃ x,x=wq.heap.size:=⟨_,rfl⟩;have hxb2:W.heap.size≤xb:=by omega
     replace k0:=k0.nz hBq;replace kx:=kx.nz hBq;replace k6:=k6.nz hBq;replace kf:=kf.nz hBq;replace HB:=ax (bgo HB.o hBq);replace hzq:=Nat.le_trans hzq hBq.size;(try replace OF:=ax (OF.o.bz hBq));(try replace FA:=ax (FA.o.bz hBq));(try replace OB:=ax (OB.o.bz hBq));rw[←hxb] at kBox ⊢;clear hBq hxb;generalize wq.alloc (.cells #[.slice none 0 0,.slice none 0 0] tAs)=wq at *;refine rdc 7 rfl fun K hK=>?_;(try simp only[zz]);(go_simp;refine (c_joinA (some ⟨w.heap.size+2+1,0,none⟩) G1 1 e2 [⟨1,t,x.b⟩] (withoutL a.atoms i) _ (AtomsV.one (f:=⟨1,t,x.b⟩) kf) FA.o (by simp<;>omega)).mono ?_;rintro e wq ⟨rB,rfl,oB,hBq⟩;obtain ⟨G2,e3,rfl,-⟩:=oB.reads;rw[HBL.o] at oB;have OB:=ax (oB.lower (base':=w.heap.size) (by omega));replace OF:=ax (OF.o.bz hBq);clear oB;replace k0:=k0.nz hBq;replace kx:=kx.nz hBq;replace k6:=k6.nz hBq;replace kf:=kf.nz hBq;replace HB:=ax (bgo HB.o hBq);replace hzq:=Nat.le_trans hzq hBq.size;have kBox:=kBox.nz hBq);refine hK.out _ _ (⟨k0.cell,kf.cell⟩) ?_;clear hHeld hK K;intro hHeld;(try simp only[zz]);clear hBq;refine tk2 8 rfl hHeld (h:=?_);(try simp only[zz]);have hlB:=kBox.lt;have qb:=kBox.cell;have rb:=kBox.frozen;refine rdc 10 rfl fun K hK=>?_;(try simp only[zz]);go_simp;refine hK.out _ _ (⟨((k0.far (p:=⟨xb,0,none⟩) (by simp only;omega) _).far (p:=⟨xb,1,none⟩) (by simp only;omega) _).cell,((kf.far (p:=⟨xb,0,none⟩) (kf.ne_ kBox (by decide)) _).far (p:=⟨xb,1,none⟩) (kf.ne_ kBox (by decide)) _).cell⟩) ?_;clear hHeld hK K;intro hHeld;(try simp only[zz]);refine dn1 ?_;(go_wp2_with fail);go_meet
     case rel=>
      refine ⟨xb,F1,e1,G2,e3,rfl,ax ((OF.o.setT kBox (by decide) 0 _).setT (kBox.set_ 0 _) (by decide) 1 _),ax ((OB.o.setT kBox (by decide) 0 _).setT (kBox.set_ 0 _) (by decide) 1 _),?_,(kx.far (p:=⟨xb,0,none⟩) (kx.ne_ kBox (by decide)) _).far (p:=⟨xb,1,none⟩) (kx.ne_ kBox (by decide)) _,(k6.far (p:=⟨xb,0,none⟩) (by simp only;omega) _).far (p:=⟨xb,1,none⟩) (by simp only;omega) _,by omega,ax ((HB.o.setCell (p:=⟨xb,0,none⟩) (by simp only;omega) _).setCell (p:=⟨xb,1,none⟩) (by simp only;omega) _)⟩;have:=(kBox.set_ 0 (.slice F1 a.facts.length e1)).set_ 1 (.slice G2 a.atoms.length e3);simpa using this
   ·skip;(try simp only[zz]);go_simp;refine hK.out _ _ ⟨rowC_ (bbox (Below.refl _ _) _) k0.lt k0.cell,rowC_ (bbox (Below.refl _ _) _) kf.lt kf.cell⟩ ?_;clear hHeld hK K;intro hHeld;have hBq:Below wq.heap.size wq (wq.alloc (.cells #[.slice none 0 0,.slice none 0 0] tAs)):=bbox (Below.refl _ _) _;have kBox:Blk (wq.alloc (.cells #[.slice none 0 0,.slice none 0 0] tAs)) wq.heap.size tAs #[.slice none 0 0,.slice none 0 0]:=Blk.new _ _ _;obtain ⟨xb,hxb⟩:∃ x,x=wq.heap.size:=⟨_,rfl⟩;have hxb2:W.heap.size≤xb:=by omega
    replace k0:=k0.nz hBq;replace kx:=kx.nz hBq;replace k6:=k6.nz hBq;replace kf:=kf.nz hBq;replace HB:=ax (bgo HB.o hBq);replace hzq:=Nat.le_trans hzq hBq.size;(try replace OF:=ax (OF.o.bz hBq));(try replace FA:=ax (FA.o.bz hBq));(try replace OB:=ax (OB.o.bz hBq));rw[←hxb] at kBox ⊢;clear hBq hxb;generalize wq.alloc (.cells #[.slice none 0 0,.slice none 0 0] tAs)=wq at *;refine rdc 6 rfl fun K hK=>?_;(try simp only[zz]);(go_simp;refine (c_impl_without _ a i _ (hV.o.bz HB.o) hi).mono ?_;rintro e wq ⟨rA,rfl,oA,hBq⟩;obtain ⟨G1,e2,rfl,fA⟩:=oA.reads;have FA:=ax fA;replace OF:=ax (OF.o.bz hBq);clear oA fA;replace k0:=k0.nz hBq;replace kx:=kx.nz hBq;replace k6:=k6.nz hBq;replace kf:=kf.nz hBq;replace HB:=ax (bgo HB.o hBq);replace hzq:=Nat.le_trans hzq hBq.size;have kBox:=kBox.nz hBq);refine hK.out _ _ (⟨k0.cell,kf.cell⟩) ?_;clear hHeld hK K;intro hHeld;(try simp only[zz]);clear hBq;refine rdc 7 rfl fun K hK=>?_;(try simp only[zz]);(go_simp;refine (c_joinA (some ⟨w.heap.size+2+1,0,none⟩) G1 1 e2 [⟨1,t,x.b⟩] (withoutL a.atoms i) _ (AtomsV.one (f:=⟨1,t,x.b⟩) kf) FA.o (by simp<;>omega)).mono ?_;rintro e wq ⟨rB,rfl,oB,hBq⟩;obtain ⟨G2,e3,rfl,-⟩:=oB.reads;rw[HBL.o] at oB;have OB:=ax (oB.lower (base':=w.heap.size) (by omega));replace OF:=ax (OF.o.bz hBq);clear oB;replace k0:=k0.nz hBq;replace kx:=kx.nz hBq;replace k6:=k6.nz hBq;replace kf:=kf.nz hBq;replace HB:=ax (bgo HB.o hBq);replace hzq:=Nat.le_trans hzq hBq.size;have kBox:=kBox.nz hBq);refine hK.out _ _ (⟨k0.cell,kf.cell⟩) ?_;clear hHeld hK K;intro hHeld;(try simp only[zz]);clear hBq;refine tk2 8 rfl hHeld (h:=?_);(try simp only[zz]);have hlB:=kBox.lt;have qb:=kBox.cell;have rb:=kBox.frozen;refine rdc 10 rfl fun K hK=>?_;(try simp only[zz]);go_simp;refine hK.out _ _ (⟨((k0.far (p:=⟨xb,0,none⟩) (by simp only;omega) _).far (p:=⟨xb,1,none⟩) (by simp only;omega) _).cell,((kf.far (p:=⟨xb,0,none⟩) (kf.ne_ kBox (by decide)) _).far (p:=⟨xb,1,none⟩) (kf.ne_ kBox (by decide)) _).cell⟩) ?_;clear hHeld hK K;intro hHeld;(try simp only[zz]);refine dn1 ?_;(go_wp2_with fail);go_meet
    case rel=>
     refine ⟨xb,F1,e1,G2,e3,rfl,ax ((OF.o.setT kBox (by decide) 0 _).setT (kBox.set_ 0 _) (by decide) 1 _),ax ((OB.o.setT kBox (by decide) 0 _).setT (kBox.set_ 0 _) (by decide) 1 _),?_,(kx.far (p:=⟨xb,0,none⟩) (kx.ne_ kBox (by decide)) _).far (p:=⟨xb,1,none⟩) (kx.ne_ kBox (by decide)) _,(k6.far (p:=⟨xb,0,none⟩) (by simp only;omega) _).far (p:=⟨xb,1,none⟩) (by simp only;omega) _,by omega,ax ((HB.o.setCell (p:=⟨xb,0,none⟩) (by simp only;omega) _).setCell (p:=⟨xb,1,none⟩) (by simp only;omega) _)⟩;have:=(kBox.set_ 0 (.slice F1 a.facts.length e1)).set_ 1 (.slice G2 a.atoms.length e3);simpa using this
  ·skip;(try simp only[zz]);go_simp;refine hK.out _ _ ⟨rowC_ (bbox (Below.refl _ _) _) k0.lt k0.cell,rowC_ (bbox (Below.refl _ _) _) kf.lt kf.cell⟩ ?_;clear hHeld hK K;intro hHeld;have hBq:Below wq.heap.size wq (wq.alloc (.cells #[.slice none 0 0,.slice none 0 0] tAs)):=bbox (Below.refl _ _) _;have kBox:Blk (wq.alloc (.cells #[.slice none 0 0,.slice none 0 0] tAs)) wq.heap.size tAs #[.slice none 0 0,.slice none 0 0]:=Blk.new _ _ _;obtain ⟨xb,hxb⟩:∃ x,x=wq.heap.size:=⟨_,rfl⟩;have hxb2:W.heap.size≤xb:=by omega
   replace k0:=k0.nz hBq;replace kx:=kx.nz hBq;replace k6:=k6.nz hBq;replace kf:=kf.nz hBq;replace HB:=ax (bgo HB.o hBq);replace hzq:=Nat.le_trans hzq hBq.size;(try replace OF:=ax (OF.o.bz hBq));(try replace FA:=ax (FA.o.bz hBq));(try replace OB:=ax (OB.o.bz hBq));rw[←hxb] at kBox ⊢;clear hBq hxb;generalize wq.alloc (.cells #[.slice none 0 0,.slice none 0 0] tAs)=wq at *;refine rdc 2 rfl fun K hK=>?_;(try simp only[zz]);(go_simp;refine (c_joinF A1 none c1 0 a.facts [] _ (H1.o.bz HB.o) (Rd.nil _ 0 0 _ _) (by simpa using Nat.le_of_succ_le hfl)).mono ?_;rintro e wq ⟨rF,rfl,oF,hBq⟩;rw[List.append_nil] at oF;obtain ⟨F1,e1,rfl,-⟩:=oF.reads;have OF:=ax (oF.lower (base':=w.heap.size) (by omega));clear oF;replace k0:=k0.nz hBq;replace kx:=kx.nz hBq;replace k6:=k6.nz hBq;replace kf:=kf.nz hBq;replace HB:=ax (bgo HB.o hBq);replace hzq:=Nat.le_trans hzq hBq.size;have kBox:=kBox.nz hBq);refine hK.out _ _ (⟨k0.cell,kf.cell⟩) ?_;clear hHeld hK K;intro hHeld;(try simp only[zz]);clear hBq;refine rdc 6 rfl fun K hK=>?_;(try simp only[zz]);(go_simp;refine (c_impl_without _ a i _ (hV.o.bz HB.o) hi).mono ?_;rintro e wq ⟨rA,rfl,oA,hBq⟩;obtain ⟨G1,e2,rfl,fA⟩:=oA.reads;have FA:=ax fA;replace OF:=ax (OF.o.bz hBq);clear oA fA;replace k0:=k0.nz hBq;replace kx:=kx.nz hBq;replace k6:=k6.nz hBq;replace kf:=kf.nz hBq;replace HB:=ax (bgo HB.o hBq);replace hzq:=Nat.le_trans hzq hBq.size;have kBox:=kBox.nz hBq);refine hK.out _ _ (⟨k0.cell,kf.cell⟩) ?_;clear hHeld hK K;intro hHeld;(try simp only[zz]);clear hBq;refine rdc 7 rfl fun K hK=>?_;(try simp only[zz]);(go_simp;refine (c_joinA (some ⟨w.heap.size+2+1,0,none⟩) G1 1 e2 [⟨1,t,x.b⟩] (withoutL a.atoms i) _ (AtomsV.one (f:=⟨1,t,x.b⟩) kf) FA.o (by simp<;>omega)).mono ?_;rintro e wq ⟨rB,rfl,oB,hBq⟩;obtain ⟨G2,e3,rfl,-⟩:=oB.reads;rw[HBL.o] at oB;have OB:=ax (oB.lower (base':=w.heap.size) (by omega));replace OF:=ax (OF.o.bz hBq);clear oB;replace k0:=k0.nz hBq;replace kx:=kx.nz hBq;replace k6:=k6.nz hBq;replace kf:=kf.nz hBq;replace HB:=ax (bgo HB.o hBq);replace hzq:=Nat.le_trans hzq hBq.size;have kBox:=kBox.nz hBq);refine hK.out _ _ (⟨k0.cell,kf.cell⟩) ?_;clear hHeld hK K;intro hHeld;(try simp only[zz]);clear hBq;refine tk2 8 rfl hHeld (h:=?_);(try simp only[zz]);have hlB:=kBox.lt;have qb:=kBox.cell;have rb:=kBox.frozen;refine rdc 10 rfl fun K hK=>?_;(try simp only[zz]);go_simp;refine hK.out _ _ (⟨((k0.far (p:=⟨xb,0,none⟩) (by simp only;omega) _).far (p:=⟨xb,1,none⟩) (by simp only;omega) _).cell,((kf.far (p:=⟨xb,0,none⟩) (kf.ne_ kBox (by decide)) _).far (p:=⟨xb,1,none⟩) (kf.ne_ kBox (by decide)) _).cell⟩) ?_;clear hHeld hK K;intro hHeld;(try simp only[zz]);refine dn1 ?_;(go_wp2_with fail);go_meet
   case rel=>
    refine ⟨xb,F1,e1,G2,e3,rfl,ax ((OF.o.setT kBox (by decide) 0 _).setT (kBox.set_ 0 _) (by decide) 1 _),ax ((OB.o.setT kBox (by decide) 0 _).setT (kBox.set_ 0 _) (by decide) 1 _),?_,(kx.far (p:=⟨xb,0,none⟩) (kx.ne_ kBox (by decide)) _).far (p:=⟨xb,1,none⟩) (kx.ne_ kBox (by decide)) _,(k6.far (p:=⟨xb,0,none⟩) (by simp only;omega) _).far (p:=⟨xb,1,none⟩) (by simp only;omega) _,by omega,ax ((HB.o.setCell (p:=⟨xb,0,none⟩) (by simp only;omega) _).setCell (p:=⟨xb,1,none⟩) (by simp only;omega) _)⟩;have:=(kBox.set_ 0 (.slice F1 a.facts.length e1)).set_ 1 (.slice G2 a.atoms.length e3);simpa using this
 case rest=>
  obtain ⟨xb,F1,e1,G2,e3,rfl,OF,OB,kb,kx,k6,hxb,HB⟩:=hcut;have hl0:=kb.lt;by_cases hxt:x.a=t
  ·have HXE:aJ (cellX a x i t=⟨a.facts,[⟨1,t,x.b⟩]++withoutL a.atoms i⟩):=ax (by unfold cellX;rw[if_pos hxt,List.append_nil];rfl)
   have HVX:aJ (AsnV wc 0 wc.heap.size (.agg #[.slice F1 a.facts.length e1,.slice G2 a.atoms.length e3]) (cellX a x i t)):=ax (by
    rw[HXE.o];refine ⟨F1,e1,G2,e3,?_,OF.o.readsI.2.mono (Nat.zero_le _) (Nat.le_refl _),OB.o.readsI.2.mono (Nat.zero_le _) (Nat.le_refl _)⟩
    rw[HBL.o])
   have hb:(x.a != t)=false:=by simpa using hxt
   clear hxt;(replace qkb:=kb.z;replace qkx:=kx.z;replace qk6:=k6.z);(go_upto_region 6 with fail);clear qkx;refine wp_region_noPanic ?_;refine wp_region_held_drew (S:=(fun w'=>∀ i,w'.cell? ⟨xb,i,none⟩=#[.slice F1 a.facts.length e1,.slice G2 a.atoms.length e3][i]?)) (by kernel_rfl) (kb.drew.cell) (fun hHeld=>?_);refine tk2 0 rfl hHeld (h:=tk2 1 rfl hHeld (h:=?_));refine rdc 2 rfl fun K hK=>?_;(try simp only[zz]);(go_simp;refine (c_impl_AssertionValid _ (cellX a x i t) _ (HVX.o.bz (Below.refl _ _).drew)).mono ?_;rintro e w8 ⟨rfl,hB8⟩;replace hB8:Below wc.heap.size wc w8:=(Below.refl _ _).drew.trans hB8;have kb8:=kb.nz hB8;have k68:=k6.nz hB8;have OF8:=ax (OF.o.bz hB8);have OB8:=ax (OB.o.bz hB8);have HB8:=ax (bgo HB.o hB8);clear hB8);refine hK.out _ _ (kb8.cell) ?_;clear hHeld hK K;intro hHeld;(try simp only[zz]);have q68:=k68.cell;have r68:=k68.frozen;have l68:=k68.lt;refine rdc 3 rfl fun K hK=>?_;(try simp only[zz]);go_simp;refine hK.out _ _ (((kb8.far (p:=⟨w.heap.size+1,0,none⟩) (by simp only;omega) _).far (p:=⟨w.heap.size+1,1,none⟩) (by simp only;omega) _).cell) ?_;clear hHeld hK K;intro hHeld;refine rdc 4 rfl fun K hK=>?_;(try simp only[zz]);go_simp;refine hK.out _ _ (((kb8.far (p:=⟨w.heap.size+1,0,none⟩) (by simp only;omega) _).far (p:=⟨w.heap.size+1,1,none⟩) (by simp only;omega) _).cell) ?_;clear hHeld hK K;intro hHeld;(try simp only[zz]);refine dn1 ?_;(go_wp2_with fail);have z6:=((k68.set_ 0 (.slice F1 a.facts.length e1)).set_ 1 (.slice G2 a.atoms.length e3)).cell;refine bodyPost_ret (v:=.tuple #[.agg #[.slice F1 a.facts.length e1,.slice G2 a.atoms.length e3],.bool (cellX a x i t).valid]) (by simp[results,Tryz.results211,go_sem,z6]) rfl ⟨_,rfl,⟨_,_,rfl,?_,?_⟩,?_⟩
   ·rw[HXE.o];exact (OF8.o.setT k68 (by decide) 0 _).setT (k68.set_ 0 _) (by decide) 1 _
   ·rw[HXE.o];exact (OB8.o.setT k68 (by decide) 0 _).setT (k68.set_ 0 _) (by decide) 1 _
   ·exact (HB8.o.setCell (p:=⟨w.heap.size+1,0,none⟩) (by simp only;omega) _).setCell (p:=⟨w.heap.size+1,1,none⟩) (by simp only;omega) _
  ·have HXE:aJ (cellX a x i t=⟨a.facts++[⟨true,x.a,t⟩],[⟨1,t,x.b⟩]++withoutL a.atoms i⟩):=ax (by unfold cellX;rw[if_neg hxt];rfl);have hb:(x.a != t)=true:=by simpa using hxt
   clear hxt;have hzw:w.heap.size≤wc.heap.size:=HB.o.size;(replace qkb:=kb.z;replace qkx:=kx.z;replace qk6:=k6.z);(go_wp2_with (at_builtin;refine appFL (ys:=[⟨true,x.a,t⟩]) (base:=w.heap.size) rfl _ _ rfl rfl (OF.o.bz bel) rfl (FactsV.one (f:=⟨true,x.a,t⟩) (Blk.new wc tF _)) (by simpa using hfl) (by simp;omega) ?_;intro A6 c6 w6 o6 hg6 hB6;have kO:=OF.o.bz (w':=wc.alloc (.cells #[.bool true,.int .i64 x.a,.int .i64 t] tF)) bel;have kb6:=Blk.grownO (hg:=hg6) (kb.alloc _) kO.1 (by decide);have k66:=Blk.grownO (hg:=hg6) (k6.alloc _) kO.1 (by decide);have OB6:aJ (AtomsO w6 w.heap.size (.slice G2 a.atoms.length e3) ([⟨1,t,x.b⟩]++withoutL a.atoms i)):=ax ⟨own_grownO (OB.o.bz (w':=wc.alloc (.cells #[.bool true,.int .i64 x.a,.int .i64 t] tF)) bel).1 kO.1 hg6 (by decide),OB.o.2⟩;have HB6:aJ (Below w.heap.size w w6):=ax ((HB.o.alloc hzw _).trans hB6);have OF6:=ax o6;clear hB6 hg6 o6 kO;have qb6:=kb6.cell;have rb6:=kb6.frozen;have lb6:=kb6.lt))
   have kb7:Blk (w6.setCell ⟨xb,0,none⟩ (.slice A6 (a.facts.length+1) c6)) xb tAs #[.slice A6 (a.facts.length+1) c6,.slice G2 a.atoms.length e3]:=by
    have:=kb6.set_ 0 (.slice A6 (a.facts.length+1) c6);simpa using this
   have k67:=k66.far (p:=⟨xb,0,none⟩) (by simp only;omega) (.slice A6 (a.facts.length+1) c6)
   have OF7:aJ (FactsO (w6.setCell ⟨xb,0,none⟩ (.slice A6 (a.facts.length+1) c6)) w.heap.size (.slice A6 (a.facts.length+1) c6) (a.facts++[⟨true,x.a,t⟩])):=ax (by
    have:=OF6.o.setT kb6 (by decide) 0 (.slice A6 (a.facts.length+1) c6)
    simpa using this)
   have OB7:=ax (OB6.o.setT kb6 (by decide) 0 (.slice A6 (a.facts.length+1) c6));have HB7:=ax (HB6.o.setCell (p:=⟨xb,0,none⟩) (by simp only;omega) (.slice A6 (a.facts.length+1) c6));clear qkb qkx qk6 qb6 rb6 lb6 kb kx k6 OF OB HB kb6 k66 OF6 OB6 HB6;generalize (w6.setCell ⟨xb,0,none⟩ (.slice A6 (a.facts.length+1) c6))=W7 at kb7 k67 OF7 OB7 HB7 ⊢;have kb:=kb7;have k6:=k67;have OF:=OF7;have OB:=OB7;have HB:=HB7;clear kb7 k67 OF7 OB7 HB7
   have HVX:aJ (AsnV W7 0 W7.heap.size (.agg #[.slice A6 (a.facts.length+1) c6,.slice G2 a.atoms.length e3]) (cellX a x i t)):=ax (by
    rw[HXE.o];refine ⟨A6,c6,G2,e3,?_,by simpa using OF.o.readsI.2.mono (Nat.zero_le _) (Nat.le_refl _),OB.o.readsI.2.mono (Nat.zero_le _) (Nat.le_refl _)⟩
    rw[HBL.o];simp)
   refine wp_region_noPanic ?_;refine wp_region_held_drew (S:=(fun w'=>∀ i,w'.cell? ⟨xb,i,none⟩=#[.slice A6 (a.facts.length+1) c6,.slice G2 a.atoms.length e3][i]?)) (by kernel_rfl) (kb.drew.cell) (fun hHeld=>?_);refine tk2 0 rfl hHeld (h:=tk2 1 rfl hHeld (h:=?_));refine rdc 2 rfl fun K hK=>?_;(try simp only[zz]);(go_simp;refine (c_impl_AssertionValid _ (cellX a x i t) _ (HVX.o.bz (Below.refl _ _).drew)).mono ?_;rintro e w8 ⟨rfl,hB8⟩;replace hB8:Below W7.heap.size W7 w8:=(Below.refl _ _).drew.trans hB8;have kb8:=kb.nz hB8;have k68:=k6.nz hB8;have OF8:=ax (OF.o.bz hB8);have OB8:=ax (OB.o.bz hB8);have HB8:=ax (bgo HB.o hB8);clear hB8);refine hK.out _ _ (kb8.cell) ?_;clear hHeld hK K;intro hHeld;(try simp only[zz]);have q68:=k68.cell;have r68:=k68.frozen;have l68:=k68.lt;refine rdc 3 rfl fun K hK=>?_;(try simp only[zz]);go_simp;refine hK.out _ _ (((kb8.far (p:=⟨w.heap.size+1,0,none⟩) (by simp only;omega) _).far (p:=⟨w.heap.size+1,1,none⟩) (by simp only;omega) _).cell) ?_;clear hHeld hK K;intro hHeld;refine rdc 4 rfl fun K hK=>?_;(try simp only[zz]);go_simp;refine hK.out _ _ (((kb8.far (p:=⟨w.heap.size+1,0,none⟩) (by simp only;omega) _).far (p:=⟨w.heap.size+1,1,none⟩) (by simp only;omega) _).cell) ?_;clear hHeld hK K;intro hHeld;(try simp only[zz]);refine dn1 ?_;(go_wp2_with fail);have z6:=((k68.set_ 0 (.slice A6 (a.facts.length+1) c6)).set_ 1 (.slice G2 a.atoms.length e3)).cell;refine bodyPost_ret (v:=.tuple #[.agg #[.slice A6 (a.facts.length+1) c6,.slice G2 a.atoms.length e3],.bool (cellX a x i t).valid]) (by simp[results,Tryz.results211,go_sem,z6]) rfl ⟨_,rfl,⟨_,_,rfl,?_,?_⟩,?_⟩
   ·rw[HXE.o];exact (OF8.o.setT k68 (by decide) 0 _).setT (k68.set_ 0 _) (by decide) 1 _
   ·rw[HXE.o];exact (OB8.o.setT k68 (by decide) 0 _).setT (k68.set_ 0 _) (by decide) 1 _
   ·exact (HB8.o.setCell (p:=⟨w.heap.size+1,0,none⟩) (by simp only;omega) _).setCell (p:=⟨w.heap.size+1,1,none⟩) (by simp only;omega) _
end
section
open Go Go.RowKit Go.Proofs
theorem imp_iff {a:Asn} {f:Fct}:impB a f=true↔a.valid=true∧f.valid=true∧∀ M,Sat M a→decide (M f.a=M f.b)=f.eq:=by
 unfold impB;rw[Bool.and_eq_true,Bool.and_eq_true,and_assoc,List.all_eq_true];constructor
 ·rintro ⟨h1,h2,h3⟩;refine ⟨h1,h2,fun M hM=>?_⟩;have hfo:=Fct.valid_ok h2;have ha:isTermB f.a=true:=by simp[isTermB];omega
  have hb:isTermB f.b=true:=by simp[isTermB];omega
  have hbit:∀ j:Nat,(factS f).testBit j=(decide (f.a=(j:Int)) || decide (f.b=(j:Int))):=fun j=>by
   rw[tins_bit,tins_bit,Nat.zero_testBit,ha,hb];simp
  have b1:(caseS a (factS f)).testBit f.a.toNat=true:=by rw[caseS_bit,hbit,Int.toNat_of_nonneg hfo.1.1];simp
  have b2:(caseS a (factS f)).testBit f.b.toNat=true:=by rw[caseS_bit,hbit,Int.toNat_of_nonneg hfo.2.1];simp
  have hc:=sat_case h1 (caseS_zero a (factS f)) (caseS_terms h1 (factS f)) hM;have h4:=h3 _ hc;have h5:=cl_canon_eq (M:=M) (S:=caseS a (factS f)) ⟨hfo.1,b1⟩ ⟨hfo.2,b2⟩;simp only[Fct.fits,beq_iff_eq] at h4;rw[←h4,decide_eq_decide];exact h5.symm
 ·rintro ⟨h1,h2,h3⟩;refine ⟨h1,h2,fun c hc=>?_⟩;have:=h3 _ (case_sat h1 (caseS_zero a (factS f)) hc);simp only[Fct.fits,beq_iff_eq];exact this
def emptyX (a:Asn) (x:Atm) (i:Nat):Asn:=⟨a.facts++[⟨true,x.a,x.b⟩],withoutL a.atoms i⟩
def fullX (a:Asn) (x:Atm) (i:Nat) (m:Int):Asn:=⟨a.facts++[⟨false,x.a,x.b⟩],([⟨1,x.a,m⟩]++withoutL a.atoms i)++[⟨2,m,x.b⟩]⟩
theorem without_perm {xs:List Atm} {i:Nat} {x:Atm} (h:xs[i]? = some x):xs.Perm (x :: withoutL xs i):=by
 obtain ⟨hi,rfl⟩:=List.getElem?_eq_some_iff.1 h;have e:xs=xs.take i++xs[i] :: xs.drop (i+1):=by rw[←List.drop_eq_getElem_cons hi,List.take_append_drop]
 conv=>lhs;rw[e]
 exact List.perm_middle
theorem full_sat {M:Int→Int} {a:Asn} {x:Atm} {i:Nat} {m:Int} (hx:a.atoms[i]? = some x) (hk:x.kind=2) (h:Sat M (fullX a x i m)):Sat M a:=by
 have hp:=without_perm hx;have hne:decide (M x.a=M x.b)=false:=h.facts ⟨false,x.a,x.b⟩ (by simp[fullX]);have hfx:fillM M x=true:=by simp[fillM,hne]
 have hf1:fillM M ⟨1,x.a,m⟩=true:=by simp[fillM]
 refine ⟨fun f hf=>h.facts f (by simp[fullX,hf]),fun y hy hfy=>?_,?_⟩
 ·rcases List.mem_cons.1 (hp.mem_iff.1 hy) with rfl|hy
  ·exact h.nil ⟨1,y.a,m⟩ (by simp[fullX]) hf1
  ·exact h.nil y (by simp[fullX,hy]) hfy
 ·have h2:=h.apart;refine ((hp.filter (fillM M)).map fun x=>M x.a).nodup_iff.2 ?_;rw[List.filter_cons,if_pos hfx];simp only[fullX,List.filter_append,List.map_append,List.append_assoc,List.singleton_append,List.filter_cons,List.cons_append,if_pos hf1,List.map_cons,List.filter_nil,List.nil_append] at h2;refine List.Nodup.sublist ?_ h2;simp only[List.map_cons];exact List.Sublist.cons_cons _ (List.sublist_append_left _ _)
theorem full_imp {a:Asn} {x:Atm} {i:Nat} {m t:Int} (hx:a.atoms[i]? = some x) (hk:x.kind=2) (hf:(fullX a x i m).valid=true) (h:impB a ⟨true,x.a,t⟩=true):impB (fullX a x i m) ⟨true,x.a,t⟩=true:=by
 rw[imp_iff] at h ⊢;exact ⟨hf,h.2.1,fun M hM=>h.2.2 M (full_sat hx hk hM)⟩
theorem find_some {a:Asn} {kind t:Int} {i:Nat} (h:findK a kind t=some i):∃ x,a.atoms[i]? = some x∧x.kind=kind∧impB a ⟨true,x.a,t⟩=true∧i<a.atoms.length:=by
 have h1:=List.find?_some h;unfold findP at h1
 cases e:a.atoms[i]? with
 | none=>rw[e] at h1;cases h1
 | some x=>
  rw[e] at h1;simp only[Bool.and_eq_true,decide_eq_true_eq] at h1;exact ⟨x,rfl,h1.1,h1.2,(List.getElem?_eq_some_iff.1 e).1⟩
theorem full_find {a:Asn} {x:Atm} {i:Nat} {m t:Int} (hx:a.atoms[i]? = some x) (hk:x.kind=2) (hf:(fullX a x i m).valid=true) (h:impB a ⟨true,x.a,t⟩=true):findK (fullX a x i m) 1 t=some 0:=by
 refine findK_yes (by simp[fullX]) (fun j hj=>by omega) ?_;unfold findP;have:(fullX a x i m).atoms[0]? = some ⟨1,x.a,m⟩:=by simp[fullX]
 rw[this];simp[full_imp hx hk hf h]
def exposeF:Nat→Asn→Int→Nat→Option (List Asn)
 | 0,_,_,_=>none
 | n+1,a,t,K=>
  if a.valid=false then none
  else if consB a=false then some []
  else match findK a 1 t with
   | some i=>if (cellX a (a.atoms[i]?.getD default) i t).valid then some [cellX a (a.atoms[i]?.getD default) i t] else none
   | none=>match findK a 2 t with
    | none=>none
    | some i=>match newT (tset (termsL a)|||tins K t) with
     | none=>none
     | some m=>match exposeF n (emptyX a (a.atoms[i]?.getD default) i) t K with
      | none=>none
      | some l1=>match exposeF n (fullX a (a.atoms[i]?.getD default) i (m:Int)) t K with
       | none=>none
       | some l2=>some (l1++l2)
end
section
open Go Go.RowKit Go.Proofs
attribute [local go_sem ↓] Go.wp_at_zero Go.wp_at_succ
def listF (n:Nat) (a:Asn) (x:Atm) (i:Nat) (t:Int) (K:Nat):Option (List Asn):=
 match newT (tset (termsL a)|||tins K t) with
 | none=>none
 | some m=>match exposeF n (emptyX a x i) t K with
  | none=>none
  | some l1=>match exposeF n (fullX a x i (m:Int)) t K with
   | none=>none
   | some l2=>some (l1++l2)
theorem expose_bad {n:Nat} {a:Asn} {t:Int} {K:Nat} (h:a.valid=false):exposeF n a t K=none:=by
 cases n with
 | zero=>rfl
 | succ n=>simp[exposeF,h]
theorem expose_no {n:Nat} {a:Asn} {t:Int} {K:Nat} (h:a.valid=true) (hc:consB a=false):exposeF (n+1) a t K=some []:=by simp[exposeF,h,hc]
theorem expose_cell {n:Nat} {a:Asn} {t:Int} {K i:Nat} {x:Atm} (h:a.valid=true) (hc:consB a=true) (hf:findK a 1 t=some i) (hx:a.atoms[i]? = some x):exposeF (n+1) a t K=if (cellX a x i t).valid then some [cellX a x i t] else none:=by
 simp[exposeF,h,hc,hf,hx]
theorem expose_none {n:Nat} {a:Asn} {t:Int} {K:Nat} (h:a.valid=true) (hc:consB a=true) (hf:findK a 1 t=none) (hg:findK a 2 t=none):exposeF (n+1) a t K=none:=by simp[exposeF,h,hc,hf,hg]
theorem expose_list {n:Nat} {a:Asn} {t:Int} {K i:Nat} {x:Atm} (h:a.valid=true) (hc:consB a=true) (hf:findK a 1 t=none) (hg:findK a 2 t=some i) (hx:a.atoms[i]? = some x):exposeF (n+1) a t K=listF n a x i t K:=by
 simp only[exposeF,h,hc,hf,hg,hx,listF,Option.getD_some];rfl
theorem expose_ok:∀ {n:Nat} {a:Asn} {t:Int} {K:Nat} {l:List Asn},exposeF n a t K=some l→l.length≤2 ^ n∧∀ b∈l,b.valid=true
 | 0,_,_,_,_,h=>by cases h
 | n+1,a,t,K,l,h=>by
  unfold exposeF at h
  split at h
  ·cases h
  ·split at h
   ·obtain rfl:=Option.some.inj h;simp
   ·split at h
    ·split at h
     ·rename_i hv;obtain rfl:=Option.some.inj h;refine ⟨by simp;exact Nat.one_le_two_pow,fun b hb=>?_⟩;obtain rfl:=List.mem_singleton.1 hb;exact hv
     ·cases h
    ·split at h
     ·cases h
     ·split at h
      ·cases h
      ·split at h
       ·cases h
       ·split at h
        ·cases h
        ·rename_i e1 _ _ e2;obtain rfl:=Option.some.inj h;have h1:=expose_ok e1;have h2:=expose_ok e2;refine ⟨by rw[List.length_append,Nat.pow_succ];omega,fun b hb=>?_⟩;rcases List.mem_append.1 hb with hb|hb
         ·exact h1.2 b hb
         ·exact h2.2 b hb
def ExpC (n:Nat) (a:Asn) (t:Int) (K:Nat):Prop:=∀ (lo hi:Nat) (v:Value) (w:World),AsnC w lo hi v a→hi≤w.heap.size→a.valid=true→
 Calls Tryz.prog 158 #[v,.int .i64 t,.int .u16 K] w fun e w'=>∃ r vs,e=.returned (.tuple #[r,.bool (exposeF n a t K).isSome])∧A2O w' w.heap.size r vs ((exposeF n a t K).getD [])∧Below w.heap.size w w'
def ExpL (n:Nat) (a:Asn) (x:Atm) (i:Nat) (t:Int) (K:Nat):Prop:=∀ (lo hi:Nat) (v:Value) (w:World),AsnC w lo hi v a→hi≤w.heap.size→
 Calls Tryz.prog 212 #[v,.int .i64 i,.int .i64 t,.int .u16 K] w fun e w'=>∃ r vs,e=.returned (.tuple #[r,.bool (listF n a x i t K).isSome])∧A2O w' w.heap.size r vs ((listF n a x i t K).getD [])∧Below w.heap.size w w'
theorem c_expose_step (n:Nat) (a:Asn) (t:Int) (K:Nat) (HL:∀ i x,findK a 1 t=none→findK a 2 t=some i→a.atoms[i]? = some x→x.kind=2→impB a ⟨true,x.a,t⟩=true→ExpL n a x i t K):ExpC (n+1) a t K:=by
 intro lo hi v w h hhi hv;have hV:=ax h;obtain ⟨A1,c1,A2,c2,rfl,-⟩:=h;have HLL:=ax HL;have hvl:=valid_len hv;have HV:=ax hv;clear HL hv;(go_enter Tryz.func158,Tryz.ntmps158);have k0:Blk (w.alloc (.cells #[.slice A1 a.facts.length c1,.slice A2 a.atoms.length c2] tAs)) w.heap.size tAs #[.slice A1 a.facts.length c1,.slice A2 a.atoms.length c2]:=blks;(go_wp2_with fail);refine (c_impl_Consistent _ a _ (hV.o.V.bz bel) (by simp;omega)).mono ?_;rintro e w1 ⟨rfl,hB1⟩;rw[show (a.valid && !(cases a (caseS a 0)).isEmpty)=consB a from rfl];have hB:=bgo (w:=w) bel hB1;replace k0:=k0.nz hB1;clear hB1;have hz1:=hB.size;cases hc:consB a
 ·have E:=ax (expose_no (n:=n) (t:=t) (K:=K) HV.o hc);clear hc;(go_wp2_with fail);go_ret2;exact ⟨_,_,by rw[E.o];rfl,by rw[E.o];exact A2O.nil _ _,hB⟩
 have HC:=ax hc;clear hc;(replace qk0:=k0.z);(go_wp2_with fail);refine (c_impl_firstAtomAt _ a 1 t _ (hV.o.V.bz bel) (by omega)).mono ?_;rintro e w2 ⟨rfl,hB2⟩;(replace hB:=bgo hB hB2;replace k0:=k0.nz hB2;replace qk0:=k0.z);clear hB2;have hz2:=hB.size;cases hf:findK a 1 t
 case some i=>
  obtain ⟨x,hx,-,-,hil⟩:=find_some hf;have E:=ax (expose_cell (n:=n) (K:=K) HV.o HC.o hf hx);have EI:findI a 1 t=(i:Int):=by unfold findI;rw[hf]
  rw[EI];have hxe:a.atoms[i]=x:=by rw[List.getElem?_eq_getElem hil] at hx;exact Option.some.inj hx
  clear hf hx EI;(go_wp2_with fail);refine (c_impl_exposeCellAt _ a i t _ (hV.o.bz bel) hil (by omega)).mono ?_;rw[hxe];rintro e w3 ⟨r,rfl,oC,hB3⟩;(replace hB:=bgo hB hB3;replace k0:=k0.nz hB3);clear hB3 hxe;have OC:=ax oC;obtain ⟨F3,f3,G3,g3,rfl,-⟩:=oC.C;have hz3:=hB.size;clear qk0;cases hcv:(cellX a x i t).valid
  ·have E2:aJ (exposeF (n+1) a t K=none):=ax (by rw[E.o,hcv];rfl);clear hcv;(go_wp2_with fail);go_ret2;exact ⟨_,_,by rw[E2.o];rfl,by rw[E2.o];exact A2O.nil _ _,bel⟩
  ·have E2:aJ (exposeF (n+1) a t K=some [cellX a x i t]):=ax (by rw[E.o,hcv];rfl);clear hcv;(go_wp2_with fail);go_ret2;refine ⟨.slice (some ⟨w3.heap.size+1,0,none⟩) 1 1,[.slice F3 (cellX a x i t).facts.length f3,.slice G3 (cellX a x i t).atoms.length g3],by rw[E2.o];rfl,?_,bel⟩;rw[E2.o];refine A2O.one (Blk.newE ?_) ?_ (AsnO.bz (AsnO.lower OC.o (by omega)) bel)
   ·simp
   ·omega
 have HF1:=ax hf;have EI:findI a 1 t=0:=by unfold findI;rw[hf]
 rw[EI];clear hf EI;(go_wp2_with fail);refine (c_impl_firstAtomAt _ a 2 t _ (hV.o.V.bz bel) (by omega)).mono ?_;rintro e w3 ⟨rfl,hB3⟩;(replace hB:=bgo hB hB3;replace k0:=k0.nz hB3;replace qk0:=k0.z);clear hB3;have hz3:=hB.size;cases hg:findK a 2 t
 case none=>
  have E:=ax (expose_none (n:=n) (K:=K) HV.o HC.o HF1.o hg);clear hg;(go_wp2_with fail);go_ret2;exact ⟨_,_,by rw[E.o];rfl,by rw[E.o];exact A2O.nil _ _,hB⟩
 case some i=>
  obtain ⟨x,hx,hk2,himp,hil⟩:=find_some hg;have E:=ax (expose_list (n:=n) (K:=K) HV.o HC.o HF1.o hg hx);have EI:findI a 2 t=(i:Int):=by unfold findI;rw[hg]
  rw[EI];have HX:=ax (HLL.o i x HF1.o hg hx hk2 himp);clear hg hx EI hk2 himp;(go_wp2_with fail);refine (HX.o lo hi _ _ (hV.o.bz bel) (by omega)).mono ?_;rintro e w4 ⟨r,vs,rfl,oR,hB4⟩;have OR:=ax oR;obtain ⟨R1,r1,rfl⟩:=oR.form;clear oR;(replace hB:=bgo hB hB4);(go_wp2_with fail);go_ret2;refine ⟨_,vs,by rw[E.o];rfl,?_,bel⟩;rw[E.o];exact OR.o.lower (by omega)
end
end Go.Proofs.YtgdfdmjnadnlnaaGreat
