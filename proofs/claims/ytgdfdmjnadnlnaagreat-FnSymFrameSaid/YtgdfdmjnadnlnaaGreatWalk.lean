/- Contracts: ways through the heap. -/
import Derived.Test.YtgdfdmjnadnlnaaGreatMTlist
set_option linter.unusedSimpArgs false
set_option linter.unusedVariables false
set_option maxRecDepth 100000
set_option maxHeartbeats 25600000
namespace Go.Proofs.YtgdfdmjnadnlnaaGreat
section
open Go Go.RowKit Go.Proofs
theorem c_impl_cellHas (S:Nat) (n:Int) (w:World) (hS:S<65536):Calls Tryz.prog 255 #[.int .u16 S,.int .i64 n] w fun e w'=>e=.returned (.bool (addrB n&&S.testBit n.toNat))∧w=w':=by
 cases ha:addrB n
 ·(go_enter Tryz.func255,Tryz.ntmps255);(go_wp2_with (go_at_call 222;refine (c_impl_isAddr _ _).mono ?_;rintro e w' ⟨rfl,rfl⟩));go_ret;exact ⟨rfl,rfl⟩
 ·have ha2:=ha;simp only[addrB,decide_eq_true_eq] at ha2;obtain ⟨m,rfl⟩:=Int.eq_ofNat_of_zero_le (show 0≤n by omega);obtain ⟨x1,x2⟩:=ha2;(go_enter Tryz.func255,Tryz.ntmps255);(go_wp2_with (go_at_call 222;refine (c_impl_isAddr _ _).mono ?_;rintro e w' ⟨rfl,rfl⟩));go_ret;exact ⟨ret_bool (by simp[bit_has _ _ hS]),rfl⟩
theorem used_succ (h:List Int) (k:Nat):((List.range' 1 (k+1)).filter fun n=>allocB h (n:Nat)).map (fun n:Nat=>(n:Int))=((List.range' 1 k).filter fun n=>allocB h (n:Nat)).map (fun n:Nat=>(n:Int))++if allocB h ((k:Int)+1) then [(k:Int)+1] else []:=by
 rw[List.range'_1_concat,List.filter_append,List.map_append,Nat.add_comm 1 k];have e:((k+1:Nat):Int)=(k:Int)+1:=by omega
 cases h':allocB h ((k:Int)+1)<;>simp[h']
def usedL (h:List Int) (k:Nat):List Int:=((List.range' 1 k).filter fun n=>allocB h (n:Nat)).map (fun n:Nat=>(n:Int))
theorem usedL_mem (h:List Int) (k:Nat) (x:Int):x∈usedL h k↔1≤x∧x≤k∧allocB h x=true:=by
 unfold usedL;simp only[List.mem_map,List.mem_filter,List.mem_range'_1];constructor
 ·rintro ⟨n,⟨h1,h2⟩,rfl⟩;exact ⟨by omega,by omega,h2⟩
 ·rintro ⟨h1,h2,h3⟩;obtain ⟨n,rfl⟩:=Int.eq_ofNat_of_zero_le (show 0≤x by omega);exact ⟨n,⟨by omega,h3⟩,rfl⟩
theorem usedL_lt (h:List Int) {k:Nat} (hk:k≤8):bitsOf (usedL h k)<512:=by
 have:=bitsOf_lt (l:=usedL h k) (k:=9) (fun x hx=>by have:=(usedL_mem h k x).1 hx;omega);simpa using this
theorem c_impl_usedIn {lo hi:Nat} (v:Value) (s:Ste) (w:World) (h:StateV w lo hi v s) (h8:s.heap.length=8):Calls Tryz.prog 224 #[v] w fun e w'=>e=.returned (.int .u16 (bitsOf (usedL s.heap 8)))∧Below w.heap.size w w':=by
 have hV:=ax h;obtain ⟨A1,c1,A2,c2,rfl,h1,h2⟩:=h;have H8:=ax h8;clear h8;(go_enter Tryz.func224,Tryz.ntmps224);go_wp2
 go_loopw [3,4] (fun S i wr=>∃ (k:Nat),k≤8∧i=.int .i64 (k+1)∧S=.int .u16 (bitsOf (usedL s.heap k))∧Blk wr w.heap.size 79 #[.slice A1 s.values.length c1,.slice A2 s.heap.length c2]∧Below w.heap.size w wr) (fun _ i _=>9 - (intOf i).toNat)
 case atStart=>exact ⟨0,by omega,rfl,rfl,blks,bel⟩
 case round=>
  obtain ⟨k,hk,rfl,rfl,hK,hB⟩:=hrel;have q:=hK.cell;by_cases hn:k<8
  ·have HU:=ax (used_succ s.heap k);cases hs:allocB s.heap ((k:Int)+1)
   ·(go_wp2_with fail);refine (c_impl_allocated _ s _ _ (hV.o.bz hB) H8.o).mono ?_;rintro e w1 ⟨rfl,hB1⟩;(go_wp2_with fail)
    go_round
    case rel=>exact ⟨k+1,by omega,by go_num,by rw[show usedL s.heap (k+1)=usedL s.heap k by (show _=_);unfold usedL;rw[HU.o,hs];simp],hK.nz hB1,bgo hB hB1⟩
    case measure=>simp[intOf];omega
   ·(go_wp2_with fail);refine (c_impl_allocated _ s _ _ (hV.o.bz hB) H8.o).mono ?_;rintro e w1 ⟨rfl,hB1⟩;(go_wp2_with fail)
    go_round
    case rel=>
     have e:usedL s.heap (k+1)=usedL s.heap k++[(k:Int)+1]:=by unfold usedL;rw[HU.o,hs];simp
     have hlt:=usedL_lt s.heap (k:=k) (by omega);refine ⟨k+1,by omega,by go_num,?_,hK.nz hB1,bgo hB hB1⟩;rw[e,bitsOf_snoc]
     congr 1
     rw[show ((k:Int)+1).toNat=k+1 from by omega];exact bit_or _ _ (by omega) (by omega)
    case measure=>simp[intOf];omega
  ·obtain rfl:k=8:=by omega
   go_wp2;go_ret;exact ⟨rfl,hB⟩
theorem valid_terms {fs:List Fct} (h:fs.all Fct.valid=true) {k:Nat} (hk:k<fs.length):0≤fs[k].a∧fs[k].a≤8∧0≤fs[k].b∧fs[k].b≤8:=by
 have:=List.all_eq_true.1 h fs[k] (List.getElem_mem hk);simp[Fct.valid,isTermB] at this;omega
theorem holds_no {vs:List Int} {f:Fct} (h:(!(tval vs f.a == tval vs f.b) == f.eq)=true):Fct.holds vs f=false:=by
 unfold Fct.holds;cases he:f.eq<;>by_cases hd:tval vs f.a=tval vs f.b<;>simp_all
theorem holds_yes {vs:List Int} {f:Fct} (h:(!(tval vs f.a == tval vs f.b) == f.eq)=false):Fct.holds vs f=true:=by
 unfold Fct.holds;cases he:f.eq<;>by_cases hd:tval vs f.a=tval vs f.b<;>simp_all
theorem c_impl_FactsHold {lo hi lo' hi':Nat} (A A':Option Addr) (c c':Nat) (fs:List Fct) (vs:List Int) (w:World) (h:FactsV w lo hi A fs) (h':IntsV w lo' hi' A' vs):Calls Tryz.prog 253 #[.slice A fs.length c,.slice A' vs.length c'] w fun e w'=>e=.returned (.bool (factsHold fs vs))∧Below w.heap.size w w':=by
 have hl:=h.le;have hl':=h'.le;cases hv:factsValid fs
 ·(go_enter Tryz.func253,Tryz.ntmps253);(go_wp2_with (go_at_call 114;refine (c_impl_FactsValid A c fs _ h).mono ?_;rintro e w1 ⟨rfl,hB1⟩));go_ret;exact ⟨ret_bool (by simp[factsHold,hv]),hB1⟩
 ·by_cases h8:vs.length=8
  ·have hall:fs.all Fct.valid=true:=by simp only[factsValid,Bool.and_eq_true] at hv;exact hv.2
   have HALL:=ax hall;have HF:aJ (factsHold fs vs=fs.all (Fct.holds vs)):=by simp[aJ,factsHold,hv,h8]
   have h8':((vs.length:Int) != 8)=false:=by simp[h8]
   have H8:=ax h8;clear hall h8;(go_enter Tryz.func253,Tryz.ntmps253);(go_wp2_with (go_at_call 114;refine (c_impl_FactsValid A c fs _ h).mono ?_;rintro e w1 ⟨rfl,hB1⟩));clear h8'
   go_loopw [17] (fun i wr=>∃ k:Nat,k≤fs.length∧i=.int .i64 k∧aJ (fs.all (Fct.holds vs)=(fs.drop k).all (Fct.holds vs))∧Below w.heap.size w wr) (fun i _=>fs.length - (intOf i).toNat)
   case atStart=>exact ⟨0,Nat.zero_le _,rfl,by simp[aJ],hB1⟩
   case round=>
    clear hB1;obtain ⟨k,hk,rfl,HA,hB⟩:=hrel;by_cases hlt:k<fs.length
    ·obtain ⟨b,off,rfl,c0,c1,c2⟩:=(h.bz hB).at hlt;have HD:=ax (all_drop (Fct.holds vs) fs k hlt);obtain ⟨g1,g2,g3,g4⟩:=valid_terms HALL.o hlt;have h8'':(vs.length:Int)≤8∧8≤(vs.length:Int):=by have:=H8.o;omega
     cases hh:(!(tval vs fs[k].a == tval vs fs[k].b) == fs[k].eq)
     all_goals
      have HH:=ax hh;(go_wp2_with fail);(go_quiet ((go_at_call 174;exact Calls.quiet_of_same ((c_impl_termValue A' c' vs _ _ ((h'.bz (bbox hB _)).dr _) (by omega) (by omega)).mono fun _ _ ⟨a,b⟩=>⟨a,b.symm⟩))));(go_wp2_with fail)
     ·go_round
      case rel=>
       refine ⟨k+1,by omega,by go_num,?_,below_drewN (bbox hB _) _⟩;show _=_;rw[HA.o,HD.o,holds_yes HH.o];rfl
      case measure=>simp[intOf];omega
     ·go_ret;refine ⟨ret_bool ?_,below_drewN (bbox hB _) _⟩;rw[HF.o,HA.o,HD.o,holds_no HH.o];rfl
    ·obtain rfl:k=fs.length:=by omega
     go_wp2;go_ret;exact ⟨ret_bool (by rw[HF.o,HA.o,List.drop_length];rfl),hB⟩
  ·have h8':((vs.length:Int) != 8)=true:=by simp;omega
   have HF:aJ (factsHold fs vs=false):=by simp[aJ,factsHold,h8]
   clear h8;(go_enter Tryz.func253,Tryz.ntmps253);(go_wp2_with (go_at_call 114;refine (c_impl_FactsValid A c fs _ h).mono ?_;rintro e w1 ⟨rfl,hB1⟩));go_ret;exact ⟨ret_bool HF.o.symm,hB1⟩
theorem c_impl_WalkCells {lo hi:Nat} (v:Value) (s:Ste) (a tz0:Int) (w:World) (h:StateV w lo hi v s) (hs:s.valid=true) (ha:valB a=true) (hto:valB tz0=true) :
  Calls Tryz.prog 270 #[v,.int .i64 a,.int .i64 tz0] w fun e w'=>∃ r,e=.returned (.tuple #[r,.bool (walkF s.heap 8 a tz0).isSome])∧IntsO w' w.heap.size r ((walkF s.heap 8 a tz0).getD [])∧Below w.heap.size w w':=by
 have hV:=ax h;obtain ⟨A1,c1,A2,c2,rfl,h1,h2⟩:=h;have H8:=ax (Ste.valid_len hs).2;(go_enter Tryz.func270,Tryz.ntmps270);(go_wp2_with fail);refine (c_impl_StateValid _ s _ (hV.o.bz bel)).mono ?_;rintro e w1 ⟨rfl,hB1⟩;have hB:=bgo (w:=w) bel hB1;have hK:=Blk.nz (g:=w.heap.size) blks hB1;have q:=hK.cell;(go_wp2_with (go_at_call 175;refine (c_impl_isValue _ _).mono ?_;rintro e w' ⟨rfl,rfl⟩));clear q hs
 go_loopw [8,9] (fun o i wr=>∃ (n:Nat) (x:Int) (way:List Int) (A:Option Addr) (c:Nat),i=.int .i64 x∧o=.slice A way.length c∧way.length+n=8∧IntsO wr (w.heap.size+1) (.slice A way.length c) way∧
   aJ (walkF s.heap 8 a tz0=(walkF s.heap n x tz0).map (way ++ ·))∧Blk wr w.heap.size 79 #[.slice A1 s.values.length c1,.slice A2 s.heap.length c2]∧Below w.heap.size w wr) (fun o _ _=>8 - (match o with | .slice _ n _=>n|_=>0))
 case atStart=>exact ⟨8,a,[],none,0,rfl,rfl,rfl,IntsO.nil _ _,by simp[aJ],hK,hB⟩
 case round=>
  clear hB hK;obtain ⟨n,x,way,A,c,rfl,rfl,hn,hO,HA,hK,hB⟩:=hrel;have HN:=ax hn;have hn8:way.length≤8:=by omega
  clear hn;have q:=hK.cell;by_cases hx:x=tz0
  ·subst hx;have hne:(x != x)=false:=by simp
   go_wp2;go_ret2;exact ⟨_,by rw[HA.o,walkF_here];rfl,by rw[HA.o,walkF_here];simpa using hO.lower (Nat.le_succ _),hB⟩
  ·have hne:(x != tz0)=true:=by simpa using hx
   have HX:=ax hx;clear hx;cases hs:allocB s.heap x
   ·(go_wp2_with fail);refine (c_impl_allocated _ s x _ (hV.o.bz hB) H8.o).mono ?_;rintro e w1 ⟨rfl,hB1⟩;(go_wp2_with fail);go_ret2;have hB2:=bgo hB hB1;refine ⟨_,by rw[HA.o,walkF_stop _ _ HX.o (.inl hs)];rfl,?_,hB2⟩;rw[HA.o,walkF_stop _ _ HX.o (.inl hs)];exact IntsO.nil _ _
   ·cases n with
    | zero=>
     have hge:((way.length:Int) == 8)=true:=by have:=HN.o;simp;omega
     (go_wp2_with fail);refine (c_impl_allocated _ s x _ (hV.o.bz hB) H8.o).mono ?_;rintro e w1 ⟨rfl,hB1⟩;have hB2:=bgo hB hB1;(go_wp2_with fail);go_ret2;refine ⟨_,by rw[HA.o,walkF_stop _ _ HX.o (.inr rfl)];rfl,?_,hB2⟩;rw[HA.o,walkF_stop _ _ HX.o (.inr rfl)];exact IntsO.nil _ _
    | succ n=>
     have hge:((way.length:Int) == 8)=false:=by have:=HN.o;simp;omega
     have hge2:way.length<8:=by have:=HN.o;omega
     (go_wp2_with fail);refine (c_impl_allocated _ s _ _ (hV.o.bz hB) H8.o).mono ?_;rintro e w1 ⟨rfl,hB1⟩;have hB2:=bgo hB hB1;have hK1:=hK.nz hB1;have hO1:=hO.bz hB1;clear q;have q:=hK1.cell
     go_wp2_with (first
      | (at_builtin;refine appI rfl _ _ rfl (v:=.slice A way.length c) rfl (hO1.abv (Abv.alloc (Abv.refl 0 _) _) (Nat.zero_le _)) w1.heap.size _ rfl (cell_box w1 _ _) (by omega) (by simp;have:=hB2.size;have:=hK1.lt;omega) ?_;intro g' c' w2 hO2 hg2 hB3;have hK2:=(hK1.alloc _).bz hB3 (Nat.lt_succ_self _);have q2:=hK2.cell;have hB4:=Below.trans (bbox hB2 _) (hB3.mono (Nat.le_succ _)))
      | (go_at_call 178;refine (c_impl_content _ s _ _ (hV.o.bz hB4) H8.o).mono ?_;rintro e w3 ⟨rfl,hB5⟩))
     go_round
     case rel=>
      refine ⟨n,cont s.heap x,way++[x],some ⟨g',0,none⟩,c',rfl,by simp,by have:=HN.o;simp;omega,by simpa using hO2.bz hB5,?_,hK2.nz hB5,bgo hB4 hB5⟩;show _=_;rw[HA.o,walkF_on _ _ HX.o hs];simp[Option.map_map,Function.comp_def]
     case measure=>simp;omega
theorem c_impl_AtomCells {lo hi:Nat} (v:Value) (s:Ste) (x:Atm) (w:World) (h:StateV w lo hi v s) (hs:s.valid=true) (hx:x.valid=true) :
  Calls Tryz.prog 254 #[v,x.val] w fun e w'=>∃ r,e=.returned (.tuple #[r,.bool (atomCells s x).isSome])∧IntsO w' w.heap.size r ((atomCells s x).getD [])∧Below w.heap.size w w':=by
 have hV:=ax h;obtain ⟨A1,c1,A2,c2,rfl,h1,h2⟩:=h;have HS:=ax hs;have HX:=ax hx;have H8:=ax (Ste.valid_len hs);have hvals:s.values.all valB=true:=by simp only[Ste.valid,Bool.and_eq_true] at hs;exact hs.2.1
 have hb1:=tval_le hvals x.a;have hb2:=tval_le hvals x.b
 have ha:0≤x.a∧x.a≤8∧0≤x.b∧x.b≤8∧(x.kind=1∨x.kind=2):=by
  have hx':=hx;simp[Atm.valid,isTermB] at hx';omega
 have hk:=ax ha.2.2.2.2;obtain ⟨p1,p2,p3,p4,-⟩:=ha;clear hvals;have HE:aJ (atomCells s x=if x.kind=2 then walkF s.heap 8 (tval s.values x.a) (tval s.values x.b) else if cont s.heap (tval s.values x.a)=tval s.values x.b then some [tval s.values x.a] else none):=rfl;(go_enter Tryz.func254,Tryz.ntmps254);(go_wp2_with fail);refine (c_impl_StateValid _ s _ (hV.o.bz bel)).mono ?_;rintro e w1 ⟨rfl,hB1⟩;have hB:=bgo (w:=w) bel hB1;have hK:=Blk.nz (g:=w.heap.size) blks hB1;have hK2:=Blk.nz (g:=w.heap.size+1) (by rw[←World.size_alloc];exact Blk.new (w.alloc _) _ _) hB1;have q:=hK.cell;have q2:=hK2.cell;(go_wp2_with fail);refine (c_impl_atomValid x _).mono ?_;rintro e w2 ⟨rfl,hB2⟩;have hBw2:=bgo hB hB2;have hL:=hK.nz hB2;have hL2:=hK2.nz hB2;clear q q2 hK hK2;have q:=hL.cell;have q2:=hL2.cell;have l8:(s.values.length:Int)≤8∧8≤(s.values.length:Int):=by have:=H8.o;omega
 (go_wp2_with fail);clear hs hx;(go_quiet ((go_at_call 174;exact Calls.quiet_of_same ((c_impl_termValue A1 c1 s.values _ _ ((h1.bz hBw2).dr _) (by omega) (by omega)).mono fun _ _ ⟨a,b⟩=>⟨a,b.symm⟩))));have hBd:=below_drewN hBw2 nq;have hD:=hL.drewN nq;have hD2:=hL2.drewN nq;clear q q2 hL hL2;have q:=hD.cell;have q2:=hD2.cell;generalize w2.drewN nq=w3 at *;by_cases hk2:x.kind=2
 ·have t:(x.kind == 2)=true:=by simpa using hk2
  have HK2:=ax hk2;clear hk2;(go_wp2_with fail);refine (c_impl_WalkCells _ s _ _ _ (hV.o.bz hBd) HS.o (by simp[valB];omega) (by simp[valB];omega)).mono ?_;rintro e w4 ⟨r,rfl,hO,hB4⟩;(go_wp2_with fail);go_ret2;have e:atomCells s x=walkF s.heap 8 (tval s.values x.a) (tval s.values x.b):=by rw[HE.o,if_pos HK2.o]
  exact ⟨_,by rw[e];rfl,by rw[e];exact hO.lower hBd.size,bgo hBd hB4⟩
 ·have t:(x.kind == 2)=false:=by simpa using hk2
  have HK2:=ax hk2;clear hk2;by_cases hc:cont s.heap (tval s.values x.a)=tval s.values x.b
  ·have t2:(cont s.heap (tval s.values x.a) != tval s.values x.b)=false:=by simpa using hc
   have HC:=ax hc;clear hc;(go_wp2_with (go_at_call 178;refine (c_impl_content _ s _ _ (hV.o.bz hBd) H8.o.2).mono ?_;rintro e w4 ⟨rfl,hB4⟩));go_ret2;have e:atomCells s x=some [tval s.values x.a]:=by rw[HE.o,if_neg HK2.o,if_pos HC.o]
   refine ⟨_,by rw[e];rfl,?_,bbox (bgo hBd hB4) _⟩;rw[e];exact IntsO.one _ _ (Nat.le_trans hBd.size hB4.size)
  ·have t2:(cont s.heap (tval s.values x.a) != tval s.values x.b)=true:=by simpa using hc
   have HC:=ax hc;clear hc;(go_wp2_with (go_at_call 178;refine (c_impl_content _ s _ _ (hV.o.bz hBd) H8.o.2).mono ?_;rintro e w4 ⟨rfl,hB4⟩));go_ret2;have e:atomCells s x=none:=by rw[HE.o,if_neg HK2.o,if_neg HC.o]
   exact ⟨_,by rw[e];rfl,by rw[e];exact IntsO.nil _ _,bgo hBd hB4⟩
end
end Go.Proofs.YtgdfdmjnadnlnaaGreat
