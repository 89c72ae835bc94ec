/- Contracts: impl's matching of filled atoms. -/
import Derived.Test.YtjaohekkmlkinaaGreatMbCasesOf
import Derived.Deep.LoopGhost
set_option linter.unusedSimpArgs false
set_option linter.unusedVariables false
set_option maxRecDepth 100000
set_option maxHeartbeats 25600000
namespace Go.Proofs.YtjaohekkmlkinaaGreat
section
open Go Go.RowKit Go.Proofs
attribute [local go_sem ↓] Go.wp_at_zero Go.wp_at_succ
theorem fits_drop (c:List Int) (fs:List Fct) (k:Nat) (hk:k<fs.length):(fs.drop k).all (Fct.fits c)=(fs[k].fits c&&(fs.drop (k+1)).all (Fct.fits c)):=by
 rw[List.drop_eq_getElem_cons hk];rfl
theorem c_impl_factsHold {lo hi:Nat} (A:Option Addr) (d:Nat) (fs:List Fct) (c:List Int) (g:Nat) (w:World) (h:FactsV w lo hi A fs) (hk:Blk w g tTc (encI c).toArray) (hc:c.length=9) (hf:FactsOk fs) :
  Calls Tryz.prog 203 #[.pointer (some ⟨g,0,none⟩),.slice A fs.length d] w fun e w'=>e=.returned (.bool (fs.all (Fct.fits c)))∧Below w.heap.size w w':=by
 have hl:=h.le;have hgl:=hk.lt;have HF:=ax hf;have H:=ax h;clear hf h;(go_enter Tryz.func203,Tryz.ntmps203);(go_wp2_with fail)
 go_loopw [9] (fun i wr=>∃ k:Nat,k≤fs.length∧i=.int .i64 k∧aJ (fs.all (Fct.fits c)=(fs.drop k).all (Fct.fits c))∧Below w.heap.size w wr) (fun i _=>fs.length - (intOf i).toNat)
 case atStart=>exact ⟨0,Nat.zero_le _,rfl,rfl,bel⟩
 case round=>
  obtain ⟨k,hkk,rfl,HA,hB⟩:=hrel;by_cases hlt:k<fs.length
  ·obtain ⟨b,off,rfl,hbl⟩:=H.o.blt hlt;obtain ⟨g0,g1,g2⟩:=(H.o.bz hB).cl hlt;have HD:=ax (fits_drop c fs k hlt);have hfk:=HF.o _ (List.getElem_mem hlt);obtain ⟨f,hfe⟩:∃ f,f=fs[k]:=⟨_,rfl⟩;rw[←hfe] at g0 g1 g2 HD hfk;clear hfe;have kg:Blk wr g tTc (encI c).toArray:=hk.bz hB hgl;have hgr:=kg.lt;(go_wp2_with fail);refine (c_impl_factHolds f c g _ (kg.alloc _) hc hfk.1 hfk.2).mono ?_;rintro e w1 ⟨rfl,hB1⟩;have hBx:Below w.heap.size w w1:=bgo (w:=w) bel hB1;cases hff:f.fits c
   ·have HZ:=ax (show fs.all (Fct.fits c)=false by rw[HA.o,HD.o,hff];rfl);clear hff hB1;(go_wp2_with fail);go_ret;exact ⟨zjD (by rw[HZ.o]),hBx⟩
   ·have HZ:=ax (show (fs.drop k).all (Fct.fits c)=(fs.drop (k+1)).all (Fct.fits c) by rw[HD.o,hff];rfl);clear hff hB1;(go_wp2_with fail)
    go_round
    case rel=>exact ⟨k+1,by omega,by go_num,by show _=_;rw[HA.o,HZ.o],hBx⟩
    case measure=>simp[intOf];omega
  ·obtain rfl:k=fs.length:=by omega
   have HZ:aJ (fs.all (Fct.fits c)=true):=by show _=_;rw[HA.o,List.drop_length];rfl
   (go_wp2_with fail);go_ret;exact ⟨zjD (by rw[HZ.o]),hB⟩
theorem any_drop (p:Atm→Bool) (xs:List Atm) (k:Nat) (hk:k<xs.length):(xs.drop k).any p=(p xs[k] || (xs.drop (k+1)).any p):=by
 rw[List.drop_eq_getElem_cons hk];rfl
def begB (xs:List Atm) (b:Int):Bool:=xs.any fun x=>decide (x.a=b)
theorem c_impl_beginsAt {lo hi:Nat} (A:Option Addr) (d:Nat) (xs:List Atm) (b:Int) (w:World) (h:AtomsV w lo hi A xs) :
  Calls Tryz.prog 253 #[.slice A xs.length d,.int .i64 b] w fun e w'=>e=.returned (.bool (begB xs b))∧Below w.heap.size w w':=by
 have hl:=h.le;have H:=ax h;clear h;(go_enter Tryz.func253,Tryz.ntmps253);(go_wp2_with fail)
 go_loopw [9] (fun i wr=>∃ k:Nat,k≤xs.length∧i=.int .i64 k∧aJ (begB xs b=begB (xs.drop k) b)∧Below w.heap.size w wr) (fun i _=>xs.length - (intOf i).toNat)
 case atStart=>exact ⟨0,Nat.zero_le _,rfl,rfl,bel⟩
 case round=>
  obtain ⟨k,hkk,rfl,HA,hB⟩:=hrel;by_cases hlt:k<xs.length
  ·obtain ⟨bb,off,rfl,hbl⟩:=H.o.blt hlt;obtain ⟨g0,g1,g2⟩:=(H.o.bz hB).cl hlt;have HD:=ax (any_drop (fun x=>decide (x.a=b)) xs k hlt);obtain ⟨x,hxe⟩:∃ x,x=xs[k]:=⟨_,rfl⟩;rw[←hxe] at g0 g1 g2 HD;clear hxe;by_cases he:x.a=b
   ·have HZ:aJ (begB xs b=true):=by show _=_;rw[HA.o];unfold begB;rw[HD.o,decide_eq_true he];rfl
    have he':(x.a == b)=true:=by simpa using he
    clear he;(go_wp2_with fail);go_ret;exact ⟨zjD (by rw[HZ.o]),bel⟩
   ·have HZ:aJ (begB xs b=begB (xs.drop (k+1)) b):=by show _=_;rw[HA.o];unfold begB;rw[HD.o,decide_eq_false he];rfl
    have he':(x.a == b)=false:=by simpa using he
    clear he;(go_wp2_with fail)
    go_round
    case rel=>exact ⟨k+1,by omega,by go_num,HZ,bel⟩
    case measure=>simp[intOf];omega
  ·obtain rfl:k=xs.length:=by omega
   have HZ:aJ (begB xs b=false):=by show _=_;rw[HA.o,List.drop_length];rfl
   (go_wp2_with fail);go_ret;exact ⟨zjD (by rw[HZ.o]),hB⟩
abbrev tMt:Nat:=239
def ub (used:List Bool) (k:Nat):Bool:=(used[k]?).getD false
abbrev cmC (V:Value) (used:List Bool) (cnt:Nat):Array Value:=#[V,.bool (ub used 0),.bool (ub used 1),.bool (ub used 2),.bool (ub used 3),.bool (ub used 4),.bool (ub used 5),.int .i64 (cnt:Int)]
theorem cm_used {w:World} {g cnt:Nat} {t:TypeId} {V:Value} {used:List Bool} (h:Blk w g t (cmC V used cnt)) {k:Nat} (hk:k<6):w.cell? ⟨g,1+k,none⟩=some (.bool (ub used k)):=by
 rw[h.cell];obtain rfl|rfl|rfl|rfl|rfl|rfl:k=0∨k=1∨k=2∨k=3∨k=4∨k=5:=by omega
 all_goals rfl
theorem freeAt_of {xs:List Atm} {used:List Bool} {c:Int} {k:Nat} (hk:k<xs.length) (hu:used.length=xs.length):freeAt xs used c k=(decide (xs[k].a=c) && !ub used k):=by
 unfold freeAt ub;rw[List.getElem?_eq_getElem hk,List.getElem?_eq_getElem (by omega)];rfl
theorem c_impl_unusedAt {lo hi:Nat} (A:Option Addr) (d cnt:Nat) (xs:List Atm) (used:List Bool) (b:Int) (g:Nat) (w:World) (h:AtomsV w lo hi A xs) (hk:Blk w g tMt (cmC (.slice A xs.length d) used cnt)) (hl6:xs.length≤6) (hu:used.length=xs.length) :
  Calls Tryz.prog 251 #[.pointer (some ⟨g,0,none⟩),.int .i64 b] w fun e w'=>e=.returned (.tuple #[.int .i64 ((findU xs used b).getD 0:Nat),.bool (findU xs used b).isSome])∧Below w.heap.size w w':=by
 have hgl:=hk.lt;have H:=ax h;have HU:=ax hu;have q0:=hk.cell 0;have HK:=ax hk;clear h hu hk;(go_enter Tryz.func251,Tryz.ntmps251);(go_wp2_with fail)
 go_loopw [13] (fun i wr=>∃ k:Nat,k≤xs.length∧i=.int .i64 k∧aJ (∀ j,j<k→freeAt xs used b j=false)∧Below w.heap.size w wr) (fun i _=>xs.length - (intOf i).toNat)
 case atStart=>exact ⟨0,Nat.zero_le _,rfl,fun j hj=>absurd hj (Nat.not_lt_zero _),bel⟩
 case round=>
  clear q0;obtain ⟨k,hkk,rfl,HA,hB⟩:=hrel;have kg:Blk wr g tMt (cmC (.slice A xs.length d) used cnt):=HK.o.bz hB hgl;by_cases hlt:k<xs.length
  ·obtain ⟨bb,off,rfl,hbl⟩:=H.o.blt hlt;obtain ⟨g0,g1,g2⟩:=(H.o.bz hB).cl hlt;have HD:=ax (freeAt_of (c:=b) hlt HU.o);have qu:=cm_used kg (k:=k) (by omega);have hgr:=kg.lt;have hk6:(k:Int)<6:=by omega
   obtain ⟨x,hxe⟩:∃ x,x=xs[k]:=⟨_,rfl⟩;rw[←hxe] at g0 g1 g2 HD;clear hxe;clear kg;cases hff:freeAt xs used b k
   ·have HZ:aJ (∀ j,j<k+1→freeAt xs used b j=false):=fun j hj=>by
     by_cases e:j=k
     ·rw[e];exact hff
     ·exact HA.o j (by omega)
    rw[HD.o] at hff;by_cases he:x.a=b
    ·have he':(x.a == b)=true:=by simpa using he
     have hub:ub used k=true:=by rw[decide_eq_true he] at hff;simpa using hff
     rw[hub] at qu;clear he hff hub;(go_wp2_with fail)
     go_round
     case rel=>exact ⟨k+1,by omega,by go_num,HZ,bel⟩
     case measure=>simp[intOf];omega
    ·have he':(x.a == b)=false:=by simpa using he
     clear he hff;(go_wp2_with fail)
     go_round
     case rel=>exact ⟨k+1,by omega,by go_num,HZ,bel⟩
     case measure=>simp[intOf];omega
   ·have HZ:aJ (findU xs used b=some k):=range_find_some hlt hff HA.o;rw[HD.o,Bool.and_eq_true,decide_eq_true_eq] at hff;have he':(x.a == b)=true:=by simpa using hff.1
    have hub:ub used k=false:=by simpa using hff.2
    rw[hub] at qu;clear hff hub;(go_wp2_with fail);go_ret2;exact ⟨by rw[HZ.o];rfl,bel⟩
  ·obtain rfl:k=xs.length:=by omega
   have HZ:aJ (findU xs used b=none):=range_find_none HA.o;(go_wp2_with fail);go_ret2;exact ⟨by rw[HZ.o];rfl,hB⟩
theorem ub_set {used:List Bool} {k:Nat} (hk:k<used.length) (j:Nat):ub (used.set k true) j=if k=j then true else ub used j:=by
 unfold ub;rw[List.getElem?_set];by_cases e:k=j
 ·subst e;simp[hk]
 ·simp[e]
theorem cm_take {V:Value} {used:List Bool} {cnt k:Nat} (hk:k<used.length) (h6:k<6):((cmC V used cnt).setIfInBounds (1+k) (.bool true)).setIfInBounds 7 (.int .i64 ((cnt:Int)+1))=cmC V (used.set k true) (cnt+1):=by
 unfold cmC;simp only[ub_set hk];obtain rfl|rfl|rfl|rfl|rfl|rfl:k=0∨k=1∨k=2∨k=3∨k=4∨k=5:=by omega
 all_goals simp
abbrev cmU (V:Value) (used:List Bool):Array Value:=cmC V used (used.count true)
theorem c_impl_take {V:Value} {used:List Bool} (k g:Nat) (w:World) (hk:Blk w g tMt (cmU V used)) (hku:used[k]? = some false) (h6:used.length≤6) :
  Calls Tryz.prog 252 #[.pointer (some ⟨g,0,none⟩),.int .i64 k] w fun e w'=>(∃ v,e=.returned v)∧Blk w' g tMt (cmU V (used.set k true))∧Mk (fun h=>h=g) w w':=by
 have hgl:=hk.lt;have hkl:k<used.length:=(List.getElem?_eq_some_iff.1 hku).1;have hcnt:=List.count_le_length (a:=true) (l:=used);obtain ⟨cnt,hcn⟩:∃ n,n=used.count true:=⟨_,rfl⟩;have HE:aJ ((used.set k true).count true=cnt+1):=by show _=_;rw[count_take hku,hcn]
 unfold cmU at hk;rw[←hcn] at hk hcnt;have qu:=cm_used hk (k:=k) (by omega);have q7:w.cell? ⟨g,7,none⟩=some (.int .i64 (cnt:Int)):=hk.cell 7;have r:=hk.frozen;have hk6:(k:Int)<6:=by omega
 have HT:=ax (cm_take (V:=V) (cnt:=cnt) hkl (by omega));have HK:=ax hk;have hne:¬(1+k=7):=by omega
 have hne':¬(7=1+k):=by omega
 clear hk hku hcn;(go_enter Tryz.func252,Tryz.ntmps252);(go_wp2_with fail)
 go_end0
 refine ⟨⟨_,rfl⟩,?_,((Mk.refl (fun h=>h=g) _).set (x:=⟨g,1+k,none⟩) rfl _).set (x:=⟨g,7,none⟩) rfl _⟩;show Blk _ _ _ (cmC V (used.set k true) ((used.set k true).count true));rw[HE.o,←HT.o];exact (HK.o.set_ _ _).set_ _ _
def cellF (xs:List Atm) (used:List Bool) (x:Atm):Option (List Bool):=(findU xs used x.a).bind fun k=>if (xs[k]?).getD default=x then some (used.set k true) else none
theorem AtomsV.keepM {w w':World} {lo hi g:Nat} {A:Option Addr} {xs:List Atm} (h:AtomsV w lo hi A xs) (hm:Mk (fun h=>h=g) w w') (hg:hi≤g) (hw:g≤w.heap.size):AtomsV w' lo hi A xs:=h.keepB (hm.bz (lo:=g) (fun k e=>by omega) hw) hg
theorem c_impl_useCell {lo hi:Nat} (A:Option Addr) (d:Nat) (xs:List Atm) (used:List Bool) (x:Atm) (g:Nat) (w:World) (h:AtomsV w lo hi A xs) (hhi:hi≤g) (hk:Blk w g tMt (cmU (.slice A xs.length d) used)) (hl6:xs.length≤6) (hu:used.length=xs.length) :
  Calls Tryz.prog 205 #[.pointer (some ⟨g,0,none⟩),x.val] w fun e w'=>∃ r ys,e=.returned (.tuple #[r,.bool (cellF xs used x).isSome])∧IntsO w' w.heap.size r ys∧Mk (fun h=>h=g) w w'∧(∀ u,cellF xs used x=some u→Blk w' g tMt (cmU (.slice A xs.length d) u)):=by
 have hgl:=hk.lt;have H:=ax h;have HU:=ax hu;have HK:=ax hk;clear h hu hk;(go_enter Tryz.func205,Tryz.ntmps205);(go_wp2_with fail);refine (c_impl_unusedAt A d _ xs used x.a g _ (H.o.bz bel) (HK.o.alloc _) hl6 HU.o).mono ?_;rintro e w1 ⟨rfl,hB1⟩;have hB:Below w.heap.size w w1:=bgo (w:=w) bel hB1;have kg:=HK.o.bz hB hgl;have k0:Blk w1 w.heap.size tA #[.int .i64 x.kind,.int .i64 x.a,.int .i64 x.b]:=Blk.nz blks hB1;have q0:=k0.cell;have l0:=k0.lt;have gl1:=kg.lt;clear hB1;cases hf:findU xs used x.a
 ·have E:aJ (cellF xs used x=none):=by show _=_;unfold cellF;rw[hf];rfl
  clear hf;(go_wp2_with fail);(go_quiet (fail));(go_wp2_with fail);go_ret2;exact ⟨_,[],by rw[E.o];rfl,IntsO.nil _ _,Mk.below_ bel,fun u hu=>by rw[E.o] at hu;cases hu⟩
 ·rename_i k;obtain ⟨hkl,hfr⟩:=findU_some hf;have hfu:=freeAt_used hfr;obtain ⟨b,off,rfl,hbl⟩:=H.o.blt hkl;obtain ⟨g0,g1,g2⟩:=(H.o.bz hB).cl hkl;rw[freeAt_of hkl HU.o,Bool.and_eq_true,decide_eq_true_eq] at hfr;have q1:w1.cell? ⟨g,0,none⟩=some (.slice (some ⟨b,off,none⟩) xs.length d):=kg.cell 0;have E:aJ (cellF xs used x=if xs[k]=x then some (used.set k true) else none):=by show _=_;unfold cellF;rw[hf];simp only[Option.bind_some,List.getElem?_eq_getElem hkl,Option.getD_some]
  obtain ⟨y,hy⟩:∃ y,y=xs[k]:=⟨_,rfl⟩;rw[←hy] at g0 g1 g2 E hfr;have hya:=hfr.1;have hkx:(k:Int)<(xs.length:Int):=by omega
  have HKG:=ax kg;have HFU:=ax hfu;clear hf hy hfr kg hfu;have hq2:∀ i,w1.cell? ⟨w.heap.size,i,none⟩=#[.int .i64 x.kind,.int .i64 x.a,.int .i64 x.b][i]?:=q0;rw[hya] at g1;have e2:(x.a == x.a)=true:=by simp
  by_cases f1:y.kind=x.kind
  ·by_cases f3:y.b=x.b
   ·have E2:aJ (cellF xs used x=some (used.set k true)):=by
     show _=_;rw[E.o,if_pos];cases y;cases x;simp_all
    rw[f1] at g0;rw[f3] at g2;(go_wp2_with fail);(go_quiet (fail));(go_wp2_with fail);have kg:=HKG.o;refine (c_impl_take k g _ (used:=used) (V:=.slice (some ⟨b,off,none⟩) xs.length d) blks HFU.o.2 (by rw[HU.o];exact hl6)).mono ?_;rintro e w3 ⟨⟨v,rfl⟩,k3,hM⟩;have hMM:Mk (fun h=>h=g) w w3:=Mk.trans (Mk.below_ (w:=w) bel) hM;have hz3:=hMM.size;clear kg;(go_wp2_with fail);go_ret2;exact ⟨_,[(k:Int)],by rw[E2.o];rfl,IntsO.one w3 k hz3,hMM.trans (Mk.below_ bel),fun u hu=>by rw[E2.o] at hu;cases hu;exact k3.alloc _⟩
   ·have e3:(y.b == x.b)=false:=by simpa using f3
    have E2:aJ (cellF xs used x=none):=by show _=_;rw[E.o,if_neg (fun e=>f3 (by rw[e]))]
    rw[f1] at g0;(go_wp2_with fail);(go_quiet (fail));(go_wp2_with fail);go_ret2;exact ⟨_,[],by rw[E2.o];rfl,IntsO.nil _ _,Mk.below_ bel,fun u hu=>by rw[E2.o] at hu;cases hu⟩
  ·have e1:(y.kind == x.kind)=false:=by simpa using f1
   have E2:aJ (cellF xs used x=none):=by show _=_;rw[E.o,if_neg (fun e=>f1 (by rw[e]))]
   (go_wp2_with fail);(go_quiet (fail));(go_wp2_with fail);go_ret2;exact ⟨_,[],by rw[E2.o];rfl,IntsO.nil _ _,Mk.below_ bel,fun u hu=>by rw[E2.o] at hu;cases hu⟩
theorem c_spec_l5Begins {lo hi:Nat} (A:Option Addr) (d:Nat) (xs:List Atm) (b:Int) (w:World) (h:AtomsV w lo hi A xs) :
  Calls Tryz.prog 305 #[.slice A xs.length d,.int .i64 b] w fun e w'=>e=.returned (.bool (begB xs b))∧w=w':=by
 have hl:=h.le;have H:=ax h;clear h;(go_enter Tryz.func305,Tryz.ntmps305);(go_wp2_with fail)
 go_loop [5] (fun i=>∃ k:Nat,k≤xs.length∧i=.int .i64 k∧aJ (begB xs b=begB (xs.drop k) b)) (fun i=>xs.length - (intOf i).toNat)
 case atStart=>exact ⟨0,Nat.zero_le _,rfl,rfl⟩
 case round=>
  obtain ⟨k,hkk,rfl,HA⟩:=hrel;by_cases hlt:k<xs.length
  ·obtain ⟨bb,off,rfl,hbl⟩:=H.o.blt hlt;obtain ⟨g0,g1,g2⟩:=H.o.cl hlt;have HD:=ax (any_drop (fun x=>decide (x.a=b)) xs k hlt);obtain ⟨x,hxe⟩:∃ x,x=xs[k]:=⟨_,rfl⟩;rw[←hxe] at g0 g1 g2 HD;clear hxe;by_cases he:x.a=b
   ·have HZ:aJ (begB xs b=true):=by show _=_;rw[HA.o];unfold begB;rw[HD.o,decide_eq_true he];rfl
    have he':(x.a == b)=true:=by simpa using he
    clear he;(go_wp2_with fail);go_ret;exact ⟨zjD (by rw[HZ.o]),rfl⟩
   ·have HZ:aJ (begB xs b=begB (xs.drop (k+1)) b):=by show _=_;rw[HA.o];unfold begB;rw[HD.o,decide_eq_false he];rfl
    have he':(x.a == b)=false:=by simpa using he
    clear he;(go_wp2_with fail)
    go_round
    case rel=>exact ⟨k+1,by omega,by go_num,HZ⟩
    case measure=>simp[intOf];omega
  ·obtain rfl:k=xs.length:=by omega
   have HZ:aJ (begB xs b=false):=by show _=_;rw[HA.o,List.drop_length];rfl
   (go_wp2_with fail);go_ret;exact ⟨zjD (by rw[HZ.o]),rfl⟩
def fndI (o:Option Nat):Int:=match o with|some k=>k|none=>-1
theorem c_spec_l6Find {lo hi lo2 hi2:Nat} (A B:Option Addr) (d e:Nat) (xs:List Atm) (used:List Bool) (b:Int) (w:World) (h:AtomsV w lo hi A xs) (h':BoolsV w lo2 hi2 B used) (hu:used.length=xs.length) :
  Calls Tryz.prog 299 #[.slice A xs.length d,.slice B xs.length e,.int .i64 b] w fun e w'=>e=.returned (.int .i64 (fndI (findU xs used b)))∧w=w':=by
 have hl:=h.le;have H:=ax h;have H':=ax h';have HU:=ax hu;clear h h' hu;(go_enter Tryz.func299,Tryz.ntmps299);(go_wp2_with fail)
 go_loop [7] (fun i=>∃ k:Nat,k≤xs.length∧i=.int .i64 k∧aJ (∀ j,j<k→freeAt xs used b j=false)) (fun i=>xs.length - (intOf i).toNat)
 case atStart=>exact ⟨0,Nat.zero_le _,rfl,fun j hj=>absurd hj (Nat.not_lt_zero _)⟩
 case round=>
  obtain ⟨k,hkk,rfl,HA⟩:=hrel;by_cases hlt:k<xs.length
  ·obtain ⟨bb,off,rfl,hbl⟩:=H.o.blt hlt;obtain ⟨g0,g1,g2⟩:=H.o.cl hlt;obtain ⟨b2,off2,rfl,hbl2⟩:=H'.o.blt (k:=k) (by rw[HU.o];exact hlt);have qu:w.cell? ⟨b2,off2+k,none⟩=some (.bool (ub used k)):=by rw[H'.o.cl (k:=k) (by rw[HU.o];exact hlt)];unfold ub;rw[List.getElem?_eq_getElem];rfl
   have HD:=ax (freeAt_of (c:=b) hlt HU.o);obtain ⟨x,hxe⟩:∃ x,x=xs[k]:=⟨_,rfl⟩;rw[←hxe] at g0 g1 g2 HD;clear hxe;cases hff:freeAt xs used b k
   ·have HZ:aJ (∀ j,j<k+1→freeAt xs used b j=false):=fun j hj=>by
     by_cases e:j=k
     ·rw[e];exact hff
     ·exact HA.o j (by omega)
    rw[HD.o] at hff;cases hub:ub used k
    ·rw[hub] at qu hff;have he':(x.a == b)=false:=by simpa using hff
     clear hff hub;(go_wp2_with fail)
     go_round
     case rel=>exact ⟨k+1,by omega,by go_num,HZ⟩
     case measure=>simp[intOf];omega
    ·rw[hub] at qu;clear hff hub;(go_wp2_with fail)
     go_round
     case rel=>exact ⟨k+1,by omega,by go_num,HZ⟩
     case measure=>simp[intOf];omega
   ·have HZ:aJ (findU xs used b=some k):=range_find_some hlt hff HA.o;rw[HD.o,Bool.and_eq_true,decide_eq_true_eq] at hff;have he':(x.a == b)=true:=by simpa using hff.1
    have hub:ub used k=false:=by simpa using hff.2
    rw[hub] at qu;clear hff hub;(go_wp2_with fail);go_ret;exact ⟨by rw[HZ.o];rfl,rfl⟩
  ·obtain rfl:k=xs.length:=by omega
   have HZ:aJ (findU xs used b=none):=range_find_none HA.o;(go_wp2_with fail);go_ret;exact ⟨by rw[HZ.o];rfl,rfl⟩
theorem BoolsO.open_ {w:World} {base:Nat} {A:Option Addr} {n c k:Nat} {fs:List Bool} (h:BoolsO w base (.slice A n c) fs) (hk:k<fs.length):∃ g cur,n=fs.length∧A=some ⟨g,0,none⟩∧base≤g∧Blk w g tB cur∧cur[k]? = some (.bool fs[k])∧
  (∀ v:Bool,BoolsO (w.setCell ⟨g,k,none⟩ (.bool v)) base (.slice A n c) (fs.set k v)):=by
 obtain ⟨⟨hl,h2⟩,hL⟩:=h;rcases h2 with ⟨e,hn⟩|⟨g,cap,cur,e,hb,hh,hn,hm,hs,ht⟩
 ·omega
 ·injection e with e1 e2 e3;subst e1 e2 e3;have hK:Blk w g tB cur:=hh
  have hP:Pre cur (encB fs) (fs.length * 1):=by
   intro j hj;rw[←ht,List.getElem?_take,if_pos hj];simp
  refine ⟨g,cur,rfl,rfl,hb,hK,(hP _ (by omega)).trans (by simp[List.getElem?_eq_getElem hk]),?_⟩;intro v;refine ⟨?_,by rw[List.length_set];exact hL⟩;rw[show encB (fs.set k v)=(encB fs).set k (.bool v) from by simp[encB,List.map_set],List.length_set];exact own_of_blk (hK.set_ k (.bool v)) hb (by rw[List.length_set,hl]) (hP.setL k (.bool v) (by rw[hs];exact Nat.mul_le_mul hn (Nat.le_refl _)) (by rw[hl];exact Nat.le_refl _)) hn hm (by simpa using hs)
def chainG (xs:List Atm) (b:Int) (n:Nat) (used:List Bool) (c:Int):Option (List Bool):=if c=b then some used else chainF xs b n used c
def cutB (xs:List Atm) (y:Atm) (b:Int):Bool:=decide (y.kind=2) && !decide (y.b=b) && !decide (b=0) && !begB xs b
theorem cut_cases (xs:List Atm) (y:Atm) (b:Int):(cutB xs y b=true∧(y.kind == 2)=true∧(y.b != b)=true∧(b != 0)=true∧begB xs b=false)∨
  ((cutB xs y b=false∧(y.kind == 2)=false)∨(cutB xs y b=false∧(y.kind == 2)=true∧(y.b != b)=false)∨(cutB xs y b=false∧(y.kind == 2)=true∧(y.b != b)=true∧(b != 0)=false)∨(cutB xs y b=false∧(y.kind == 2)=true∧(y.b != b)=true∧(b != 0)=true∧begB xs b=true)):=by
 unfold cutB;by_cases h1:y.kind=2<;>by_cases h2:y.b=b<;>by_cases h3:b=0<;>cases h4:begB xs b<;>simp_all
theorem closed_beg (xs:List Atm) (b:Int):closedB xs b=(decide (b=0) || begB xs b):=rfl
theorem chainG_none {xs:List Atm} {b:Int} {n:Nat} {used:List Bool} {c:Int} (h:c≠b) (hf:findU xs used c=none):chainG xs b n used c=none:=by
 unfold chainG;rw[if_neg h]
 cases n with
 | zero=>rfl
 | succ n=>unfold chainF;rw[hf];rfl
theorem chainG_some {xs:List Atm} {b:Int} {n:Nat} {used:List Bool} {c:Int} {k:Nat} (h:c≠b) (hf:findU xs used c=some k) (hk:k<xs.length):chainG xs b (n+1) used c=if cutB xs xs[k] b then none else chainG xs b n (used.set k true) xs[k].b:=by
 unfold chainG;rw[if_neg h];rw[show chainF xs b (n+1) used c=(findU xs used c).bind (fun k=>if ((xs[k]?).getD default).b=b then some (used.set k true) else if ((xs[k]?).getD default).kind=2∧closedB xs b=false then none else chainF xs b n (used.set k true) ((xs[k]?).getD default).b) from rfl,hf];simp only[Option.bind_some,List.getElem?_eq_getElem hk,Option.getD_some];unfold cutB;rw[closed_beg];generalize chainF xs b n (used.set k true) xs[k].b=R;generalize xs[k]=y;generalize decide (b=0)=t;generalize begB xs b=s;by_cases h1:y.b=b<;>by_cases h2:y.kind=2<;>cases t<;>cases s<;>simp[h1,h2]
theorem AtomsV.hi_ {w:World} {lo hi b o k:Nat} {xs:List Atm} (h:AtomsV w lo hi (some ⟨b,o,none⟩) xs) (hk:k<xs.length):b<hi:=by
 obtain ⟨g,o',e,h1,h2,-⟩:=h.raw.2 (by omega);injection e with e;injection e with e1;omega
theorem c_spec_l6Chain {lo hi base:Nat} (A B:Option Addr) (d e:Nat) (xs:List Atm) (used:List Bool) (c b:Int) (w:World) (h:AtomsV w lo hi A xs) (h':BoolsO w base (.slice B xs.length e) used) (hu:used.length=xs.length) (hhi:hi≤base) (hbw:base≤w.heap.size) :
  Calls Tryz.prog 298 #[.slice A xs.length d,.slice B xs.length e,.int .i64 c,.int .i64 b] w fun e' w'=>e'=.returned (.bool (chainG xs b (xs.length+1) used c).isSome)∧(∀ u,chainG xs b (xs.length+1) used c=some u→BoolsO w' base (.slice B xs.length e) u∧u.length=xs.length)∧Mk (fun g=>(Value.slice B xs.length e).ownBlock=some g) w w':=by
 have hl:=h.le;have hown:∀ g,(Value.slice B xs.length e).ownBlock=some g→base≤g:=fun g hg=>(h'.1.lt g hg).1;have H:=ax h;have HO:=ax h';have HU:=ax hu;have HW:=ax hown;clear h h' hu hown;(go_enter Tryz.func298,Tryz.ntmps298);(go_wp2_with fail)
 go_loopg [2] (xs.length - used.count true) (fun gh s2 wr=>∃ (u:List Bool) (n:Nat) (at_:Int),s2=.int .i64 at_∧aJ (xs.length - u.count true≤gh)∧aJ (chainG xs b (xs.length+1) used c=chainG xs b n u at_)∧aJ (xs.length<n+u.count true)∧aJ (u.length=xs.length)∧aJ (BoolsO wr base (.slice B xs.length e) u)∧aJ (Mk (fun g=>(Value.slice B xs.length e).ownBlock=some g) w wr))
 case atStart=>exact ⟨used,xs.length+1,c,rfl,Nat.le_refl _,rfl,by show _<_;omega,HU.o,HO.o,Mk.refl _ _⟩
 case round=>
  obtain ⟨u,n,at_,rfl,HG,HC,HN,HL,HB,HM⟩:=hrel;have hA:aJ (AtomsV wr lo hi A xs):=H.o.keepB (HM.o.bz (lo:=base) (fun k e=>HW.o k e) hbw) hhi;by_cases hat:at_=b
  ·have E:aJ (chainG xs b (xs.length+1) used c=some u):=by show _=_;rw[HC.o];unfold chainG;rw[if_pos hat]
   have hne:(at_ != b)=false:=by simpa using hat
   clear hat;(go_wp2_with fail);go_ret;exact ⟨zjD (by rw[E.o];rfl),fun u' hu'=>(by rw[E.o] at hu';cases hu';exact ⟨HB.o,HL.o⟩),HM.o⟩
  ·have hne:(at_ != b)=true:=by simpa using hat
   obtain ⟨BB,eB,eqB,hBV⟩:=HB.o.rj;injection eqB with eB1 eB2 eB3;subst eB1;clear eB2 eB3;(go_wp2_with fail);refine (c_spec_l6Find A B d e xs u at_ _ hA.o (by simpa using hBV) HL.o).mono ?_;rintro e w1 ⟨rfl,rfl⟩;cases hf:findU xs u at_
   ·have E:aJ (chainG xs b (xs.length+1) used c=none):=by show _=_;rw[HC.o];exact chainG_none hat hf
    clear hf hat;simp only[fndI];(go_wp2_with fail);go_ret;exact ⟨zjD (by rw[E.o];rfl),fun u' hu'=>(by rw[E.o] at hu';cases hu'),HM.o⟩
   ·rename_i k;obtain ⟨hkl,hfr⟩:=findU_some hf;have hfu:=freeAt_used hfr;have hct:=count_take hfu.2;have hcl:=List.count_le_length (a:=true) (l:=u.set k true);rw[List.length_set,HL.o] at hcl;obtain ⟨m,rfl⟩:∃ m,n=m+1:=⟨n - 1,by have:=HN.o;omega⟩;have HS:=ax (chainG_some (n:=m) hat hf hkl);obtain ⟨g,cur,-,rfl,hgb,kg,hcm,hset⟩:=HB.o.open_ (k:=k) hfu.1;have qg:wr.cell? ⟨g,k,none⟩=some (.bool false):=(kg.cell k).trans (hcm.trans (by rw[(List.getElem?_eq_some_iff.1 hfu.2).2]));have rg:=kg.frozen;have HSET:=ax (hset true);obtain ⟨bb,off,rfl,hbl⟩:=hA.o.blt hkl;obtain ⟨g0,g1,g2⟩:=hA.o.cl hkl;have hbg:bb<g:=by have:=hA.o.hi_ hkl;omega
    have hbn:¬(bb=g):=by omega
    have hbn':¬(g=bb):=by omega
    obtain ⟨y,hy⟩:∃ y,y=xs[k]:=⟨_,rfl⟩;rw[←hy] at g0 g1 g2 HS;have HCT:=ax hct;have HCL:=ax hcl;have hkx:(k:Int)<(xs.length:Int):=by omega
    have hk0:¬(k:Int)<0:=by omega
    have HAK:=ax hA.o;clear hf hat hy hfr hfu hct hcl hset kg hcm;simp only[fndI];rcases cut_cases xs y b with ⟨hc,f1,f2,f3,f4⟩|hcc
    ·have E:aJ (chainG xs b (xs.length+1) used c=none):=by show _=_;rw[HC.o,HS.o,hc];rfl
     clear hc;(go_wp2_with (refine (c_spec_l5Begins _ _ xs b _ HAK.o).mono ?_;rintro e2 w2 ⟨rfl,rfl⟩));go_ret;exact ⟨zjD (by rw[E.o];rfl),fun u' hu'=>(by rw[E.o] at hu';cases hu'),HM.o⟩
    ·have E:aJ (cutB xs y b=false→chainG xs b (xs.length+1) used c=chainG xs b m (u.set k true) y.b):=fun hc=>by rw[HC.o,HS.o,hc];rfl
     rcases hcc with ⟨hc,f1⟩|⟨hc,f1,f2⟩|⟨hc,f1,f2,f3⟩|⟨hc,f1,f2,f3,f4⟩
     all_goals
      have E2:=ax (E.o hc);clear hc;(go_wp2_with (refine (c_spec_l5Begins _ _ xs b _ HAK.o).mono ?_;rintro e2 w2 ⟨rfl,rfl⟩))
      go_roundg (xs.length - (u.set k true).count true)
      case rel=>exact ⟨u.set k true,m,y.b,rfl,Nat.le_refl _,E2.o,by show _<_;have:=HN.o;have:=HCT.o;omega,by show _=_;rw[List.length_set];exact HL.o,HSET.o,HM.o.set (x:=⟨g,k,none⟩) rfl _⟩
      case measure=>have:=HG.o;have:=HCT.o;have:=HCL.o;omega
end
end Go.Proofs.YtjaohekkmlkinaaGreat
