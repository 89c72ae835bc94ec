/- Contracts: the spec's matching of filled atoms. -/
import Derived.Test.YtjaohekkmlkinaaGreatMaMatchW
import Derived.Deep.LoopGhost
set_option linter.unusedSimpArgs false
set_option linter.unusedVariables false
set_option maxRecDepth 100000
set_option maxHeartbeats 25600000
namespace Go.Proofs.YtjaohekkmlkinaaGreat
section
open Go Go.RowKit Go.Proofs
attribute [local go_sem ↓] Go.wp_at_zero Go.wp_at_succ
theorem c_spec_l5Begins {lo hi:Nat} (A:Option Addr) (d:Nat) (xs:List Atm) (b:Int) (w:World) (h:AtomsV w lo hi A xs) :
  Calls Tryz.prog 305 #[.slice A xs.length d,.int .i64 b] w fun e w'=>e=.returned (.bool (begB xs b))∧w=w':=by
 have hl:=h.le;have H:=ax h;clear h;(go_enter Tryz.func305,Tryz.ntmps305);(go_wp2_with fail)
 go_loop [5] (fun i=>∃ k:Nat,k≤xs.length∧i=.int .i64 k∧aJ (begB xs b=begB (xs.drop k) b)) (fun i=>xs.length - (intOf i).toNat)
 case atStart=>exact ⟨0,Nat.zero_le _,rfl,rfl⟩
 case round=>
  obtain ⟨k,hkk,rfl,HA⟩:=hrel;by_cases hlt:k<xs.length
  ·obtain ⟨bb,off,rfl,hbl⟩:=H.o.blt hlt;obtain ⟨g0,g1,g2⟩:=H.o.cl hlt;have HD:=ax (any_drop (fun x=>decide (x.a=b)) xs k hlt);obtain ⟨x,hxe⟩:∃ x,x=xs[k]:=⟨_,rfl⟩;rw[←hxe] at g0 g1 g2 HD;clear hxe;by_cases he:x.a=b
   ·have HZ:aJ (begB xs b=true):=by show _=_;rw[HA.o];unfold begB;rw[HD.o,decide_eq_true he];rfl
    have he':(x.a == b)=true:=by simpa using he
    clear he;(go_wp2_with fail);go_ret;exact ⟨zjD (by rw[HZ.o]),rfl⟩
   ·have HZ:aJ (begB xs b=begB (xs.drop (k+1)) b):=by show _=_;rw[HA.o];unfold begB;rw[HD.o,decide_eq_false he];rfl
    have he':(x.a == b)=false:=by simpa using he
    clear he;(go_wp2_with fail)
    go_round
    case rel=>exact ⟨k+1,by omega,by go_num,HZ⟩
    case measure=>simp[intOf];omega
  ·obtain rfl:k=xs.length:=by omega
   have HZ:aJ (begB xs b=false):=by show _=_;rw[HA.o,List.drop_length];rfl
   (go_wp2_with fail);go_ret;exact ⟨zjD (by rw[HZ.o]),rfl⟩
def fndI (o:Option Nat):Int:=match o with|some k=>k|none=>-1
theorem c_spec_l6Find {lo hi lo2 hi2:Nat} (A B:Option Addr) (d e:Nat) (xs:List Atm) (used:List Bool) (b:Int) (w:World) (h:AtomsV w lo hi A xs) (h':BoolsV w lo2 hi2 B used) (hu:used.length=xs.length) :
  Calls Tryz.prog 299 #[.slice A xs.length d,.slice B xs.length e,.int .i64 b] w fun e w'=>e=.returned (.int .i64 (fndI (findU xs used b)))∧w=w':=by
 have hl:=h.le;have H:=ax h;have H':=ax h';have HU:=ax hu;clear h h' hu;(go_enter Tryz.func299,Tryz.ntmps299);(go_wp2_with fail)
 go_loop [7] (fun i=>∃ k:Nat,k≤xs.length∧i=.int .i64 k∧aJ (∀ j,j<k→freeAt xs used b j=false)) (fun i=>xs.length - (intOf i).toNat)
 case atStart=>exact ⟨0,Nat.zero_le _,rfl,fun j hj=>absurd hj (Nat.not_lt_zero _)⟩
 case round=>
  obtain ⟨k,hkk,rfl,HA⟩:=hrel;by_cases hlt:k<xs.length
  ·obtain ⟨bb,off,rfl,hbl⟩:=H.o.blt hlt;obtain ⟨g0,g1,g2⟩:=H.o.cl hlt;obtain ⟨b2,off2,rfl,hbl2⟩:=H'.o.blt (k:=k) (by rw[HU.o];exact hlt);have qu:w.cell? ⟨b2,off2+k,none⟩=some (.bool (ub used k)):=by rw[H'.o.cl (k:=k) (by rw[HU.o];exact hlt)];unfold ub;rw[List.getElem?_eq_getElem];rfl
   have HD:=ax (freeAt_of (c:=b) hlt HU.o);obtain ⟨x,hxe⟩:∃ x,x=xs[k]:=⟨_,rfl⟩;rw[←hxe] at g0 g1 g2 HD;clear hxe;cases hff:freeAt xs used b k
   ·have HZ:aJ (∀ j,j<k+1→freeAt xs used b j=false):=fun j hj=>by
     by_cases e:j=k
     ·rw[e];exact hff
     ·exact HA.o j (by omega)
    rw[HD.o] at hff;cases hub:ub used k
    ·rw[hub] at qu hff;have he':(x.a == b)=false:=by simpa using hff
     clear hff hub;(go_wp2_with fail)
     go_round
     case rel=>exact ⟨k+1,by omega,by go_num,HZ⟩
     case measure=>simp[intOf];omega
    ·rw[hub] at qu;clear hff hub;(go_wp2_with fail)
     go_round
     case rel=>exact ⟨k+1,by omega,by go_num,HZ⟩
     case measure=>simp[intOf];omega
   ·have HZ:aJ (findU xs used b=some k):=range_find_some hlt hff HA.o;rw[HD.o,Bool.and_eq_true,decide_eq_true_eq] at hff;have he':(x.a == b)=true:=by simpa using hff.1
    have hub:ub used k=false:=by simpa using hff.2
    rw[hub] at qu;clear hff hub;(go_wp2_with fail);go_ret;exact ⟨by rw[HZ.o];rfl,rfl⟩
  ·obtain rfl:k=xs.length:=by omega
   have HZ:aJ (findU xs used b=none):=range_find_none HA.o;(go_wp2_with fail);go_ret;exact ⟨by rw[HZ.o];rfl,rfl⟩
theorem BoolsO.open_ {w:World} {base:Nat} {A:Option Addr} {n c k:Nat} {fs:List Bool} (h:BoolsO w base (.slice A n c) fs) (hk:k<fs.length):∃ g cur,n=fs.length∧A=some ⟨g,0,none⟩∧base≤g∧Blk w g tB cur∧cur[k]? = some (.bool fs[k])∧
  (∀ v:Bool,BoolsO (w.setCell ⟨g,k,none⟩ (.bool v)) base (.slice A n c) (fs.set k v)):=by
 obtain ⟨⟨hl,h2⟩,hL⟩:=h;rcases h2 with ⟨e,hn⟩|⟨g,cap,cur,e,hb,hh,hn,hm,hs,ht⟩
 ·omega
 ·injection e with e1 e2 e3;subst e1 e2 e3;have hK:Blk w g tB cur:=hh
  have hP:Pre cur (encB fs) (fs.length * 1):=by
   intro j hj;rw[←ht,List.getElem?_take,if_pos hj];simp
  refine ⟨g,cur,rfl,rfl,hb,hK,(hP _ (by omega)).trans (by simp[List.getElem?_eq_getElem hk]),?_⟩;intro v;refine ⟨?_,by rw[List.length_set];exact hL⟩;rw[show encB (fs.set k v)=(encB fs).set k (.bool v) from by simp[encB,List.map_set],List.length_set];exact own_of_blk (hK.set_ k (.bool v)) hb (by rw[List.length_set,hl]) (hP.setL k (.bool v) (by rw[hs];exact Nat.mul_le_mul hn (Nat.le_refl _)) (by rw[hl];exact Nat.le_refl _)) hn hm (by simpa using hs)
def chainG (xs:List Atm) (b:Int) (n:Nat) (used:List Bool) (c:Int):Option (List Bool):=if c=b then some used else chainF xs b n used c
def cutB (xs:List Atm) (y:Atm) (b:Int):Bool:=decide (y.kind=2) && !decide (y.b=b) && !decide (b=0) && !begB xs b
theorem cut_cases (xs:List Atm) (y:Atm) (b:Int):(cutB xs y b=true∧(y.kind == 2)=true∧(y.b != b)=true∧(b != 0)=true∧begB xs b=false)∨
  ((cutB xs y b=false∧(y.kind == 2)=false)∨(cutB xs y b=false∧(y.kind == 2)=true∧(y.b != b)=false)∨(cutB xs y b=false∧(y.kind == 2)=true∧(y.b != b)=true∧(b != 0)=false)∨(cutB xs y b=false∧(y.kind == 2)=true∧(y.b != b)=true∧(b != 0)=true∧begB xs b=true)):=by
 unfold cutB;by_cases h1:y.kind=2<;>by_cases h2:y.b=b<;>by_cases h3:b=0<;>cases h4:begB xs b<;>simp_all
theorem closed_beg (xs:List Atm) (b:Int):closedB xs b=(decide (b=0) || begB xs b):=rfl
theorem chainG_none {xs:List Atm} {b:Int} {n:Nat} {used:List Bool} {c:Int} (h:c≠b) (hf:findU xs used c=none):chainG xs b n used c=none:=by
 unfold chainG;rw[if_neg h]
 cases n with
 | zero=>rfl
 | succ n=>unfold chainF;rw[hf];rfl
theorem chainG_some {xs:List Atm} {b:Int} {n:Nat} {used:List Bool} {c:Int} {k:Nat} (h:c≠b) (hf:findU xs used c=some k) (hk:k<xs.length):chainG xs b (n+1) used c=if cutB xs xs[k] b then none else chainG xs b n (used.set k true) xs[k].b:=by
 unfold chainG;rw[if_neg h];rw[show chainF xs b (n+1) used c=(findU xs used c).bind (fun k=>if ((xs[k]?).getD default).b=b then some (used.set k true) else if ((xs[k]?).getD default).kind=2∧closedB xs b=false then none else chainF xs b n (used.set k true) ((xs[k]?).getD default).b) from rfl,hf];simp only[Option.bind_some,List.getElem?_eq_getElem hk,Option.getD_some];unfold cutB;rw[closed_beg];generalize chainF xs b n (used.set k true) xs[k].b=R;generalize xs[k]=y;generalize decide (b=0)=t;generalize begB xs b=s;by_cases h1:y.b=b<;>by_cases h2:y.kind=2<;>cases t<;>cases s<;>simp[h1,h2]
theorem AtomsV.hi_ {w:World} {lo hi b o k:Nat} {xs:List Atm} (h:AtomsV w lo hi (some ⟨b,o,none⟩) xs) (hk:k<xs.length):b<hi:=by
 obtain ⟨g,o',e,h1,h2,-⟩:=h.raw.2 (by omega);injection e with e;injection e with e1;omega
theorem c_spec_l6Chain {lo hi base:Nat} (A B:Option Addr) (d e:Nat) (xs:List Atm) (used:List Bool) (c b:Int) (w:World) (h:AtomsV w lo hi A xs) (h':BoolsO w base (.slice B xs.length e) used) (hu:used.length=xs.length) (hhi:hi≤base) (hbw:base≤w.heap.size) :
  Calls Tryz.prog 298 #[.slice A xs.length d,.slice B xs.length e,.int .i64 c,.int .i64 b] w fun e' w'=>e'=.returned (.bool (chainG xs b (xs.length+1) used c).isSome)∧(∀ u,chainG xs b (xs.length+1) used c=some u→BoolsO w' base (.slice B xs.length e) u∧u.length=xs.length)∧Mk (fun g=>(Value.slice B xs.length e).ownBlock=some g) w w':=by
 have hl:=h.le;have hown:∀ g,(Value.slice B xs.length e).ownBlock=some g→base≤g:=fun g hg=>(h'.1.lt g hg).1;have H:=ax h;have HO:=ax h';have HU:=ax hu;have HW:=ax hown;clear h h' hu hown;(go_enter Tryz.func298,Tryz.ntmps298);(go_wp2_with fail)
 go_loopg [2] (xs.length - used.count true) (fun gh s2 wr=>∃ (u:List Bool) (n:Nat) (at_:Int),s2=.int .i64 at_∧aJ (xs.length - u.count true≤gh)∧aJ (chainG xs b (xs.length+1) used c=chainG xs b n u at_)∧aJ (xs.length<n+u.count true)∧aJ (u.length=xs.length)∧aJ (BoolsO wr base (.slice B xs.length e) u)∧aJ (Mk (fun g=>(Value.slice B xs.length e).ownBlock=some g) w wr))
 case atStart=>exact ⟨used,xs.length+1,c,rfl,Nat.le_refl _,rfl,by show _<_;omega,HU.o,HO.o,Mk.refl _ _⟩
 case round=>
  obtain ⟨u,n,at_,rfl,HG,HC,HN,HL,HB,HM⟩:=hrel;have hA:aJ (AtomsV wr lo hi A xs):=H.o.keepB (HM.o.bz (lo:=base) (fun k e=>HW.o k e) hbw) hhi;by_cases hat:at_=b
  ·have E:aJ (chainG xs b (xs.length+1) used c=some u):=by show _=_;rw[HC.o];unfold chainG;rw[if_pos hat]
   have hne:(at_ != b)=false:=by simpa using hat
   clear hat;(go_wp2_with fail);go_ret;exact ⟨zjD (by rw[E.o];rfl),fun u' hu'=>(by rw[E.o] at hu';cases hu';exact ⟨HB.o,HL.o⟩),HM.o⟩
  ·have hne:(at_ != b)=true:=by simpa using hat
   obtain ⟨BB,eB,eqB,hBV⟩:=HB.o.rj;injection eqB with eB1 eB2 eB3;subst eB1;clear eB2 eB3;(go_wp2_with fail);refine (c_spec_l6Find A B d e xs u at_ _ hA.o (by simpa using hBV) HL.o).mono ?_;rintro e w1 ⟨rfl,rfl⟩;cases hf:findU xs u at_
   ·have E:aJ (chainG xs b (xs.length+1) used c=none):=by show _=_;rw[HC.o];exact chainG_none hat hf
    clear hf hat;simp only[fndI];(go_wp2_with fail);go_ret;exact ⟨zjD (by rw[E.o];rfl),fun u' hu'=>(by rw[E.o] at hu';cases hu'),HM.o⟩
   ·rename_i k;obtain ⟨hkl,hfr⟩:=findU_some hf;have hfu:=freeAt_used hfr;have hct:=count_take hfu.2;have hcl:=List.count_le_length (a:=true) (l:=u.set k true);rw[List.length_set,HL.o] at hcl;obtain ⟨m,rfl⟩:∃ m,n=m+1:=⟨n - 1,by have:=HN.o;omega⟩;have HS:=ax (chainG_some (n:=m) hat hf hkl);obtain ⟨g,cur,-,rfl,hgb,kg,hcm,hset⟩:=HB.o.open_ (k:=k) hfu.1;have qg:wr.cell? ⟨g,k,none⟩=some (.bool false):=(kg.cell k).trans (hcm.trans (by rw[(List.getElem?_eq_some_iff.1 hfu.2).2]));have rg:=kg.frozen;have HSET:=ax (hset true);obtain ⟨bb,off,rfl,hbl⟩:=hA.o.blt hkl;obtain ⟨g0,g1,g2⟩:=hA.o.cl hkl;have hbg:bb<g:=by have:=hA.o.hi_ hkl;omega
    have hbn:¬(bb=g):=by omega
    have hbn':¬(g=bb):=by omega
    obtain ⟨y,hy⟩:∃ y,y=xs[k]:=⟨_,rfl⟩;rw[←hy] at g0 g1 g2 HS;have HCT:=ax hct;have HCL:=ax hcl;have hkx:(k:Int)<(xs.length:Int):=by omega
    have hk0:¬(k:Int)<0:=by omega
    have HAK:=ax hA.o;clear hf hat hy hfr hfu hct hcl hset kg hcm;simp only[fndI];rcases cut_cases xs y b with ⟨hc,f1,f2,f3,f4⟩|hcc
    ·have E:aJ (chainG xs b (xs.length+1) used c=none):=by show _=_;rw[HC.o,HS.o,hc];rfl
     clear hc;(go_wp2_with (refine (c_spec_l5Begins _ _ xs b _ HAK.o).mono ?_;rintro e2 w2 ⟨rfl,rfl⟩));go_ret;exact ⟨zjD (by rw[E.o];rfl),fun u' hu'=>(by rw[E.o] at hu';cases hu'),HM.o⟩
    ·have E:aJ (cutB xs y b=false→chainG xs b (xs.length+1) used c=chainG xs b m (u.set k true) y.b):=fun hc=>by rw[HC.o,HS.o,hc];rfl
     rcases hcc with ⟨hc,f1⟩|⟨hc,f1,f2⟩|⟨hc,f1,f2,f3⟩|⟨hc,f1,f2,f3,f4⟩
     all_goals
      have E2:=ax (E.o hc);clear hc;(go_wp2_with (refine (c_spec_l5Begins _ _ xs b _ HAK.o).mono ?_;rintro e2 w2 ⟨rfl,rfl⟩))
      go_roundg (xs.length - (u.set k true).count true)
      case rel=>exact ⟨u.set k true,m,y.b,rfl,Nat.le_refl _,E2.o,by show _<_;have:=HN.o;have:=HCT.o;omega,by show _=_;rw[List.length_set];exact HL.o,HSET.o,HM.o.set (x:=⟨g,k,none⟩) rfl _⟩
      case measure=>have:=HG.o;have:=HCT.o;have:=HCL.o;omega
theorem Mk.thenB {p:Nat→Prop} {w a b:World} (h:Mk p w a) (hb:Below w.heap.size a b):Mk p w b:=⟨hb.os.trans h.os,hb.tape.trans h.tape,hb.output.trans h.output,Nat.le_trans h.size hb.size,fun k hk hp=>(hb.block k hk).trans (h.block k hk hp)⟩
theorem chainF_none {xs:List Atm} {b:Int} {n:Nat} {used:List Bool} {c:Int} (hf:findU xs used c=none):chainF xs b n used c=none:=by
 cases n with
 | zero=>rfl
 | succ n=>unfold chainF;rw[hf];rfl
theorem chainF_some {xs:List Atm} {b:Int} {n:Nat} {used:List Bool} {c:Int} {k:Nat} (hf:findU xs used c=some k) (hk:k<xs.length):chainF xs b (n+1) used c=if xs[k].b=b then some (used.set k true) else if xs[k].kind=2∧closedB xs b=false then none else chainF xs b n (used.set k true) xs[k].b:=by
 rw[show chainF xs b (n+1) used c=(findU xs used c).bind (fun k=>if ((xs[k]?).getD default).b=b then some (used.set k true) else if ((xs[k]?).getD default).kind=2∧closedB xs b=false then none else chainF xs b n (used.set k true) ((xs[k]?).getD default).b) from rfl,hf];simp only[Option.bind_some,List.getElem?_eq_getElem hk,Option.getD_some]
theorem c_impl_useChain {lo hi:Nat} (A:Option Addr) (d:Nat) (xs:List Atm) (used:List Bool) (x:Atm) (g:Nat) (w:World) (h:AtomsV w lo hi A xs) (hhi:hi≤g) (hk:Blk w g tMt (cmU (.slice A xs.length d) used)) (hl6:xs.length≤6) (hu:used.length=xs.length) :
  Calls Tryz.prog 206 #[.pointer (some ⟨g,0,none⟩),x.val] w fun e w'=>∃ r ys,e=.returned (.tuple #[r,.bool (chainF xs x.b (xs.length+1) used x.a).isSome])∧IntsO w' w.heap.size r ys∧Mk (fun h=>h=g) w w'∧(∀ u,chainF xs x.b (xs.length+1) used x.a=some u→Blk w' g tMt (cmU (.slice A xs.length d) u)):=by
 have hgl:=hk.lt;have H:=ax h;have HU:=ax hu;have HK:=ax hk;clear h hu hk;(go_enter Tryz.func206,Tryz.ntmps206);(go_wp2_with fail);have k0:=Blk.new w tA #[.int .i64 x.kind,.int .i64 x.a,.int .i64 x.b];have kg:=HK.o.alloc (.cells #[.int .i64 x.kind,.int .i64 x.a,.int .i64 x.b] tA);cases hb0:(x.b == 0)
 case' false=>
  refine wp_region_noPanic ?_;refine wp_region_held_drew (S:=(fun w'=>(∀ i,w'.cell? ⟨w.heap.size,i,none⟩=#[.int .i64 x.kind,.int .i64 x.a,.int .i64 x.b][i]?)∧w'.cell? ⟨g,0,none⟩=some (.slice A xs.length d))) (by kernel_rfl) (⟨Blk.cell blks,(show Blk _ g tMt (cmU (.slice A xs.length d) used) from blks).cell 0⟩) (fun aH=>?_);refine tk2 0 rfl aH (h:=tk2 1 rfl aH (h:=tk2 2 rfl aH (h:=?_)));(try simp only[zz]);refine tk2 3 rfl aH (h:=tk2 4 rfl aH (h:=tk2 5 rfl aH (h:=?_)));(try simp only[zz]);refine tk2 6 rfl aH (h:=tk2 7 rfl aH (h:=tk2 8 rfl aH (h:=?_)));(try simp only[zz]);refine tk2 9 rfl aH (h:=?_);refine rdc 10 rfl fun K hK=>?_;(try simp only[zz]);(go_simp;refine (c_impl_beginsAt A d xs x.b _ (H.o.bz bel)).mono ?_;rintro e w1 ⟨rfl,hB1⟩;have hB:=bgo (w:=w) bel hB1;replace k0:=Blk.nz (g:=w.heap.size) blks hB1;replace kg:=Blk.nz (g:=g) blks hB1);refine hK.out _ _ (⟨k0.cell,kg.cell 0⟩) ?_;clear aH hK K;intro aH;(try simp only[zz]);refine tk2 11 rfl aH (h:=tk2 12 rfl aH (h:=?_));(try simp only[zz]);refine dn1 ?_;have HCB:aJ (closedB xs x.b=begB xs x.b):=by show _=_;unfold closedB;rw[decide_eq_false (by simpa using hb0)];rfl
  obtain ⟨cb,hcb⟩:∃ t,t=begB xs x.b:=⟨_,rfl⟩;rw[←hcb] at HCB ⊢;clear hcb
 case' true=>
  refine wp_region_noPanic ?_;refine wp_region_held_drew (S:=(fun w'=>(∀ i,w'.cell? ⟨w.heap.size,i,none⟩=#[.int .i64 x.kind,.int .i64 x.a,.int .i64 x.b][i]?)∧w'.cell? ⟨g,0,none⟩=some (.slice A xs.length d))) (by kernel_rfl) (⟨Blk.cell blks,(show Blk _ g tMt (cmU (.slice A xs.length d) used) from blks).cell 0⟩) (fun aH=>?_);refine tk2 0 rfl aH (h:=tk2 1 rfl aH (h:=tk2 2 rfl aH (h:=?_)));(try simp only[zz]);refine tk2 3 rfl aH (h:=?_);(try simp only[zz]);refine tku 4 rfl aH ?_;(try simp only[zz]);refine tku 5 rfl aH ?_;(try simp only[zz]);refine tku 6 rfl aH ?_;(try simp only[zz]);refine tku 7 rfl aH ?_;(try simp only[zz]);refine tku 8 rfl aH ?_;(try simp only[zz]);refine tku 9 rfl aH ?_;(try simp only[zz]);refine tku 10 rfl aH ?_;(try simp only[zz]);refine tk2 11 rfl aH (h:=tk2 12 rfl aH (h:=?_));(try simp only[zz]);refine dn1 ?_;have HCB0:aJ (closedB xs x.b=true):=by show _=_;unfold closedB;rw[decide_eq_true (by simpa using hb0)];rfl
  obtain ⟨cb,hcb⟩:∃ t,t=true:=⟨_,rfl⟩;rw[←hcb] at HCB0;have HCB:=HCB0;clear HCB0;obtain ⟨w1,hw1⟩:∃ X,X=(w.alloc (.cells #[.int .i64 x.kind,.int .i64 x.a,.int .i64 x.b] tA)).drew:=⟨_,rfl⟩;have hB:Below w.heap.size w w1:=by rw[hw1];exact bel
  replace k0:Blk w1 w.heap.size tA #[.int .i64 x.kind,.int .i64 x.a,.int .i64 x.b]:=by rw[hw1];exact blks
  replace kg:Blk w1 g tMt (cmU (.slice A xs.length d) used):=by rw[hw1];exact blks
  rw[←hw1];clear hw1;(try rw[←hcb]);clear hcb
 all_goals
  have gl1:=kg.lt;have l0:=k0.lt;have q0:=k0.cell;have qg:=kg.cell 0;have hz1:=hB.size;(go_wp2_with fail)
  go_loopw [7,8] (fun s7 s8 wr=>∃ (u:List Bool) (n:Nat) (at_:Int) (U:Option Addr) (uc:Nat) (ys:List Int),s7=.slice U ys.length uc∧s8=.int .i64 at_∧aJ (chainF xs x.b (xs.length+1) used x.a=chainF xs x.b n u at_)∧aJ (xs.length<n+u.count true)∧aJ (u.length=xs.length)∧aJ (ys.length≤u.count true)∧aJ (IntsO wr w.heap.size (.slice U ys.length uc) ys)∧Blk wr w.heap.size tA #[.int .i64 x.kind,.int .i64 x.a,.int .i64 x.b]∧Blk wr g tMt (cmU (.slice A xs.length d) u)∧aJ (Mk (fun h=>h=g) w wr)) (fun s7 _ _=>match s7 with | .slice _ n _=>7 - n|_=>0)
  case atStart=>exact ⟨used,xs.length+1,x.a,none,0,[],rfl,rfl,rfl,by show _<_;omega,HU.o,Nat.zero_le _,IntsO.nil _ _,k0,kg,Mk.below_ hB⟩
  case round=>
   clear k0 kg hB gl1 l0 hz1 q0 qg;obtain ⟨u,n,at_,U,uc,ys,rfl,rfl,HC,HN,HL,HY,HO,k0,kg,HM⟩:=hrel;have hA:aJ (AtomsV wr lo hi A xs):=H.o.keepM HM.o hhi (by omega);have gl1:=kg.lt;have l0:=k0.lt;have qg:=kg.cell 0;have hzw:=HM.o.size;(go_wp2_with fail);refine (c_impl_unusedAt A d _ xs u at_ g _ (hA.o.bz bel) kg hl6 HL.o).mono ?_;rintro e w2 ⟨rfl,hB1⟩;replace k0:=k0.nz hB1;replace kg:=kg.nz hB1;have HM2:aJ (Mk (fun h=>h=g) w w2):=HM.o.trans (Mk.below_ hB1);have HO2:aJ (IntsO w2 w.heap.size (.slice U ys.length uc) ys):=HO.o.bz hB1;have hA2:aJ (AtomsV w2 lo hi A xs):=hA.o.bz hB1;have gl2:=kg.lt;have l2:=k0.lt;have hz2:=HM2.o.size;clear hB1 HO HM hA;cases hf:findU xs u at_
   ·have E:aJ (chainF xs x.b (xs.length+1) used x.a=none):=by show _=_;rw[HC.o];exact chainF_none hf
    clear hf;simp only[Option.getD_none,Option.isSome_none];(go_wp2_with fail);go_ret2;exact ⟨_,[],by rw[E.o];rfl,IntsO.nil _ _,HM2.o,fun u' hu'=>by rw[E.o] at hu';cases hu'⟩
   ·rename_i k;obtain ⟨hkl,hfr⟩:=findU_some hf;have hfu:=freeAt_used hfr;have hct:=count_take hfu.2;have hcl:=List.count_le_length (a:=true) (l:=u.set k true);rw[List.length_set,HL.o] at hcl;obtain ⟨m,rfl⟩:∃ m,n=m+1:=⟨n - 1,by have:=HN.o;omega⟩;have HS:=ax (chainF_some (n:=m) (b:=x.b) hf hkl);have HFU:=ax hfu;have HCT:=ax hct;have HCL:=ax hcl;have hkx:(k:Int)<(xs.length:Int):=by omega
    have hyl:ys.length≤5:=by have:=HY.o;omega
    clear hf hfr hfu hct hcl;simp only[Option.getD_some,Option.isSome_some];(go_wp2_with fail);refine (c_impl_take k g _ kg HFU.o.2 (by rw[HL.o];exact hl6)).mono ?_;rintro e w3 ⟨⟨v,rfl⟩,kg3,hM3⟩;have k3:=hM3.blk k0 (by omega);have HM3:aJ (Mk (fun h=>h=g) w w3):=HM2.o.trans hM3;have hA3:aJ (AtomsV w3 lo hi A xs):=hA2.o.keepM hM3 hhi (by omega);have HO3:aJ (IntsO w3 w.heap.size (.slice U ys.length uc) ys):=HO2.o.mk hM3 fun h e1 e2=>by have:=(HO2.o.1.lt h e1).1;omega
    have hz3:=HM3.o.size;clear k0 kg hM3 HM2 HO2 hA2;obtain ⟨bb,off,rfl,hbl⟩:=hA3.o.blt hkl;obtain ⟨g0,g1,g2⟩:=hA3.o.cl hkl;obtain ⟨y,hy⟩:∃ y,y=xs[k]:=⟨_,rfl⟩;rw[←hy] at g0 g1 g2 HS;have qg:=kg3.cell 0;have q3:=k3.cell;have lg3:=kg3.lt;have l3:=k3.lt;have HYE:=ax hy;clear hy g0 g1 g2;obtain f1|⟨f1,f2,rfl⟩|⟨f1,f2⟩|⟨f1,f2,rfl⟩:((y.b == x.b)=true)∨((y.b == x.b)=false∧(y.kind == 2)=true∧cb=false)∨((y.b == x.b)=false∧(y.kind == 2)=false)∨((y.b == x.b)=false∧(y.kind == 2)=true∧cb=true):=by cases (y.b == x.b)<;>cases (y.kind == 2)<;>cases cb<;>simp
    ·have E:aJ (chainF xs x.b (xs.length+1) used x.a=some (u.set k true)):=by show _=_;rw[HC.o,HS.o,if_pos (by simpa using f1)]
     (go_wp2_with (at_builtin;refine appI rfl _ _ rfl (v:=.slice U ys.length uc) rfl (IntsO.bz HO3.o bel) w3.heap.size k rfl (cell_box _ _ _) (by omega) (by simp;omega) ?_;intro A' c' w4 o4 hg4 hB4;have kg4:=Blk.zm (g:=g) (hg:=hg4) (kg3.alloc _) (IntsO.bz (w:=w3) HO3.o bel).1 (by decide);have k4:=Blk.zm (g:=w.heap.size) (hg:=hg4) (k3.alloc _) (IntsO.bz (w:=w3) HO3.o bel).1 (by decide);have qg4:=kg4.cell 0;have q4:=k4.cell;have lg4:=kg4.lt;have l4:=k4.lt;have hB34:Below w.heap.size w3 w4:=Below.trans (btoB (w:=w3) bel hz3) hB4;have hA4:aJ (AtomsV w4 lo hi (some ⟨bb,off,none⟩) xs):=hA3.o.keepB hB34 (by omega);obtain ⟨g0,g1,g2⟩:=hA4.o.cl hkl;rw[←HYE.o] at g0 g1 g2;clear qg q3));go_ret2;exact ⟨_,ys++[(k:Int)],by rw[E.o];rfl,o4,HM3.o.thenB hB34,fun u' hu'=>by rw[E.o] at hu';cases hu';exact kg4⟩
    ·have E:aJ (chainF xs x.b (xs.length+1) used x.a=none):=by show _=_;rw[HC.o,HS.o,if_neg (by simpa using f1),if_pos ⟨by simpa using f2,HCB.o⟩]
     (go_wp2_with (at_builtin;refine appI rfl _ _ rfl (v:=.slice U ys.length uc) rfl (IntsO.bz HO3.o bel) w3.heap.size k rfl (cell_box _ _ _) (by omega) (by simp;omega) ?_;intro A' c' w4 o4 hg4 hB4;have kg4:=Blk.zm (g:=g) (hg:=hg4) (kg3.alloc _) (IntsO.bz (w:=w3) HO3.o bel).1 (by decide);have k4:=Blk.zm (g:=w.heap.size) (hg:=hg4) (k3.alloc _) (IntsO.bz (w:=w3) HO3.o bel).1 (by decide);have qg4:=kg4.cell 0;have q4:=k4.cell;have lg4:=kg4.lt;have l4:=k4.lt;have hB34:Below w.heap.size w3 w4:=Below.trans (btoB (w:=w3) bel hz3) hB4;have hA4:aJ (AtomsV w4 lo hi (some ⟨bb,off,none⟩) xs):=hA3.o.keepB hB34 (by omega);obtain ⟨g0,g1,g2⟩:=hA4.o.cl hkl;rw[←HYE.o] at g0 g1 g2;clear qg q3));go_ret2;exact ⟨_,[],by rw[E.o];rfl,IntsO.nil _ _,HM3.o.thenB hB34,fun u' hu'=>by rw[E.o] at hu';cases hu'⟩
    ·have E:aJ (chainF xs x.b (xs.length+1) used x.a=chainF xs x.b m (u.set k true) y.b):=by show _=_;rw[HC.o,HS.o,if_neg (by simpa using f1),if_neg (fun h=>by simp[h.1] at f2)]
     go_wp2_with (at_builtin;refine appI rfl _ _ rfl (v:=.slice U ys.length uc) rfl (IntsO.bz HO3.o bel) w3.heap.size k rfl (cell_box _ _ _) (by omega) (by simp;omega) ?_;intro A' c' w4 o4 hg4 hB4;have kg4:=Blk.zm (g:=g) (hg:=hg4) (kg3.alloc _) (IntsO.bz (w:=w3) HO3.o bel).1 (by decide);have k4:=Blk.zm (g:=w.heap.size) (hg:=hg4) (k3.alloc _) (IntsO.bz (w:=w3) HO3.o bel).1 (by decide);have qg4:=kg4.cell 0;have q4:=k4.cell;have lg4:=kg4.lt;have l4:=k4.lt;have hB34:Below w.heap.size w3 w4:=Below.trans (btoB (w:=w3) bel hz3) hB4;have hA4:aJ (AtomsV w4 lo hi (some ⟨bb,off,none⟩) xs):=hA3.o.keepB hB34 (by omega);obtain ⟨g0,g1,g2⟩:=hA4.o.cl hkl;rw[←HYE.o] at g0 g1 g2;clear qg q3)
     go_round
     case rel=>exact ⟨u.set k true,m,y.b,some ⟨A',0,none⟩,c',ys++[(k:Int)],by simp,rfl,E,by show _<_;have:=HN.o;have:=HCT.o;omega,by show _=_;rw[List.length_set];exact HL.o,by show _≤_;have:=HY.o;have:=HCT.o;simp;omega,by show IntsO _ _ _ _;simpa using o4,k4,kg4,HM3.o.thenB hB34⟩
     case measure=>simp;omega
    ·have E:aJ (chainF xs x.b (xs.length+1) used x.a=chainF xs x.b m (u.set k true) y.b):=by show _=_;rw[HC.o,HS.o,if_neg (by simpa using f1),if_neg (fun h=>by have:=HCB.o;rw[this] at h;cases h.2)]
     go_wp2_with (at_builtin;refine appI rfl _ _ rfl (v:=.slice U ys.length uc) rfl (IntsO.bz HO3.o bel) w3.heap.size k rfl (cell_box _ _ _) (by omega) (by simp;omega) ?_;intro A' c' w4 o4 hg4 hB4;have kg4:=Blk.zm (g:=g) (hg:=hg4) (kg3.alloc _) (IntsO.bz (w:=w3) HO3.o bel).1 (by decide);have k4:=Blk.zm (g:=w.heap.size) (hg:=hg4) (k3.alloc _) (IntsO.bz (w:=w3) HO3.o bel).1 (by decide);have qg4:=kg4.cell 0;have q4:=k4.cell;have lg4:=kg4.lt;have l4:=k4.lt;have hB34:Below w.heap.size w3 w4:=Below.trans (btoB (w:=w3) bel hz3) hB4;have hA4:aJ (AtomsV w4 lo hi (some ⟨bb,off,none⟩) xs):=hA3.o.keepB hB34 (by omega);obtain ⟨g0,g1,g2⟩:=hA4.o.cl hkl;rw[←HYE.o] at g0 g1 g2;clear qg q3)
     go_round
     case rel=>exact ⟨u.set k true,m,y.b,some ⟨A',0,none⟩,c',ys++[(k:Int)],by simp,rfl,E,by show _<_;have:=HN.o;have:=HCT.o;omega,by show _=_;rw[List.length_set];exact HL.o,by show _≤_;have:=HY.o;have:=HCT.o;simp;omega,by show IntsO _ _ _ _;simpa using o4,k4,kg4,HM3.o.thenB hB34⟩
     case measure=>simp;omega
end
end Go.Proofs.YtjaohekkmlkinaaGreat
