/- Contracts: the spec's first failing case. -/
import Derived.Test.YtgdfdmjnadnlnaaGreatMatchT
import Derived.BigQuiet
import Derived.Deep.QuietTactic
import Derived.Deep.DeepCutAuto
import Derived.Test.YtgdfdmjnadnlnaaGreatMImpS
set_option linter.unusedSimpArgs false
set_option linter.unusedVariables false
set_option maxRecDepth 100000
set_option maxHeartbeats 25600000
namespace Go.Proofs.YtgdfdmjnadnlnaaGreat
section
open Go Go.RowKit Go.Proofs
attribute [local go_sem ↓] Go.wp_at_zero Go.wp_at_succ
def caseB (a b:Asn) (c:List Int):Bool:=fitsS c b.facts&&matchB (filledL a.atoms c) (filledL b.atoms c)
end
section
open Go
end
section
open Go Go.RowKit Go.Proofs
attribute [local go_sem ↓] Go.wp_at_zero Go.wp_at_succ
def seekF (a b:Asn) (S n:Nat) (c:List Int):List (List Int):=(seek a S n c).filter fun d=>!caseB a b d
def seekFAt (a b:Asn) (S n:Nat) (c:List Int) (k:Nat):List (List Int):=if k<8 - n∧cl c k≠k then [] else seekF a b S n (c.set (8 - n) k)
def entF (a b:Asn):Bool:=a.valid&&b.valid && !(failF a b).isSome
theorem c_impl_Entails {lo hi lo' hi':Nat} (v v':Value) (a b:Asn) (w:World) (h:AsnV w lo hi v a) (h':AsnV w lo' hi' v' b) (hhi:hi≤w.heap.size) (hhi':hi'≤w.heap.size) :
  Calls Tryz.prog 54 #[v,v'] w fun e w'=>e=.returned (.bool (entF a b))∧Below w.heap.size w w':=by
 have hV:=ax h;have hV':=ax h';obtain ⟨A1,c1,A2,c2,rfl,-,-⟩:=h;obtain ⟨A3,c3,A4,c4,rfl,-,-⟩:=h';(go_enter Tryz.func54,Tryz.ntmps54);have k0:Blk ((w.alloc (.cells #[.slice A1 a.facts.length c1,.slice A2 a.atoms.length c2] tAs)).alloc (.cells #[.slice A3 b.facts.length c3,.slice A4 b.atoms.length c4] tAs)) w.heap.size tAs #[.slice A1 a.facts.length c1,.slice A2 a.atoms.length c2]:=blks;have k1:Blk ((w.alloc (.cells #[.slice A1 a.facts.length c1,.slice A2 a.atoms.length c2] tAs)).alloc (.cells #[.slice A3 b.facts.length c3,.slice A4 b.atoms.length c4] tAs)) (w.heap.size+1) tAs #[.slice A3 b.facts.length c3,.slice A4 b.atoms.length c4]:=blks;(go_wp2_with fail);refine (c_impl_AssertionValid _ a _ (hV.out.below bel)).mono ?_;rintro e w1 ⟨rfl,hB1⟩;have hB:Below w.heap.size w w1:=bgo (w:=w) bel hB1;replace k0:=k0.next hB1;replace k1:=k1.next hB1;(replace qk0:=k0.z;replace qk1:=k1.z);clear hB1;cases ha:a.valid
 ·have E:Hid (entF a b=false):=by show _=_;simp[entF,ha]
  clear ha;(go_wp2_with fail);go_ret;exact ⟨ret_bool E.out.symm,hB⟩
 ·have HA:=ax ha;clear ha;(go_wp2_with fail);refine (c_impl_AssertionValid _ b _ (hV'.out.below hB)).mono ?_;rintro e w2 ⟨rfl,hB2⟩;replace hB:=bgo hB hB2;replace k0:=k0.next hB2;replace k1:=k1.next hB2;(replace qk0:=k0.z;replace qk1:=k1.z);clear hB2;cases hb:b.valid
  ·have E:Hid (entF a b=false):=by show _=_;simp[entF,hb]
   clear hb;(go_wp2_with fail);go_ret;exact ⟨ret_bool E.out.symm,hB⟩
  ·have HB:=ax hb;have hz:=hB.size;have E:Hid (entF a b=(failF a b).isNone):=by show _=_;rw[entF,HA.out,hb];cases failF a b<;>rfl
   clear hb;(go_wp2_with fail);refine (c_impl_failingCase _ _ a b _ (hV.out.below hB) (hV'.out.below hB) (by omega) (by omega) HA.out HB.out).mono ?_;rintro e w3 ⟨rfl,hB3⟩;replace hB:=bgo hB hB3;clear hB3 k0 k1 qk0 qk1;(go_wp2_with fail);go_ret;exact ⟨ret_bool E.out.symm,bel⟩
end
section
open Go Go.RowKit
def maskA (m:Nat):Nat→List Atm→List Atm
 | _,[]=>[]
 | i,x :: xs=>if m.testBit i then x :: maskA m (i+1) xs else maskA m (i+1) xs
def pickA (a:Asn) (m:Nat):Asn:=⟨[],maskA m 0 a.atoms⟩
def seekM (p:Nat→Bool):Nat→Nat→Option Nat
 | 0,_=>none
 | n+1,m=>if p m then some m else seekM p n (m+1)
def frB (a b:Asn) (m:Nat):Bool:=entF a (starA b (pickA a m))
def frM (a b:Asn):Option Nat:=seekM (frB a b) (2 ^ a.atoms.length) 0
def frameF (a b:Asn):Option Asn:=if a.valid&&b.valid then (frM a b).map (pickA a) else none
theorem maskA_len (m:Nat):∀ (xs:List Atm) (i:Nat),(maskA m i xs).length≤xs.length
 | [],_=>Nat.le_refl _
 | x :: xs,i=>by
  unfold maskA;have:=maskA_len m xs (i+1)
  split
  ·simp only[List.length_cons];omega
  ·simp only[List.length_cons];omega
theorem maskA_mem {m:Nat} {x:Atm}:∀ {xs:List Atm} {i:Nat},x∈maskA m i xs→x∈xs
 | [],_,h=>h
 | y :: xs,i,h=>by
  unfold maskA at h
  split at h
  ·rcases List.mem_cons.1 h with rfl|h
   ·exact List.mem_cons_self
   ·exact List.mem_cons_of_mem _ (maskA_mem h)
  ·exact List.mem_cons_of_mem _ (maskA_mem h)
theorem pickA_valid {a:Asn} (h:a.valid=true) (m:Nat):(pickA a m).valid=true:=by
 simp only[Asn.valid,factsValid,Bool.and_eq_true,decide_eq_true_eq,List.all_eq_true] at h ⊢;exact ⟨⟨Nat.zero_le _,fun _ h=>by cases h⟩,Nat.le_trans (maskA_len m _ 0) h.2.1,fun x hx=>h.2.2 x (maskA_mem hx)⟩
theorem frB_star {a b:Asn} (ha:a.valid=true) (hb:b.valid=true) (m:Nat):frB a b m=((starF b (pickA a m)).isSome&&entF a ((starF b (pickA a m)).getD ⟨[],[]⟩)):=by
 unfold starF;rw[hb,pickA_valid ha];unfold frB;cases h:(starA b (pickA a m)).valid
 ·rw[show (true&&true&&false)=false from rfl];simp only[Bool.false_eq_true,if_false,Option.isSome_none,Bool.false_and];unfold entF;rw[h,Bool.and_false,Bool.false_and]
 ·rfl
theorem seekM_lt {p:Nat→Bool}:∀ {n m k:Nat},seekM p n m=some k→m≤k∧k<m+n∧p k=true
 | 0,_,_,h=>by cases h
 | n+1,m,k,h=>by
  unfold seekM at h
  split at h
  ·rename_i hp;injection h with h;subst h;exact ⟨Nat.le_refl _,by omega,hp⟩
  ·have:=seekM_lt h;exact ⟨by omega,by omega,this.2.2⟩
theorem seekM_step {p:Nat→Bool} {N k:Nat} (hk:k<N):seekM p (N - k) k=if p k then some k else seekM p (N - (k+1)) (k+1):=by
 rw[show N - k=(N - (k+1))+1 by omega,seekM]
theorem frame_some {a b f:Asn} (h:frameF a b=some f):a.valid=true∧b.valid=true∧∃ m,m<2 ^ a.atoms.length∧f=pickA a m∧frB a b m=true:=by
 unfold frameF at h
 split at h
 ·rename_i hv;rw[Bool.and_eq_true] at hv;obtain ⟨m,h1,h2⟩:=Option.map_eq_some_iff.1 h;have:=seekM_lt h1;exact ⟨hv.1,hv.2,m,by omega,h2.symm,this.2.2⟩
 ·cases h
theorem frame_valid {a b f:Asn} (h:frameF a b=some f):f.valid=true:=by
 obtain ⟨ha,-,m,-,rfl,-⟩:=frame_some h;exact pickA_valid ha m
/-! the filled atoms stay the same -/
/-! separated atoms describe themselves -/
def firstU (n i:Nat):List Bool:=List.replicate i true++List.replicate (n - i) false
/-! no further terms -/
def atermsL (a:Asn):List Int:=if a.valid then ((List.range 9).filter fun n=>(tset (termsL a)).testBit n).map fun n:Nat=>(n:Int) else []
end
section
open Go Go.RowKit Go.Proofs
attribute [local go_sem ↓] Go.wp_at_zero Go.wp_at_succ
theorem ofInt_i64m (a:Nat) (ha:a<9223372036854775808):(BitVec.ofInt 64 (a:Int)).toNat=a:=by
 rw[BitVec.ofInt_natCast,BitVec.toNat_ofNat];exact Nat.mod_eq_of_lt (by omega)
theorem i64_and_nat (a b:Nat) (ha:a<9223372036854775808) (hb:b<9223372036854775808):bits .and .i64 (a:Int) (b:Int)=((a &&& b:Nat):Int):=by
 have hx:a &&& b<2 ^ 63:=Nat.and_lt_two_pow _ (by omega);show IntKind.i64.wrap ((BitVec.ofInt 64 (a:Int) &&& BitVec.ofInt 64 (b:Int)).toNat:Int)=_;rw[BitVec.toNat_and,ofInt_i64m a ha,ofInt_i64m b hb];simp[IntKind.wrap,IntKind.bits,IntKind.signed];omega
theorem bit_at (m k:Nat) (hm:m<9223372036854775808):(bits .and .i64 ((m:Int) / 2 ^ k) 1 == 1)=m.testBit k:=by
 have e:((m:Int) / 2 ^ k)=((m / 2 ^ k:Nat):Int):=by simp
 have h:m / 2 ^ k<9223372036854775808:=Nat.lt_of_le_of_lt (Nat.div_le_self _ _) hm;rw[e,show (1:Int)=((1:Nat):Int) from rfl,i64_and_nat _ _ h (by decide),Nat.and_one_is_mod,Nat.testBit_eq_decide_div_mod_eq,Bool.eq_iff_iff];simp;omega
theorem maskA_snoc (m:Nat) (xs:List Atm) (k:Nat) (hk:k<xs.length):maskA m 0 (xs.take (k+1))=maskA m 0 (xs.take k)++if m.testBit k then [xs[k]] else []:=by
 have gen:∀ (ys:List Atm) (y:Atm) (i:Nat),maskA m i (ys++[y])=maskA m i ys++if m.testBit (i+ys.length) then [y] else []:=by
  intro ys y
  induction ys with
  | nil=>intro i;simp[maskA]
  | cons z zs ih=>
   intro i;simp only[List.cons_append,maskA,ih,List.length_cons];rw[show i+1+zs.length=i+(zs.length+1) by omega]
   split<;>simp
 rw[List.take_succ_eq_append_getElem hk,gen,List.length_take,Nat.zero_add,Nat.min_eq_left (by omega)]
theorem c_impl_pick {lo hi:Nat} (v:Value) (a:Asn) (m:Nat) (w:World) (h:AsnV w lo hi v a) (hm:m≤1000000) (hla:a.atoms.length≤60) :
  Calls Tryz.prog 200 #[v,.int .i64 m] w fun e w'=>∃ r,e=.returned r∧AsnO w' w.heap.size r (pickA a m)∧Below w.heap.size w w':=by
 obtain ⟨A1,c1,A2,c2,rfl,-,h2⟩:=h;have H2:=ax h2;have hl:=h2.le;clear h2;(go_enter Tryz.func200,Tryz.ntmps200);obtain ⟨-,k4,k5⟩:=blk3 w tAs tAs tAs #[.slice A1 a.facts.length c1,.slice A2 a.atoms.length c2] #[.slice none 0 0,.slice none 0 0] #[.slice none 0 0,.slice none 0 0];have HB:Hid (Below w.heap.size w (((w.alloc (.cells #[.slice A1 a.facts.length c1,.slice A2 a.atoms.length c2] tAs)).alloc (.cells #[.slice none 0 0,.slice none 0 0] tAs)).alloc (.cells #[.slice none 0 0,.slice none 0 0] tAs))):=ax bel;(go_wp2_with fail);generalize (((w.alloc (.cells #[.slice A1 a.facts.length c1,.slice A2 a.atoms.length c2] tAs)).alloc (.cells #[.slice none 0 0,.slice none 0 0] tAs)).alloc (.cells #[.slice none 0 0,.slice none 0 0] tAs))=W at k4 k5 HB ⊢
 go_loopw [11] (fun i wr=>∃ (k:Nat) (acc:List Atm) (A:Option Addr) (c:Nat),k≤a.atoms.length∧i=.int .i64 k∧Hid (acc=maskA m 0 (a.atoms.take k))∧acc.length≤k∧AtomsO wr (w.heap.size+1+1+1) (.slice A acc.length c) acc∧Blk wr (w.heap.size+1) tAs #[.slice none 0 0,.slice none 0 0]∧Blk wr (w.heap.size+1+1) tAs #[.slice none 0 0,.slice A acc.length c]∧Hid (Below w.heap.size w wr)) (fun i _=>a.atoms.length - (intOf i).toNat)
 case atStart=>exact ⟨0,[],none,0,Nat.zero_le _,rfl,by simp[Hid,maskA],Nat.le_refl _,AtomsO.nil _ _,k4,k5,HB⟩
 case round=>
  clear k4 k5 HB;obtain ⟨k,acc,A,c,hk,rfl,HACC,hal,of,k4,k5,HB⟩:=hrel;by_cases hlt:k<a.atoms.length
  ·obtain ⟨b,off,rfl,g0,g1,g2⟩:=(H2.out.below HB.out).at hlt;have hki:(k:Int)<(a.atoms.length:Int):=by omega
   have HS:=ax (maskA_snoc m a.atoms k hlt);obtain ⟨x,hx⟩:∃ x,x=a.atoms[k]:=⟨_,rfl⟩;rw[←hx] at g0 g1 g2 HS;have hbit:=bit_at m k (by omega);have hk64:min k 64=k:=by omega
   have hbx:Below wr.heap.size wr (wr.alloc (.cells #[.int .i64 x.kind,.int .i64 x.a,.int .i64 x.b] tA)):=bbox (Below.refl _ _) _;have k41:=k4.next hbx;have k51:=k5.next hbx;have l5:=k51.lt;have HB1:=ax (bgo HB.out hbx);have of1:=of.below hbx;clear hx;cases hb:m.testBit k
   ·rw[hb] at hbit;have HA2:Hid (acc=maskA m 0 (a.atoms.take (k+1))):=ax (by rw[HS.out,hb,←HACC.out];simp);clear hb HS;(replace qk51:=k51.z);(go_wp2_with fail)
    go_round
    case rel=>exact ⟨k+1,acc,A,c,by omega,by go_num,HA2,by omega,of1,k41,k51,HB1⟩
    case measure=>simp[intOf];omega
   ·rw[hb] at hbit;have HA2:Hid (acc++[x]=maskA m 0 (a.atoms.take (k+1))):=ax (by rw[HS.out,hb,←HACC.out];simp);clear hb HS;have kx:=Blk.new wr tA #[.int .i64 x.kind,.int .i64 x.a,.int .i64 x.b];have hz1:(wr.alloc (.cells #[.int .i64 x.kind,.int .i64 x.a,.int .i64 x.b] tA)).heap.size=wr.heap.size+1:=by simp
    have hzB:=HB.out.size;have hl0:=k5.lt;(replace qk41:=k41.z;replace qk51:=k51.z;replace qkx:=kx.z);(go_wp2_with (at_builtin;refine appAL (ys:=[x]) rfl _ _ rfl (v:=.slice A acc.length c) rfl (of1.below (bbox (Below.refl _ _) _)) rfl (AtomsV.one (f:=x) (Blk.newE (by simp))) (by simp;omega) (by simp;omega) ?_;intro A' c' w5 of2 hg2 hB5;have z5:=Blk.grownO (g:=w.heap.size+1+1) (k51.alloc _) (of1.below (bbox (Below.refl _ _) _)).1 hg2 (by decide);have z4:=Blk.grownO (g:=w.heap.size+1) (k41.alloc _) (of1.below (bbox (Below.refl _ _) _)).1 hg2 (by decide);have z5c:=z5.cell;have z5f:=z5.frozen;have z5l:=z5.lt))
    go_round
    case rel=>
     refine ⟨k+1,acc++[x],A',c',by omega,by go_num,HA2,by simp;omega,?_,z4.far (by simp only[];omega) _,?_,?_⟩
     ·simpa using of2.setT z5 (by decide) _ _
     ·simpa using z5.set_ 1 (.slice A' (acc.length+1) c')
     ·have hb5:=hB5.mono (show w.heap.size≤w.heap.size+1+1+1 by omega);exact ax (((bbox HB1.out _).trans hb5).setCell (p:=⟨w.heap.size+1+1,1,none⟩) (by simp only;omega) _)
    case measure=>simp[intOf];omega
  ·obtain rfl:k=a.atoms.length:=by omega
   have hacc:acc=maskA m 0 a.atoms:=by have:=HACC.out;rwa [List.take_length] at this
   subst hacc;have hBl:=HB.out;(replace qk4:=k4.cell;replace rk4:=k4.frozen;replace lk4:=k4.lt;replace qk5:=k5.z);(go_wp2_with fail);refine bodyPost_ret (v:=.agg #[.slice none 0 0,.slice A (maskA m 0 a.atoms).length c]) (by simp[results,Tryz.results200,go_sem,qk4,lk4]) rfl ⟨_,rfl,⟨_,_,rfl,FactsO.nil _ _,?_⟩,?_⟩
   ·exact ((of.setT k4 (by decide) 0 _).setT (k4.set_ 0 _) (by decide) 1 _).lower (by omega)
   ·exact ((hBl.setCell (p:=⟨w.heap.size+1,0,none⟩) (by simp only;omega) _).setCell (p:=⟨w.heap.size+1,1,none⟩) (by simp only;omega) _)
theorem AsnO.setW {w:World} {base:Nat} {v:Value} {a:Asn} (h:AsnO w base v a) {g:Nat} {cs:Array Value} (hk:Blk w g tAs cs) (u0 u1:Value):AsnO ((w.setCell ⟨g,0,none⟩ u0).setCell ⟨g,1,none⟩ u1) base v a:=by
 obtain ⟨fv,av,e,p1,p2⟩:=h;have k1:=hk.set_ 0 u0;exact ⟨fv,av,e,(p1.setT hk (by decide) _ _).setT k1 (by decide) _ _,(p2.setT hk (by decide) _ _).setT k1 (by decide) _ _⟩
theorem c_frClo {lo hi lo' hi':Nat} (g g':Nat) (a b:Asn) (A1 A2 A3 A4:Option Addr) (c1 c2 c3 c4 m:Nat) (w:World) (ha:AsnV w lo hi (.agg #[.slice A1 a.facts.length c1,.slice A2 a.atoms.length c2]) a) (hb:AsnV w lo' hi' (.agg #[.slice A3 b.facts.length c3,.slice A4 b.atoms.length c4]) b) (hhi:hi≤w.heap.size) (hv:a.valid=true) (hv':b.valid=true) (hm:m≤1000000)
  (k1:Blk w g tAs #[.slice A1 a.facts.length c1,.slice A2 a.atoms.length c2]) (k2:Blk w g' tAs #[.slice A3 b.facts.length c3,.slice A4 b.atoms.length c4]) :
  Calls Tryz.prog 199 #[.int .i64 m,.pointer (some ⟨g',0,none⟩),.pointer (some ⟨g,0,none⟩)] w fun e w'=>e=.returned (.bool (frB a b m))∧Below w.heap.size w w':=by
 have HA:=ax ha;have HB:=ax hb;have HE:=ax (frB_star hv hv' m);have hla:=(valid_len hv).2;obtain ⟨fb,hfb⟩:∃ x,x=frB a b m:=⟨_,rfl⟩;obtain ⟨P,hP⟩:∃ P,P=pickA a m:=⟨_,rfl⟩;obtain ⟨q,hq⟩:∃ q,q=(starF b (pickA a m)).isSome:=⟨_,rfl⟩;obtain ⟨C,hC⟩:∃ C,C=(starF b (pickA a m)).getD ⟨[],[]⟩:=⟨_,rfl⟩;rw[←hfb,←hq,←hC] at HE;rw[←hfb];have CS:Hid (∀ {lo hi lo' hi':Nat} (v v':Value) (W:World),AsnV W lo hi v b→AsnV W lo' hi' v' P→Calls Tryz.prog 41 #[v,v'] W fun e w'=>∃ r,e=.returned (.tuple #[r,.bool q])∧AsnO w' W.heap.size r C∧Below W.heap.size W w'):=ax fun v v' W h1 h2=>by rw[hq,hC,←hP];exact c_impl_Star v v' b P W h1 h2
 have CP:Hid (∀ {lo hi:Nat} (v:Value) (W:World),AsnV W lo hi v a→Calls Tryz.prog 200 #[v,.int .i64 m] W fun e w'=>∃ r,e=.returned r∧AsnO w' W.heap.size r P∧Below W.heap.size W w'):=ax fun v W h=>by rw[hP];exact c_impl_pick v a m W h hm (by omega)
 clear hfb hP hq hC hv hv' ha hb;have hlg:=k1.lt;have hlg':=k2.lt;(go_enter Tryz.func199,Tryz.ntmps199);have q1:=k1.cell;have q2:=k2.cell;(go_upto_region 1 with fail)
 go_cut [5,6] (fun s5 s6 wc=>∃ (x:Nat) (F:Option Addr) (f:Nat) (G:Option Addr) (e:Nat),s5=.pointer (some ⟨x,0,none⟩)∧s6=.bool q∧Blk wc x tAs #[.slice F C.facts.length f,.slice G C.atoms.length e]∧AsnV wc 0 wc.heap.size (.agg #[.slice F C.facts.length f,.slice G C.atoms.length e]) C∧Hid (Below w.heap.size w wc))
 case first=>
  (go_wp2_with fail);refine wp_region_noPanic ?_;refine wp_region_held_drew (S:=(fun w'=>(∀ j,w'.cell? ⟨g',j,none⟩=#[.slice A3 b.facts.length c3,.slice A4 b.atoms.length c4][j]?)∧(∀ j,w'.cell? ⟨g,j,none⟩=#[.slice A1 a.facts.length c1,.slice A2 a.atoms.length c2][j]?))) (by kernel_rfl) (⟨k2.drew.cell,k1.drew.cell⟩) (fun aH=>?_);have hB0:Below w.heap.size w w.drew:=(Below.refl _ _).drew;refine tk2 0 rfl aH (h:=tk2 1 rfl aH (h:=tk2 2 rfl aH (h:=?_)));(try simp only[zz]);refine wpAnyH_ready (rs:=[3,8]) (by kernel_rfl) (by simp) (AllReadyH.cons rfl (fun K hK=>?_) (AllReadyH.cons rfl (fun K hK=>?_) AllReadyH.nil))
  ·(try simp only[zz]);(go_simp;refine (CP.out _ _ (HA.out.below hB0)).mono ?_;rintro e w1 ⟨r1,rfl,o1,hB1⟩;obtain ⟨F1,f1,G1,e1,rfl⟩:=o1.I.form;replace hB1:Below w.heap.size w w1:=bgo hB0 hB1);refine hK.out _ _ (⟨(k2.next hB1).cell,(k1.next hB1).cell⟩) ?_;clear aH hK K;intro aH;(try simp only[zz]);have hP1:=o1.reads;refine wpAnyH_ready (rs:=[4,8]) (by kernel_rfl) (by simp) (AllReadyH.cons rfl (fun K hK=>?_) (AllReadyH.cons rfl (fun K hK=>?_) AllReadyH.nil))
   ·(try simp only[zz]);(go_simp;refine (CS.out _ _ _ (HB.out.below hB1) hP1).mono ?_;rintro e w2 ⟨r2,rfl,o2,hB2⟩;obtain ⟨F,f,G,e,rfl⟩:=o2.I.form;replace hB2:Below w.heap.size w w2:=bgo hB1 hB2);refine hK.out _ _ (⟨(k2.next hB2).cell,(k1.next hB2).cell⟩) ?_;clear aH hK K;intro aH;(try simp only[zz]);refine tk2 5 rfl aH (h:=tk2 6 rfl aH (h:=tk2 7 rfl aH (h:=?_)));(try simp only[zz]);refine rdc 8 rfl fun K hK=>?_;(try simp only[zz]);go_simp;refine hK.out _ _ (⟨(k2.next (bbox hB2 (.cells #[.slice none 0 0,.slice none 0 0] tAs))).cell,(k1.next (bbox hB2 (.cells #[.slice none 0 0,.slice none 0 0] tAs))).cell⟩) ?_;clear aH hK K;intro aH;(try simp only[zz]);refine rdc 9 rfl fun K hK=>?_;(try simp only[zz]);go_simp;refine hK.out _ _ (⟨(k2.next (bbox hB2 (.cells #[.slice F C.facts.length f,.slice G C.atoms.length e] tAs))).cell,(k1.next (bbox hB2 (.cells #[.slice F C.facts.length f,.slice G C.atoms.length e] tAs))).cell⟩) ?_;clear aH hK K;intro aH;(try simp only[zz]);refine tk2 10 rfl aH (h:=?_);(try simp only[zz]);refine wpAnyH_done (by kernel_rfl) ?_ _;refine NoPanic.normal ?_;(go_wp2_with fail);go_meet
    case rel=>exact ⟨w2.heap.size,F,f,G,e,rfl,rfl,Blk.new _ _ _,(o2.reads.below (bbox (Below.refl _ _) _)).mono (Nat.zero_le _) (by simp),ax (bbox hB2 _)⟩
   ·(try simp only[zz]);go_simp;refine hK.out _ _ (⟨(k2.next (bbox hB1 (.cells #[.slice none 0 0,.slice none 0 0] tAs))).cell,(k1.next (bbox hB1 (.cells #[.slice none 0 0,.slice none 0 0] tAs))).cell⟩) ?_;clear aH hK K;intro aH;(try simp only[zz]);have kb:=Blk.new w1 tAs #[.slice none 0 0,.slice none 0 0];have hb:=bbox hB1 (.cells #[.slice none 0 0,.slice none 0 0] tAs);have hP2:=hP1.below (bbox (Below.refl _ w1) (.cells #[.slice none 0 0,.slice none 0 0] tAs));refine rdc 4 rfl fun K hK=>?_;(try simp only[zz]);(go_simp;refine (CS.out _ _ _ (HB.out.below hb) hP2).mono ?_;rintro e w2 ⟨r2,rfl,o2,hB2⟩;obtain ⟨F,f,G,e,rfl⟩:=o2.I.form;have kb2:=kb.next hB2;replace hB2:Below w.heap.size w w2:=bgo hb hB2);refine hK.out _ _ (⟨(k2.next hB2).cell,(k1.next hB2).cell⟩) ?_;clear aH hK K;intro aH;(try simp only[zz]);refine tk2 5 rfl aH (h:=tk2 6 rfl aH (h:=tk2 7 rfl aH (h:=?_)));(try simp only[zz]);have hlb:=kb2.lt;have ql:=kb2.cell;have rl:=kb2.frozen;have hle:w.heap.size≤w1.heap.size:=by first|exact Nat.le_refl _|exact hB1.size
    have hn1:g≠w1.heap.size:=by omega
    have hn2:g'≠w1.heap.size:=by omega
    refine rdc 9 rfl fun K hK=>?_;(try simp only[zz]);go_simp;refine hK.out _ _ (⟨(((k2.next hB2).far (p:=⟨w1.heap.size,0,none⟩) (fun e=>hn2 e) (.slice F C.facts.length f)).far (p:=⟨w1.heap.size,1,none⟩) (fun e=>hn2 e) (.slice G C.atoms.length e)).cell,(((k1.next hB2).far (p:=⟨w1.heap.size,0,none⟩) (fun e=>hn1 e) (.slice F C.facts.length f)).far (p:=⟨w1.heap.size,1,none⟩) (fun e=>hn1 e) (.slice G C.atoms.length e)).cell⟩) ?_;clear aH hK K;intro aH;(try simp only[zz]);refine tk2 10 rfl aH (h:=?_);(try simp only[zz]);refine wpAnyH_done (by kernel_rfl) ?_ _;refine NoPanic.normal ?_;(go_wp2_with fail);go_meet
    case rel=>exact ⟨w1.heap.size,F,f,G,e,rfl,rfl,(kb2.set_ 0 (.slice F C.facts.length f)).set_ 1 (.slice G C.atoms.length e),(AsnO.setW o2 kb2 _ _).reads.mono (Nat.zero_le _) (by simp),ax ((hB2.setCell (p:=⟨w1.heap.size,0,none⟩) hle _).setCell (p:=⟨w1.heap.size,1,none⟩) hle _)⟩
  ·(try simp only[zz]);go_simp;refine hK.out _ _ (⟨(k2.next (bbox hB0 (.cells #[.slice none 0 0,.slice none 0 0] tAs))).cell,(k1.next (bbox hB0 (.cells #[.slice none 0 0,.slice none 0 0] tAs))).cell⟩) ?_;clear aH hK K;intro aH;(try simp only[zz]);have kb:Blk (w.drew.alloc (.cells #[.slice none 0 0,.slice none 0 0] tAs)) w.heap.size tAs #[.slice none 0 0,.slice none 0 0]:=Blk.new w.drew _ _;have hb:=bbox hB0 (.cells #[.slice none 0 0,.slice none 0 0] tAs);refine rdc 3 rfl fun K hK=>?_;(try simp only[zz]);(go_simp;refine (CP.out _ _ (HA.out.below hb)).mono ?_;rintro e w1 ⟨r1,rfl,o1,hB1⟩;obtain ⟨F1,f1,G1,e1,rfl⟩:=o1.I.form;have kb1:=kb.next hB1;replace hB1:Below w.heap.size w w1:=bgo hb hB1);refine hK.out _ _ (⟨(k2.next hB1).cell,(k1.next hB1).cell⟩) ?_;clear aH hK K;intro aH;(try simp only[zz]);have hP1:=o1.reads;refine rdc 4 rfl fun K hK=>?_;(try simp only[zz]);(go_simp;refine (CS.out _ _ _ (HB.out.below hB1) hP1).mono ?_;rintro e w2 ⟨r2,rfl,o2,hB2⟩;obtain ⟨F,f,G,e,rfl⟩:=o2.I.form;have kb2:=kb1.next hB2;replace hB2:Below w.heap.size w w2:=bgo hB1 hB2);refine hK.out _ _ (⟨(k2.next hB2).cell,(k1.next hB2).cell⟩) ?_;clear aH hK K;intro aH;(try simp only[zz]);refine tk2 5 rfl aH (h:=tk2 6 rfl aH (h:=tk2 7 rfl aH (h:=?_)));(try simp only[zz]);have hlb:=kb2.lt;have ql:=kb2.cell;have rl:=kb2.frozen;have hle:w.heap.size≤w.heap.size:=by first|exact Nat.le_refl _|exact hB1.size
   have hn1:g≠w.heap.size:=by omega
   have hn2:g'≠w.heap.size:=by omega
   refine rdc 9 rfl fun K hK=>?_;(try simp only[zz]);go_simp;refine hK.out _ _ (⟨(((k2.next hB2).far (p:=⟨w.heap.size,0,none⟩) (fun e=>hn2 e) (.slice F C.facts.length f)).far (p:=⟨w.heap.size,1,none⟩) (fun e=>hn2 e) (.slice G C.atoms.length e)).cell,(((k1.next hB2).far (p:=⟨w.heap.size,0,none⟩) (fun e=>hn1 e) (.slice F C.facts.length f)).far (p:=⟨w.heap.size,1,none⟩) (fun e=>hn1 e) (.slice G C.atoms.length e)).cell⟩) ?_;clear aH hK K;intro aH;(try simp only[zz]);refine tk2 10 rfl aH (h:=?_);(try simp only[zz]);refine wpAnyH_done (by kernel_rfl) ?_ _;refine NoPanic.normal ?_;(go_wp2_with fail);go_meet
   case rel=>exact ⟨w.heap.size,F,f,G,e,rfl,rfl,(kb2.set_ 0 (.slice F C.facts.length f)).set_ 1 (.slice G C.atoms.length e),(AsnO.setW o2 kb2 _ _).reads.mono (Nat.zero_le _) (by simp),ax ((hB2.setCell (p:=⟨w.heap.size,0,none⟩) hle _).setCell (p:=⟨w.heap.size,1,none⟩) hle _)⟩
 case rest=>
  obtain ⟨x,F,f,G,e,rfl,rfl,kx,hC,hB⟩:=hcut;have kg:=k1.next hB.out;have hzB:=hB.out.size;(replace qkx:=kx.z;replace qkg:=kg.z);cases q
  ·have E:fb=false:=by rw[HE.out];rfl
   (go_wp2_with fail);go_ret;exact ⟨ret_bool E.symm,hB.out⟩
  ·have E:Hid (fb=entF a C):=by show _=_;rw[HE.out];rfl
   (go_wp2_with fail);refine (c_impl_Entails _ _ a C _ (HA.out.below hB.out) hC (by omega) (Nat.le_refl _)).mono ?_;rintro e w2 ⟨rfl,hB2⟩;rw[←E.out];(go_wp2_with fail);go_ret;exact ⟨rfl,bgo hB.out hB2⟩
theorem c_frLeast {lo hi lo' hi':Nat} (g g':Nat) (a b:Asn) (A1 A2 A3 A4:Option Addr) (c1 c2 c3 c4:Nat) (w:World) (ha:AsnV w lo hi (.agg #[.slice A1 a.facts.length c1,.slice A2 a.atoms.length c2]) a) (hb:AsnV w lo' hi' (.agg #[.slice A3 b.facts.length c3,.slice A4 b.atoms.length c4]) b) (hhi:hi≤w.heap.size) (hv:a.valid=true) (hv':b.valid=true)
  (k1:Blk w g tAs #[.slice A1 a.facts.length c1,.slice A2 a.atoms.length c2]) (k2:Blk w g' tAs #[.slice A3 b.facts.length c3,.slice A4 b.atoms.length c4]) :
  Calls Tryz.prog 198 #[.int .i64 a.atoms.length,.func (.func 199) #[] #[.pointer (some ⟨g',0,none⟩),.pointer (some ⟨g,0,none⟩)]] w fun e w'=>e=.returned (.tuple #[.int .i64 ((frM a b).getD 0:Nat),.bool (frM a b).isSome])∧Below w.heap.size w w':=by
 have HA:=ax ha;have HB:=ax hb;have hla:=(valid_len hv).2;have HV:=ax hv;have HV':=ax hv';have K1:=ax k1;have K2:=ax k2;obtain ⟨n,hn⟩:∃ n,n=a.atoms.length:=⟨_,rfl⟩;obtain ⟨N,hN⟩:∃ N:Nat,N=2 ^ n:=⟨_,rfl⟩;have hN64:N≤64:=by rw[hN];exact Nat.pow_le_pow_right (n:=2) (by decide) (show n≤6 by omega)
 have HM:Hid (frM a b=seekM (frB a b) (N - 0) 0):=ax (by rw[hN,hn];rfl);have hp:(2:Int) ^ n=(N:Int):=by rw[hN];simp
 have hn64:min n 64=n:=by omega
 rw[←hn] at hla;replace hN:=ax hN;clear ha hb hv hv' k1 k2;(go_enter Tryz.func198,Tryz.ntmps198);rw[←hn];replace hn:=ax hn;(go_wp2_with fail)
 go_loopw [6] (fun i wr=>∃ k:Nat,k≤N∧i=.int .i64 k∧Hid (frM a b=seekM (frB a b) (N - k) k)∧Hid (Below w.heap.size w wr)) (fun i _=>N - (intOf i).toNat)
 case atStart=>exact ⟨0,Nat.zero_le _,rfl,HM,ax (Below.refl _ _)⟩
 case round=>
  clear HM;obtain ⟨k,hk,rfl,HM,hB⟩:=hrel;by_cases hlt:k<N
  ·have hki:(k:Int)<(N:Int):=by omega
   (go_wp2_with fail);refine (c_frClo g g' a b A1 A2 A3 A4 c1 c2 c3 c4 k wr (HA.out.below hB.out) (HB.out.below hB.out) (by have:=hB.out.size;omega) HV.out HV'.out (by omega) (K1.out.next hB.out) (K2.out.next hB.out)).mono ?_;rintro e w1 ⟨rfl,hB1⟩;have hBw:=ax (bgo hB.out hB1);have HS:Hid (frM a b=if frB a b k then some k else seekM (frB a b) (N - (k+1)) (k+1)):=ax (by rw[HM.out,seekM_step hlt]);clear hB1;cases hp:frB a b k
   ·have HM2:Hid (frM a b=seekM (frB a b) (N - (k+1)) (k+1)):=ax (by rw[HS.out,hp];rfl);clear hp HM HS;(go_wp2_with fail)
    go_round
    case rel=>exact ⟨k+1,by omega,by go_num,HM2,hBw⟩
    case measure=>simp[intOf];omega
   ·have E:Hid (frM a b=some k):=ax (by rw[HS.out,hp];rfl);clear hp HM HS;(go_wp2_with fail);go_ret2;exact ⟨by rw[E.out];rfl,hBw.out⟩
  ·obtain rfl:k=N:=by omega
   have E:Hid (frM a b=none):=ax (by rw[HM.out,Nat.sub_self];rfl);(go_wp2_with fail);go_ret2;exact ⟨by rw[E.out];rfl,hB.out⟩
theorem frame_none1 {a b:Asn} (h:a.valid=false):frameF a b=none:=by unfold frameF;rw[h];rfl
theorem frame_none2 {a b:Asn} (h:a.valid=true) (h':b.valid=false):frameF a b=none:=by unfold frameF;rw[h,h'];rfl
theorem frame_map {a b:Asn} (h:a.valid=true) (h':b.valid=true):frameF a b=(frM a b).map (pickA a):=by unfold frameF;rw[h,h'];rfl
theorem c_impl_FrameOf {lo hi lo' hi':Nat} (v v':Value) (a b:Asn) (w:World) (h:AsnV w lo hi v a) (h':AsnV w lo' hi' v' b) (hhi:hi≤w.heap.size) :
  Calls Tryz.prog 139 #[v,v'] w fun e w'=>∃ r,e=.returned (.tuple #[r,.bool (frameF a b).isSome])∧AsnO w' w.heap.size r ((frameF a b).getD ⟨[],[]⟩)∧Below w.heap.size w w':=by
 have HA:=ax h;have HB:=ax h';obtain ⟨A1,c1,A2,c2,rfl,-,-⟩:=h;obtain ⟨A3,c3,A4,c4,rfl,-,-⟩:=h';have H1:=ax (@frame_none1 a b);have H2:=ax (@frame_none2 a b);have H3:=ax (@frame_map a b);obtain ⟨k1,k2,k4⟩:=blk3 w tAs tAs tAs #[.slice A1 a.facts.length c1,.slice A2 a.atoms.length c2] #[.slice A3 b.facts.length c3,.slice A4 b.atoms.length c4] #[.slice none 0 0,.slice none 0 0];have hB:Below w.heap.size w (((w.alloc (.cells #[.slice A1 a.facts.length c1,.slice A2 a.atoms.length c2] tAs)).alloc (.cells #[.slice A3 b.facts.length c3,.slice A4 b.atoms.length c4] tAs)).alloc (.cells #[.slice none 0 0,.slice none 0 0] tAs)):=bel;(go_enter Tryz.func139,Tryz.ntmps139);(go_upto_region 1 with fail);generalize (((w.alloc (.cells #[.slice A1 a.facts.length c1,.slice A2 a.atoms.length c2] tAs)).alloc (.cells #[.slice A3 b.facts.length c3,.slice A4 b.atoms.length c4] tAs)).alloc (.cells #[.slice none 0 0,.slice none 0 0] tAs))=W at k1 k2 k4 hB ⊢;(replace qk1:=k1.z;replace qk2:=k2.z;replace qk4:=k4.cell;replace rk4:=k4.frozen;replace lk4:=k4.lt);(go_wp2_with fail);refine (c_impl_AssertionValid _ a _ (HA.out.below hB)).mono ?_;rintro e w1 ⟨rfl,hB1⟩;(replace hB:=bgo hB hB1;replace k1:=k1.next hB1;replace qk1:=k1.z;replace k2:=k2.next hB1;replace qk2:=k2.z;replace k4:=k4.next hB1;replace qk4:=k4.cell;replace rk4:=k4.frozen;replace lk4:=k4.lt);clear hB1;cases ha:a.valid
 ·have E:=ax (H1.out ha);clear ha H1 H2 H3;(go_wp2_with fail);refine bodyPost_ret (v:=.tuple #[.agg #[.slice none 0 0,.slice none 0 0],.bool false]) (by simp[results,Tryz.results139,go_sem,qk4,lk4]) rfl ⟨_,by rw[E.out];rfl,by rw[E.out];exact AsnO.zero _ _,bel⟩
 have HV:=ax ha;clear ha;(go_wp2_with fail);refine (c_impl_AssertionValid _ b _ (HB.out.below hB)).mono ?_;rintro e w2 ⟨rfl,hB2⟩;(replace hB:=bgo hB hB2;replace k1:=k1.next hB2;replace qk1:=k1.z;replace k2:=k2.next hB2;replace qk2:=k2.z;replace k4:=k4.next hB2;replace qk4:=k4.cell;replace rk4:=k4.frozen;replace lk4:=k4.lt);clear hB2;cases hb:b.valid
 ·have E:=ax (H2.out HV.out hb);clear hb H1 H2 H3;(go_wp2_with fail);refine bodyPost_ret (v:=.tuple #[.agg #[.slice none 0 0,.slice none 0 0],.bool false]) (by simp[results,Tryz.results139,go_sem,qk4,lk4]) rfl ⟨_,by rw[E.out];rfl,by rw[E.out];exact AsnO.zero _ _,bel⟩
 have HV':=ax hb;have E:=ax (H3.out HV.out HV'.out);have hla:=(valid_len HV.out).2;clear hb H1 H2 H3;(go_wp2_with fail);refine (c_frLeast _ _ a b A1 A2 A3 A4 c1 c2 c3 c4 _ (HA.out.below hB) (HB.out.below hB) (by have:=hB.size;omega) HV.out HV'.out k1 k2).mono ?_;rintro e w3 ⟨rfl,hB3⟩;have hz:=hB.size;(replace hB:=bgo hB hB3;replace k1:=k1.next hB3;replace qk1:=k1.z;replace k2:=k2.next hB3;replace qk2:=k2.z;replace k4:=k4.next hB3;replace qk4:=k4.cell;replace rk4:=k4.frozen;replace lk4:=k4.lt);clear hB3
 cases hm:frM a b with
 | none=>
  rw[hm] at E;clear hm;(go_wp2_with fail);refine bodyPost_ret (v:=.tuple #[.agg #[.slice none 0 0,.slice none 0 0],.bool false]) (by simp[results,Tryz.results139,go_sem,qk4,lk4]) rfl ⟨_,by rw[E.out];rfl,by rw[E.out];exact AsnO.zero _ _,bel⟩
 | some m=>
  rw[hm] at E
  have hm64:m≤1000000:=by
   have h1:=(seekM_lt hm).2.1;have h2:2 ^ a.atoms.length≤2 ^ 6:=Nat.pow_le_pow_right (by decide) hla;omega
  clear hm;(go_wp2_with fail);refine (c_impl_pick _ a m _ (HA.out.below hB) hm64 (by omega)).mono ?_;rintro e w4 ⟨r,rfl,o,hB4⟩;have hz4:=hB.size;(replace hB:=bgo hB hB4;replace k4:=k4.next hB4;replace qk4:=k4.cell;replace rk4:=k4.frozen;replace lk4:=k4.lt);clear hB4 k1 k2 qk1 qk2;obtain ⟨F,f,G,g,rfl⟩:=o.I.form;have O:=ax o;clear o;(go_wp2_with fail);refine bodyPost_ret (v:=.tuple #[.agg #[.slice F (pickA a m).facts.length f,.slice G (pickA a m).atoms.length g],.bool true]) (by simp[results,Tryz.results139,go_sem,qk4,lk4]) rfl ⟨_,by rw[E.out];rfl,?_,bel⟩;rw[E.out];exact (AsnO.setW O.out k4 _ _).lower (by omega)
end
end Go.Proofs.YtgdfdmjnadnlnaaGreat
