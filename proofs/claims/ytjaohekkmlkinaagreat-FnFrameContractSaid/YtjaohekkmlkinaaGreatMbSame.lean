/- Frames: impl. -/
import Derived.Test.YtjaohekkmlkinaaGreatMbModel
import Derived.Deep.DeepCutAuto
import Derived.Deep.LoopGhost
set_option linter.unusedSimpArgs false
set_option linter.unusedVariables false
set_option maxRecDepth 100000
set_option maxHeartbeats 25600000
namespace Go.Proofs.YtjaohekkmlkinaaGreat
section
open Go Go.RowKit Go.Proofs
attribute [local go_sem ↓] Go.wp_at_zero Go.wp_at_succ
theorem ofInt_i64m (a:Nat) (ha:a<9223372036854775808):(BitVec.ofInt 64 (a:Int)).toNat=a:=by
 rw[BitVec.ofInt_natCast,BitVec.toNat_ofNat];exact Nat.mod_eq_of_lt (by omega)
theorem i64_and_nat (a b:Nat) (ha:a<9223372036854775808) (hb:b<9223372036854775808):bits .and .i64 (a:Int) (b:Int)=((a &&& b:Nat):Int):=by
 have hx:a &&& b<2 ^ 63:=Nat.and_lt_two_pow _ (by omega);show IntKind.i64.wrap ((BitVec.ofInt 64 (a:Int) &&& BitVec.ofInt 64 (b:Int)).toNat:Int)=_;rw[BitVec.toNat_and,ofInt_i64m a ha,ofInt_i64m b hb];simp[IntKind.wrap,IntKind.bits,IntKind.signed];omega
theorem bit_at (m k:Nat) (hm:m<9223372036854775808):(bits .and .i64 ((m:Int) / 2 ^ k) 1 == 1)=m.testBit k:=by
 have e:((m:Int) / 2 ^ k)=((m / 2 ^ k:Nat):Int):=by simp
 have h:m / 2 ^ k<9223372036854775808:=Nat.lt_of_le_of_lt (Nat.div_le_self _ _) hm;rw[e,show (1:Int)=((1:Nat):Int) from rfl,i64_and_nat _ _ h (by decide),Nat.and_one_is_mod,Nat.testBit_eq_decide_div_mod_eq,Bool.eq_iff_iff];simp;omega
theorem maskA_snoc (m:Nat) (xs:List Atm) (k:Nat) (hk:k<xs.length):maskA m 0 (xs.take (k+1))=maskA m 0 (xs.take k)++if m.testBit k then [xs[k]] else []:=by
 have gen:∀ (ys:List Atm) (y:Atm) (i:Nat),maskA m i (ys++[y])=maskA m i ys++if m.testBit (i+ys.length) then [y] else []:=by
  intro ys y
  induction ys with
  | nil=>intro i;simp[maskA]
  | cons z zs ih=>
   intro i;simp only[List.cons_append,maskA,ih,List.length_cons];rw[show i+1+zs.length=i+(zs.length+1) by omega]
   split<;>simp
 rw[List.take_succ_eq_append_getElem hk,gen,List.length_take,Nat.zero_add,Nat.min_eq_left (by omega)]
theorem c_impl_pick {lo hi:Nat} (v:Value) (a:Asn) (m:Nat) (w:World) (h:AsnV w lo hi v a) (hm:m≤1000000) (hla:a.atoms.length≤60) :
  Calls Tryz.prog 115 #[v,.int .i64 m] w fun e w'=>∃ r,e=.returned r∧AsnO w' w.heap.size r (pickA a m)∧Below w.heap.size w w':=by
 obtain ⟨A1,c1,A2,c2,rfl,-,h2⟩:=h;have H2:=ax h2;have hl:=h2.le;clear h2;(go_enter Tryz.func115,Tryz.ntmps115);obtain ⟨-,k4,k5⟩:=blk3 w tAs tAs tAs #[.slice A1 a.facts.length c1,.slice A2 a.atoms.length c2] #[.slice none 0 0,.slice none 0 0] #[.slice none 0 0,.slice none 0 0];have HB:aJ (Below w.heap.size w (((w.alloc (.cells #[.slice A1 a.facts.length c1,.slice A2 a.atoms.length c2] tAs)).alloc (.cells #[.slice none 0 0,.slice none 0 0] tAs)).alloc (.cells #[.slice none 0 0,.slice none 0 0] tAs))):=ax bel;(go_wp2_with fail);generalize (((w.alloc (.cells #[.slice A1 a.facts.length c1,.slice A2 a.atoms.length c2] tAs)).alloc (.cells #[.slice none 0 0,.slice none 0 0] tAs)).alloc (.cells #[.slice none 0 0,.slice none 0 0] tAs))=W at k4 k5 HB ⊢
 go_loopw [11] (fun i wr=>∃ (k:Nat) (acc:List Atm) (A:Option Addr) (c:Nat),k≤a.atoms.length∧i=.int .i64 k∧aJ (acc=maskA m 0 (a.atoms.take k))∧acc.length≤k∧AtomsO wr (w.heap.size+1+1+1) (.slice A acc.length c) acc∧Blk wr (w.heap.size+1) tAs #[.slice none 0 0,.slice none 0 0]∧Blk wr (w.heap.size+1+1) tAs #[.slice none 0 0,.slice A acc.length c]∧aJ (Below w.heap.size w wr)) (fun i _=>a.atoms.length - (intOf i).toNat)
 case atStart=>exact ⟨0,[],none,0,Nat.zero_le _,rfl,by simp[aJ,maskA],Nat.le_refl _,AtomsO.nil _ _,k4,k5,HB⟩
 case round=>
  clear k4 k5 HB;obtain ⟨k,acc,A,c,hk,rfl,HACC,hal,of,k4,k5,HB⟩:=hrel;by_cases hlt:k<a.atoms.length
  ·obtain ⟨b,off,rfl,g0,g1,g2⟩:=(H2.o.bz HB.o).at hlt;have hki:(k:Int)<(a.atoms.length:Int):=by omega
   have HS:=ax (maskA_snoc m a.atoms k hlt);obtain ⟨x,hx⟩:∃ x,x=a.atoms[k]:=⟨_,rfl⟩;rw[←hx] at g0 g1 g2 HS;have hbit:=bit_at m k (by omega);have hk64:min k 64=k:=by omega
   have hbx:Below wr.heap.size wr (wr.alloc (.cells #[.int .i64 x.kind,.int .i64 x.a,.int .i64 x.b] tA)):=bbox (Below.refl _ _) _;have k41:=k4.nz hbx;have k51:=k5.nz hbx;have l5:=k51.lt;have HB1:=ax (bgo HB.o hbx);have of1:=of.bz hbx;clear hx;cases hb:m.testBit k
   ·rw[hb] at hbit;have HA2:aJ (acc=maskA m 0 (a.atoms.take (k+1))):=ax (by rw[HS.o,hb,←HACC.o];simp);clear hb HS;(replace qk51:=k51.z);(go_wp2_with fail)
    go_round
    case rel=>exact ⟨k+1,acc,A,c,by omega,by go_num,HA2,by omega,of1,k41,k51,HB1⟩
    case measure=>simp[intOf];omega
   ·rw[hb] at hbit;have HA2:aJ (acc++[x]=maskA m 0 (a.atoms.take (k+1))):=ax (by rw[HS.o,hb,←HACC.o];simp);clear hb HS;have kx:=Blk.new wr tA #[.int .i64 x.kind,.int .i64 x.a,.int .i64 x.b];have hz1:(wr.alloc (.cells #[.int .i64 x.kind,.int .i64 x.a,.int .i64 x.b] tA)).heap.size=wr.heap.size+1:=by simp
    have hzB:=HB.o.size;have hl0:=k5.lt;(replace qk41:=k41.z;replace qk51:=k51.z;replace qkx:=kx.z);(go_wp2_with (at_builtin;refine appAL (ys:=[x]) rfl _ _ rfl (v:=.slice A acc.length c) rfl (of1.bz (bbox (Below.refl _ _) _)) rfl (AtomsV.one (f:=x) (Blk.newE (by simp))) (by simp;omega) (by simp;omega) ?_;intro A' c' w5 of2 hg2 hB5;have z5:=Blk.zm (g:=w.heap.size+1+1) (k51.alloc _) (of1.bz (bbox (Below.refl _ _) _)).1 hg2 (by decide);have z4:=Blk.zm (g:=w.heap.size+1) (k41.alloc _) (of1.bz (bbox (Below.refl _ _) _)).1 hg2 (by decide);have z5c:=z5.cell;have z5f:=z5.frozen;have z5l:=z5.lt))
    go_round
    case rel=>
     refine ⟨k+1,acc++[x],A',c',by omega,by go_num,HA2,by simp;omega,?_,z4.far (by simp only[];omega) _,?_,?_⟩
     ·simpa using of2.setT z5 (by decide) _ _
     ·simpa using z5.set_ 1 (.slice A' (acc.length+1) c')
     ·have hb5:=hB5.mono (show w.heap.size≤w.heap.size+1+1+1 by omega);exact ax (((bbox HB1.o _).trans hb5).setCell (p:=⟨w.heap.size+1+1,1,none⟩) (by simp only;omega) _)
    case measure=>simp[intOf];omega
  ·obtain rfl:k=a.atoms.length:=by omega
   have hacc:acc=maskA m 0 a.atoms:=by have:=HACC.o;rwa [List.take_length] at this
   subst hacc;have hBl:=HB.o;(replace qk4:=k4.cell;replace rk4:=k4.frozen;replace lk4:=k4.lt;replace qk5:=k5.z);(go_wp2_with fail);refine bodyPost_ret (v:=.agg #[.slice none 0 0,.slice A (maskA m 0 a.atoms).length c]) (by simp[results,Tryz.results115,go_sem,qk4,lk4]) rfl ⟨_,rfl,⟨_,_,rfl,FactsO.nil _ _,?_⟩,?_⟩
   ·exact ((of.setT k4 (by decide) 0 _).setT (k4.set_ 0 _) (by decide) 1 _).bq (by omega)
   ·exact ((hBl.setCell (p:=⟨w.heap.size+1,0,none⟩) (by simp only;omega) _).setCell (p:=⟨w.heap.size+1,1,none⟩) (by simp only;omega) _)
theorem AsnO.setW {w:World} {base:Nat} {v:Value} {a:Asn} (h:AsnO w base v a) {g:Nat} {cs:Array Value} (hk:Blk w g tAs cs) (u0 u1:Value):AsnO ((w.setCell ⟨g,0,none⟩ u0).setCell ⟨g,1,none⟩ u1) base v a:=by
 obtain ⟨fv,av,e,p1,p2⟩:=h;have k1:=hk.set_ 0 u0;exact ⟨fv,av,e,(p1.setT hk (by decide) _ _).setT k1 (by decide) _ _,(p2.setT hk (by decide) _ _).setT k1 (by decide) _ _⟩
theorem c_frClo {lo hi lo' hi':Nat} (g g':Nat) (a b:Asn) (A1 A2 A3 A4:Option Addr) (c1 c2 c3 c4 m:Nat) (w:World) (ha:AsnV w lo hi (.agg #[.slice A1 a.facts.length c1,.slice A2 a.atoms.length c2]) a) (hb:AsnV w lo' hi' (.agg #[.slice A3 b.facts.length c3,.slice A4 b.atoms.length c4]) b) (hhi:hi≤w.heap.size) (hv:a.valid=true) (hv':b.valid=true) (hm:m≤1000000)
  (k1:Blk w g tAs #[.slice A1 a.facts.length c1,.slice A2 a.atoms.length c2]) (k2:Blk w g' tAs #[.slice A3 b.facts.length c3,.slice A4 b.atoms.length c4]) :
  Calls Tryz.prog 114 #[.int .i64 m,.pointer (some ⟨g',0,none⟩),.pointer (some ⟨g,0,none⟩)] w fun e w'=>e=.returned (.bool (frB a b m))∧Below w.heap.size w w':=by
 have HA:=ax ha;have HB:=ax hb;have HE:=ax (frB_star hv hv' m);have hla:=(zjC hv).2;obtain ⟨fb,hfb⟩:∃ x,x=frB a b m:=⟨_,rfl⟩;obtain ⟨P,hP⟩:∃ P,P=pickA a m:=⟨_,rfl⟩;obtain ⟨q,hq⟩:∃ q,q=(starF b (pickA a m)).isSome:=⟨_,rfl⟩;obtain ⟨C,hC⟩:∃ C,C=(starF b (pickA a m)).getD ⟨[],[]⟩:=⟨_,rfl⟩;rw[←hfb,←hq,←hC] at HE;rw[←hfb];have CS:aJ (∀ {lo hi lo' hi':Nat} (v v':Value) (W:World),AsnV W lo hi v b→AsnV W lo' hi' v' P→Calls Tryz.prog 41 #[v,v'] W fun e w'=>∃ r,e=.returned (.tuple #[r,.bool q])∧AsnO w' W.heap.size r C∧Below W.heap.size W w'):=ax fun v v' W h1 h2=>by rw[hq,hC,←hP];exact c_impl_Star v v' b P W h1 h2
 have CP:aJ (∀ {lo hi:Nat} (v:Value) (W:World),AsnV W lo hi v a→Calls Tryz.prog 115 #[v,.int .i64 m] W fun e w'=>∃ r,e=.returned r∧AsnO w' W.heap.size r P∧Below W.heap.size W w'):=ax fun v W h=>by rw[hP];exact c_impl_pick v a m W h hm (by omega)
 clear hfb hP hq hC hv hv' ha hb;have hlg:=k1.lt;have hlg':=k2.lt;(go_enter Tryz.func114,Tryz.ntmps114);have q1:=k1.cell;have q2:=k2.cell;(go_upto_region 1 with fail)
 go_cut [5,6] (fun s5 s6 wc=>∃ (x:Nat) (F:Option Addr) (f:Nat) (G:Option Addr) (e:Nat),s5=.pointer (some ⟨x,0,none⟩)∧s6=.bool q∧Blk wc x tAs #[.slice F C.facts.length f,.slice G C.atoms.length e]∧AsnV wc 0 wc.heap.size (.agg #[.slice F C.facts.length f,.slice G C.atoms.length e]) C∧aJ (Below w.heap.size w wc))
 case first=>
  (go_wp2_with fail);refine wp_region_noPanic ?_;refine wp_region_held_drew (S:=(fun w'=>(∀ j,w'.cell? ⟨g',j,none⟩=#[.slice A3 b.facts.length c3,.slice A4 b.atoms.length c4][j]?)∧(∀ j,w'.cell? ⟨g,j,none⟩=#[.slice A1 a.facts.length c1,.slice A2 a.atoms.length c2][j]?))) (by kernel_rfl) (⟨k2.drew.cell,k1.drew.cell⟩) (fun aH=>?_);have hB0:Below w.heap.size w w.drew:=(Below.refl _ _).drew;refine tk2 0 rfl aH (h:=tk2 1 rfl aH (h:=tk2 2 rfl aH (h:=?_)));(try simp only[zz]);refine wpAnyH_ready (rs:=[3,8]) (by kernel_rfl) (by simp) (AllReadyH.cons rfl (fun K hK=>?_) (AllReadyH.cons rfl (fun K hK=>?_) AllReadyH.nil))
  ·(try simp only[zz]);(go_simp;refine (CP.o _ _ (HA.o.bz hB0)).mono ?_;rintro e w1 ⟨r1,rfl,o1,hB1⟩;obtain ⟨F1,f1,G1,e1,rfl⟩:=o1.I.form;replace hB1:Below w.heap.size w w1:=bgo hB0 hB1);refine hK.out _ _ (⟨(k2.nz hB1).cell,(k1.nz hB1).cell⟩) ?_;clear aH hK K;intro aH;(try simp only[zz]);have hP1:=o1.rj;refine wpAnyH_ready (rs:=[4,8]) (by kernel_rfl) (by simp) (AllReadyH.cons rfl (fun K hK=>?_) (AllReadyH.cons rfl (fun K hK=>?_) AllReadyH.nil))
   ·(try simp only[zz]);(go_simp;refine (CS.o _ _ _ (HB.o.bz hB1) hP1).mono ?_;rintro e w2 ⟨r2,rfl,o2,hB2⟩;obtain ⟨F,f,G,e,rfl⟩:=o2.I.form;replace hB2:Below w.heap.size w w2:=bgo hB1 hB2);refine hK.out _ _ (⟨(k2.nz hB2).cell,(k1.nz hB2).cell⟩) ?_;clear aH hK K;intro aH;(try simp only[zz]);refine tk2 5 rfl aH (h:=tk2 6 rfl aH (h:=tk2 7 rfl aH (h:=?_)));refine rdc 8 rfl fun K hK=>?_;(try simp only[zz]);go_simp;refine hK.out _ _ (⟨(k2.nz (bbox hB2 (.cells #[.slice none 0 0,.slice none 0 0] tAs))).cell,(k1.nz (bbox hB2 (.cells #[.slice none 0 0,.slice none 0 0] tAs))).cell⟩) ?_;clear aH hK K;intro aH;refine rdc 9 rfl fun K hK=>?_;(try simp only[zz]);go_simp;refine hK.out _ _ (⟨(k2.nz (bbox hB2 (.cells #[.slice F C.facts.length f,.slice G C.atoms.length e] tAs))).cell,(k1.nz (bbox hB2 (.cells #[.slice F C.facts.length f,.slice G C.atoms.length e] tAs))).cell⟩) ?_;clear aH hK K;intro aH;(try simp only[zz]);refine tk2 10 rfl aH (h:=?_);(try simp only[zz]);refine dn1 ?_;(go_wp2_with fail);go_meet
    case rel=>exact ⟨w2.heap.size,F,f,G,e,rfl,rfl,Blk.new _ _ _,(o2.rj.bz (bbox (Below.refl _ _) _)).mono (Nat.zero_le _) (by simp),ax (bbox hB2 _)⟩
   ·(try simp only[zz]);go_simp;refine hK.out _ _ (⟨(k2.nz (bbox hB1 (.cells #[.slice none 0 0,.slice none 0 0] tAs))).cell,(k1.nz (bbox hB1 (.cells #[.slice none 0 0,.slice none 0 0] tAs))).cell⟩) ?_;clear aH hK K;intro aH;(try simp only[zz]);have kb:=Blk.new w1 tAs #[.slice none 0 0,.slice none 0 0];have hb:=bbox hB1 (.cells #[.slice none 0 0,.slice none 0 0] tAs);have hP2:=hP1.bz (bbox (Below.refl _ w1) (.cells #[.slice none 0 0,.slice none 0 0] tAs));refine rdc 4 rfl fun K hK=>?_;(try simp only[zz]);(go_simp;refine (CS.o _ _ _ (HB.o.bz hb) hP2).mono ?_;rintro e w2 ⟨r2,rfl,o2,hB2⟩;obtain ⟨F,f,G,e,rfl⟩:=o2.I.form;have kb2:=kb.nz hB2;replace hB2:Below w.heap.size w w2:=bgo hb hB2);refine hK.out _ _ (⟨(k2.nz hB2).cell,(k1.nz hB2).cell⟩) ?_;clear aH hK K;intro aH;(try simp only[zz]);refine tk2 5 rfl aH (h:=tk2 6 rfl aH (h:=tk2 7 rfl aH (h:=?_)));(try simp only[zz]);have hlb:=kb2.lt;have ql:=kb2.cell;have rl:=kb2.frozen;have hle:w.heap.size≤w1.heap.size:=by first|exact Nat.le_refl _|exact hB1.size
    have hn1:g≠w1.heap.size:=by omega
    have hn2:g'≠w1.heap.size:=by omega
    refine rdc 9 rfl fun K hK=>?_;(try simp only[zz]);go_simp;refine hK.out _ _ (⟨(((k2.nz hB2).far (p:=⟨w1.heap.size,0,none⟩) (fun e=>hn2 e) (.slice F C.facts.length f)).far (p:=⟨w1.heap.size,1,none⟩) (fun e=>hn2 e) (.slice G C.atoms.length e)).cell,(((k1.nz hB2).far (p:=⟨w1.heap.size,0,none⟩) (fun e=>hn1 e) (.slice F C.facts.length f)).far (p:=⟨w1.heap.size,1,none⟩) (fun e=>hn1 e) (.slice G C.atoms.length e)).cell⟩) ?_;clear aH hK K;intro aH;(try simp only[zz]);refine tk2 10 rfl aH (h:=?_);(try simp only[zz]);refine dn1 ?_;(go_wp2_with fail);go_meet
    case rel=>exact ⟨w1.heap.size,F,f,G,e,rfl,rfl,(kb2.set_ 0 (.slice F C.facts.length f)).set_ 1 (.slice G C.atoms.length e),(AsnO.setW o2 kb2 _ _).rj.mono (Nat.zero_le _) (by simp),ax ((hB2.setCell (p:=⟨w1.heap.size,0,none⟩) hle _).setCell (p:=⟨w1.heap.size,1,none⟩) hle _)⟩
  ·(try simp only[zz]);go_simp;refine hK.out _ _ (⟨(k2.nz (bbox hB0 (.cells #[.slice none 0 0,.slice none 0 0] tAs))).cell,(k1.nz (bbox hB0 (.cells #[.slice none 0 0,.slice none 0 0] tAs))).cell⟩) ?_;clear aH hK K;intro aH;(try simp only[zz]);have kb:Blk (w.drew.alloc (.cells #[.slice none 0 0,.slice none 0 0] tAs)) w.heap.size tAs #[.slice none 0 0,.slice none 0 0]:=Blk.new w.drew _ _;have hb:=bbox hB0 (.cells #[.slice none 0 0,.slice none 0 0] tAs);refine rdc 3 rfl fun K hK=>?_;(try simp only[zz]);(go_simp;refine (CP.o _ _ (HA.o.bz hb)).mono ?_;rintro e w1 ⟨r1,rfl,o1,hB1⟩;obtain ⟨F1,f1,G1,e1,rfl⟩:=o1.I.form;have kb1:=kb.nz hB1;replace hB1:Below w.heap.size w w1:=bgo hb hB1);refine hK.out _ _ (⟨(k2.nz hB1).cell,(k1.nz hB1).cell⟩) ?_;clear aH hK K;intro aH;(try simp only[zz]);have hP1:=o1.rj;refine rdc 4 rfl fun K hK=>?_;(try simp only[zz]);(go_simp;refine (CS.o _ _ _ (HB.o.bz hB1) hP1).mono ?_;rintro e w2 ⟨r2,rfl,o2,hB2⟩;obtain ⟨F,f,G,e,rfl⟩:=o2.I.form;have kb2:=kb1.nz hB2;replace hB2:Below w.heap.size w w2:=bgo hB1 hB2);refine hK.out _ _ (⟨(k2.nz hB2).cell,(k1.nz hB2).cell⟩) ?_;clear aH hK K;intro aH;(try simp only[zz]);refine tk2 5 rfl aH (h:=tk2 6 rfl aH (h:=tk2 7 rfl aH (h:=?_)));(try simp only[zz]);have hlb:=kb2.lt;have ql:=kb2.cell;have rl:=kb2.frozen;have hle:w.heap.size≤w.heap.size:=by first|exact Nat.le_refl _|exact hB1.size
   have hn1:g≠w.heap.size:=by omega
   have hn2:g'≠w.heap.size:=by omega
   refine rdc 9 rfl fun K hK=>?_;(try simp only[zz]);go_simp;refine hK.out _ _ (⟨(((k2.nz hB2).far (p:=⟨w.heap.size,0,none⟩) (fun e=>hn2 e) (.slice F C.facts.length f)).far (p:=⟨w.heap.size,1,none⟩) (fun e=>hn2 e) (.slice G C.atoms.length e)).cell,(((k1.nz hB2).far (p:=⟨w.heap.size,0,none⟩) (fun e=>hn1 e) (.slice F C.facts.length f)).far (p:=⟨w.heap.size,1,none⟩) (fun e=>hn1 e) (.slice G C.atoms.length e)).cell⟩) ?_;clear aH hK K;intro aH;(try simp only[zz]);refine tk2 10 rfl aH (h:=?_);(try simp only[zz]);refine dn1 ?_;(go_wp2_with fail);go_meet
   case rel=>exact ⟨w.heap.size,F,f,G,e,rfl,rfl,(kb2.set_ 0 (.slice F C.facts.length f)).set_ 1 (.slice G C.atoms.length e),(AsnO.setW o2 kb2 _ _).rj.mono (Nat.zero_le _) (by simp),ax ((hB2.setCell (p:=⟨w.heap.size,0,none⟩) hle _).setCell (p:=⟨w.heap.size,1,none⟩) hle _)⟩
 case rest=>
  obtain ⟨x,F,f,G,e,rfl,rfl,kx,hC,hB⟩:=hcut;have kg:=k1.nz hB.o;have hzB:=hB.o.size;(replace qkx:=kx.z;replace qkg:=kg.z);cases q
  ·have E:fb=false:=by rw[HE.o];rfl
   (go_wp2_with fail);go_ret;exact ⟨zjD E.symm,hB.o⟩
  ·have E:aJ (fb=entF a C):=by show _=_;rw[HE.o];rfl
   (go_wp2_with fail);refine (c_impl_Entails _ _ a C _ (HA.o.bz hB.o) hC (by omega) (Nat.le_refl _)).mono ?_;rintro e w2 ⟨rfl,hB2⟩;rw[←E.o];(go_wp2_with fail);go_ret;exact ⟨rfl,bgo hB.o hB2⟩
theorem c_frLeast {lo hi lo' hi':Nat} (g g':Nat) (a b:Asn) (A1 A2 A3 A4:Option Addr) (c1 c2 c3 c4:Nat) (w:World) (ha:AsnV w lo hi (.agg #[.slice A1 a.facts.length c1,.slice A2 a.atoms.length c2]) a) (hb:AsnV w lo' hi' (.agg #[.slice A3 b.facts.length c3,.slice A4 b.atoms.length c4]) b) (hhi:hi≤w.heap.size) (hv:a.valid=true) (hv':b.valid=true)
  (k1:Blk w g tAs #[.slice A1 a.facts.length c1,.slice A2 a.atoms.length c2]) (k2:Blk w g' tAs #[.slice A3 b.facts.length c3,.slice A4 b.atoms.length c4]) :
  Calls Tryz.prog 113 #[.int .i64 a.atoms.length,.func (.func 114) #[] #[.pointer (some ⟨g',0,none⟩),.pointer (some ⟨g,0,none⟩)]] w fun e w'=>e=.returned (.tuple #[.int .i64 ((frM a b).getD 0:Nat),.bool (frM a b).isSome])∧Below w.heap.size w w':=by
 have HA:=ax ha;have HB:=ax hb;have hla:=(zjC hv).2;have HV:=ax hv;have HV':=ax hv';have K1:=ax k1;have K2:=ax k2;obtain ⟨n,hn⟩:∃ n,n=a.atoms.length:=⟨_,rfl⟩;obtain ⟨N,hN⟩:∃ N:Nat,N=2 ^ n:=⟨_,rfl⟩;have hN64:N≤64:=by rw[hN];exact Nat.pow_le_pow_right (n:=2) (by decide) (show n≤6 by omega)
 have HM:aJ (frM a b=seekM (frB a b) (N - 0) 0):=ax (by rw[hN,hn];rfl);have hp:(2:Int) ^ n=(N:Int):=by rw[hN];simp
 have hn64:min n 64=n:=by omega
 rw[←hn] at hla;replace hN:=ax hN;clear ha hb hv hv' k1 k2;(go_enter Tryz.func113,Tryz.ntmps113);rw[←hn];replace hn:=ax hn;(go_wp2_with fail)
 go_loopw [6] (fun i wr=>∃ k:Nat,k≤N∧i=.int .i64 k∧aJ (frM a b=seekM (frB a b) (N - k) k)∧aJ (Below w.heap.size w wr)) (fun i _=>N - (intOf i).toNat)
 case atStart=>exact ⟨0,Nat.zero_le _,rfl,HM,ax (Below.refl _ _)⟩
 case round=>
  clear HM;obtain ⟨k,hk,rfl,HM,hB⟩:=hrel;by_cases hlt:k<N
  ·have hki:(k:Int)<(N:Int):=by omega
   (go_wp2_with fail);refine (c_frClo g g' a b A1 A2 A3 A4 c1 c2 c3 c4 k wr (HA.o.bz hB.o) (HB.o.bz hB.o) (by have:=hB.o.size;omega) HV.o HV'.o (by omega) (K1.o.nz hB.o) (K2.o.nz hB.o)).mono ?_;rintro e w1 ⟨rfl,hB1⟩;have hBw:=ax (bgo hB.o hB1);have HS:aJ (frM a b=if frB a b k then some k else seekM (frB a b) (N - (k+1)) (k+1)):=ax (by rw[HM.o,seekM_step hlt]);clear hB1;cases hp:frB a b k
   ·have HM2:aJ (frM a b=seekM (frB a b) (N - (k+1)) (k+1)):=ax (by rw[HS.o,hp];rfl);clear hp HM HS;(go_wp2_with fail)
    go_round
    case rel=>exact ⟨k+1,by omega,by go_num,HM2,hBw⟩
    case measure=>simp[intOf];omega
   ·have E:aJ (frM a b=some k):=ax (by rw[HS.o,hp];rfl);clear hp HM HS;(go_wp2_with fail);go_ret2;exact ⟨by rw[E.o];rfl,hBw.o⟩
  ·obtain rfl:k=N:=by omega
   have E:aJ (frM a b=none):=ax (by rw[HM.o,Nat.sub_self];rfl);(go_wp2_with fail);go_ret2;exact ⟨by rw[E.o];rfl,hB.o⟩
theorem frame_none1 {a b:Asn} (h:a.valid=false):frameF a b=none:=by unfold frameF;rw[h];rfl
theorem frame_none2 {a b:Asn} (h:a.valid=true) (h':b.valid=false):frameF a b=none:=by unfold frameF;rw[h,h'];rfl
theorem frame_map {a b:Asn} (h:a.valid=true) (h':b.valid=true):frameF a b=(frM a b).map (pickA a):=by unfold frameF;rw[h,h'];rfl
theorem c_impl_FrameOf {lo hi lo' hi':Nat} (v v':Value) (a b:Asn) (w:World) (h:AsnV w lo hi v a) (h':AsnV w lo' hi' v' b) (hhi:hi≤w.heap.size) :
  Calls Tryz.prog 42 #[v,v'] w fun e w'=>∃ r,e=.returned (.tuple #[r,.bool (frameF a b).isSome])∧AsnO w' w.heap.size r ((frameF a b).getD ⟨[],[]⟩)∧Below w.heap.size w w':=by
 have HA:=ax h;have HB:=ax h';obtain ⟨A1,c1,A2,c2,rfl,-,-⟩:=h;obtain ⟨A3,c3,A4,c4,rfl,-,-⟩:=h';have H1:=ax (@frame_none1 a b);have H2:=ax (@frame_none2 a b);have H3:=ax (@frame_map a b);obtain ⟨k1,k2,k4⟩:=blk3 w tAs tAs tAs #[.slice A1 a.facts.length c1,.slice A2 a.atoms.length c2] #[.slice A3 b.facts.length c3,.slice A4 b.atoms.length c4] #[.slice none 0 0,.slice none 0 0];have hB:Below w.heap.size w (((w.alloc (.cells #[.slice A1 a.facts.length c1,.slice A2 a.atoms.length c2] tAs)).alloc (.cells #[.slice A3 b.facts.length c3,.slice A4 b.atoms.length c4] tAs)).alloc (.cells #[.slice none 0 0,.slice none 0 0] tAs)):=bel;(go_enter Tryz.func42,Tryz.ntmps42);(go_upto_region 1 with fail);generalize (((w.alloc (.cells #[.slice A1 a.facts.length c1,.slice A2 a.atoms.length c2] tAs)).alloc (.cells #[.slice A3 b.facts.length c3,.slice A4 b.atoms.length c4] tAs)).alloc (.cells #[.slice none 0 0,.slice none 0 0] tAs))=W at k1 k2 k4 hB ⊢;(replace qk1:=k1.z;replace qk2:=k2.z;replace qk4:=k4.cell;replace rk4:=k4.frozen;replace lk4:=k4.lt);(go_wp2_with fail);refine (jz _ a _ (HA.o.bz hB)).mono ?_;rintro e w1 ⟨rfl,hB1⟩;(replace hB:=bgo hB hB1;replace k1:=k1.nz hB1;replace qk1:=k1.z;replace k2:=k2.nz hB1;replace qk2:=k2.z;replace k4:=k4.nz hB1;replace qk4:=k4.cell;replace rk4:=k4.frozen;replace lk4:=k4.lt);clear hB1;cases ha:a.valid
 ·have E:=ax (H1.o ha);clear ha H1 H2 H3;(go_wp2_with fail);refine bodyPost_ret (v:=.tuple #[.agg #[.slice none 0 0,.slice none 0 0],.bool false]) (by simp[results,Tryz.results42,go_sem,qk4,lk4]) rfl ⟨_,by rw[E.o];rfl,by rw[E.o];exact AsnO.zero _ _,bel⟩
 have HV:=ax ha;clear ha;(go_wp2_with fail);refine (jz _ b _ (HB.o.bz hB)).mono ?_;rintro e w2 ⟨rfl,hB2⟩;(replace hB:=bgo hB hB2;replace k1:=k1.nz hB2;replace qk1:=k1.z;replace k2:=k2.nz hB2;replace qk2:=k2.z;replace k4:=k4.nz hB2;replace qk4:=k4.cell;replace rk4:=k4.frozen;replace lk4:=k4.lt);clear hB2;cases hb:b.valid
 ·have E:=ax (H2.o HV.o hb);clear hb H1 H2 H3;(go_wp2_with fail);refine bodyPost_ret (v:=.tuple #[.agg #[.slice none 0 0,.slice none 0 0],.bool false]) (by simp[results,Tryz.results42,go_sem,qk4,lk4]) rfl ⟨_,by rw[E.o];rfl,by rw[E.o];exact AsnO.zero _ _,bel⟩
 have HV':=ax hb;have E:=ax (H3.o HV.o HV'.o);have hla:=(zjC HV.o).2;clear hb H1 H2 H3;(go_wp2_with fail);refine (c_frLeast _ _ a b A1 A2 A3 A4 c1 c2 c3 c4 _ (HA.o.bz hB) (HB.o.bz hB) (by have:=hB.size;omega) HV.o HV'.o k1 k2).mono ?_;rintro e w3 ⟨rfl,hB3⟩;have hz:=hB.size;(replace hB:=bgo hB hB3;replace k1:=k1.nz hB3;replace qk1:=k1.z;replace k2:=k2.nz hB3;replace qk2:=k2.z;replace k4:=k4.nz hB3;replace qk4:=k4.cell;replace rk4:=k4.frozen;replace lk4:=k4.lt);clear hB3
 cases hm:frM a b with
 | none=>
  rw[hm] at E;clear hm;(go_wp2_with fail);refine bodyPost_ret (v:=.tuple #[.agg #[.slice none 0 0,.slice none 0 0],.bool false]) (by simp[results,Tryz.results42,go_sem,qk4,lk4]) rfl ⟨_,by rw[E.o];rfl,by rw[E.o];exact AsnO.zero _ _,bel⟩
 | some m=>
  rw[hm] at E
  have hm64:m≤1000000:=by
   have h1:=(seekM_lt hm).2.1;have h2:2 ^ a.atoms.length≤2 ^ 6:=Nat.pow_le_pow_right (by decide) hla;omega
  clear hm;(go_wp2_with fail);refine (c_impl_pick _ a m _ (HA.o.bz hB) hm64 (by omega)).mono ?_;rintro e w4 ⟨r,rfl,o,hB4⟩;have hz4:=hB.size;(replace hB:=bgo hB hB4;replace k4:=k4.nz hB4;replace qk4:=k4.cell;replace rk4:=k4.frozen;replace lk4:=k4.lt);clear hB4 k1 k2 qk1 qk2;obtain ⟨F,f,G,g,rfl⟩:=o.I.form;have O:=ax o;clear o;(go_wp2_with fail);refine bodyPost_ret (v:=.tuple #[.agg #[.slice F (pickA a m).facts.length f,.slice G (pickA a m).atoms.length g],.bool true]) (by simp[results,Tryz.results42,go_sem,qk4,lk4]) rfl ⟨_,by rw[E.o];rfl,?_,bel⟩;rw[E.o];exact (AsnO.setW O.o k4 _ _).bq (by omega)
theorem c_sameFact {lo hi lo' hi':Nat} (A A':Option Addr) (c c':Nat) (fs gs:List Fct) (w:World) (h:FactsV w lo hi A fs) (h':FactsV w lo' hi' A' gs):Calls Tryz.prog 116 #[.slice A fs.length c,.slice A' gs.length c'] w fun e w'=>e=.returned (.bool (decide (fs=gs)))∧Below w.heap.size w w':=by
 have hl:=h.le;have hl':=h'.le;have H:=ax h;have H':=ax h';clear h h';by_cases hn:fs.length=gs.length
 ·have hn':((fs.length:Int) != (gs.length:Int))=false:=by simp[hn]
  have HN:=ax hn;clear hn;(go_enter Tryz.func116,Tryz.ntmps116);(go_wp2_with fail);clear hn'
  go_loopw [14] (fun i wr=>∃ k:Nat,k≤fs.length∧i=.int .i64 k∧aJ (decide (fs=gs)=decide (fs.drop k=gs.drop k))∧aJ (Below w.heap.size w wr)) (fun i _=>fs.length - (intOf i).toNat)
  case atStart=>exact ⟨0,Nat.zero_le _,rfl,by show _=_;simp,Below.refl _ _⟩
  case round=>
   obtain ⟨k,hk,rfl,HA,HB⟩:=hrel;by_cases hlt:k<fs.length
   ·have hlt':k<gs.length:=by have:=HN.o;omega
    obtain ⟨b,off,rfl,g0,g1,g2⟩:=(H.o.bz HB.o).at hlt;obtain ⟨b',off',rfl,j0,j1,j2⟩:=(H'.o.bz HB.o).at hlt';have HD:=ax (drop_eq fs gs k hlt hlt');have hki:(k:Int)<(fs.length:Int):=by omega
    have hki':(k:Int)<(gs.length:Int):=by omega
    obtain ⟨f,hf⟩:∃ f,f=fs[k]:=⟨_,rfl⟩;obtain ⟨g,hg⟩:∃ g,g=gs[k]:=⟨_,rfl⟩;rw[←hf] at g0 g1 g2 HD;rw[←hg] at j0 j1 j2 HD;have hbl:=block_lt_of_cell g0;have hbl':=block_lt_of_cell j0;have hB':Below w.heap.size w wr:=HB.o;clear hf hg;by_cases f1:f.eq=g.eq
    ·by_cases f2:f.a=g.a
     ·by_cases f3:f.b=g.b
      ·have E:aJ (decide (f=g)=true):=by show _=_;rw[decide_eq_true_eq];exact (Fct.eq_iff f g).2 ⟨f1,f2,f3⟩
       rw[f1] at g0;rw[f2] at g1;rw[f3] at g2;clear f1 f2 f3;(go_wp2_with fail);(go_quiet (fail));(go_wp2_with fail)
       go_round
       case rel=>exact ⟨k+1,by omega,by go_num,by show _=_;rw[HA.o,HD.o,E.o];rfl,below_drewN (bbox HB.o _) _⟩
       case measure=>simp[intOf];omega
      ·have E:aJ (decide (f=g)=false):=by show _=_;rw[decide_eq_false_iff_not];exact fun e=>f3 ((Fct.eq_iff f g).1 e).2.2
       have e3:(f.b == g.b)=false:=by simpa using f3
       rw[f1] at g0;rw[f2] at g1;clear f1 f2 f3;(go_wp2_with fail);(go_quiet (fail));(go_wp2_with fail);go_ret;exact ⟨zjD (by rw[HA.o,HD.o,E.o];rfl),below_drewN (bbox HB.o _) _⟩
     ·have E:aJ (decide (f=g)=false):=by show _=_;rw[decide_eq_false_iff_not];exact fun e=>f2 ((Fct.eq_iff f g).1 e).2.1
      have e2:(f.a == g.a)=false:=by simpa using f2
      rw[f1] at g0;clear f1 f2;(go_wp2_with fail);(go_quiet (fail));(go_wp2_with fail);go_ret;exact ⟨zjD (by rw[HA.o,HD.o,E.o];rfl),below_drewN (bbox HB.o _) _⟩
    ·have E:aJ (decide (f=g)=false):=by show _=_;rw[decide_eq_false_iff_not];exact fun e=>f1 ((Fct.eq_iff f g).1 e).1
     have e1:(f.eq == g.eq)=false:=by simpa using f1
     clear f1;(go_wp2_with fail);(go_quiet (fail));(go_wp2_with fail);go_ret;exact ⟨zjD (by rw[HA.o,HD.o,E.o];rfl),below_drewN (bbox HB.o _) _⟩
   ·obtain rfl:k=fs.length:=by omega
    have E:aJ (decide (fs=gs)=true):=by show _=_;rw[HA.o,List.drop_length,HN.o,List.drop_length];simp
    (go_wp2_with fail);go_ret;exact ⟨zjD E.o.symm,HB.o⟩
 ·have hn':((fs.length:Int) != (gs.length:Int))=true:=by simp;omega
  have E:aJ (decide (fs=gs)=false):=by show _=_;rw[decide_eq_false_iff_not];exact fun e=>hn (by rw[e])
  clear hn;(go_enter Tryz.func116,Tryz.ntmps116);(go_wp2_with fail);go_ret;exact ⟨zjD E.o.symm,Below.refl _ _⟩
theorem c_sameAtom {lo hi lo' hi':Nat} (A A':Option Addr) (c c':Nat) (fs gs:List Atm) (w:World) (h:AtomsV w lo hi A fs) (h':AtomsV w lo' hi' A' gs):Calls Tryz.prog 117 #[.slice A fs.length c,.slice A' gs.length c'] w fun e w'=>e=.returned (.bool (decide (fs=gs)))∧Below w.heap.size w w':=by
 have hl:=h.le;have hl':=h'.le;have H:=ax h;have H':=ax h';clear h h';by_cases hn:fs.length=gs.length
 ·have hn':((fs.length:Int) != (gs.length:Int))=false:=by simp[hn]
  have HN:=ax hn;clear hn;(go_enter Tryz.func117,Tryz.ntmps117);(go_wp2_with fail);clear hn'
  go_loopw [14] (fun i wr=>∃ k:Nat,k≤fs.length∧i=.int .i64 k∧aJ (decide (fs=gs)=decide (fs.drop k=gs.drop k))∧aJ (Below w.heap.size w wr)) (fun i _=>fs.length - (intOf i).toNat)
  case atStart=>exact ⟨0,Nat.zero_le _,rfl,by show _=_;simp,Below.refl _ _⟩
  case round=>
   obtain ⟨k,hk,rfl,HA,HB⟩:=hrel;by_cases hlt:k<fs.length
   ·have hlt':k<gs.length:=by have:=HN.o;omega
    obtain ⟨b,off,rfl,g0,g1,g2⟩:=(H.o.bz HB.o).at hlt;obtain ⟨b',off',rfl,j0,j1,j2⟩:=(H'.o.bz HB.o).at hlt';have HD:=ax (drop_eq fs gs k hlt hlt');have hki:(k:Int)<(fs.length:Int):=by omega
    have hki':(k:Int)<(gs.length:Int):=by omega
    obtain ⟨f,hf⟩:∃ f,f=fs[k]:=⟨_,rfl⟩;obtain ⟨g,hg⟩:∃ g,g=gs[k]:=⟨_,rfl⟩;rw[←hf] at g0 g1 g2 HD;rw[←hg] at j0 j1 j2 HD;have hbl:=block_lt_of_cell g0;have hbl':=block_lt_of_cell j0;have hB':Below w.heap.size w wr:=HB.o;clear hf hg;by_cases f1:f.kind=g.kind
    ·by_cases f2:f.a=g.a
     ·by_cases f3:f.b=g.b
      ·have E:aJ (decide (f=g)=true):=by show _=_;rw[decide_eq_true_eq];exact (Atm.eq_iff f g).2 ⟨f1,f2,f3⟩
       rw[f1] at g0;rw[f2] at g1;rw[f3] at g2;clear f1 f2 f3;(go_wp2_with fail);(go_quiet (fail));(go_wp2_with fail)
       go_round
       case rel=>exact ⟨k+1,by omega,by go_num,by show _=_;rw[HA.o,HD.o,E.o];rfl,below_drewN (bbox HB.o _) _⟩
       case measure=>simp[intOf];omega
      ·have E:aJ (decide (f=g)=false):=by show _=_;rw[decide_eq_false_iff_not];exact fun e=>f3 ((Atm.eq_iff f g).1 e).2.2
       have e3:(f.b == g.b)=false:=by simpa using f3
       rw[f1] at g0;rw[f2] at g1;clear f1 f2 f3;(go_wp2_with fail);(go_quiet (fail));(go_wp2_with fail);go_ret;exact ⟨zjD (by rw[HA.o,HD.o,E.o];rfl),below_drewN (bbox HB.o _) _⟩
     ·have E:aJ (decide (f=g)=false):=by show _=_;rw[decide_eq_false_iff_not];exact fun e=>f2 ((Atm.eq_iff f g).1 e).2.1
      have e2:(f.a == g.a)=false:=by simpa using f2
      rw[f1] at g0;clear f1 f2;(go_wp2_with fail);(go_quiet (fail));(go_wp2_with fail);go_ret;exact ⟨zjD (by rw[HA.o,HD.o,E.o];rfl),below_drewN (bbox HB.o _) _⟩
    ·have E:aJ (decide (f=g)=false):=by show _=_;rw[decide_eq_false_iff_not];exact fun e=>f1 ((Atm.eq_iff f g).1 e).1
     have e1:(f.kind == g.kind)=false:=by simpa using f1
     clear f1;(go_wp2_with fail);(go_quiet (fail));(go_wp2_with fail);go_ret;exact ⟨zjD (by rw[HA.o,HD.o,E.o];rfl),below_drewN (bbox HB.o _) _⟩
   ·obtain rfl:k=fs.length:=by omega
    have E:aJ (decide (fs=gs)=true):=by show _=_;rw[HA.o,List.drop_length,HN.o,List.drop_length];simp
    (go_wp2_with fail);go_ret;exact ⟨zjD E.o.symm,HB.o⟩
 ·have hn':((fs.length:Int) != (gs.length:Int))=true:=by simp;omega
  have E:aJ (decide (fs=gs)=false):=by show _=_;rw[decide_eq_false_iff_not];exact fun e=>hn (by rw[e])
  clear hn;(go_enter Tryz.func117,Tryz.ntmps117);(go_wp2_with fail);go_ret;exact ⟨zjD E.o.symm,Below.refl _ _⟩
theorem c_impl_Same {lo hi lo' hi':Nat} (v v':Value) (a b:Asn) (w:World) (h:AsnV w lo hi v a) (h':AsnV w lo' hi' v' b):Calls Tryz.prog 43 #[v,v'] w fun e w'=>e=.returned (.bool (decide (a=b)))∧Below w.heap.size w w':=by
 obtain ⟨A1,c1,A2,c2,rfl,h1,h2⟩:=h;obtain ⟨A3,c3,A4,c4,rfl,h3,h4⟩:=h';have H1:=ax h1;have H2:=ax h2;have H3:=ax h3;have H4:=ax h4;have HE:=ax (Asn.eq_iff a b);clear h1 h2 h3 h4;(go_enter Tryz.func43,Tryz.ntmps43);have k0:Blk ((w.alloc (.cells #[.slice A1 a.facts.length c1,.slice A2 a.atoms.length c2] 37)).alloc (.cells #[.slice A3 b.facts.length c3,.slice A4 b.atoms.length c4] 37)) w.heap.size 37 #[.slice A1 a.facts.length c1,.slice A2 a.atoms.length c2]:=blks;have k1:Blk ((w.alloc (.cells #[.slice A1 a.facts.length c1,.slice A2 a.atoms.length c2] 37)).alloc (.cells #[.slice A3 b.facts.length c3,.slice A4 b.atoms.length c4] 37)) (w.heap.size+1) 37 #[.slice A3 b.facts.length c3,.slice A4 b.atoms.length c4]:=blks;(go_wp2_with fail);refine (c_sameFact _ _ _ _ a.facts b.facts _ (H1.o.bz bel) (H3.o.bz bel)).mono ?_;rintro e w1 ⟨rfl,hB1⟩;have hB:=bgo (w:=w) bel hB1;replace k0:=k0.nz hB1;replace k1:=k1.nz hB1;(replace qk0:=k0.z;replace qk1:=k1.z);clear hB1;cases hf:decide (a.facts=b.facts)
 ·have E:aJ (decide (a=b)=false):=by show _=_;rw[decide_eq_false_iff_not,HE.o];exact fun e=>by rw[decide_eq_false_iff_not] at hf;exact hf e.1
  clear hf;(go_wp2_with fail);go_ret;exact ⟨zjD E.o.symm,hB⟩
 ·have E:aJ (decide (a=b)=decide (a.atoms=b.atoms)):=by show _=_;rw[decide_eq_decide,HE.o];rw[decide_eq_true_eq] at hf;exact ⟨fun e=>e.2,fun e=>⟨hf,e⟩⟩
  clear hf;(go_wp2_with fail);refine (c_sameAtom _ _ _ _ a.atoms b.atoms _ (H2.o.bz hB) (H4.o.bz hB)).mono ?_;rintro e w2 ⟨rfl,hB2⟩;(go_wp2_with fail);go_ret;exact ⟨zjD E.o.symm,bgo hB hB2⟩
end
end Go.Proofs.YtjaohekkmlkinaaGreat
