/- Contracts: one contract refines another. -/
import Derived.Test.YtjaohekkmlkinaaGreatMaFrameS
set_option linter.unusedSimpArgs false
set_option linter.unusedVariables false
set_option maxRecDepth 100000
set_option maxHeartbeats 25600000
namespace Go.Proofs.YtjaohekkmlkinaaGreat
section
open Go Go.RowKit Go.Proofs
attribute [local go_sem ↓] Go.wp_at_zero Go.wp_at_succ
def inB (S:Nat) (xs:List Int):Bool:=xs.all fun x=>S.testBit x.toNat
theorem inB_iff {xs:List Int} {S:Nat} (hx:∀ x∈xs,jq x=true) (hS:S<512):(tset xs &&& (65535 - S)=0)↔inB S xs=true:=by
 unfold inB;rw[List.all_eq_true]
 have hb:∀ i,(65535 - S).testBit i=(decide (i<16) && !S.testBit i):=fun i=>by
  have:=Nat.testBit_two_pow_sub_succ (x:=S) (n:=16) (by omega) i
  rwa [show 2 ^ 16 - (S+1)=65535 - S from by omega] at this
 constructor
 ·intro h x hm;have ht:=zjA.1 (hx x hm);obtain ⟨n,rfl⟩:=Int.eq_ofNat_of_zero_le ht.1;have:=congrArg (fun s=>Nat.testBit s n) h;simp only[Nat.testBit_and,Nat.zero_testBit,hb,tset_bit] at this;rw[decide_eq_true (⟨hx _ hm,hm⟩:jq (n:Int)=true∧(n:Int)∈xs),decide_eq_true (show n<16 by omega)] at this;simpa using this
 ·intro h;apply Nat.eq_of_testBit_eq;intro n;rw[Nat.testBit_and,Nat.zero_testBit,hb,tset_bit];by_cases hm:jq (n:Int)=true∧(n:Int)∈xs
  ·have:=h _ hm.2;rw[Int.toNat_natCast] at this;rw[this];simp
  ·rw[decide_eq_false hm];rfl
def refF (k m:Ctr):Bool:=k.valid&&m.valid&&(inB (tset m.changes) k.changes&&entF m.pre k.pre&&entF k.post m.post)
theorem changes_terms {xs:List Int}:∀ {l:Int},changesFrom l xs=true→∀ x∈xs,jq x=true:=by
 induction xs with
 | nil=>intro l _ x hx;cases hx
 | cons y ys ih=>
  intro l h x hx;simp only[changesFrom,Bool.and_eq_true] at h;rcases List.mem_cons.1 hx with rfl|hx
  ·have:=h.1.1;simp[isProgB] at this;exact zjA.2 (by omega)
  ·exact ih h.2 x hx
theorem c_spec_l12Within {lo hi lo' hi':Nat} (A B:Option Addr) (c d:Nat) (xs ys:List Int) (w:World) (h:IntsV w lo hi A xs) (h':IntsV w lo' hi' B ys) (hx:∀ x∈xs,jq x=true) :
  Calls Tryz.prog 104 #[.slice A xs.length c,.slice B ys.length d] w fun e w'=>e=.returned (.bool (inB (tset ys) xs))∧Below w.heap.size w w':=by
 have hl:=h.le;have HX:=ax hx;have H:=ax h;have H':=ax h';have HI:aJ (inB (tset ys) xs=xs.all fun x=>(tset ys).testBit x.toNat):=rfl;clear hx h h';(go_enter Tryz.func104,Tryz.ntmps104);(go_wp2_with fail)
 go_loopw [5] (fun i wr=>∃ k:Nat,k≤xs.length∧i=.int .i64 k∧aJ (inB (tset ys) xs=(xs.drop k).all fun x=>(tset ys).testBit x.toNat)∧Below w.heap.size w wr) (fun i _=>xs.length - (intOf i).toNat)
 case atStart=>exact ⟨0,Nat.zero_le _,rfl,HI.o,Below.refl _ _⟩
 case round=>
  obtain ⟨k,hk,rfl,HA,hB⟩:=hrel;by_cases hlt:k<xs.length
  ·obtain ⟨b,off,rfl,c0⟩:=(H.o.bz hB).at hlt;have hbl:=block_lt_of_cell c0;have HN:=ax (all_drop (fun x:Int=>(tset ys).testBit x.toNat) xs k hlt);have ht:=zjA.1 (HX.o _ (List.getElem_mem hlt));obtain ⟨m,hm⟩:=Int.eq_ofNat_of_zero_le ht.1;have hm8:m<9:=by omega
   have HM:aJ ((tset ys).testBit xs[k].toNat=(tset ys).testBit m):=by show _=_;rw[hm];rfl
   rw[hm] at c0;clear hm ht;have hmi:(m:Int)<9:=by omega
   have hki:(k:Int)<(xs.length:Int):=by omega
   (go_wp2_with fail);refine wp_region_noPanic ?_;refine wp_region_held_drew (S:=(fun w'=>w'.cell? ⟨b,off+k,none⟩=some (.int .i64 (m:Int)))) (by kernel_rfl) (c0) (fun aH=>?_);refine tk2 0 rfl aH (h:=tk2 2 rfl aH (h:=tk2 3 rfl aH (h:=?_)));(try simp only[zz]);refine tk2 4 rfl aH (h:=tk2 5 rfl aH (h:=?_));refine rdc 1 rfl fun K hK=>?_;(try simp only[zz]);(go_simp;refine (c_spec_l10Busy B d ys _ (H'.o.bz hB.drew)).mono ?_;rintro e w3 ⟨r,rfl,oT,hB3⟩;have hB':=bgo (w:=w) bel hB3;obtain ⟨Tb,ct,rfl,fT⟩:=oT.rj;rw[zjB];have c1:=((bcell hB3).1 b (off+k) hbl).trans c0;obtain ⟨pt,ot,rfl,lpt⟩:=flags_addr fT;have f1:=flags_at fT (m:=m) (by omega);clear oT hB3);refine hK.out _ _ (c1) ?_;clear aH hK K;intro aH;(try simp only[zz]);cases hb:(tset ys).testBit m
   all_goals
    rw[hb] at f1;have HZ:=ax hb;clear hb;refine tk2 6 rfl aH (h:=?_);refine rdc 7 rfl fun K hK=>?_;(try simp only[zz]);go_simp;refine hK.out _ _ (c1) ?_;clear aH hK K;intro aH;(try simp only[zz]);refine tk2 8 rfl aH (h:=?_);(try simp only[zz]);refine dn1 ?_;(go_wp2_with fail)
   ·go_ret;exact ⟨zjD (by rw[HA.o,HN.o,HM.o,HZ.o];rfl),hB'⟩
   ·go_round
    case rel=>exact ⟨k+1,by omega,by go_num,by show _=_;rw[HA.o,HN.o,HM.o,HZ.o];rfl,hB'⟩
    case measure=>simp[intOf];omega
  ·obtain rfl:k=xs.length:=by omega
   (go_wp2_with fail);go_ret;exact ⟨zjD (by rw[HA.o,List.drop_length];rfl),hB⟩
theorem c_impl_Refines {lo hi lo' hi':Nat} (v v':Value) (k m:Ctr) (w:World) (h:CtrV w lo hi v k) (h':CtrV w lo' hi' v' m) (hhi:hi≤w.heap.size) (hhi':hi'≤w.heap.size) :
  Calls Tryz.prog 34 #[v,v'] w fun e w'=>e=.returned (.bool (refF k m))∧Below w.heap.size w w':=by
 have hV:=ax h;have hV':=ax h';obtain ⟨a1,a2,a3,a4,A5,c5,rfl,g1,g2,g3⟩:=h;obtain ⟨b1,b2,b3,b4,B5,d5,rfl,m1,m2,m3⟩:=h';have G1:=ax g1;have G2:=ax g2;have G3:=ax g3;have M1:=ax m1;have M2:=ax m2;have M3:=ax m3;clear g1 g2 g3 m1 m2 m3;have HF:aJ (refF k m=(k.valid&&m.valid&&(inB (tset m.changes) k.changes&&entF m.pre k.pre&&entF k.post m.post))):=rfl;have HUU:=ax (u16_andNot_nat (tset k.changes) (tset m.changes) (by have:=tset_lt k.changes;omega) (by have:=tset_lt m.changes;omega));(go_enter Tryz.func34,Tryz.ntmps34);have k0:Blk ((w.alloc (.cells #[a1,a2,a3,a4,.slice A5 k.changes.length c5] 69)).alloc (.cells #[b1,b2,b3,b4,.slice B5 m.changes.length d5] 69)) w.heap.size 69 #[a1,a2,a3,a4,.slice A5 k.changes.length c5]:=blks;have k1:Blk ((w.alloc (.cells #[a1,a2,a3,a4,.slice A5 k.changes.length c5] 69)).alloc (.cells #[b1,b2,b3,b4,.slice B5 m.changes.length d5] 69)) (w.heap.size+1) 69 #[b1,b2,b3,b4,.slice B5 m.changes.length d5]:=blks;(go_wp2_with fail);refine (c_impl_ContractValid _ k _ (hV.o.bz bel)).mono ?_;rintro e w1 ⟨rfl,hB1⟩;have hB:=bgo (w:=w) bel hB1;replace k0:=k0.nz hB1;replace k1:=k1.nz hB1;(replace qk0:=k0.z;replace qk1:=k1.z);clear hB1;cases hk:k.valid
 ·have E:=ax (show refF k m=false by rw[HF.o,hk];rfl);clear hk;(go_wp2_with fail);go_ret;exact ⟨zjD E.o.symm,bel⟩
 have HK:=ax hk;clear hk;(go_wp2_with fail);refine (c_impl_ContractValid _ m _ (hV'.o.bz hB)).mono ?_;rintro e w2 ⟨rfl,hB2⟩;replace hB:=bgo hB hB2;replace k0:=k0.nz hB2;replace k1:=k1.nz hB2;(replace qk0:=k0.z;replace qk1:=k1.z);clear hB2;cases hm:m.valid
 ·have E:=ax (show refF k m=false by rw[HF.o,HK.o,hm];rfl);clear hm;(go_wp2_with fail);go_ret;exact ⟨zjD E.o.symm,bel⟩
 have HMV:=ax hm;clear hm;have HI:=ax (inB_iff (xs:=k.changes) (S:=tset m.changes) (by have:=HK.o;simp only[Ctr.valid,Bool.and_eq_true] at this;exact changes_terms this.2) (tset_lt _));(go_wp2_with fail);refine wp_region_noPanic ?_;refine wp_region_held_drew (S:=(fun w'=>(∀ i,w'.cell? ⟨w.heap.size,i,none⟩=#[a1,a2,a3,a4,.slice A5 k.changes.length c5][i]?)∧(∀ i,w'.cell? ⟨w.heap.size+1,i,none⟩=#[b1,b2,b3,b4,.slice B5 m.changes.length d5][i]?))) (by kernel_rfl) (⟨Blk.cell blks,Blk.cell blks⟩) (fun aH=>?_);refine tk2 0 rfl aH (h:=tk2 1 rfl aH (h:=tk2 3 rfl aH (h:=?_)));(try simp only[zz]);refine tk2 4 rfl aH (h:=?_);refine rdc 2 rfl fun K hK=>?_;(try simp only[zz]);(go_simp;refine (c_impl_setOfTerms _ _ k.changes _ (G3.o.bz bel)).mono ?_;rintro e w3 ⟨rfl,hB3⟩;have hB':=bgo (w:=w) bel hB3;replace k0:=Blk.nz (g:=w.heap.size) blks hB3;replace k1:=Blk.nz (g:=w.heap.size+1) blks hB3);refine hK.out _ _ (⟨Blk.cell blks,Blk.cell blks⟩) ?_;clear aH hK K;intro aH;refine rdc 5 rfl fun K hK=>?_;(try simp only[zz]);(go_simp;refine (c_impl_setOfTerms _ _ m.changes _ (M3.o.bz bel)).mono ?_;rintro e w4 ⟨rfl,hB4⟩;have hB2:=bgo hB' hB4;replace k0:=Blk.nz (g:=w.heap.size) blks hB4;replace k1:=Blk.nz (g:=w.heap.size+1) blks hB4);refine hK.out _ _ (⟨Blk.cell blks,Blk.cell blks⟩) ?_;clear aH hK K;intro aH;(try simp only[zz]);clear hB3 hB4 hB' hB;have hU:=HUU.o;refine tk2 6 rfl aH (h:=?_);(try simp only[zz]);clear hU;refine tk2 7 rfl aH (h:=?_);(try simp only[zz]);refine dn1 ?_;(replace qk0:=k0.z;replace qk1:=k1.z);clear aH
 have HE:aJ ((((tset k.changes &&& (65535 - tset m.changes):Nat):Int) != 0) = !inB (tset m.changes) k.changes):=by
  show _=_;cases hd:inB (tset m.changes) k.changes
  ·have:tset k.changes &&& (65535 - tset m.changes)≠0:=fun e=>by have:=HI.o.1 e;rw[hd] at this;cases this
   simp only[Bool.not_false,bne_iff_ne,ne_eq];omega
  ·have:=HI.o.2 hd;rw[this];rfl
 rw[HE.o];clear HE HI HUU;cases hd:inB (tset m.changes) k.changes
 ·have E:=ax (show refF k m=false by rw[HF.o,hd];simp);clear hd;(go_wp2_with fail);go_ret;exact ⟨zjD E.o.symm,bel⟩
 have HD:=ax hd;have hz2:=hB2.size;clear hd;(go_wp2_with fail);refine (c_impl_Entails _ _ m.pre k.pre _ (M1.o.bz hB2) (G1.o.bz hB2) (by omega) (by omega)).mono ?_;rintro e w5 ⟨rfl,hB5⟩;replace hB2:=bgo hB2 hB5;replace k0:=k0.nz hB5;replace k1:=k1.nz hB5;(replace qk0:=k0.z;replace qk1:=k1.z);clear hB5;have hz3:=hB2.size;cases he:entF m.pre k.pre
 ·have E:=ax (show refF k m=false by rw[HF.o,he];simp);clear he;(go_wp2_with fail);go_ret;exact ⟨zjD E.o.symm,bel⟩
 have E:=ax (show refF k m=entF k.post m.post by rw[HF.o,he,HK.o,HMV.o,HD.o];simp);clear he;(go_wp2_with fail);refine (c_impl_Entails _ _ k.post m.post _ (G2.o.bz hB2) (M2.o.bz hB2) (by omega) (by omega)).mono ?_;rintro e w6 ⟨rfl,hB6⟩;replace hB2:=bgo hB2 hB6;clear hB6;(go_wp2_with fail);go_ret;exact ⟨zjD E.o.symm,bel⟩
theorem c_spec_Refines {lo hi lo' hi':Nat} (v v':Value) (k m:Ctr) (w:World) (h:CtrV w lo hi v k) (h':CtrV w lo' hi' v' m) :
  Calls Tryz.prog 35 #[v,v'] w fun e w'=>e=.returned (.bool (refF k m))∧Below w.heap.size w w':=by
 have hV:=ax h;have hV':=ax h';obtain ⟨a1,a2,a3,a4,A5,c5,rfl,g1,g2,g3⟩:=h;obtain ⟨b1,b2,b3,b4,B5,d5,rfl,m1,m2,m3⟩:=h';have G1:=ax g1;have G2:=ax g2;have G3:=ax g3;have M1:=ax m1;have M2:=ax m2;have M3:=ax m3;clear g1 g2 g3 m1 m2 m3;have HF:aJ (refF k m=(k.valid&&m.valid&&(inB (tset m.changes) k.changes&&entF m.pre k.pre&&entF k.post m.post))):=rfl;(go_enter Tryz.func35,Tryz.ntmps35);have k0:Blk ((w.alloc (.cells #[a1,a2,a3,a4,.slice A5 k.changes.length c5] 69)).alloc (.cells #[b1,b2,b3,b4,.slice B5 m.changes.length d5] 69)) w.heap.size 69 #[a1,a2,a3,a4,.slice A5 k.changes.length c5]:=blks;have k1:Blk ((w.alloc (.cells #[a1,a2,a3,a4,.slice A5 k.changes.length c5] 69)).alloc (.cells #[b1,b2,b3,b4,.slice B5 m.changes.length d5] 69)) (w.heap.size+1) 69 #[b1,b2,b3,b4,.slice B5 m.changes.length d5]:=blks;(go_wp2_with fail);refine (c_spec_ContractValid _ k _ (hV.o.bz bel)).mono ?_;rintro e w1 ⟨rfl,hB1⟩;have hB:=bgo (w:=w) bel hB1;replace k0:=k0.nz hB1;replace k1:=k1.nz hB1;(replace qk0:=k0.z;replace qk1:=k1.z);clear hB1;cases hk:k.valid
 ·have E:=ax (show refF k m=false by rw[HF.o,hk];rfl);clear hk;(go_wp2_with fail);go_ret;exact ⟨zjD E.o.symm,bel⟩
 have HK:=ax hk;have HX:=ax (show ∀ x∈k.changes,jq x=true by have:=hk;simp only[Ctr.valid,Bool.and_eq_true] at this;exact changes_terms this.2);clear hk;(go_wp2_with fail);refine (c_spec_ContractValid _ m _ (hV'.o.bz hB)).mono ?_;rintro e w2 ⟨rfl,hB2⟩;replace hB:=bgo hB hB2;replace k0:=k0.nz hB2;replace k1:=k1.nz hB2;(replace qk0:=k0.z;replace qk1:=k1.z);clear hB2;cases hm:m.valid
 ·have E:=ax (show refF k m=false by rw[HF.o,HK.o,hm];rfl);clear hm;(go_wp2_with fail);go_ret;exact ⟨zjD E.o.symm,bel⟩
 have HMV:=ax hm;clear hm;(go_wp2_with fail);refine (c_spec_Entails _ _ m.pre k.pre _ (M1.o.bz hB) (G1.o.bz hB)).mono ?_;rintro e w5 ⟨rfl,hB5⟩;replace hB:=bgo hB hB5;replace k0:=k0.nz hB5;replace k1:=k1.nz hB5;(replace qk0:=k0.z;replace qk1:=k1.z);clear hB5;cases he:entF m.pre k.pre
 ·have E:=ax (show refF k m=false by rw[HF.o,he];simp);clear he;(go_wp2_with fail);go_ret;exact ⟨zjD E.o.symm,bel⟩
 have HE:=ax he;clear he;(go_wp2_with fail);refine (c_spec_Entails _ _ k.post m.post _ (G2.o.bz hB) (M2.o.bz hB)).mono ?_;rintro e w6 ⟨rfl,hB6⟩;replace hB:=bgo hB hB6;replace k0:=k0.nz hB6;replace k1:=k1.nz hB6;(replace qk0:=k0.z;replace qk1:=k1.z);clear hB6;cases hg:entF k.post m.post
 ·have E:=ax (show refF k m=false by rw[HF.o,hg];simp);clear hg;(go_wp2_with fail);go_ret;exact ⟨zjD E.o.symm,bel⟩
 have E:=ax (show refF k m=inB (tset m.changes) k.changes by rw[HF.o,HE.o,HK.o,HMV.o,hg];simp);clear hg;(go_wp2_with fail);refine (c_spec_l12Within _ _ _ _ k.changes m.changes _ (G3.o.bz hB) (M3.o.bz hB) HX.o).mono ?_;rintro e w7 ⟨rfl,hB7⟩;replace hB:=bgo hB hB7;clear hB7;(go_wp2_with fail);go_ret;exact ⟨zjD E.o.symm,bel⟩
end
section
open Go
def fillM (M:Int→Int) (x:Atm):Bool:=decide (x.kind=1) || !decide (M x.a=M x.b)
structure Sat (M:Int→Int) (a:Asn):Prop where
 facts:∀ f∈a.facts,decide (M f.a=M f.b)=f.eq
 nil:∀ x∈a.atoms,fillM M x=true→M x.a≠M 0
 apart:((a.atoms.filter (fillM M)).map fun x=>M x.a).Nodup
theorem case_zero {a:Asn} {S:Nat} (hS:S.testBit 0=true) {d:List Int} (h:d∈cases a S):cl d 0=0:=by
 unfold cases at h;have hd:=(List.mem_filter.1 h).1;have:=((gen_ok S 9 zeros d (by omega) rfl hd).2.2 0 (by omega) (by omega)).1 hS;have h2:cl d ((0:Nat):Int)=cl d 0:=rfl;omega
theorem inLast_fillM {x:Atm} {c:List Int} (h:(0≤x.a∧x.a≤8)∧(0≤x.b∧x.b≤8)):inLast c 8 x=fillM (cl c) x:=by
 unfold inLast fillM Atm.fill;rw[decide_eq_true h.1.2,decide_eq_true h.2.2];rfl
theorem case_sat {a:Asn} (hv:a.valid=true) {S:Nat} (hS:S.testBit 0=true) {d:List Int} (h:d∈cases a S):Sat (cl d) a:=by
 have h0:=case_zero hS h;have hok:=Asn.valid_ok hv;unfold cases at h;have hf:=(List.mem_filter.1 h).2;have hp:=hf;rw[full_poss hok.1 hok.2] at hp;unfold poss at hp;unfold full at hf;rw[Bool.and_eq_true] at hf hp;have hA:=(possA_iff _ _ _ _).1 hp.2;refine ⟨fun f hm=>?_,fun x hm hfi=>?_,?_⟩
 ·have:=List.all_eq_true.1 hf.1 f hm;unfold Fct.fits at this;exact eq_of_beq this
 ·rw[h0];exact (hA.1 x hm (by rw[inLast_fillM (hok.2 x hm)];exact hfi)).1
 ·rw[←List.filter_congr fun x hm=>inLast_fillM (hok.2 x hm)];exact hA.2
def leastM (M:Int→Int) (S j:Nat):Nat:=((List.range (j+1)).find? fun k=>S.testBit k&&decide (M (k:Int)=M (j:Int))).getD j
def canon (M:Int→Int) (S:Nat):List Int:=(List.range 9).map fun j=>if S.testBit j then ((leastM M S j:Nat):Int) else -1
theorem least_spec {M:Int→Int} {S j:Nat} (hj:S.testBit j=true):leastM M S j≤j∧S.testBit (leastM M S j)=true∧M (leastM M S j:Nat)=M j∧∀ k,k<leastM M S j→S.testBit k=true→M (k:Nat)≠M j:=by
 unfold leastM
 cases h:(List.range (j+1)).find? fun k=>S.testBit k&&decide (M (k:Int)=M (j:Int)) with
 | none=>
  have:=List.find?_eq_none.1 h j (by simp);simp[hj] at this
 | some k=>
  obtain ⟨h1,h2,h3⟩:=List.find?_range_eq_some.1 h;simp only[Bool.and_eq_true,decide_eq_true_eq] at h1;refine ⟨by have:=List.mem_range.1 h2;simp only[Option.getD_some];omega,h1.1,h1.2,fun i hi hb e=>?_⟩;have:=h3 i hi;simp[hb,e] at this
theorem least_eq {M:Int→Int} {S i j:Nat} (hi:S.testBit i=true) (hj:S.testBit j=true):leastM M S i=leastM M S j↔M (i:Nat)=M (j:Nat):=by
 have h1:=least_spec (M:=M) hi;have h2:=least_spec (M:=M) hj;constructor
 ·intro e;rw[←h1.2.2.1,e,h2.2.2.1]
 ·intro e;rcases Nat.lt_trichotomy (leastM M S i) (leastM M S j) with h|h|h
  ·exact absurd (h1.2.2.1.trans e) (h2.2.2.2 _ h h1.2.1)
  ·exact h
  ·exact absurd (h2.2.2.1.trans e.symm) (h1.2.2.2 _ h h2.2.1)
theorem canon_length (M:Int→Int) (S:Nat):(canon M S).length=9:=by simp[canon]
theorem cl_canon {M:Int→Int} {S j:Nat} (hj:j<9):cl (canon M S) (j:Int)=if S.testBit j then ((leastM M S j:Nat):Int) else -1:=by
 unfold cl canon;rw[Int.toNat_natCast,List.getElem?_map,List.getElem?_range hj];rfl
theorem canon_gen (M:Int→Int) (S:Nat):∀ (n:Nat) (c:List Int),n≤9→c.length=9→(∀ j:Nat,j<9 - n→cl c j=cl (canon M S) j)→canon M S∈gen S n c:=by
 intro n
 induction n with
 | zero=>
  intro c _ hc h;unfold gen;rw[List.mem_singleton];apply List.ext_getElem (by rw[hc];exact canon_length M S);intro j h1 h2;have:=h j (by omega);simpa[cl,List.getElem?_eq_getElem h1,List.getElem?_eq_getElem h2] using this.symm
 | succ n ih=>
  intro c hn hc h;unfold gen;cases e:S.testBit (8 - n)
  ·simp only[Bool.false_eq_true,if_false];refine ih _ (by omega) (by simpa using hc) fun j hj=>?_;rw[cl_set hc (by omega) _ (by omega)]
   split
   ·rename_i hj';have:j=8 - n:=by omega
    subst this;rw[cl_canon (by omega),e];rfl
   ·exact h j (by omega)
  ·rw[if_pos rfl,List.mem_flatMap];have hl:=least_spec (M:=M) e;refine ⟨leastM M S (8 - n),by rw[List.mem_range];omega,?_⟩;rw[if_neg]
   ·refine ih _ (by omega) (by simpa using hc) fun j hj=>?_;rw[cl_set hc (by omega) _ (by omega)]
    split
    ·rename_i hj';have:j=8 - n:=by omega
     subst this;rw[cl_canon (by omega),e];rfl
    ·exact h j (by omega)
   ·rintro ⟨hlt,hne⟩;apply hne;rw[h _ (by omega),cl_canon (by omega),hl.2.1,if_pos rfl]
    congr 1
    exact (least_eq hl.2.1 e).2 hl.2.2.1
theorem cl_canon_eq {M:Int→Int} {S:Nat} {s t:Int} (hs:(0≤s∧s≤8)∧S.testBit s.toNat=true) (ht:(0≤t∧t≤8)∧S.testBit t.toNat=true):cl (canon M S) s=cl (canon M S) t↔M s=M t:=by
 obtain ⟨i,rfl⟩:=Int.eq_ofNat_of_zero_le hs.1.1;obtain ⟨j,rfl⟩:=Int.eq_ofNat_of_zero_le ht.1.1;rw[Int.toNat_natCast] at hs ht;rw[cl_canon (by omega),cl_canon (by omega),hs.2,ht.2,if_pos rfl,if_pos rfl,Int.natCast_inj];exact least_eq hs.2 ht.2
theorem sat_case {a:Asn} (hv:a.valid=true) {S:Nat} (h0:S.testBit 0=true) (hS:∀ t∈mz a,S.testBit t.toNat=true) {M:Int→Int} (h:Sat M a):canon M S∈cases a S:=by
 have hok:=Asn.valid_ok hv;have hF:∀ f∈a.facts,S.testBit f.a.toNat=true∧S.testBit f.b.toNat=true:=fun f hf=>⟨hS _ (termsL_facts hf).1,hS _ (termsL_facts hf).2⟩
 have hX:∀ x∈a.atoms,S.testBit x.a.toNat=true∧S.testBit x.b.toNat=true:=fun x hx=>by
  have:x.a∈mz a∧x.b∈mz a:=by
   simp only[mz,List.mem_append,List.mem_flatMap];exact ⟨Or.inr ⟨x,hx,by simp[atomT]⟩,Or.inr ⟨x,hx,by simp[atomT]⟩⟩
  exact ⟨hS _ this.1,hS _ this.2⟩
 have hfill:∀ x∈a.atoms,inLast (canon M S) 8 x=fillM M x:=fun x hx=>by
  rw[inLast_fillM (hok.2 x hx)];unfold fillM
  congr 2
  rw[decide_eq_decide];exact cl_canon_eq ⟨(hok.2 x hx).1,(hX x hx).1⟩ ⟨(hok.2 x hx).2,(hX x hx).2⟩
 unfold cases;rw[List.mem_filter];refine ⟨canon_gen M S 9 zeros (by omega) rfl (fun j hj=>by omega),?_⟩;rw[full_poss hok.1 hok.2];unfold poss;rw[Bool.and_eq_true];constructor
 ·unfold possF;rw[List.all_eq_true];intro f hf
  have:f.fits (canon M S)=true:=by
   unfold Fct.fits;rw[beq_iff_eq,←h.facts f hf,decide_eq_decide];exact cl_canon_eq ⟨(hok.1 f hf).1,(hF f hf).1⟩ ⟨(hok.1 f hf).2,(hF f hf).2⟩
  rw[this];simp
 ·rw[possA_iff];refine ⟨fun x hx hi=>⟨fun e=>?_,by simp⟩,?_⟩
  ·rw[hfill x hx] at hi;refine h.nil x hx hi ((cl_canon_eq (S:=S) (t:=0) ⟨(hok.2 x hx).1,(hX x hx).1⟩ ⟨⟨by omega,by omega⟩,h0⟩).1 ?_);rw[e];have:=cl_canon (M:=M) (S:=S) (j:=0) (by omega);rw[h0,if_pos rfl] at this;have hl:=(least_spec (M:=M) h0).1;have h3:leastM M S 0=0:=by omega
   rw[h3] at this;exact this.symm
  ·rw[List.filter_congr hfill];have h3:=h.apart;unfold List.Nodup at h3 ⊢;rw[List.pairwise_map] at h3 ⊢;refine List.Pairwise.imp_of_mem ?_ h3;intro x y hx hy hxy e;have hx':=(List.mem_filter.1 hx).1;have hy':=(List.mem_filter.1 hy).1;exact hxy ((cl_canon_eq ⟨(hok.2 x hx').1,(hX x hx').1⟩ ⟨(hok.2 y hy').1,(hX y hy').1⟩).1 e)
/-! tidying -/
theorem swp_val {M:Int→Int} {x t:Int} (h:M x=M t) (s:Int):M (swp x t s)=M s:=by
 unfold swp;split
 ·rename_i e;rw[e,h]
 ·rfl
theorem Sat.subst {M:Int→Int} {a:Asn} (h:Sat M a) {x t:Int} (e:M x=M t):Sat M (substA x t a):=by
 have hfill:∀ z:Atm,fillM M (z.sub x t)=fillM M z:=fun z=>by
  unfold fillM Atm.sub;simp only[swp_val e]
 refine ⟨fun f hf=>?_,fun y hy hfi=>?_,?_⟩
 ·obtain ⟨g,hg,rfl⟩:=List.mem_map.1 hf;simp only[Fct.sub,swp_val e];exact h.facts g hg
 ·obtain ⟨z,hz,rfl⟩:=List.mem_map.1 hy;rw[hfill] at hfi;simp only[Atm.sub,swp_val e];exact h.nil z hz hfi
 ·have h3:=h.apart;simp only[substA,List.filter_map,List.map_map];rw[List.filter_congr (q:=fillM M) fun z _=>by simp[hfill]]
  have e2:((fun y:Atm=>M y.a)∘Atm.sub x t)=fun y:Atm=>M y.a:=by
   funext z;simp only[Function.comp,Atm.sub,swp_val e]
  rw[e2];exact h3
theorem Sat.less {M:Int→Int} {a:Asn} (h:Sat M a) {fs:List Fct} {xs:List Atm} (hf:∀ f∈fs,f∈a.facts) (hx:xs.Sublist a.atoms):Sat M ⟨fs,xs⟩:=
 ⟨fun f hm=>h.facts f (hf f hm),fun x hm=>h.nil x (hx.subset hm),h.apart.sublist ((hx.filter _).map _)⟩
theorem nfold_mem (fs:List Fct):∀ (acc:List Fct) (g:Fct),g∈fs.foldl nfStep acc→g∈acc∨∃ f∈fs,g=nfF f:=by
 induction fs with
 | nil=>intro acc g h;exact Or.inl h
 | cons f fs ih=>
  intro acc g h;rw[List.foldl_cons] at h;rcases ih _ _ h with h|⟨f',hf',e⟩
  ·unfold nfStep at h
   split at h
   ·exact Or.inl h
   ·split at h
    ·exact Or.inl h
    ·rcases List.mem_append.1 h with h|h
     ·exact Or.inl h
     ·exact Or.inr ⟨f,List.mem_cons_self,List.mem_singleton.1 h⟩
  ·exact Or.inr ⟨f',List.mem_cons_of_mem _ hf',e⟩
theorem Sat.normal {M:Int→Int} {a:Asn} (h:Sat M a):Sat M (normalF a):=by
 have hs:=h.less (fs:=[]) (xs:=a.atoms.filter nfA) (fun _ hf=>by cases hf) List.filter_sublist;refine ⟨fun g hg=>?_,hs.nil,hs.apart⟩;rcases nfold_mem _ _ _ hg with h1|⟨f,hf,rfl⟩
 ·cases h1
 ·have:=h.facts f hf;unfold nfF
  split
  ·simp only[];rw[←this,decide_eq_decide];exact eq_comm
  ·exact this
end
end Go.Proofs.YtjaohekkmlkinaaGreat
