/- Contracts: the reference's l10Cmd for a command without blocks. -/
import Derived.Test.YtjaohekkmlkinaaGreatTidyT
set_option linter.unusedSimpArgs false
set_option linter.unusedVariables false
set_option maxRecDepth 100000
set_option maxHeartbeats 25600000
namespace Go.Proofs.YtjaohekkmlkinaaGreat
section
open Go Go.RowKit Go.Proofs
attribute [local go_sem ↓] Go.wp_at_zero Go.wp_at_succ
theorem c_busyK {lo hi:Nat} (A:Option Addr) (c:Nat) (xs:List Int) (w:World) (h:IntsV w lo hi A xs):Calls Tryz.prog 109 #[.slice A xs.length c] w fun e w'=>e=.returned (.slice (some ⟨w.heap.size,0,none⟩) 9 9)∧Blk w' w.heap.size tB (encB (zj (tset xs))).toArray∧Below w.heap.size w w':=by
 have hl:=h.le;have hmk:=mkB9;have HT:aJ (tset xs=xs.foldl tins 0):=by show _=_;unfold tset;rfl
 (go_enter Tryz.func109,Tryz.ntmps109);go_wp2;clear hmk
 go_loopw [4] (fun i wr=>∃ (k T:Nat),k≤xs.length∧i=.int .i64 k∧aJ (tset xs=(xs.drop k).foldl tins T)∧Blk wr w.heap.size tB (encB (zj T)).toArray∧Below w.heap.size w wr) (fun i _=>xs.length - (intOf i).toNat)
 case atStart=>exact ⟨0,0,Nat.zero_le _,rfl,HT.o,blks,bel⟩
 case round=>
  obtain ⟨k,T,hk,rfl,HA,k0,hB⟩:=hrel;by_cases hlt:k<xs.length
  ·obtain ⟨b,off,rfl,c0⟩:=(h.bz hB).at hlt;have HD:=ax (foldl_step tins T xs k hlt);have hne:=block_lt_of_cell c0;cases ht:jq xs[k]
   ·have HS:aJ (tins T xs[k]=T):=by simp[aJ,tins,ht]
    go_wp2_with (go_at_call 174;refine (c_spec_l1Is _ _).mono ?_;rintro e w' ⟨rfl,rfl⟩)
    go_round
    case rel=>exact ⟨k+1,T,by omega,by go_num,by show _=_;rw[HA.o,HD.o,HS.o],k0,hB⟩
    case measure=>simp[intOf];omega
   ·have hb:=zjA.1 ht;obtain ⟨m,hm⟩:=Int.eq_ofNat_of_zero_le hb.1;have HM:=ax hm;have m8:m≤8:=by omega
    have m8':(m:Int)<9:=by omega
    rw[hm] at c0 ht;have q3:wr.cell? ⟨w.heap.size,m,none⟩=some (.bool (T.testBit m)):=(k0.cell m).trans (flags_cell T _ rfl (by omega));have r3:=k0.frozen;clear hm hb;(go_wp2_with (go_at_call 174;refine (c_spec_l1Is _ _).mono ?_;rintro e w' ⟨rfl,rfl⟩))
    go_round
    case rel=>
     refine ⟨k+1,tins T xs[k],by omega,by go_num,by show _=_;rw[HA.o,HD.o],?_,bel⟩;rw[HM.o,←tins_flags _ _ m8];exact k0.set_ _ _
    case measure=>simp[intOf];omega
  ·obtain rfl:k=xs.length:=by omega
   go_wp2;go_ret;refine ⟨rfl,?_,hB⟩;rw[HA.o,List.drop_length];exact k0
theorem c_copyS {lo hi:Nat} (v:Value) (a:Asn) (w:World) (h:AsnV w lo hi v a) :
  Calls Tryz.prog 124 #[v] w fun e w'=>∃ r,e=.returned r∧AsnO w' w.heap.size r a∧Below w.heap.size w w':=by
 have hV:=ax h;obtain ⟨A1,c1,A2,c2,rfl,h1,h2⟩:=h;have HL:=ax (And.intro h1.le h2.le);clear h1 h2;have e0:aJ (starA a ⟨[],[]⟩=a):=by show _=_;simp[starA]
 (go_enter Tryz.func124,Tryz.ntmps124);have kr:Blk ((w.alloc (.cells #[.slice A1 a.facts.length c1,.slice A2 a.atoms.length c2] 37)).alloc (.cells #[.slice none 0 0,.slice none 0 0] 37)) (w.heap.size+1) 37 #[.slice none 0 0,.slice none 0 0]:=blks;(go_wp2_with fail);refine (c_spec_l3Star _ _ a ⟨[],[]⟩ _ (hV.o.bz bel) (⟨none,0,none,0,rfl,Rd.nil _ 0 0 _ _,Rd.nil _ 0 0 _ _⟩) (by simpa using HL.o.1) (by simpa using HL.o.2)).mono ?_;rintro e w1 ⟨r,rfl,o,hB1⟩;have hB:=bgo (w:=w) bel hB1;replace kr:=kr.nz hB1;rw[e0.o] at o;replace o:=o.bq (base':=w.heap.size) (by simp;omega);obtain ⟨fv,av,rfl,o1,o2⟩:=o;obtain ⟨F,e1,rfl,-⟩:=o1.rj;obtain ⟨G,e2,rfl,-⟩:=o2.rj;have O1:=ax o1;have O2:=ax o2;(replace qkr:=kr.cell;replace rkr:=kr.frozen;replace lkr:=kr.lt);clear o1 o2 hB1;(go_wp2_with fail);refine bodyPost_ret (v:=.agg #[.slice F a.facts.length e1,.slice G a.atoms.length e2]) (by simp[results,Tryz.results124,go_sem,qkr]) rfl ⟨_,rfl,⟨_,_,rfl,?_,?_⟩,bel⟩
 ·exact (O1.o.setT kr (by decide) 0 _).setT (kr.set_ 0 _) (by decide) 1 _
 ·exact (O2.o.setT kr (by decide) 0 _).setT (kr.set_ 0 _) (by decide) 1 _
theorem set_sameA {cs:Array Value} {m:Nat} {u:Value} (h:cs[m]? = some u):cs.setIfInBounds m u=cs:=by
 apply Array.ext_getElem?;intro j;by_cases e:m=j
 ·subst e;rw[h];have hlt:m<cs.size:=(Array.getElem?_eq_some_iff.1 h).1;rw[Array.getElem?_setIfInBounds_self,if_pos hlt]
 ·rw[Array.getElem?_setIfInBounds_ne e]
theorem flags_set_false {F m:Nat} (hm:m≤8) (h:F.testBit m=false):((encB (zj F)).toArray).setIfInBounds m (.bool false)=(encB (zj F)).toArray:=set_sameA ((flags_cell F _ rfl (by omega)).trans (by rw[h]))
theorem keepE_spec {a:Asn} {L:Cms} {ks:List Int} {F:Nat} (h:∀ n,F.testBit n=((L.fold lsF (tset ks)).testBit n || (decide (5≤n∧n<9)&&(tset (mz a)).testBit n))):F=keepE a L ks:=by
 apply Nat.eq_of_testBit_eq;intro n;have e0:L.fold lsF 0=logS (L.fold loF 0):=fold_logS L 0;rw[h n,fold_ls_bit,e0];unfold keepE;rw[Nat.testBit_or,Nat.testBit_or,logS_bit (tset (mz a))]
 have hT:(tset (mz a)).testBit n=true→n<9:=fun hb=>by
  rw[tset_bit,decide_eq_true_eq] at hb;have:=zjA.1 hb.1;omega
 have e1:(decide (5≤n∧n<9)&&(tset (mz a)).testBit n)=(decide (5≤n)&&(tset (mz a)).testBit n):=by
  cases hb:(tset (mz a)).testBit n
  ·simp
  ·have:=hT hb;simp only[Bool.and_true,decide_eq_decide];omega
 rw[e1,Bool.or_assoc,Bool.or_comm ((logS (L.fold loF 0)).testBit n),←Bool.or_assoc]
theorem tset_tlist {S:Nat} (h:S<512):tset (tlistL S 9)=S:=by
 apply Nat.eq_of_testBit_eq;intro n;rw[tset_bit];cases hb:S.testBit n
 ·rw[decide_eq_false_iff_not];rintro ⟨-,h2⟩;rw[tlistL_mem,hb] at h2;exact absurd h2.2 (by decide)
 ·have hn:n<9:=by
   rcases Nat.lt_or_ge n 9 with h1|h1
   ·exact h1
   ·have:=Nat.testBit_lt_two_pow (i:=n) (x:=S) (Nat.lt_of_lt_of_le h (Nat.pow_le_pow_right (n:=2) (by decide) h1));rw[hb] at this;cases this
  rw[decide_eq_true_eq];exact ⟨zjA.2 (by omega),(tlistL_mem _ _ _).2 ⟨hn,hb⟩⟩
theorem strongP_ks {a:Asn} {L:Cms} {ks ks':List Int} (h:tset ks=tset ks'):strongP a L ks=strongP a L ks':=by
 unfold strongP keepE;rw[h]
theorem aterms_tset {a:Asn} (h:a.valid=true):tset (atermsL a)=tset (mz a):=by
 have e:atermsL a=tlistL (tset (mz a)) 9:=by unfold atermsL;rw[if_pos h];rfl
 rw[e,tset_tlist (tset_lt _)]
theorem c_l11Keep {lo hi lo1 hi1 lo2 hi2:Nat} (v:Value) (a:Asn) (A:Option Addr) (c:Nat) (L:Cms) (B:Option Addr) (cb:Nat) (ks:List Int) (w:World) (h:AsnV w lo hi v a) (hav:a.valid=true) (hV:CmsV w lo1 hi1 A L) (hhi1:hi1≤w.heap.size) (hlen:L.len≤1049600) (hsm:L.small 1049600) (hsh:L.shape 4=true) (hk:IntsV w lo2 hi2 B ks) :
  Calls Tryz.prog 57 #[v,.slice A L.len c,.slice B ks.length cb] w fun e w'=>∃ r,e=.returned r∧IntsO w' w.heap.size r (tlistL (keepE a L ks) 9)∧Below w.heap.size w w':=by
 have HX:=ax h;obtain ⟨B1,e1,B2,e2,rfl,-⟩:=h;have HC:=ax hV;have HSM:=ax hsm;have HSH:=ax hsh;have HKS:=ax hk;have HTM:aJ (∀ t∈mz a,jq t=true):=ax (termsL_ok hav);clear hV hsm hsh hk;(go_enter Tryz.func57,Tryz.ntmps57);(go_upto_region 1 with fail);refine bx1 (w:=w) (F:=Code.wp _ _ _ _) ?_;rintro W k3 hB hz;(replace qk3:=k3.z);(go_wp2_with fail);refine (c_busyK B cb ks _ (HKS.o.bz hB)).mono ?_;rintro e w1 ⟨rfl,kf,hq⟩;obtain ⟨gf,hgf⟩:∃ y,y=W.heap.size:=⟨_,rfl⟩;rw[←hgf] at kf ⊢;have hz1:=hq.size;have hgfw:w.heap.size≤gf:=by omega
 have hgfw1:w.heap.size<gf:=by omega
 have hi1g:hi1≤gf:=by omega
 clear hgf hz;(replace hB:=bgo hB hq;replace k3:=k3.nz hq;replace qk3:=k3.z);clear hq;obtain ⟨F0,hF0e⟩:∃ F,F=L.fold lsF (tset ks):=⟨_,rfl⟩;replace hF0e:=ax hF0e;(go_wp2_with fail);refine (l8Logical_go _ L (Nat.lt_succ_self _) A c lo1 hi1 gf (tset ks) 4 _ (HC.o.bz hB) hlen HSM.o HSH.o hi1g (tset_lt _) kf).mono ?_;rintro e w2 ⟨rfl,kf2,hM⟩;rw[←hF0e.o] at kf2;have hF0:F0<512:=by rw[hF0e.o];exact Cms.fold_lt (F:=lsF) (fun S k a b t i h=>lsF_lt h k a b t i) L (tset_lt _)
 have HF0:=hF0e;have hq:Below gf w1 w2:=hM.bz (fun u hu=>by omega) (by have:=kf.lt;omega);replace k3:=k3.nxt hq (by omega);replace hB:=hB.trans (hq.mono (by omega));have hz2:=hq.size;clear hq hM hF0e kf;(replace qk3:=k3.z);(go_wp2_with fail);refine (c_spec_l3Terms _ a _ (HX.o.bz hB) HTM.o).mono ?_;rintro e w3 ⟨r3,rfl,o3,hq⟩;obtain ⟨Tb,ct,rfl,fT⟩:=o3.rj;rw[zjB];have kf:Blk w3 gf tB (encB (zj F0)).toArray:=kf2.nz hq;have hgf2:gf<w2.heap.size:=kf2.lt;(replace hB:=bgo hB hq;replace k3:=k3.nz hq;replace qk3:=k3.z);have HB:=ax hB;obtain ⟨T,hT⟩:∃ T,T=tset (mz a):=⟨_,rfl⟩;rw[←hT] at fT;have HTT:=ax hT;obtain ⟨pb,po,rfl,-⟩:=flags_addr fT;obtain ⟨gf2,hgf2e⟩:∃ y,y=w2.heap.size:=⟨_,rfl⟩;obtain ⟨gf2h,hg3⟩:∃ y,y=w3.heap.size:=⟨_,rfl⟩;rw[←hgf2e] at fT hgf2;rw[←hg3] at fT;have HT:=ax fT;clear fT o3 hq kf2 hB hT hgf2e hg3 k3 qk3;(go_wp2_with fail)
 go_loopw [9] (fun ix wr=>∃ (m F:Nat),5≤m∧m≤9∧ix=.int .i64 m∧F<512∧aJ (∀ n,F.testBit n=(F0.testBit n || (decide (5≤n∧n<m)&&T.testBit n)))∧Blk wr gf tB (encB (zj F)).toArray∧aJ (BoolsV wr gf2 gf2h (some ⟨pb,po,none⟩) (zj T))∧aJ (Below w.heap.size w wr)) (fun ix _=>9 - (intOf ix).toNat)
 case atStart=>exact ⟨5,F0,by decide,by decide,rfl,hF0,ax (fun n=>by rw[decide_eq_false (by omega)];simp),kf,HT,HB⟩
 case round=>
  clear kf HT HB;obtain ⟨m,F,h5,h9,rfl,hF,HFB,kf,HT,HB⟩:=hrel;by_cases hlt:m<9
  ·have hmi:(m:Int)≤8:=by omega
   have hm9:(m:Int)<9:=by omega
   have f0:=flags_cell F _ rfl (k:=m) (by omega);have q7:wr.cell? ⟨gf,m,none⟩=some (.bool (F.testBit m)):=(kf.cell m).trans f0;have r7:=kf.frozen;have l7:=kf.lt;have t7:=flags_at HT.o (m:=m) (by omega);have hpl:=block_lt_of_cell t7
   have up:∀ {W:World},Blk W gf tB (encB (zj F)).toArray→Blk (W.setCell ⟨gf,m,none⟩ (.bool true)) gf tB (encB (zj (tins F (m:Int)))).toArray:=fun hk=>by
    have:=hk.set_ m (.bool true)
    rwa [tins_flags _ _ (by omega)] at this
   have hbt:∀ n,(F.testBit m=true∨T.testBit m=true)→(tins F (m:Int)).testBit n=(F0.testBit n || (decide (5≤n∧n<m+1)&&T.testBit n)):=fun n hor=>by
    rw[tins_bit,HFB.o n];by_cases e:n=m
    ·subst e;have hd:decide (jq (n:Int)=true∧((n:Int)=(n:Int)))=true:=decide_eq_true ⟨zjA.2 (by omega),rfl⟩;rw[hd,Bool.or_true,decide_eq_true (show 5≤n∧n<n+1 by omega),Bool.true_and];have hm:=HFB.o n;rw[decide_eq_false (show ¬(5≤n∧n<n) by omega),Bool.false_and,Bool.or_false] at hm;rcases hor with ho|ho
     ·rw[hm] at ho;rw[ho];rfl
     ·rw[ho,Bool.or_true]
    ·have hd:decide (jq (m:Int)=true∧((m:Int)=(n:Int)))=false:=decide_eq_false (by rintro ⟨-,h⟩;omega);rw[hd,Bool.or_false]
     congr 2
     rw[decide_eq_decide];omega
   have hbf:F.testBit m=false→T.testBit m=false→∀ n,F.testBit n=(F0.testBit n || (decide (5≤n∧n<m+1)&&T.testBit n)):=fun hf ht n=>by
    rw[HFB.o n];by_cases e:n=m
    ·subst e;rw[ht];simp
    ·congr 2
     rw[decide_eq_decide];omega
   have HT2:∀ u,aJ (BoolsV (wr.setCell ⟨gf,m,none⟩ u) gf2 gf2h (some ⟨pb,po,none⟩) (zj T)):=fun u=>ax (Rd.setb HT.o (Or.inl hgf2) u);have HB2:∀ u,aJ (Below w.heap.size w (wr.setCell ⟨gf,m,none⟩ u)):=fun u=>ax (HB.o.setCell hgfw u);have HTI:=ax (tins_lt hF (m:Int));replace hbt:=ax hbt;replace hbf:=ax hbf;replace up:=ax (fun W=>up (W:=W));clear f0;cases hfm:F.testBit m
   ·rw[hfm] at q7;cases htm:T.testBit m
    ·rw[htm] at t7;have HN:=ax (hbf.o hfm htm)
     have ks:Blk (wr.setCell ⟨gf,m,none⟩ (.bool false)) gf tB (encB (zj F)).toArray:=by
      have:=kf.set_ m (.bool false)
      rwa [flags_set_false (by omega) hfm] at this
     clear hfm htm hbf hbt up;(go_wp2_with fail)
     go_round
     case rel=>exact ⟨m+1,F,by omega,by omega,by go_num,hF,HN,ks,HT2 _,HB2 _⟩
     case measure=>simp[intOf];omega
    ·rw[htm] at t7;have HN:=ax fun n=>hbt.o n (.inr htm);have ks:=up.o _ kf;clear hfm htm hbf hbt up;(go_wp2_with fail)
     go_round
     case rel=>exact ⟨m+1,_,by omega,by omega,by go_num,HTI.o,HN,ks,HT2 _,HB2 _⟩
     case measure=>simp[intOf];omega
   ·rw[hfm] at q7;have HN:=ax fun n=>hbt.o n (.inl hfm);have ks:=up.o _ kf;clear hfm hbf hbt up;(go_wp2_with fail)
    go_round
    case rel=>exact ⟨m+1,_,by omega,by omega,by go_num,HTI.o,HN,ks,HT2 _,HB2 _⟩
    case measure=>simp[intOf];omega
  ·obtain rfl:m=9:=by omega
   have HK:aJ (F=keepE a L ks):=ax (keepE_spec (by rw[←HF0.o,←HTT.o];exact HFB.o));have fl:=BoolsO.ofBlk kf (Nat.le_refl gf);obtain ⟨A',c',eA,fV⟩:=fl.rj;injection eA with e1 e2 e3;subst e1 e3;have hl3:=c_spec_l3List _ 9 _ wr fV (by rw[zjB];omega);rw[tlistL_idx,zjB,HK.o] at hl3;replace hl3:=ax hl3;clear fl fV e2;(go_wp2_with fail);refine hl3.o.mono ?_;rintro e w4 ⟨r4,rfl,o4,hq⟩;have hzr:=HB.o.size;(go_wp2_with fail);go_ret;exact ⟨_,rfl,o4.bq (by omega),bgo HB.o hq⟩
theorem c_l11RunE (A':Option Addr) (n' c':Nat) (A:Option Addr) (c:Nat) (B:Option Addr) (nb cb:Nat) (w:World) :
  Calls Tryz.prog 148 #[.slice A' n' c',.slice A 0 c,.slice B nb cb] w fun e w'=>e=.returned (.tuple #[.slice A' n' c',.int .i64 0])∧w'=w:=by
 (go_enter Tryz.func148,Tryz.ntmps148);(go_wp2_with fail)
 go_loopw [0,8] (fun s3 ix wr=>ix=.int .i64 0∧s3=.slice A' n' c'∧wr=w) (fun _ _ _=>0)
 case atStart=>exact ⟨rfl,rfl,rfl⟩
 case round=>
  obtain ⟨rfl,rfl,rfl⟩:=hrel;(go_wp2_with fail);go_ret2;exact ⟨rfl,rfl⟩
theorem c_spec_StrongestE {lo hi lo1 hi1 lo2 hi2:Nat} (v:Value) (a:Asn) (A:Option Addr) (c:Nat) (L:Cms) (B:Option Addr) (cb:Nat) (ks:List Int) (w:World) (h:AsnV w lo hi v a) (hV:CmsV w lo1 hi1 A L) (hhi1:hi1≤w.heap.size) (hlen:L.len≤1049600) (hsm:L.small 1049600) (hsz:L.sz≤1049600) (hk:IntsV w lo2 hi2 B ks) (hL:L=.nil) :
  Calls Tryz.prog 83 #[v,.slice A L.len c,.slice B ks.length cb] w fun e w'=>∃ r vs,e=.returned (.tuple #[r,.int .i64 (strongP a L ks).1])∧A2O w' w.heap.size r vs (strongP a L ks).2∧Below w.heap.size w w':=by
 have HX:=ax h;have HL:=ax hL;clear hL;obtain ⟨B1,e1,B2,e2,rfl,-⟩:=h;have HC:=ax hV;have HSM:=ax hsm;obtain ⟨K,hKe⟩:∃ K,K=keepE a L ks:=⟨_,rfl⟩;have lK:K<512:=by rw[hKe];exact keepE_lt _ _ _
 obtain ⟨KL,hKL⟩:∃ KL,KL=tlistL K 9:=⟨_,rfl⟩;have hKLl:KL.length≤9:=by rw[hKL];exact tlistL_length _ _
 have hKLt:tset KL=K:=by rw[hKL];exact tset_tlist lK
 obtain ⟨res,hres⟩:∃ q,q=strongP a L ks:=⟨_,rfl⟩;have E0:aJ (res=if a.valid&&L.prog then L.exe true K [a] else (5,[])):=ax (by rw[hres,hKe];rfl)
 have CK:aJ (a.valid=true→L.prog=true→∀ W,Below w.heap.size w W→Calls Tryz.prog 57 #[.agg #[.slice B1 a.facts.length e1,.slice B2 a.atoms.length e2],.slice A L.len c,.slice B ks.length cb] W fun e w'=>∃ r,e=.returned r∧IntsO w' W.heap.size r KL∧Below W.heap.size W w'):=ax fun hv hp W hW=>by
  rw[hKL,hKe];exact c_l11Keep _ a A c L B cb ks W (HX.o.bz hW) hv (hV.bz hW) (Nat.le_trans hhi1 hW.size) hlen hsm (prog_sh hp).1 (hk.bz hW)
 have CR:aJ (a.valid=true→L.prog=true→∀ W base A' c' vs rB cB lo hi,A2O W base (.slice A' 1 c') vs [a]→base≤W.heap.size→Below w.heap.size w W→IntsV W lo hi rB KL→Calls Tryz.prog 148 #[.slice A' 1 c',.slice A L.len c,.slice rB KL.length cB] W fun e w'=>∃ r vs',e=.returned (.tuple #[r,.int .i64 (L.exe true K [a]).1])∧A2O w' base r vs' (L.exe true K [a]).2∧Below W.heap.size W w'):=ax fun hv hp W base A' c' vs rB cB lo hi h1 h2 h3 h4=>by
  rw[HL.o,show Cms.exe true K .nil [a]=(0,[a]) by rw[Cms.exe]];exact (c_l11RunE A' 1 c' A c rB KL.length cB W).mono fun e w' ⟨e1,e2⟩=>⟨_,vs,e1,e2▸h1,e2▸Below.refl _ _⟩
 rw[←hres];clear hV hk hKe hKL hKLt hres hsm;(go_enter Tryz.func83,Tryz.ntmps83);(go_upto_region 1 with fail);refine bx1 (w:=w) (F:=Code.wp _ _ _ _) ?_;rintro W k3 hB -;(replace qk3:=k3.z);(go_wp2_with fail);refine (vz _ a _ (HX.o.bz hB)).mono ?_;rintro e w0 ⟨rfl,hq⟩;(replace hB:=bgo hB hq;replace k3:=k3.nz hq;replace qk3:=k3.z);clear hq;cases hv:a.valid
 ·have E:aJ (res=(5,[])):=ax (by rw[E0.o,hv];rfl);clear hv;(go_wp2_with fail);go_ret2;exact ⟨_,_,by rw[E.o];rfl,by rw[E.o];exact (A2O.empty _ rfl).bq hB.size,bbox hB _⟩
 have HV:=ax hv;clear hv;(go_wp2_with fail);refine (c_spec_ProgramValid L A c _ (HC.o.bz hB) hlen HSM.o hsz).mono ?_;rintro e w0 ⟨rfl,hq⟩;(replace hB:=bgo hB hq;replace k3:=k3.nz hq;replace qk3:=k3.z);clear hq;cases hp:L.prog
 ·have E:aJ (res=(5,[])):=ax (by rw[E0.o,hp];simp);clear hp;(go_wp2_with fail);go_ret2;exact ⟨_,_,by rw[E.o];rfl,by rw[E.o];exact (A2O.empty _ rfl).bq hB.size,bbox hB _⟩
 have E1:aJ (res=L.exe true K [a]):=ax (by rw[E0.o,HV.o,hp];rfl);replace CK:=ax (CK.o HV.o hp);replace CR:=ax (CR.o HV.o hp);rw[←E1.o] at CR;clear hp qk3 E0 E1;(go_upto_region 3 with fail);refine wp_region_noPanic ?_;refine wp_region_held_drew (S:=(fun w'=>∀ q,w'.cell? ⟨w.heap.size,q,none⟩=#[.slice B1 a.facts.length e1,.slice B2 a.atoms.length e2][q]?)) (by kernel_rfl) (k3.drew.cell) (fun aH=>?_);have hq:=(Below.refl w0.heap.size w0).drew;(replace hB:=bgo hB hq;replace k3:=k3.nz hq);clear hq;generalize w0.drew=V at *;have hzV:=hB.size;refine tk2 0 rfl aH (h:=tk2 3 rfl aH (h:=tk2 4 rfl aH (h:=?_)));(try simp only[zz]);refine tk2 5 rfl aH (h:=tk2 6 rfl aH (h:=?_));refine rdc 1 rfl fun K hK=>?_;(try simp only[zz]);(go_simp;refine (c_copyS _ a _ (HX.o.bz hB)).mono ?_;rintro e w1 ⟨r1,rfl,o1,hq⟩;obtain ⟨F,f,G,g,rfl⟩:=o1.I.form;have HO1:=ax (o1.bq (base':=w.heap.size) hB.size);(replace hB:=bgo hB hq;replace k3:=k3.nz hq);have z1:=hB.size;clear hq o1);refine hK.out _ _ (k3.cell) ?_;clear aH hK K;intro aH;(try simp only[zz]);refine wpAnyH_ready (rs:=[2,7]) (by kernel_rfl) (by simp) (AllReadyH.cons rfl (fun K hK=>?_) (AllReadyH.cons rfl (fun K hK=>?_) AllReadyH.nil))
 ·skip;(try simp only[zz]);(go_simp;have hq:=bbox (Below.refl _ w1) (.cells #[.slice F a.facts.length f,.slice G a.atoms.length g] tAs);have OR:=ax (A2O.one (base:=w.heap.size) (Blk.new w1 tAs #[.slice F a.facts.length f,.slice G a.atoms.length g]) z1 (HO1.o.bz hq));clear HO1;(replace hB:=bgo hB hq;replace k3:=k3.nz hq);clear hq);refine hK.out _ _ (k3.cell) ?_;clear aH hK K;intro aH;(try simp only[zz]);generalize (w1.alloc (.cells #[.slice F a.facts.length f,.slice G a.atoms.length g] _))=w2 at *;obtain ⟨yr,hyr⟩:∃ y,y=w1.heap.size:=⟨_,rfl⟩;rw[←hyr] at OR ⊢;clear hyr;refine rdc 7 rfl fun K hK=>?_;(try simp only[zz]);(go_simp;refine (CK.o _ hB).mono ?_;rintro e w3 ⟨r7,rfl,o7,hq⟩;obtain ⟨KA,kc,rfl,hK7⟩:=o7.rj;have HK7:=ax hK7;(try replace OR:=ax (OR.o.bz hq));(try replace HO1:=ax (HO1.o.bz hq));(replace hB:=bgo hB hq;replace k3:=k3.nz hq);have z7:=hB.size;clear hq o7 hK7);refine hK.out _ _ (k3.cell) ?_;clear aH hK K;intro aH;refine rdc 8 rfl fun K hK=>?_;(try simp only[zz]);(go_simp;refine (CR.o _ w.heap.size _ _ _ _ _ _ _ OR.o hB.size hB HK7.o).mono ?_;rintro e w4 ⟨r8,vs8,rfl,o8,hq⟩;have O8:=ax o8;(replace hB:=bgo hB hq;replace k3:=k3.nz hq);clear hq o8);refine hK.out _ _ (k3.cell) ?_;clear aH hK K;intro aH;(try simp only[zz]);refine tk2 9 rfl aH (h:=tk2 10 rfl aH (h:=tk2 11 rfl aH (h:=?_)));(try simp only[zz]);refine tk2 12 rfl aH (h:=?_);(try simp only[zz]);refine dn1 ?_;clear aH;obtain ⟨R8,q8,rfl⟩:=O8.o.form;(go_wp2_with fail);go_ret2;exact ⟨_,vs8,rfl,O8.o,hB⟩
 ·skip;(try simp only[zz]);(go_simp;refine (CK.o _ hB).mono ?_;rintro e w2 ⟨r7,rfl,o7,hq⟩;obtain ⟨KA,kc,rfl,hK7⟩:=o7.rj;have HK7:=ax hK7;(try replace OR:=ax (OR.o.bz hq));(try replace HO1:=ax (HO1.o.bz hq));(replace hB:=bgo hB hq;replace k3:=k3.nz hq);have z7:=hB.size;clear hq o7 hK7);refine hK.out _ _ (k3.cell) ?_;clear aH hK K;intro aH;refine rdc 2 rfl fun K hK=>?_;(try simp only[zz]);(go_simp;have hq:=bbox (Below.refl _ w2) (.cells #[.slice F a.facts.length f,.slice G a.atoms.length g] tAs);have OR:=ax (A2O.one (base:=w.heap.size) (Blk.new w2 tAs #[.slice F a.facts.length f,.slice G a.atoms.length g]) z7 (HO1.o.bz hq));replace HK7:=ax (IntsV.bz HK7.o hq);clear HO1;(replace hB:=bgo hB hq;replace k3:=k3.nz hq);clear hq);refine hK.out _ _ (k3.cell) ?_;clear aH hK K;intro aH;(try simp only[zz]);generalize (w2.alloc (.cells #[.slice F a.facts.length f,.slice G a.atoms.length g] _))=w3 at *;obtain ⟨yr,hyr⟩:∃ y,y=w2.heap.size:=⟨_,rfl⟩;rw[←hyr] at OR ⊢;clear hyr;refine rdc 8 rfl fun K hK=>?_;(try simp only[zz]);(go_simp;refine (CR.o _ w.heap.size _ _ _ _ _ _ _ OR.o hB.size hB HK7.o).mono ?_;rintro e w4 ⟨r8,vs8,rfl,o8,hq⟩;have O8:=ax o8;(replace hB:=bgo hB hq;replace k3:=k3.nz hq);clear hq o8);refine hK.out _ _ (k3.cell) ?_;clear aH hK K;intro aH;(try simp only[zz]);refine tk2 9 rfl aH (h:=tk2 10 rfl aH (h:=tk2 11 rfl aH (h:=?_)));(try simp only[zz]);refine tk2 12 rfl aH (h:=?_);(try simp only[zz]);refine dn1 ?_;clear aH;obtain ⟨R8,q8,rfl⟩:=O8.o.form;(go_wp2_with fail);go_ret2;exact ⟨_,vs8,rfl,O8.o,hB⟩
theorem c_spec_VerifyE {lo hi lo1 hi1 lo2 hi2:Nat} (v v2:Value) (a b:Asn) (A:Option Addr) (c:Nat) (L:Cms) (w:World) (h:AsnV w lo hi v a) (hV:CmsV w lo1 hi1 A L) (hhi1:hi1≤w.heap.size) (hlen:L.len≤1049600) (hsm:L.small 1049600) (hsz:L.sz≤1049600) (h2:AsnV w lo2 hi2 v2 b) (hL:L=.nil) :
  Calls Tryz.prog 25 #[v,.slice A L.len c,v2] w fun e w'=>e=.returned (.int .i64 (verP a L b))∧Below w.heap.size w w':=by
 have HX:=ax h;have HL:=ax hL;clear hL;have HY:=ax h2;obtain ⟨B1,e1,B2,e2,rfl,-⟩:=h;obtain ⟨D1,f1,D2,f2,rfl,-⟩:=h2;have HC:=ax hV;have HSM:=ax hsm;obtain ⟨res,hres⟩:∃ q,q=verP a L b:=⟨_,rfl⟩;have E0:aJ (res=if b.valid then (if (strongP a L (atermsL b)).1≠0 then (strongP a L (atermsL b)).1 else if (strongP a L (atermsL b)).2.all fun p=>entF p b then 0 else 2) else 5):=ax hres;obtain ⟨KL,hKL⟩:∃ KL,KL=tlistL (tset (mz b)) 9:=⟨_,rfl⟩;have HKS:aJ (b.valid=true→strongP a L KL=strongP a L (atermsL b)):=ax fun hv=>strongP_ks (by rw[hKL,tset_tlist (tset_lt _),aterms_tset hv]);have HKL:=ax hKL;rw[←hres];clear hV hres hsm hKL;(go_enter Tryz.func25,Tryz.ntmps25);(go_upto_region 1 with fail);refine bx2 (w:=w) (F:=Code.wp _ _ _ _) ?_;rintro W k3 k5 hB -;(replace qk3:=k3.z;replace qk5:=k5.z);(go_wp2_with fail);refine (vz _ b _ (HY.o.bz hB)).mono ?_;rintro e w0 ⟨rfl,hq⟩;(replace hB:=bgo hB hq;replace k3:=k3.nz hq;replace qk3:=k3.z;replace k5:=k5.nz hq;replace qk5:=k5.z);clear hq;cases hv:b.valid
 ·have E:aJ (res=5):=ax (by rw[E0.o,hv];rfl);clear hv;(go_wp2_with fail);go_ret;exact ⟨ret_int E.o.symm,hB⟩
 have E1:aJ (res=(if (strongP a L KL).1≠0 then (strongP a L KL).1 else if (strongP a L KL).2.all fun p=>entF p b then 0 else 2)):=ax (by rw[E0.o,hv,HKS.o hv];rfl);have HTM:aJ (∀ t∈mz b,jq t=true):=ax (termsL_ok hv);clear hv E0 HKS qk3 qk5;(go_upto_region 3 with fail);refine wp_region_noPanic ?_;refine wp_region_held_drew (S:=(fun w'=>(∀ q,w'.cell? ⟨w.heap.size,q,none⟩=#[.slice B1 a.facts.length e1,.slice B2 a.atoms.length e2][q]?)∧(∀ q,w'.cell? ⟨w.heap.size+1,q,none⟩=#[.slice D1 b.facts.length f1,.slice D2 b.atoms.length f2][q]?))) (by kernel_rfl) (⟨k3.drew.cell,k5.drew.cell⟩) (fun aH=>?_);have hq:=(Below.refl w0.heap.size w0).drew;(replace hB:=bgo hB hq;replace k3:=k3.nz hq;replace k5:=k5.nz hq);clear hq;generalize w0.drew=V at *;refine tk2 0 rfl aH (h:=tk2 1 rfl aH (h:=tk2 2 rfl aH (h:=?_)));refine rdc 3 rfl fun K hK=>?_;(try simp only[zz]);(go_simp;refine (c_spec_l3Terms _ b _ (HY.o.bz hB) HTM.o).mono ?_;rintro e w1 ⟨r1,rfl,o1,hq⟩;obtain ⟨Tb,ct,rfl,fT⟩:=o1.rj;have hl3:=c_spec_l3List _ ct _ w1 fT (by rw[zjB];omega);rw[tlistL_idx,zjB,←HKL.o] at hl3;rw[zjB];have HL3:=ax hl3;(replace hB:=bgo hB hq;replace k3:=k3.nz hq;replace k5:=k5.nz hq);clear hq o1 fT hl3);refine hK.out _ _ (⟨k3.cell,k5.cell⟩) ?_;clear aH hK K;intro aH;refine rdc 4 rfl fun K hK=>?_;(try simp only[zz]);(go_simp;refine HL3.o.mono ?_;rintro e w2 ⟨r2,rfl,o2,hq⟩;obtain ⟨KA,kc,rfl,hK1⟩:=o2.rj;have HK:=ax hK1;(replace hB:=bgo hB hq;replace k3:=k3.nz hq;replace k5:=k5.nz hq);clear hq o2 hK1 HL3);refine hK.out _ _ (⟨k3.cell,k5.cell⟩) ?_;clear aH hK K;intro aH;refine rdc 5 rfl fun K hK=>?_;(try simp only[zz]);(go_simp;refine (c_spec_StrongestE _ a A c L KA kc KL _ (HX.o.bz hB) (HC.o.bz hB) (by have:=hB.size;omega) hlen HSM.o hsz HK.o HL.o).mono ?_;rintro e w3 ⟨r3,vs,rfl,o3,hq⟩;have O3:=ax o3;(replace hB:=bgo hB hq;replace k3:=k3.nz hq;replace k5:=k5.nz hq);clear hq o3 HK);refine hK.out _ _ (⟨k3.cell,k5.cell⟩) ?_;clear aH hK K;intro aH;(try simp only[zz]);refine tk2 6 rfl aH (h:=tk2 7 rfl aH (h:=tk2 8 rfl aH (h:=?_)));(try simp only[zz]);refine tk2 9 rfl aH (h:=tk2 10 rfl aH (h:=?_));(try simp only[zz]);refine dn1 ?_;clear aH;have HRS:=ax (strongP_res a L KL);generalize strongP a L KL=P at *;obtain ⟨code,ps⟩:=P;obtain ⟨R,r,rfl⟩:=O3.o.form;have ON:=ax O3.o.now;have hpl:ps.length≤1000:=Nat.le_trans HRS.o.2.2.1 (by decide);simp only at E1 ⊢;clear O3;have HB:=ax hB;by_cases h0:code=0
 ·subst h0;have E2:aJ (res=if ps.all fun p=>entF p b then 0 else 2):=ax (by rw[E1.o];simp);clear E1 HRS;(replace qk5:=k5.z);(go_wp2_with fail)
  go_loopw [9] (fun ix wr=>∃ j:Nat,j≤ps.length∧ix=.int .i64 j∧aJ (∀ p∈ps.take j,entF p b=true)∧aJ (Below w3.heap.size w3 wr)) (fun ix _=>ps.length - (intOf ix).toNat)
  case atStart=>exact ⟨0,Nat.zero_le _,rfl,ax (by intro p hp;simp at hp),Below.refl _ _⟩
  case round=>
   obtain ⟨j,hj,rfl,HA,HBr⟩:=hrel;have k5r:=k5.nz HBr.o;by_cases hlt:j<ps.length
   ·obtain ⟨g',o,P,p,Q,q,rfl,lb,g0,g1,hC⟩:=ON.o.bz HBr.o j hlt;have HT:aJ (ps.take (j+1)=ps.take j++[ps[j]]):=ax (List.take_succ_eq_append_getElem hlt);have HM:aJ (ps[j]∈ps):=ax (List.getElem_mem hlt);obtain ⟨s,hs⟩:∃ s,s=ps[j]:=⟨_,rfl⟩;rw[←hs] at g0 g1 hC HT HM;have HCs:=ax hC;have hji:(j:Int)<(ps.length:Int):=by omega
    have hzb:=HBr.o.size;clear hs hC;(replace qk5r:=k5r.z);(go_wp2_with fail);(go_upto_region 7 with fail);refine wp_region_noPanic ?_;refine wp_region_held_drew (S:=(fun w'=>(w'.cell? ⟨g',o+j*2,none⟩=some (.slice P s.facts.length p)∧w'.cell? ⟨g',o+j*2+1,none⟩=some (.slice Q s.atoms.length q))∧∀ u,w'.cell? ⟨w.heap.size+1,u,none⟩=#[.slice D1 b.facts.length f1,.slice D2 b.atoms.length f2][u]?)) (by kernel_rfl) (⟨⟨((Below.refl wr.heap.size wr).drew.cell (p:=⟨g',o+j*2,none⟩) lb).trans g0,((Below.refl wr.heap.size wr).drew.cell (p:=⟨g',o+j*2+1,none⟩) lb).trans g1⟩,k5r.drew.cell⟩) (fun aH=>?_);have HQ:=ax (Below.refl wr.heap.size wr).drew;generalize wr.drew=V2 at *;refine tk2 0 rfl aH (h:=tk2 1 rfl aH (h:=tk2 2 rfl aH (h:=?_)));(try simp only[zz]);refine tk2 3 rfl aH (h:=tk2 4 rfl aH (h:=?_));refine rdc 5 rfl fun K hK=>?_;(try simp only[zz]);(go_simp;refine (c_spec_Entails _ _ s b _ (HCs.o.V.bz HQ.o) (HY.o.bz (bgo HB.o (bgo HBr.o HQ.o)))).mono ?_;rintro e w6 ⟨rfl,hq⟩;have HB6:=ax (bgo HBr.o (bgo HQ.o hq));have hq2:=bgo HQ.o hq;clear hq);refine hK.out _ _ (⟨⟨(hq2.cell (p:=⟨g',o+j*2,none⟩) lb).trans g0,(hq2.cell (p:=⟨g',o+j*2+1,none⟩) lb).trans g1⟩,(k5r.nz hq2).cell⟩) ?_;clear aH hK K;intro aH;(try simp only[zz]);refine tk2 6 rfl aH (h:=?_);(try simp only[zz]);refine dn1 ?_;clear aH hq2 g0 g1;cases he:entF s b
    ·have E3:aJ ((ps.all fun p=>entF p b)=false):=ax (by rw[List.all_eq_false];exact ⟨s,HM.o,by simp[he]⟩);clear he;(go_wp2_with fail);go_ret;exact ⟨ret_int (by rw[E2.o,E3.o];rfl),bgo HB.o HB6.o⟩
    ·have HA2:aJ (∀ p∈ps.take (j+1),entF p b=true):=ax fun p hp=>by
      rw[HT.o] at hp;rcases List.mem_append.1 hp with hp|hp
      ·exact HA.o p hp
      ·obtain rfl:=List.mem_singleton.1 hp;exact he
     clear he;(go_wp2_with fail)
     go_round
     case rel=>exact ⟨j+1,by omega,by go_num,HA2,HB6⟩
     case measure=>simp[intOf];omega
   ·obtain rfl:j=ps.length:=by omega
    have E3:aJ ((ps.all fun p=>entF p b)=true):=ax (by rw[List.all_eq_true];intro p hp;exact HA.o p (by rwa [List.take_length]));(go_wp2_with fail);go_ret;exact ⟨ret_int (by rw[E2.o,E3.o];rfl),bgo HB.o HBr.o⟩
 ·have E:aJ (res=code):=ax (by rw[E1.o,if_pos h0]);have en:=HRS.o.2.1 h0;simp only at en;subst en;have h0b:(code == 0)=false:=beq_false_of_ne h0;clear E1 HRS ON h0;(go_wp2_with fail)
  go_loopw [9] (fun ix wr=>ix=.int .i64 0∧wr=w3) (fun ix _=>0)
  case atStart=>exact ⟨rfl,rfl⟩
  case round=>
   obtain ⟨rfl,rfl⟩:=hrel;(go_wp2_with fail);go_ret;exact ⟨ret_int E.o.symm,HB.o⟩
theorem verP_nil (a b:Asn):verP a .nil b=if b.valid then (if a.valid then (if entF a b then 0 else 2) else 5) else 5:=by
 unfold verP strongP;cases b.valid
 ·rfl
 cases a.valid
 ·rfl
 rw[show (true&&Cms.nil.prog)=true by decide,if_pos rfl,if_pos rfl,if_pos rfl,Cms.exe,if_neg (fun h=>h rfl),List.all_cons,List.all_nil,Bool.and_true];simp only[if_true]
theorem c_FnVerifyEmpty (v:Value) (A:Option Addr×Nat×Nat) (w:World) (h:v=.slice A.1 A.2.1 A.2.2∧BytesR w A.1 A.2.1 A.2.2):Calls Tryz.prog 4 #[v] w fun e w'=>e=.returned (.bool true)∧Below w.heap.size w w':=by
 obtain ⟨A,n,c⟩:=A;obtain ⟨rfl,hR⟩:=h;simp only at hR ⊢;have HR:=ax hR;clear hR;by_cases hn:1048576<n
 ·have hni:(1048576:Int)<(n:Int):=by omega
  clear hn;(go_enter Tryz.func4,Tryz.ntmps4);(go_wp2_with fail);go_ret;exact ⟨rfl,bel⟩
 have hni:¬(1048576:Int)<(n:Int):=by omega
 clear hn;(go_enter Tryz.func4,Tryz.ntmps4);(go_wp2_with fail);refine (c_DrawVerify A n c _ HR.o).mono ?_;rintro e v1 ⟨r1,r2,a,b,A3,c3,L3,rfl,ha,hb,-,-,-,-,-,hB1⟩;have HB:=ax hB1;have hZ:v1.heap.size≤v1.heap.size:=Nat.le_refl _;clear hB1 hni HR;obtain ⟨F1,f1,G1,g1,rfl,fa,xa,hcap⟩:=ha;obtain ⟨F2,f2,G2,g2,rfl,fb,xb⟩:=hb;have HA:aJ (AsnC v1 w.heap.size v1.heap.size (.agg #[.slice F1 a.facts.length f1,.slice G1 a.atoms.length g1]) a):=ax ⟨_,_,_,_,rfl,fa,xa,hcap⟩;have HBV:aJ (AsnV v1 w.heap.size v1.heap.size (.agg #[.slice F2 b.facts.length f2,.slice G2 b.atoms.length g2]) b):=ax ⟨_,_,_,_,rfl,fb,xb⟩;clear fa xa fb xb hcap;obtain ⟨ka,kb⟩:=blk2 v1 tAs tAs #[.slice F1 a.facts.length f1,.slice G1 a.atoms.length g1] #[.slice F2 b.facts.length f2,.slice G2 b.atoms.length g2];have hx:=bbox (bbox (Below.refl _ v1) (.cells #[.slice F1 a.facts.length f1,.slice G1 a.atoms.length g1] tAs)) (.cells #[.slice F2 b.facts.length f2,.slice G2 b.atoms.length g2] tAs);replace HA:=ax (HA.o.bz hx);replace HBV:=ax (HBV.o.bz hx);replace HB:=ax (bgo HB.o hx);replace hZ:=Nat.le_trans hZ hx.size;have hlx:v1.heap.size+1<((v1.alloc (.cells #[.slice F1 a.facts.length f1,.slice G1 a.atoms.length g1] tAs)).alloc (.cells #[.slice F2 b.facts.length f2,.slice G2 b.atoms.length g2] tAs)).heap.size:=by simp
 clear hx;(go_upto_region 4 with fail);generalize ((v1.alloc (.cells #[.slice F1 a.facts.length f1,.slice G1 a.atoms.length g1] tAs)).alloc (.cells #[.slice F2 b.facts.length f2,.slice G2 b.atoms.length g2] tAs))=v2 at *;obtain ⟨K,hK⟩:∃ K,K=verP a .nil b:=⟨_,rfl⟩
 have CI:aJ (∀ W q,AsnC W w.heap.size v1.heap.size (.agg #[.slice F1 a.facts.length f1,.slice G1 a.atoms.length g1]) a→AsnV W w.heap.size v1.heap.size (.agg #[.slice F2 b.facts.length f2,.slice G2 b.atoms.length g2]) b→v1.heap.size≤W.heap.size→Calls Tryz.prog 24 #[.agg #[.slice F1 a.facts.length f1,.slice G1 a.atoms.length g1],.slice q 0 0,.agg #[.slice F2 b.facts.length f2,.slice G2 b.atoms.length g2]] W fun e w'=>e=.returned (.int .i64 K)∧Below W.heap.size W w'):=ax fun W q h1 h2 h3=>by
  rw[hK];exact c_impl_VerifyE _ _ a b q 0 .nil W h1 h3 (lo1:=0) (hi1:=0) (fun h=>absurd h (Nat.lt_irrefl 0)) (Nat.zero_le _) (Nat.zero_le _) trivial h2 h3 rfl
 have CS:aJ (∀ W q,AsnV W w.heap.size v1.heap.size (.agg #[.slice F1 a.facts.length f1,.slice G1 a.atoms.length g1]) a→AsnV W w.heap.size v1.heap.size (.agg #[.slice F2 b.facts.length f2,.slice G2 b.atoms.length g2]) b→Calls Tryz.prog 25 #[.agg #[.slice F1 a.facts.length f1,.slice G1 a.atoms.length g1],.slice q 0 0,.agg #[.slice F2 b.facts.length f2,.slice G2 b.atoms.length g2]] W fun e w'=>e=.returned (.int .i64 K)∧Below W.heap.size W w'):=ax fun W q h1 h2=>by
  rw[hK];exact c_spec_VerifyE _ _ a b q 0 .nil W h1 (lo1:=0) (hi1:=0) (fun h=>absurd h (Nat.lt_irrefl 0)) (Nat.zero_le _) (Nat.zero_le _) trivial (by decide) h2 rfl
 have HKE:aJ (K=if b.valid then (if a.valid then (if entF a b then 0 else 2) else 5) else 5):=ax (by rw[hK,verP_nil]);clear hK;(replace qka:=ka.z;replace qkb:=kb.z);(go_wp2_with fail);refine (CI.o _ _ (HA.o.bz (bbox (Below.refl _ v2) _)) (HBV.o.bz (bbox (Below.refl _ v2) _)) (Nat.le_trans hZ (by simp))).mono ?_;rintro e v3 ⟨rfl,hq⟩;have hB3:=bgo (bbox (Below.refl _ v2) (.cells #[] tC)) hq;clear hq;replace ka:=ka.nz hB3;replace kb:=kb.nz hB3;replace HA:=ax (HA.o.bz hB3);replace HBV:=ax (HBV.o.bz hB3);replace HB:=ax (bgo HB.o hB3);replace hZ:=Nat.le_trans hZ hB3.size;clear hB3;(replace qka:=ka.z;replace qkb:=kb.z);(go_wp2_with fail);refine (CS.o _ _ (HA.o.V.bz (bbox (Below.refl _ v3) _)) (HBV.o.bz (bbox (Below.refl _ v3) _))).mono ?_;rintro e v4 ⟨rfl,hq⟩;have hB4:=bgo (bbox (Below.refl _ v3) (.cells #[] tC)) hq;clear hq;replace ka:=ka.nz hB4;replace kb:=kb.nz hB4;replace HA:=ax (HA.o.bz hB4);replace HBV:=ax (HBV.o.bz hB4);replace HB:=ax (bgo HB.o hB4);replace hZ:=Nat.le_trans hZ hB4.size;clear hB4;have hne:(K != K)=false:=by simp
 have heq:(K == K)=true:=by simp
 (replace qka:=ka.z;replace qkb:=kb.z);(go_wp2_with fail);refine (jz _ a _ HA.o.V).mono ?_;rintro e v5 ⟨rfl,hq⟩;replace ka:=ka.nz hq;replace kb:=kb.nz hq;replace HA:=ax (HA.o.bz hq);replace HBV:=ax (HBV.o.bz hq);replace HB:=ax (bgo HB.o hq);replace hZ:=Nat.le_trans hZ hq.size;clear hq;cases hav:a.valid
 case false=>
  (replace qka:=ka.z;replace qkb:=kb.z);(go_wp2_with fail);refine (CS.o _ _ (HA.o.V.bz (bbox (Below.refl _ v5) _)) (HBV.o.bz (bbox (Below.refl _ v5) _))).mono ?_;rintro e u1 ⟨rfl,hu⟩;(go_wp2_with fail);go_ret;exact ⟨rfl,bgo HB.o (bgo (bbox (Below.refl _ v5) (.cells #[] tC)) hu)⟩
 (replace qka:=ka.z;replace qkb:=kb.z);(go_wp2_with fail);refine (jz _ b _ HBV.o).mono ?_;rintro e v6 ⟨rfl,hq⟩;replace ka:=ka.nz hq;replace kb:=kb.nz hq;replace HA:=ax (HA.o.bz hq);replace HBV:=ax (HBV.o.bz hq);replace HB:=ax (bgo HB.o hq);replace hZ:=Nat.le_trans hZ hq.size;clear hq;cases hbv:b.valid
 case false=>
  (replace qka:=ka.z;replace qkb:=kb.z);(go_wp2_with fail);refine (CS.o _ _ (HA.o.V.bz (bbox (Below.refl _ v6) _)) (HBV.o.bz (bbox (Below.refl _ v6) _))).mono ?_;rintro e u1 ⟨rfl,hu⟩;(go_wp2_with fail);go_ret;exact ⟨rfl,bgo HB.o (bgo (bbox (Below.refl _ v6) (.cells #[] tC)) hu)⟩
 rw[hav,hbv] at HKE;clear hav hbv hne heq CI CS;obtain ⟨en,hen⟩:∃ en,en=entF a b:=⟨_,rfl⟩;have CE:aJ (∀ W,AsnV W w.heap.size v1.heap.size (.agg #[.slice F1 a.facts.length f1,.slice G1 a.atoms.length g1]) a→AsnV W w.heap.size v1.heap.size (.agg #[.slice F2 b.facts.length f2,.slice G2 b.atoms.length g2]) b→v1.heap.size≤W.heap.size→Calls Tryz.prog 27 #[.agg #[.slice F1 a.facts.length f1,.slice G1 a.atoms.length g1],.agg #[.slice F2 b.facts.length f2,.slice G2 b.atoms.length g2]] W fun e w'=>e=.returned (.bool en)∧Below W.heap.size W w'):=ax fun W h1 h2 h3=>by rw[hen];exact c_impl_Entails _ _ a b W h1 h2 h3 h3
 rw[←hen] at HKE;clear hen;have HK2:=HKE.o;simp only[if_true] at HK2;clear HKE;cases en
 all_goals
  simp only[if_true,Bool.false_eq_true,if_false] at HK2;subst HK2;(replace qka:=ka.z;replace qkb:=kb.z);(go_wp2_with fail);refine (CE.o _ HA.o.V HBV.o hZ).mono ?_;rintro e u1 ⟨rfl,hu⟩;(go_wp2_with fail);go_ret;exact ⟨rfl,bgo HB.o hu⟩
end
end Go.Proofs.YtjaohekkmlkinaaGreat
