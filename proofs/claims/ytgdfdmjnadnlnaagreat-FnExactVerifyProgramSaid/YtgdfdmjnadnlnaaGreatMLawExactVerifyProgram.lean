/- Contracts: the reference's l11Keep, StrongestPosts and VerifyProgram. -/
import Derived.Test.YtgdfdmjnadnlnaaGreatMSpM
import Derived.Test.YtgdfdmjnadnlnaaGreatSpecL
import Derived.Deep.RegionHeld3
import Derived.Deep.DrawnRows
set_option linter.unusedSimpArgs false
set_option linter.unusedVariables false
set_option maxRecDepth 100000
set_option maxHeartbeats 25600000
namespace Go.Proofs.YtgdfdmjnadnlnaaGreat
section
open Go Go.RowKit Go.Proofs
attribute [local go_sem ↓] Go.wp_at_zero Go.wp_at_succ
theorem c_busyK {lo hi:Nat} (A:Option Addr) (c:Nat) (xs:List Int) (w:World) (h:IntsV w lo hi A xs):Calls Tryz.prog 81 #[.slice A xs.length c] w fun e w'=>e=.returned (.slice (some ⟨w.heap.size,0,none⟩) 9 9)∧Blk w' w.heap.size tB (encB (flagsOf (tset xs))).toArray∧Below w.heap.size w w':=by
 have hl:=h.le;have hmk:=mkB9;have HT:Hid (tset xs=xs.foldl tins 0):=by show _=_;unfold tset;rfl
 (go_enter Tryz.func81,Tryz.ntmps81);go_wp2;clear hmk
 go_loopw [4] (fun i wr=>∃ (k T:Nat),k≤xs.length∧i=.int .i64 k∧Hid (tset xs=(xs.drop k).foldl tins T)∧Blk wr w.heap.size tB (encB (flagsOf T)).toArray∧Below w.heap.size w wr) (fun i _=>xs.length - (intOf i).toNat)
 case atStart=>exact ⟨0,0,Nat.zero_le _,rfl,HT.out,blks,bel⟩
 case round=>
  obtain ⟨k,T,hk,rfl,HA,k0,hB⟩:=hrel;by_cases hlt:k<xs.length
  ·obtain ⟨b,off,rfl,c0⟩:=(h.below hB).at hlt;have HD:=ax (foldl_step tins T xs k hlt);have hne:=block_lt_of_cell c0;cases ht:isTermB xs[k]
   ·have HS:Hid (tins T xs[k]=T):=by simp[Hid,tins,ht]
    go_wp2_with (go_at_call 132;refine (c_spec_l1Is _ _).mono ?_;rintro e w' ⟨rfl,rfl⟩)
    go_round
    case rel=>exact ⟨k+1,T,by omega,by go_num,by show _=_;rw[HA.out,HD.out,HS.out],k0,hB⟩
    case measure=>simp[intOf];omega
   ·have hb:=isTermB_iff.1 ht;obtain ⟨m,hm⟩:=Int.eq_ofNat_of_zero_le hb.1;have HM:=ax hm;have m8:m≤8:=by omega
    have m8':(m:Int)<9:=by omega
    rw[hm] at c0 ht;have q3:wr.cell? ⟨w.heap.size,m,none⟩=some (.bool (T.testBit m)):=(k0.cell m).trans (flags_cell T _ rfl (by omega));have r3:=k0.frozen;clear hm hb;(go_wp2_with (go_at_call 132;refine (c_spec_l1Is _ _).mono ?_;rintro e w' ⟨rfl,rfl⟩))
    go_round
    case rel=>
     refine ⟨k+1,tins T xs[k],by omega,by go_num,by show _=_;rw[HA.out,HD.out],?_,bel⟩;rw[HM.out,←tins_flags _ _ m8];exact k0.set_ _ _
    case measure=>simp[intOf];omega
  ·obtain rfl:k=xs.length:=by omega
   go_wp2;go_ret;refine ⟨rfl,?_,hB⟩;rw[HA.out,List.drop_length];exact k0
theorem c_copyS {lo hi:Nat} (v:Value) (a:Asn) (w:World) (h:AsnV w lo hi v a) :
  Calls Tryz.prog 60 #[v] w fun e w'=>∃ r,e=.returned r∧AsnO w' w.heap.size r a∧Below w.heap.size w w':=by
 have hV:=ax h;obtain ⟨A1,c1,A2,c2,rfl,h1,h2⟩:=h;have HL:=ax (And.intro h1.le h2.le);clear h1 h2;have e0:Hid (starA a ⟨[],[]⟩=a):=by show _=_;simp[starA]
 (go_enter Tryz.func60,Tryz.ntmps60);have kr:Blk ((w.alloc (.cells #[.slice A1 a.facts.length c1,.slice A2 a.atoms.length c2] 36)).alloc (.cells #[.slice none 0 0,.slice none 0 0] 36)) (w.heap.size+1) 36 #[.slice none 0 0,.slice none 0 0]:=blks;(go_wp2_with fail);refine (c_spec_l3Star _ _ a ⟨[],[]⟩ _ (hV.out.below bel) (⟨none,0,none,0,rfl,Rd.nil _ 0 0 _ _,Rd.nil _ 0 0 _ _⟩) (by simpa using HL.out.1) (by simpa using HL.out.2)).mono ?_;rintro e w1 ⟨r,rfl,o,hB1⟩;have hB:=bgo (w:=w) bel hB1;replace kr:=kr.next hB1;rw[e0.out] at o;replace o:=o.lower (base':=w.heap.size) (by simp;omega);obtain ⟨fv,av,rfl,o1,o2⟩:=o;obtain ⟨F,e1,rfl,-⟩:=o1.reads;obtain ⟨G,e2,rfl,-⟩:=o2.reads;have O1:=ax o1;have O2:=ax o2;(replace qkr:=kr.cell;replace rkr:=kr.frozen;replace lkr:=kr.lt);clear o1 o2 hB1;(go_wp2_with fail);refine bodyPost_ret (v:=.agg #[.slice F a.facts.length e1,.slice G a.atoms.length e2]) (by simp[results,Tryz.results60,go_sem,qkr]) rfl ⟨_,rfl,⟨_,_,rfl,?_,?_⟩,bel⟩
 ·exact (O1.out.setT kr (by decide) 0 _).setT (kr.set_ 0 _) (by decide) 1 _
 ·exact (O2.out.setT kr (by decide) 0 _).setT (kr.set_ 0 _) (by decide) 1 _
theorem set_sameA {cs:Array Value} {m:Nat} {u:Value} (h:cs[m]? = some u):cs.setIfInBounds m u=cs:=by
 apply Array.ext_getElem?;intro j;by_cases e:m=j
 ·subst e;rw[h];have hlt:m<cs.size:=(Array.getElem?_eq_some_iff.1 h).1;rw[Array.getElem?_setIfInBounds_self,if_pos hlt]
 ·rw[Array.getElem?_setIfInBounds_ne e]
theorem flags_set_false {F m:Nat} (hm:m≤8) (h:F.testBit m=false):((encB (flagsOf F)).toArray).setIfInBounds m (.bool false)=(encB (flagsOf F)).toArray:=set_sameA ((flags_cell F _ rfl (by omega)).trans (by rw[h]))
theorem keepE_spec {a:Asn} {L:Cms} {ks:List Int} {F:Nat} (h:∀ n,F.testBit n=((L.fold lsF (tset ks)).testBit n || (decide (5≤n∧n<9)&&(tset (termsL a)).testBit n))):F=keepE a L ks:=by
 apply Nat.eq_of_testBit_eq;intro n;have e0:L.fold lsF 0=logS (L.fold loF 0):=fold_logS L 0;rw[h n,fold_ls_bit,e0];unfold keepE;rw[Nat.testBit_or,Nat.testBit_or,logS_bit (tset (termsL a))]
 have hT:(tset (termsL a)).testBit n=true→n<9:=fun hb=>by
  rw[tset_bit,decide_eq_true_eq] at hb;have:=isTermB_iff.1 hb.1;omega
 have e1:(decide (5≤n∧n<9)&&(tset (termsL a)).testBit n)=(decide (5≤n)&&(tset (termsL a)).testBit n):=by
  cases hb:(tset (termsL a)).testBit n
  ·simp
  ·have:=hT hb;simp only[Bool.and_true,decide_eq_decide];omega
 rw[e1,Bool.or_assoc,Bool.or_comm ((logS (L.fold loF 0)).testBit n),←Bool.or_assoc]
theorem tset_tlist {S:Nat} (h:S<512):tset (tlistL S 9)=S:=by
 apply Nat.eq_of_testBit_eq;intro n;rw[tset_bit];cases hb:S.testBit n
 ·rw[decide_eq_false_iff_not];rintro ⟨-,h2⟩;rw[tlistL_mem,hb] at h2;exact absurd h2.2 (by decide)
 ·have hn:n<9:=by
   rcases Nat.lt_or_ge n 9 with h1|h1
   ·exact h1
   ·have:=Nat.testBit_lt_two_pow (i:=n) (x:=S) (Nat.lt_of_lt_of_le h (Nat.pow_le_pow_right (n:=2) (by decide) h1));rw[hb] at this;cases this
  rw[decide_eq_true_eq];exact ⟨isTermB_iff.2 (by omega),(tlistL_mem _ _ _).2 ⟨hn,hb⟩⟩
theorem strongP_ks {a:Asn} {L:Cms} {ks ks':List Int} (h:tset ks=tset ks'):strongP a L ks=strongP a L ks':=by
 unfold strongP keepE;rw[h]
theorem aterms_tset {a:Asn} (h:a.valid=true):tset (atermsL a)=tset (termsL a):=by
 have e:atermsL a=tlistL (tset (termsL a)) 9:=by unfold atermsL;rw[if_pos h];rfl
 rw[e,tset_tlist (tset_lt _)]
theorem c_l11Keep {lo hi lo1 hi1 lo2 hi2:Nat} (v:Value) (a:Asn) (A:Option Addr) (c:Nat) (L:Cms) (B:Option Addr) (cb:Nat) (ks:List Int) (w:World) (h:AsnV w lo hi v a) (hav:a.valid=true) (hV:CmsV w lo1 hi1 A L) (hhi1:hi1≤w.heap.size) (hlen:L.len≤1049600) (hsm:L.small 1049600) (hsh:L.shape 4=true) (hk:IntsV w lo2 hi2 B ks) :
  Calls Tryz.prog 61 #[v,.slice A L.len c,.slice B ks.length cb] w fun e w'=>∃ r,e=.returned r∧IntsO w' w.heap.size r (tlistL (keepE a L ks) 9)∧Below w.heap.size w w':=by
 have HX:=ax h;obtain ⟨B1,e1,B2,e2,rfl,-⟩:=h;have HC:=ax hV;have HSM:=ax hsm;have HSH:=ax hsh;have HKS:=ax hk;have HTM:Hid (∀ t∈termsL a,isTermB t=true):=ax (termsL_ok hav);clear hV hsm hsh hk;(go_enter Tryz.func61,Tryz.ntmps61);(go_upto_region 1 with fail);refine bx1 (w:=w) (F:=Code.wp _ _ _ _) ?_;rintro W k3 hB hz;(replace qk3:=k3.z);(go_wp2_with fail);refine (c_busyK B cb ks _ (HKS.out.below hB)).mono ?_;rintro e w1 ⟨rfl,kf,hq⟩;obtain ⟨gf,hgf⟩:∃ y,y=W.heap.size:=⟨_,rfl⟩;rw[←hgf] at kf ⊢;have hz1:=hq.size;have hgfw:w.heap.size≤gf:=by omega
 have hgfw1:w.heap.size<gf:=by omega
 have hi1g:hi1≤gf:=by omega
 clear hgf hz;(replace hB:=bgo hB hq;replace k3:=k3.next hq;replace qk3:=k3.z);clear hq;obtain ⟨F0,hF0e⟩:∃ F,F=L.fold lsF (tset ks):=⟨_,rfl⟩;replace hF0e:=ax hF0e;(go_wp2_with fail);refine (l8Logical_go _ L (Nat.lt_succ_self _) A c lo1 hi1 gf (tset ks) 4 _ (HC.out.below hB) hlen HSM.out HSH.out hi1g (tset_lt _) kf).mono ?_;rintro e w2 ⟨rfl,kf2,hM⟩;rw[←hF0e.out] at kf2;have hF0:F0<512:=by rw[hF0e.out];exact Cms.fold_lt (F:=lsF) (fun S k a b t i h=>lsF_lt h k a b t i) L (tset_lt _)
 have HF0:=hF0e;have hq:Below gf w1 w2:=hM.below (fun u hu=>by omega) (by have:=kf.lt;omega);replace k3:=k3.nxt hq (by omega);replace hB:=hB.trans (hq.mono (by omega));have hz2:=hq.size;clear hq hM hF0e kf;(replace qk3:=k3.z);(go_wp2_with fail);refine (c_spec_l3Terms _ a _ (HX.out.below hB) HTM.out).mono ?_;rintro e w3 ⟨r3,rfl,o3,hq⟩;obtain ⟨Tb,ct,rfl,fT⟩:=o3.reads;rw[flagsOf_length];have kf:Blk w3 gf tB (encB (flagsOf F0)).toArray:=kf2.next hq;have hgf2:gf<w2.heap.size:=kf2.lt;(replace hB:=bgo hB hq;replace k3:=k3.next hq;replace qk3:=k3.z);have HB:=ax hB;obtain ⟨T,hT⟩:∃ T,T=tset (termsL a):=⟨_,rfl⟩;rw[←hT] at fT;have HTT:=ax hT;obtain ⟨pb,po,rfl,-⟩:=flags_addr fT;obtain ⟨gf2,hgf2e⟩:∃ y,y=w2.heap.size:=⟨_,rfl⟩;obtain ⟨gf2h,hg3⟩:∃ y,y=w3.heap.size:=⟨_,rfl⟩;rw[←hgf2e] at fT hgf2;rw[←hg3] at fT;have HT:=ax fT;clear fT o3 hq kf2 hB hT hgf2e hg3 k3 qk3;(go_wp2_with fail)
 go_loopw [9] (fun ix wr=>∃ (m F:Nat),5≤m∧m≤9∧ix=.int .i64 m∧F<512∧Hid (∀ n,F.testBit n=(F0.testBit n || (decide (5≤n∧n<m)&&T.testBit n)))∧Blk wr gf tB (encB (flagsOf F)).toArray∧Hid (BoolsV wr gf2 gf2h (some ⟨pb,po,none⟩) (flagsOf T))∧Hid (Below w.heap.size w wr)) (fun ix _=>9 - (intOf ix).toNat)
 case atStart=>exact ⟨5,F0,by decide,by decide,rfl,hF0,ax (fun n=>by rw[decide_eq_false (by omega)];simp),kf,HT,HB⟩
 case round=>
  clear kf HT HB;obtain ⟨m,F,h5,h9,rfl,hF,HFB,kf,HT,HB⟩:=hrel;by_cases hlt:m<9
  ·have hmi:(m:Int)≤8:=by omega
   have hm9:(m:Int)<9:=by omega
   have f0:=flags_cell F _ rfl (k:=m) (by omega);have q7:wr.cell? ⟨gf,m,none⟩=some (.bool (F.testBit m)):=(kf.cell m).trans f0;have r7:=kf.frozen;have l7:=kf.lt;have t7:=flags_at HT.out (m:=m) (by omega);have hpl:=block_lt_of_cell t7
   have up:∀ {W:World},Blk W gf tB (encB (flagsOf F)).toArray→Blk (W.setCell ⟨gf,m,none⟩ (.bool true)) gf tB (encB (flagsOf (tins F (m:Int)))).toArray:=fun hk=>by
    have:=hk.set_ m (.bool true)
    rwa [tins_flags _ _ (by omega)] at this
   have hbt:∀ n,(F.testBit m=true∨T.testBit m=true)→(tins F (m:Int)).testBit n=(F0.testBit n || (decide (5≤n∧n<m+1)&&T.testBit n)):=fun n hor=>by
    rw[tins_bit,HFB.out n];by_cases e:n=m
    ·subst e;have hd:decide (isTermB (n:Int)=true∧((n:Int)=(n:Int)))=true:=decide_eq_true ⟨isTermB_iff.2 (by omega),rfl⟩;rw[hd,Bool.or_true,decide_eq_true (show 5≤n∧n<n+1 by omega),Bool.true_and];have hm:=HFB.out n;rw[decide_eq_false (show ¬(5≤n∧n<n) by omega),Bool.false_and,Bool.or_false] at hm;rcases hor with ho|ho
     ·rw[hm] at ho;rw[ho];rfl
     ·rw[ho,Bool.or_true]
    ·have hd:decide (isTermB (m:Int)=true∧((m:Int)=(n:Int)))=false:=decide_eq_false (by rintro ⟨-,h⟩;omega);rw[hd,Bool.or_false]
     congr 2
     rw[decide_eq_decide];omega
   have hbf:F.testBit m=false→T.testBit m=false→∀ n,F.testBit n=(F0.testBit n || (decide (5≤n∧n<m+1)&&T.testBit n)):=fun hf ht n=>by
    rw[HFB.out n];by_cases e:n=m
    ·subst e;rw[ht];simp
    ·congr 2
     rw[decide_eq_decide];omega
   have HT2:∀ u,Hid (BoolsV (wr.setCell ⟨gf,m,none⟩ u) gf2 gf2h (some ⟨pb,po,none⟩) (flagsOf T)):=fun u=>ax (Rd.setb HT.out (Or.inl hgf2) u);have HB2:∀ u,Hid (Below w.heap.size w (wr.setCell ⟨gf,m,none⟩ u)):=fun u=>ax (HB.out.setCell hgfw u);have HTI:=ax (tins_lt hF (m:Int));replace hbt:=ax hbt;replace hbf:=ax hbf;replace up:=ax (fun W=>up (W:=W));clear f0;cases hfm:F.testBit m
   ·rw[hfm] at q7;cases htm:T.testBit m
    ·rw[htm] at t7;have HN:=ax (hbf.out hfm htm)
     have ks:Blk (wr.setCell ⟨gf,m,none⟩ (.bool false)) gf tB (encB (flagsOf F)).toArray:=by
      have:=kf.set_ m (.bool false)
      rwa [flags_set_false (by omega) hfm] at this
     clear hfm htm hbf hbt up;(go_wp2_with fail)
     go_round
     case rel=>exact ⟨m+1,F,by omega,by omega,by go_num,hF,HN,ks,HT2 _,HB2 _⟩
     case measure=>simp[intOf];omega
    ·rw[htm] at t7;have HN:=ax fun n=>hbt.out n (.inr htm);have ks:=up.out _ kf;clear hfm htm hbf hbt up;(go_wp2_with fail)
     go_round
     case rel=>exact ⟨m+1,_,by omega,by omega,by go_num,HTI.out,HN,ks,HT2 _,HB2 _⟩
     case measure=>simp[intOf];omega
   ·rw[hfm] at q7;have HN:=ax fun n=>hbt.out n (.inl hfm);have ks:=up.out _ kf;clear hfm hbf hbt up;(go_wp2_with fail)
    go_round
    case rel=>exact ⟨m+1,_,by omega,by omega,by go_num,HTI.out,HN,ks,HT2 _,HB2 _⟩
    case measure=>simp[intOf];omega
  ·obtain rfl:m=9:=by omega
   have HK:Hid (F=keepE a L ks):=ax (keepE_spec (by rw[←HF0.out,←HTT.out];exact HFB.out));have fl:=BoolsO.ofBlk kf (Nat.le_refl gf);obtain ⟨A',c',eA,fV⟩:=fl.reads;injection eA with e1 e2 e3;subst e1 e3;have hl3:=c_spec_l3List _ 9 _ wr fV (by rw[flagsOf_length];omega);rw[tlistL_idx,flagsOf_length,HK.out] at hl3;replace hl3:=ax hl3;clear fl fV e2;(go_wp2_with fail);refine hl3.out.mono ?_;rintro e w4 ⟨r4,rfl,o4,hq⟩;have hzr:=HB.out.size;(go_wp2_with fail);go_ret;exact ⟨_,rfl,o4.lower (by omega),bgo HB.out hq⟩
theorem c_spec_StrongestPosts {lo hi lo1 hi1 lo2 hi2:Nat} (v:Value) (a:Asn) (A:Option Addr) (c:Nat) (L:Cms) (B:Option Addr) (cb:Nat) (ks:List Int) (w:World) (h:AsnV w lo hi v a) (hV:CmsV w lo1 hi1 A L) (hhi1:hi1≤w.heap.size) (hlen:L.len≤1049600) (hsm:L.small 1049600) (hsz:L.sz≤1049600) (hk:IntsV w lo2 hi2 B ks) :
  Calls Tryz.prog 13 #[v,.slice A L.len c,.slice B ks.length cb] w fun e w'=>∃ r vs,e=.returned (.tuple #[r,.int .i64 (strongP a L ks).1])∧A2O w' w.heap.size r vs (strongP a L ks).2∧Below w.heap.size w w':=by
 have HX:=ax h;obtain ⟨B1,e1,B2,e2,rfl,-⟩:=h;have HC:=ax hV;have HSM:=ax hsm;obtain ⟨K,hKe⟩:∃ K,K=keepE a L ks:=⟨_,rfl⟩;have lK:K<512:=by rw[hKe];exact keepE_lt _ _ _
 obtain ⟨KL,hKL⟩:∃ KL,KL=tlistL K 9:=⟨_,rfl⟩;have hKLl:KL.length≤9:=by rw[hKL];exact tlistL_length _ _
 have hKLt:tset KL=K:=by rw[hKL];exact tset_tlist lK
 obtain ⟨res,hres⟩:∃ q,q=strongP a L ks:=⟨_,rfl⟩;have E0:Hid (res=if a.valid&&L.prog then L.exe true K [a] else (5,[])):=ax (by rw[hres,hKe];rfl)
 have CK:Hid (a.valid=true→L.prog=true→∀ W,Below w.heap.size w W→Calls Tryz.prog 61 #[.agg #[.slice B1 a.facts.length e1,.slice B2 a.atoms.length e2],.slice A L.len c,.slice B ks.length cb] W fun e w'=>∃ r,e=.returned r∧IntsO w' W.heap.size r KL∧Below W.heap.size W w'):=ax fun hv hp W hW=>by
  rw[hKL,hKe];exact c_l11Keep _ a A c L B cb ks W (HX.out.below hW) hv (hV.below hW) (Nat.le_trans hhi1 hW.size) hlen hsm (prog_sh hp).1 (hk.below hW)
 have CR:Hid (a.valid=true→L.prog=true→∀ W base A' c' vs rB cB lo hi,A2O W base (.slice A' 1 c') vs [a]→base≤W.heap.size→Below w.heap.size w W→IntsV W lo hi rB KL→Calls Tryz.prog 59 #[.slice A' 1 c',.slice A L.len c,.slice rB KL.length cB] W fun e w'=>∃ r vs',e=.returned (.tuple #[r,.int .i64 (L.exe true K [a]).1])∧A2O w' base r vs' (L.exe true K [a]).2∧Below W.heap.size W w'):=ax fun hv hp W base A' c' vs rB cB lo hi h1 h2 h3 h4=>
  c_l11Run K lK (L.sz+1) L 4 (Nat.lt_succ_self _) (prog_sh hp).1 hlen hsm base lo1 hi1 lo hi A' c' vs [a] A c rB cB KL W h1 h2 (fun s hs=>by obtain rfl:=List.mem_singleton.1 hs;exact hv) (by simp) (hV.below h3) (Nat.le_trans hhi1 h3.size) h4 hKLt (by omega)
 rw[←hres];clear hV hk hKe hKL hKLt hres hsm;(go_enter Tryz.func13,Tryz.ntmps13);(go_upto_region 1 with fail);refine bx1 (w:=w) (F:=Code.wp _ _ _ _) ?_;rintro W k3 hB -;(replace qk3:=k3.z);(go_wp2_with fail);refine (c_spec_AssertionValid _ a _ (HX.out.below hB)).mono ?_;rintro e w0 ⟨rfl,hq⟩;(replace hB:=bgo hB hq;replace k3:=k3.next hq;replace qk3:=k3.z);clear hq;cases hv:a.valid
 ·have E:Hid (res=(5,[])):=ax (by rw[E0.out,hv];rfl);clear hv;(go_wp2_with fail);go_ret2;exact ⟨_,_,by rw[E.out];rfl,by rw[E.out];exact (A2O.empty _ rfl).lower hB.size,bbox hB _⟩
 have HV:=ax hv;clear hv;(go_wp2_with fail);refine (c_spec_ProgramValid L A c _ (HC.out.below hB) hlen HSM.out hsz).mono ?_;rintro e w0 ⟨rfl,hq⟩;(replace hB:=bgo hB hq;replace k3:=k3.next hq;replace qk3:=k3.z);clear hq;cases hp:L.prog
 ·have E:Hid (res=(5,[])):=ax (by rw[E0.out,hp];simp);clear hp;(go_wp2_with fail);go_ret2;exact ⟨_,_,by rw[E.out];rfl,by rw[E.out];exact (A2O.empty _ rfl).lower hB.size,bbox hB _⟩
 have E1:Hid (res=L.exe true K [a]):=ax (by rw[E0.out,HV.out,hp];rfl);replace CK:=ax (CK.out HV.out hp);replace CR:=ax (CR.out HV.out hp);rw[←E1.out] at CR;clear hp qk3 E0 E1;(go_upto_region 3 with fail);refine wp_region_noPanic ?_;refine wp_region_held_drew (S:=(fun w'=>∀ q,w'.cell? ⟨w.heap.size,q,none⟩=#[.slice B1 a.facts.length e1,.slice B2 a.atoms.length e2][q]?)) (by kernel_rfl) (k3.drew.cell) (fun aH=>?_);have hq:=(Below.refl w0.heap.size w0).drew;(replace hB:=bgo hB hq;replace k3:=k3.next hq);clear hq;generalize w0.drew=V at *;have hzV:=hB.size;refine tk2 0 rfl aH (h:=tk2 3 rfl aH (h:=tk2 4 rfl aH (h:=?_)));(try simp only[zz]);refine tk2 5 rfl aH (h:=tk2 6 rfl aH (h:=?_));refine rdc 1 rfl fun K hK=>?_;(try simp only[zz]);(go_simp;refine (c_copyS _ a _ (HX.out.below hB)).mono ?_;rintro e w1 ⟨r1,rfl,o1,hq⟩;obtain ⟨F,f,G,g,rfl⟩:=o1.I.form;have HO1:=ax (o1.lower (base':=w.heap.size) hB.size);(replace hB:=bgo hB hq;replace k3:=k3.next hq);have z1:=hB.size;clear hq o1);refine hK.out _ _ (k3.cell) ?_;clear aH hK K;intro aH;(try simp only[zz]);refine wpAnyH_ready (rs:=[2,7]) (by kernel_rfl) (by simp) (AllReadyH.cons rfl (fun K hK=>?_) (AllReadyH.cons rfl (fun K hK=>?_) AllReadyH.nil))
 ·skip;(try simp only[zz]);(go_simp;have hq:=bbox (Below.refl _ w1) (.cells #[.slice F a.facts.length f,.slice G a.atoms.length g] tAs);have OR:=ax (A2O.one (base:=w.heap.size) (Blk.new w1 tAs #[.slice F a.facts.length f,.slice G a.atoms.length g]) z1 (HO1.out.below hq));clear HO1;(replace hB:=bgo hB hq;replace k3:=k3.next hq);clear hq);refine hK.out _ _ (k3.cell) ?_;clear aH hK K;intro aH;(try simp only[zz]);generalize (w1.alloc (.cells #[.slice F a.facts.length f,.slice G a.atoms.length g] _))=w2 at *;obtain ⟨yr,hyr⟩:∃ y,y=w1.heap.size:=⟨_,rfl⟩;rw[←hyr] at OR ⊢;clear hyr;refine rdc 7 rfl fun K hK=>?_;(try simp only[zz]);(go_simp;refine (CK.out _ hB).mono ?_;rintro e w3 ⟨r7,rfl,o7,hq⟩;obtain ⟨KA,kc,rfl,hK7⟩:=o7.reads;have HK7:=ax hK7;(try replace OR:=ax (OR.out.below hq));(try replace HO1:=ax (HO1.out.below hq));(replace hB:=bgo hB hq;replace k3:=k3.next hq);have z7:=hB.size;clear hq o7 hK7);refine hK.out _ _ (k3.cell) ?_;clear aH hK K;intro aH;refine rdc 8 rfl fun K hK=>?_;(try simp only[zz]);(go_simp;refine (CR.out _ w.heap.size _ _ _ _ _ _ _ OR.out hB.size hB HK7.out).mono ?_;rintro e w4 ⟨r8,vs8,rfl,o8,hq⟩;have O8:=ax o8;(replace hB:=bgo hB hq;replace k3:=k3.next hq);clear hq o8);refine hK.out _ _ (k3.cell) ?_;clear aH hK K;intro aH;(try simp only[zz]);refine tk2 9 rfl aH (h:=tk2 10 rfl aH (h:=tk2 11 rfl aH (h:=?_)));(try simp only[zz]);refine tk2 12 rfl aH (h:=?_);(try simp only[zz]);refine wpAnyH_done (by kernel_rfl) ?_ _;refine NoPanic.normal ?_;clear aH;obtain ⟨R8,q8,rfl⟩:=O8.out.form;(go_wp2_with fail);go_ret2;exact ⟨_,vs8,rfl,O8.out,hB⟩
 ·skip;(try simp only[zz]);(go_simp;refine (CK.out _ hB).mono ?_;rintro e w2 ⟨r7,rfl,o7,hq⟩;obtain ⟨KA,kc,rfl,hK7⟩:=o7.reads;have HK7:=ax hK7;(try replace OR:=ax (OR.out.below hq));(try replace HO1:=ax (HO1.out.below hq));(replace hB:=bgo hB hq;replace k3:=k3.next hq);have z7:=hB.size;clear hq o7 hK7);refine hK.out _ _ (k3.cell) ?_;clear aH hK K;intro aH;refine rdc 2 rfl fun K hK=>?_;(try simp only[zz]);(go_simp;have hq:=bbox (Below.refl _ w2) (.cells #[.slice F a.facts.length f,.slice G a.atoms.length g] tAs);have OR:=ax (A2O.one (base:=w.heap.size) (Blk.new w2 tAs #[.slice F a.facts.length f,.slice G a.atoms.length g]) z7 (HO1.out.below hq));replace HK7:=ax (IntsV.below HK7.out hq);clear HO1;(replace hB:=bgo hB hq;replace k3:=k3.next hq);clear hq);refine hK.out _ _ (k3.cell) ?_;clear aH hK K;intro aH;(try simp only[zz]);generalize (w2.alloc (.cells #[.slice F a.facts.length f,.slice G a.atoms.length g] _))=w3 at *;obtain ⟨yr,hyr⟩:∃ y,y=w2.heap.size:=⟨_,rfl⟩;rw[←hyr] at OR ⊢;clear hyr;refine rdc 8 rfl fun K hK=>?_;(try simp only[zz]);(go_simp;refine (CR.out _ w.heap.size _ _ _ _ _ _ _ OR.out hB.size hB HK7.out).mono ?_;rintro e w4 ⟨r8,vs8,rfl,o8,hq⟩;have O8:=ax o8;(replace hB:=bgo hB hq;replace k3:=k3.next hq);clear hq o8);refine hK.out _ _ (k3.cell) ?_;clear aH hK K;intro aH;(try simp only[zz]);refine tk2 9 rfl aH (h:=tk2 10 rfl aH (h:=tk2 11 rfl aH (h:=?_)));(try simp only[zz]);refine tk2 12 rfl aH (h:=?_);(try simp only[zz]);refine wpAnyH_done (by kernel_rfl) ?_ _;refine NoPanic.normal ?_;clear aH;obtain ⟨R8,q8,rfl⟩:=O8.out.form;(go_wp2_with fail);go_ret2;exact ⟨_,vs8,rfl,O8.out,hB⟩
theorem c_spec_VerifyProgram {lo hi lo1 hi1 lo2 hi2:Nat} (v v2:Value) (a b:Asn) (A:Option Addr) (c:Nat) (L:Cms) (w:World) (h:AsnV w lo hi v a) (hV:CmsV w lo1 hi1 A L) (hhi1:hi1≤w.heap.size) (hlen:L.len≤1049600) (hsm:L.small 1049600) (hsz:L.sz≤1049600) (h2:AsnV w lo2 hi2 v2 b) :
  Calls Tryz.prog 27 #[v,.slice A L.len c,v2] w fun e w'=>e=.returned (.int .i64 (verP a L b))∧Below w.heap.size w w':=by
 have HX:=ax h;have HY:=ax h2;obtain ⟨B1,e1,B2,e2,rfl,-⟩:=h;obtain ⟨D1,f1,D2,f2,rfl,-⟩:=h2;have HC:=ax hV;have HSM:=ax hsm;obtain ⟨res,hres⟩:∃ q,q=verP a L b:=⟨_,rfl⟩;have E0:Hid (res=if b.valid then (if (strongP a L (atermsL b)).1≠0 then (strongP a L (atermsL b)).1 else if (strongP a L (atermsL b)).2.all fun p=>entF p b then 0 else 2) else 5):=ax hres;obtain ⟨KL,hKL⟩:∃ KL,KL=tlistL (tset (termsL b)) 9:=⟨_,rfl⟩;have HKS:Hid (b.valid=true→strongP a L KL=strongP a L (atermsL b)):=ax fun hv=>strongP_ks (by rw[hKL,tset_tlist (tset_lt _),aterms_tset hv]);have HKL:=ax hKL;rw[←hres];clear hV hres hsm hKL;(go_enter Tryz.func27,Tryz.ntmps27);(go_upto_region 1 with fail);refine bx2 (w:=w) (F:=Code.wp _ _ _ _) ?_;rintro W k3 k5 hB -;(replace qk3:=k3.z;replace qk5:=k5.z);(go_wp2_with fail);refine (c_spec_AssertionValid _ b _ (HY.out.below hB)).mono ?_;rintro e w0 ⟨rfl,hq⟩;(replace hB:=bgo hB hq;replace k3:=k3.next hq;replace qk3:=k3.z;replace k5:=k5.next hq;replace qk5:=k5.z);clear hq;cases hv:b.valid
 ·have E:Hid (res=5):=ax (by rw[E0.out,hv];rfl);clear hv;(go_wp2_with fail);go_ret;exact ⟨ret_int E.out.symm,hB⟩
 have E1:Hid (res=(if (strongP a L KL).1≠0 then (strongP a L KL).1 else if (strongP a L KL).2.all fun p=>entF p b then 0 else 2)):=ax (by rw[E0.out,hv,HKS.out hv];rfl);have HTM:Hid (∀ t∈termsL b,isTermB t=true):=ax (termsL_ok hv);clear hv E0 HKS qk3 qk5;(go_upto_region 3 with fail);refine wp_region_noPanic ?_;refine wp_region_held_drew (S:=(fun w'=>(∀ q,w'.cell? ⟨w.heap.size,q,none⟩=#[.slice B1 a.facts.length e1,.slice B2 a.atoms.length e2][q]?)∧(∀ q,w'.cell? ⟨w.heap.size+1,q,none⟩=#[.slice D1 b.facts.length f1,.slice D2 b.atoms.length f2][q]?))) (by kernel_rfl) (⟨k3.drew.cell,k5.drew.cell⟩) (fun aH=>?_);have hq:=(Below.refl w0.heap.size w0).drew;(replace hB:=bgo hB hq;replace k3:=k3.next hq;replace k5:=k5.next hq);clear hq;generalize w0.drew=V at *;refine tk2 0 rfl aH (h:=tk2 1 rfl aH (h:=tk2 2 rfl aH (h:=?_)));refine rdc 3 rfl fun K hK=>?_;(try simp only[zz]);(go_simp;refine (c_spec_l3Terms _ b _ (HY.out.below hB) HTM.out).mono ?_;rintro e w1 ⟨r1,rfl,o1,hq⟩;obtain ⟨Tb,ct,rfl,fT⟩:=o1.reads;have hl3:=c_spec_l3List _ ct _ w1 fT (by rw[flagsOf_length];omega);rw[tlistL_idx,flagsOf_length,←HKL.out] at hl3;rw[flagsOf_length];have HL3:=ax hl3;(replace hB:=bgo hB hq;replace k3:=k3.next hq;replace k5:=k5.next hq);clear hq o1 fT hl3);refine hK.out _ _ (⟨k3.cell,k5.cell⟩) ?_;clear aH hK K;intro aH;refine rdc 4 rfl fun K hK=>?_;(try simp only[zz]);(go_simp;refine HL3.out.mono ?_;rintro e w2 ⟨r2,rfl,o2,hq⟩;obtain ⟨KA,kc,rfl,hK1⟩:=o2.reads;have HK:=ax hK1;(replace hB:=bgo hB hq;replace k3:=k3.next hq;replace k5:=k5.next hq);clear hq o2 hK1 HL3);refine hK.out _ _ (⟨k3.cell,k5.cell⟩) ?_;clear aH hK K;intro aH;refine rdc 5 rfl fun K hK=>?_;(try simp only[zz]);(go_simp;refine (c_spec_StrongestPosts _ a A c L KA kc KL _ (HX.out.below hB) (HC.out.below hB) (by have:=hB.size;omega) hlen HSM.out hsz HK.out).mono ?_;rintro e w3 ⟨r3,vs,rfl,o3,hq⟩;have O3:=ax o3;(replace hB:=bgo hB hq;replace k3:=k3.next hq;replace k5:=k5.next hq);clear hq o3 HK);refine hK.out _ _ (⟨k3.cell,k5.cell⟩) ?_;clear aH hK K;intro aH;(try simp only[zz]);refine tk2 6 rfl aH (h:=tk2 7 rfl aH (h:=tk2 8 rfl aH (h:=?_)));(try simp only[zz]);refine tk2 9 rfl aH (h:=tk2 10 rfl aH (h:=?_));(try simp only[zz]);refine wpAnyH_done (by kernel_rfl) ?_ _;refine NoPanic.normal ?_;clear aH;have HRS:=ax (strongP_res a L KL);generalize strongP a L KL=P at *;obtain ⟨code,ps⟩:=P;obtain ⟨R,r,rfl⟩:=O3.out.form;have ON:=ax O3.out.now;have hpl:ps.length≤1000:=Nat.le_trans HRS.out.2.2.1 (by decide);simp only at E1 ⊢;clear O3;have HB:=ax hB;by_cases h0:code=0
 ·subst h0;have E2:Hid (res=if ps.all fun p=>entF p b then 0 else 2):=ax (by rw[E1.out];simp);clear E1 HRS;(replace qk5:=k5.z);(go_wp2_with fail)
  go_loopw [9] (fun ix wr=>∃ j:Nat,j≤ps.length∧ix=.int .i64 j∧Hid (∀ p∈ps.take j,entF p b=true)∧Hid (Below w3.heap.size w3 wr)) (fun ix _=>ps.length - (intOf ix).toNat)
  case atStart=>exact ⟨0,Nat.zero_le _,rfl,ax (by intro p hp;simp at hp),Below.refl _ _⟩
  case round=>
   obtain ⟨j,hj,rfl,HA,HBr⟩:=hrel;have k5r:=k5.next HBr.out;by_cases hlt:j<ps.length
   ·obtain ⟨g',o,P,p,Q,q,rfl,lb,g0,g1,hC⟩:=ON.out.below HBr.out j hlt;have HT:Hid (ps.take (j+1)=ps.take j++[ps[j]]):=ax (List.take_succ_eq_append_getElem hlt);have HM:Hid (ps[j]∈ps):=ax (List.getElem_mem hlt);obtain ⟨s,hs⟩:∃ s,s=ps[j]:=⟨_,rfl⟩;rw[←hs] at g0 g1 hC HT HM;have HCs:=ax hC;have hji:(j:Int)<(ps.length:Int):=by omega
    have hzb:=HBr.out.size;clear hs hC;(replace qk5r:=k5r.z);(go_wp2_with fail);(go_upto_region 7 with fail);refine wp_region_noPanic ?_;refine wp_region_held_drew (S:=(fun w'=>(w'.cell? ⟨g',o+j*2,none⟩=some (.slice P s.facts.length p)∧w'.cell? ⟨g',o+j*2+1,none⟩=some (.slice Q s.atoms.length q))∧∀ u,w'.cell? ⟨w.heap.size+1,u,none⟩=#[.slice D1 b.facts.length f1,.slice D2 b.atoms.length f2][u]?)) (by kernel_rfl) (⟨⟨((Below.refl wr.heap.size wr).drew.cell (p:=⟨g',o+j*2,none⟩) lb).trans g0,((Below.refl wr.heap.size wr).drew.cell (p:=⟨g',o+j*2+1,none⟩) lb).trans g1⟩,k5r.drew.cell⟩) (fun aH=>?_);have HQ:=ax (Below.refl wr.heap.size wr).drew;generalize wr.drew=V2 at *;refine tk2 0 rfl aH (h:=tk2 1 rfl aH (h:=tk2 2 rfl aH (h:=?_)));(try simp only[zz]);refine tk2 3 rfl aH (h:=tk2 4 rfl aH (h:=?_));refine rdc 5 rfl fun K hK=>?_;(try simp only[zz]);(go_simp;refine (c_spec_Entails _ _ s b _ (HCs.out.V.below HQ.out) (HY.out.below (bgo HB.out (bgo HBr.out HQ.out)))).mono ?_;rintro e w6 ⟨rfl,hq⟩;have HB6:=ax (bgo HBr.out (bgo HQ.out hq));have hq2:=bgo HQ.out hq;clear hq);refine hK.out _ _ (⟨⟨(hq2.cell (p:=⟨g',o+j*2,none⟩) lb).trans g0,(hq2.cell (p:=⟨g',o+j*2+1,none⟩) lb).trans g1⟩,(k5r.next hq2).cell⟩) ?_;clear aH hK K;intro aH;(try simp only[zz]);refine tk2 6 rfl aH (h:=?_);(try simp only[zz]);refine wpAnyH_done (by kernel_rfl) ?_ _;refine NoPanic.normal ?_;clear aH hq2 g0 g1;cases he:entF s b
    ·have E3:Hid ((ps.all fun p=>entF p b)=false):=ax (by rw[List.all_eq_false];exact ⟨s,HM.out,by simp[he]⟩);clear he;(go_wp2_with fail);go_ret;exact ⟨ret_int (by rw[E2.out,E3.out];rfl),bgo HB.out HB6.out⟩
    ·have HA2:Hid (∀ p∈ps.take (j+1),entF p b=true):=ax fun p hp=>by
      rw[HT.out] at hp;rcases List.mem_append.1 hp with hp|hp
      ·exact HA.out p hp
      ·obtain rfl:=List.mem_singleton.1 hp;exact he
     clear he;(go_wp2_with fail)
     go_round
     case rel=>exact ⟨j+1,by omega,by go_num,HA2,HB6⟩
     case measure=>simp[intOf];omega
   ·obtain rfl:j=ps.length:=by omega
    have E3:Hid ((ps.all fun p=>entF p b)=true):=ax (by rw[List.all_eq_true];intro p hp;exact HA.out p (by rwa [List.take_length]));(go_wp2_with fail);go_ret;exact ⟨ret_int (by rw[E2.out,E3.out];rfl),bgo HB.out HBr.out⟩
 ·have E:Hid (res=code):=ax (by rw[E1.out,if_pos h0]);have en:=HRS.out.2.1 h0;simp only at en;subst en;have h0b:(code == 0)=false:=beq_false_of_ne h0;clear E1 HRS ON h0;(go_wp2_with fail)
  go_loopw [9] (fun ix wr=>ix=.int .i64 0∧wr=w3) (fun ix _=>0)
  case atStart=>exact ⟨rfl,rfl⟩
  case round=>
   obtain ⟨rfl,rfl⟩:=hrel;(go_wp2_with fail);go_ret;exact ⟨ret_int E.out.symm,HB.out⟩
end
section
open Go Go.RowKit Go.Proofs
theorem k_impl_Verify {lo hi lo1 lo2 hi2:Nat} (v v2:Value) (a b:Asn) (A:Option Addr) (c:Nat) (L:Cms) (w:World) (h:AsnC w lo hi v a) (hhi:hi≤w.heap.size) (hV:CmsW w lo1 w.heap.size A L) (h2:AsnV w lo2 hi2 v2 b) (hhi2:hi2≤w.heap.size) :
  Calls Tryz.prog 28 #[v,.slice A L.len c,v2] w fun e w'=>e=.returned (.int .i64 (verP a L b))∧Below w.heap.size w w':=
 c_impl_VerifyProgram v v2 a b A c L w h hhi hV.1 (Nat.le_refl _) hV.len hV.small h2 hhi2
theorem k_spec_Verify {lo hi lo1 lo2 hi2:Nat} (v v2:Value) (a b:Asn) (A:Option Addr) (c:Nat) (L:Cms) (w:World) (h:AsnV w lo hi v a) (hV:CmsW w lo1 w.heap.size A L) (h2:AsnV w lo2 hi2 v2 b) :
  Calls Tryz.prog 27 #[v,.slice A L.len c,v2] w fun e w'=>e=.returned (.int .i64 (verP a L b))∧Below w.heap.size w w':=
 c_spec_VerifyProgram v v2 a b A c L w h hV.1 (Nat.le_refl _) hV.len hV.small hV.sz h2
end
section
open Go Go.RowKit Go.Proofs
attribute [local go_sem ↓] Go.wp_at_zero Go.wp_at_succ
theorem c_FnExactVerifyProgram (v0:Value) (a0:Asn) (v1:Value) (a1:Cms) (v2:Value) (a2:Asn) (w:World) (h0:AsnR w v0 a0) (h1:∃ A c,v1=.slice A a1.len c∧CmsR w A a1) (h2:AsnR w v2 a2):Calls Tryz.prog 4 #[v0,v1,v2] w fun e w'=>e=.returned (.bool true)∧Below w.heap.size w w':=by
 obtain ⟨A0,c0,B0,d0,rfl,r0a,r0b⟩:=h0;obtain ⟨A1,c1,rfl,r1a⟩:=h1;obtain ⟨A2,c2,B2,d2,rfl,r2a,r2b⟩:=h2;by_cases hs0:szA a0 1048576<0
 ·(go_enter Tryz.func4,Tryz.ntmps4);(go_wp2_with fail);refine (c_szAssertion _ _ _ _ a0 1048576 _ r0a.2 r0b.2 (by omega) (by omega)).mono ?_;rintro e ws0 ⟨rfl,hB0⟩;have hB:=bgo (w:=w) bel hB0;have p0:=Blk.next (g:=w.heap.size) (t:=25) (cs:=#[.slice A0 a0.facts.length c0,.slice B0 a0.atoms.length d0]) blks hB0;have p2:=Blk.next (g:=w.heap.size+1) (t:=25) (cs:=#[.slice A2 a2.facts.length c2,.slice B2 a2.atoms.length d2]) blks hB0;(replace qp0:=p0.z);(replace qp2:=p2.z);(go_wp2_with fail);go_ret;exact ⟨rfl,bel⟩
 have hz0:=szA_le hs0;by_cases hs1:szP a1 (szA a0 1048576)<0
 ·have HZ0:=ax hz0;clear hz0;(go_enter Tryz.func4,Tryz.ntmps4);(go_wp2_with fail);refine (c_szAssertion _ _ _ _ a0 1048576 _ r0a.2 r0b.2 (by have:=HZ0.out;omega) (by have:=HZ0.out;omega)).mono ?_;rintro e ws0 ⟨rfl,hB0⟩;have hB:=bgo (w:=w) bel hB0;have p0:=Blk.next (g:=w.heap.size) (t:=25) (cs:=#[.slice A0 a0.facts.length c0,.slice B0 a0.atoms.length d0]) blks hB0;have p2:=Blk.next (g:=w.heap.size+1) (t:=25) (cs:=#[.slice A2 a2.facts.length c2,.slice B2 a2.atoms.length d2]) blks hB0;(replace qp0:=p0.z);(replace qp2:=p2.z);(go_wp2_with fail);refine (c_szP _ _ a1 (szA a0 1048576) _ r1a bel (by have:=HZ0.out;omega) (by have:=HZ0.out;omega)).mono ?_;rintro e ws1 ⟨rfl,hB1⟩;replace hB:=bgo hB hB1;replace p0:=p0.next hB1;replace p2:=p2.next hB1;(replace qp0:=p0.z);(replace qp2:=p2.z);(go_wp2_with fail);go_ret;exact ⟨rfl,bel⟩
 have hz1:=szP_le hs1;by_cases hs2:szA a2 (szP a1 (szA a0 1048576))<0
 ·have HZ0:=ax hz0;clear hz0;have HZ1:=ax hz1;clear hz1;(go_enter Tryz.func4,Tryz.ntmps4);(go_wp2_with fail);refine (c_szAssertion _ _ _ _ a0 1048576 _ r0a.2 r0b.2 (by have:=HZ0.out;have:=HZ1.out;omega) (by have:=HZ0.out;have:=HZ1.out;omega)).mono ?_;rintro e ws0 ⟨rfl,hB0⟩;have hB:=bgo (w:=w) bel hB0;have p0:=Blk.next (g:=w.heap.size) (t:=25) (cs:=#[.slice A0 a0.facts.length c0,.slice B0 a0.atoms.length d0]) blks hB0;have p2:=Blk.next (g:=w.heap.size+1) (t:=25) (cs:=#[.slice A2 a2.facts.length c2,.slice B2 a2.atoms.length d2]) blks hB0;(replace qp0:=p0.z);(replace qp2:=p2.z);(go_wp2_with fail);refine (c_szP _ _ a1 (szA a0 1048576) _ r1a bel (by have:=HZ0.out;have:=HZ1.out;omega) (by have:=HZ0.out;have:=HZ1.out;omega)).mono ?_;rintro e ws1 ⟨rfl,hB1⟩;replace hB:=bgo hB hB1;replace p0:=p0.next hB1;replace p2:=p2.next hB1;(replace qp0:=p0.z);(replace qp2:=p2.z);(go_wp2_with fail);refine (c_szAssertion _ _ _ _ a2 (szP a1 (szA a0 1048576)) _ r2a.2 r2b.2 (by have:=HZ0.out;have:=HZ1.out;omega) (by have:=HZ0.out;have:=HZ1.out;omega)).mono ?_;rintro e ws2 ⟨rfl,hB2⟩;replace hB:=bgo hB hB2;replace p0:=p0.next hB2;replace p2:=p2.next hB2;(replace qp0:=p0.z);(replace qp2:=p2.z);(go_wp2_with fail);go_ret;exact ⟨rfl,bel⟩
 have hz2:=szA_le hs2;have hmk1:=Cms.marks_le a1;have hlen:a0.facts.length≤1048576∧a0.atoms.length≤1048576∧a2.facts.length≤1048576∧a2.atoms.length≤1048576∧a1.len+a1.cost≤1048576∧a1.marks≤6291456:=by omega
 have HZ0:Hid (0≤(szA a0 1048576)∧(szA a0 1048576)≤1048576):=⟨by omega,by omega⟩;have HZ1:Hid (0≤(szP a1 (szA a0 1048576))∧(szP a1 (szA a0 1048576))≤1048576):=⟨by omega,by omega⟩;clear hz0;clear hz1;clear hz2;obtain ⟨hL0,hL1,hL2,hL3,hL4,hL5⟩:=hlen;have hV0:Hid (AsnV w 0 w.heap.size (.agg #[.slice A0 a0.facts.length c0,.slice B0 a0.atoms.length d0]) a0):=⟨_,_,_,_,rfl,r0a.toV (by omega),r0b.toV (by omega)⟩;have hV1:Hid (CmsW w 0 w.heap.size A1 a1):=r1a.toW (by omega);clear hmk1;have hV2:Hid (AsnV w 0 w.heap.size (.agg #[.slice A2 a2.facts.length c2,.slice B2 a2.atoms.length d2]) a2):=⟨_,_,_,_,rfl,r2a.toV (by omega),r2b.toV (by omega)⟩;(go_enter Tryz.func4,Tryz.ntmps4);(go_wp2_with fail);refine (c_szAssertion _ _ _ _ a0 1048576 _ r0a.2 r0b.2 (by have:=HZ0.out;have:=HZ1.out;omega) (by have:=HZ0.out;have:=HZ1.out;omega)).mono ?_;rintro e ws0 ⟨rfl,hB0⟩;have hB:=bgo (w:=w) bel hB0;have p0:=Blk.next (g:=w.heap.size) (t:=25) (cs:=#[.slice A0 a0.facts.length c0,.slice B0 a0.atoms.length d0]) blks hB0;have p2:=Blk.next (g:=w.heap.size+1) (t:=25) (cs:=#[.slice A2 a2.facts.length c2,.slice B2 a2.atoms.length d2]) blks hB0;(replace qp0:=p0.z);(replace qp2:=p2.z);(go_wp2_with fail);refine (c_szP _ _ a1 (szA a0 1048576) _ r1a bel (by have:=HZ0.out;have:=HZ1.out;omega) (by have:=HZ0.out;have:=HZ1.out;omega)).mono ?_;rintro e ws1 ⟨rfl,hB1⟩;replace hB:=bgo hB hB1;replace p0:=p0.next hB1;replace p2:=p2.next hB1;(replace qp0:=p0.z);(replace qp2:=p2.z);(go_wp2_with fail);refine (c_szAssertion _ _ _ _ a2 (szP a1 (szA a0 1048576)) _ r2a.2 r2b.2 (by have:=HZ0.out;have:=HZ1.out;omega) (by have:=HZ0.out;have:=HZ1.out;omega)).mono ?_;rintro e ws2 ⟨rfl,hB2⟩;replace hB:=bgo hB hB2;replace p0:=p0.next hB2;replace p2:=p2.next hB2;(replace qp0:=p0.z);(replace qp2:=p2.z);have zs:=hB.size;have zb0:=p0.lt;have zb2:=p2.lt;clear hB0 hB1 hB2;clear r0a r0b;clear r1a;clear r2a r2b;(go_wp2_with fail);have tok0:True:=trivial;have tok1:True:=trivial;have tok2:True:=trivial
 go_region_held3 (fun w'=>(∀ i,w'.cell? ⟨w.heap.size,i,none⟩=#[.slice A0 a0.facts.length c0,.slice B0 a0.atoms.length d0][i]?)∧(∀ i,w'.cell? ⟨w.heap.size+1,i,none⟩=#[.slice A2 a2.facts.length c2,.slice B2 a2.atoms.length d2][i]?))
  (first|exact ⟨p0.cell,p2.cell⟩|exact ⟨p0.drew.cell,p2.drew.cell⟩)
  (first
   | (have _t:=tok0;go_at_call 14;refine (to_asn _ a0 _ (hV0.out.below bel)).mono ?_;clear tok0;rintro e w1 ⟨ys0,rfl,os0,hBx⟩;have hS:Below ws2.heap.size ws2 w1:=bgo (Below.refl ws2.heap.size ws2).drew hBx;replace hB:=bgo hB hS;replace p0:=p0.drew.next hBx;replace p2:=p2.drew.next hBx)
   | (have _t:=tok1;go_at_call 15;refine (to_cmds _ _ a1 _ (hV1.out.below bel)).mono ?_;clear tok1;rintro e w2 ⟨ys1,rfl,os1,hBx⟩;obtain ⟨Ks1,es1,rfl⟩:=os1.form;replace hS:=bgo hS hBx;replace hB:=bgo hB hBx;replace p0:=p0.next hBx;replace p2:=p2.next hBx;replace os0:=os0.below hBx)
   | (have _t:=tok2;go_at_call 14;refine (to_asn _ a2 _ (hV2.out.below bel)).mono ?_;clear tok2;rintro e w3 ⟨ys2,rfl,os2,hBx⟩;replace hS:=bgo hS hBx;replace hB:=bgo hB hBx;replace p0:=p0.next hBx;replace p2:=p2.next hBx;replace os0:=os0.below hBx;replace os1:=os1.below hBx)
   | (go_at_call 27;refine (k_spec_Verify _ _ a0 a2 _ _ a1 _ os0.reads os1.reads os2.reads).mono ?_;rintro e w4 ⟨rfl,hBx⟩;replace hS:=bgo hS hBx;replace hB:=bgo hB hBx;replace p0:=p0.next hBx;replace p2:=p2.next hBx))
 have zw4:=hS.size;clear hS os0 os1 os2;(replace qp0:=p0.z);(replace qp2:=p2.z);obtain ⟨sb,hsb⟩:∃ b,(verP a0 a1 a2)=b:=⟨_,rfl⟩;have HSB:=ax hsb;rw[hsb];clear hsb;(go_wp2_with fail);refine (to_asn _ a0 _ (hV0.out.below bel)).mono ?_;rintro e w5 ⟨y,rfl,X0,hBx⟩;have hS:=bgo (w:=w4) bel hBx;have zw5:=hBx.size;replace hB:=bgo hB hS;replace p0:=p0.next hS;replace p2:=p2.next hS;clear hS hBx;(replace qp0:=p0.z);(replace qp2:=p2.z);obtain ⟨Ax0,cx0,Bx0,dx0,rfl⟩:=X0.form;(go_wp2_with fail);refine (to_cmds _ _ a1 _ (hV1.out.below bel)).mono ?_;rintro e w6 ⟨y,rfl,X1,hBx⟩;rw[World.size_alloc] at X1;have hS:=bgo (w:=w5) bel hBx;have zw6:=hBx.size;simp only[World.size_alloc] at zw6;replace hB:=bgo hB hS;replace p0:=p0.next hS;replace p2:=p2.next hS;replace X0:=X0.below hS;have px0:=Blk.next (g:=w5.heap.size) (t:=36) (cs:=#[.slice Ax0 a0.facts.length cx0,.slice Bx0 a0.atoms.length dx0]) blks hBx;clear hS hBx;(replace qp0:=p0.z);(replace qp2:=p2.z);(replace qpx0:=px0.z);obtain ⟨Ax1,cx1,rfl⟩:=X1.form;(go_wp2_with fail);refine (to_asn _ a2 _ (hV2.out.below bel)).mono ?_;rintro e w7 ⟨y,rfl,X2,hBx⟩;have hS:=bgo (w:=w6) bel hBx;have zw7:=hBx.size;replace hB:=bgo hB hS;replace p0:=p0.next hS;replace p2:=p2.next hS;replace px0:=px0.next hS;replace X0:=X0.below hS;replace X1:=X1.below hS;clear hS hBx;(replace qp0:=p0.z);(replace qp2:=p2.z);(replace qpx0:=px0.z);obtain ⟨Ax2,cx2,Bx2,dx2,rfl⟩:=X2.form;(go_wp2_with fail);refine (k_impl_Verify _ _ a0 a2 _ _ a1 _ (X0.below bel).readsC (Nat.le_refl _) (X1.below bel).reads (X2.below bel).reads (Nat.le_refl _)).mono ?_;rintro e w8 ⟨rfl,hBx⟩;rw[HSB.out];have hS:=bgo (w:=w7) bel hBx;have zw8:=hBx.size;simp only[World.size_alloc] at zw8;replace hB:=bgo hB hS;replace p0:=p0.next hS;replace p2:=p2.next hS;replace px0:=px0.next hS;replace X0:=X0.below hS;replace X1:=X1.below hS;replace X2:=X2.below hS;have px2:=Blk.next (g:=w7.heap.size) (t:=36) (cs:=#[.slice Ax2 a2.facts.length cx2,.slice Bx2 a2.atoms.length dx2]) blks hBx;clear hS hBx;(replace qp0:=p0.z);(replace qp2:=p2.z);(replace qpx0:=px0.z);(replace qpx2:=px2.z);(go_wp2_with fail)
 go_region_held3 (fun w'=>(∀ i,w'.cell? ⟨w.heap.size,i,none⟩=#[.slice A0 a0.facts.length c0,.slice B0 a0.atoms.length d0][i]?)∧(∀ i,w'.cell? ⟨w5.heap.size,i,none⟩=#[.slice Ax0 a0.facts.length cx0,.slice Bx0 a0.atoms.length dx0][i]?))
  (first|exact ⟨p0.cell,px0.cell⟩|exact ⟨p0.drew.cell,px0.drew.cell⟩)
  (first
   | (go_at_call 14;refine (to_asn _ a0 _ (hV0.out.below bel)).mono ?_;rintro e w9 ⟨y,rfl,oz,hBx⟩;have hS:Below w8.heap.size w8 w9:=bgo (Below.refl w8.heap.size w8).drew hBx;replace hB:=bgo hB hS;replace p0:=p0.drew.next hBx;replace p2:=p2.drew.next hBx;replace px0:=px0.drew.next hBx;replace px2:=px2.drew.next hBx)
   | (go_at_call 19;refine (t_asn _ _ a0 _ (X0.below hS).reads oz.reads).mono ?_;rintro e w10 ⟨rfl,hBx⟩;replace hS:=bgo hS hBx;replace hB:=bgo hB hBx;replace p0:=p0.next hBx;replace p2:=p2.next hBx;replace px0:=px0.next hBx;replace px2:=px2.next hBx))
 have zw10:=hS.size;replace X0:=X0.below hS;replace X1:=X1.below hS;replace X2:=X2.below hS;clear hS oz;(replace qp0:=p0.z);(replace qp2:=p2.z);(replace qpx0:=px0.z);(replace qpx2:=px2.z);(go_wp2_with fail);refine (to_cmds _ _ a1 _ (hV1.out.below bel)).mono ?_;rintro e w11 ⟨y,rfl,oz,hBx⟩;have hS:=bgo (w:=w10) bel hBx;have zw11:=hBx.size;replace hB:=bgo hB hS;replace p0:=p0.next hS;replace p2:=p2.next hS;replace px0:=px0.next hS;replace px2:=px2.next hS;replace X0:=X0.below hS;replace X1:=X1.below hS;replace X2:=X2.below hS;clear hS hBx;(replace qp0:=p0.z);(replace qp2:=p2.z);(replace qpx0:=px0.z);(replace qpx2:=px2.z);obtain ⟨Az1,cz1,rfl⟩:=oz.form;(go_wp2_with fail);refine (t_cmds _ _ _ _ a1 _ (X1.below bel).reads (oz.below bel).reads).mono ?_;rintro e w12 ⟨rfl,hBx⟩;have hS:=bgo (w:=w11) bel hBx;have zw12:=hBx.size;replace hB:=bgo hB hS;replace p0:=p0.next hS;replace p2:=p2.next hS;replace px0:=px0.next hS;replace px2:=px2.next hS;replace X0:=X0.below hS;replace X1:=X1.below hS;replace X2:=X2.below hS;replace oz:=oz.below hS;clear hS hBx;(replace qp0:=p0.z);(replace qp2:=p2.z);(replace qpx0:=px0.z);(replace qpx2:=px2.z);clear oz;(go_wp2_with fail)
 go_region_held3 (fun w'=>(∀ i,w'.cell? ⟨w.heap.size+1,i,none⟩=#[.slice A2 a2.facts.length c2,.slice B2 a2.atoms.length d2][i]?)∧(∀ i,w'.cell? ⟨w7.heap.size,i,none⟩=#[.slice Ax2 a2.facts.length cx2,.slice Bx2 a2.atoms.length dx2][i]?))
  (first|exact ⟨p2.cell,px2.cell⟩|exact ⟨p2.drew.cell,px2.drew.cell⟩)
  (first
   | (go_at_call 14;refine (to_asn _ a2 _ (hV2.out.below bel)).mono ?_;rintro e w13 ⟨y,rfl,oz,hBx⟩;have hS:Below w12.heap.size w12 w13:=bgo (Below.refl w12.heap.size w12).drew hBx;replace hB:=bgo hB hS;replace p0:=p0.drew.next hBx;replace p2:=p2.drew.next hBx;replace px0:=px0.drew.next hBx;replace px2:=px2.drew.next hBx)
   | (go_at_call 19;refine (t_asn _ _ a2 _ (X2.below hS).reads oz.reads).mono ?_;rintro e w14 ⟨rfl,hBx⟩;replace hS:=bgo hS hBx;replace hB:=bgo hB hBx;replace p0:=p0.next hBx;replace p2:=p2.next hBx;replace px0:=px0.next hBx;replace px2:=px2.next hBx))
 have zw14:=hS.size;replace X0:=X0.below hS;replace X1:=X1.below hS;replace X2:=X2.below hS;clear hS oz;(replace qp0:=p0.z);(replace qp2:=p2.z);(replace qpx0:=px0.z);(replace qpx2:=px2.z);(go_wp2_with fail);go_ret;exact ⟨rfl,hB⟩
end
end Go.Proofs.YtgdfdmjnadnlnaaGreat
