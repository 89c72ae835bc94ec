/- Contracts: contracts from texts (impl). -/
import Derived.Test.YtjaohekkmlkinaaDoorPrsA
import Derived.Test.YtjaohekkmlkinaaDoorPrsQ
import Derived.Test.YtjaohekkmlkinaaDoorCtr
import Derived.Test.YtjaohekkmlkinaaDoorAlloc
set_option linter.unusedSimpArgs false
set_option linter.unusedVariables false
namespace Go.Proofs.YtjaohekkmlkinaaDoor
open Go Go.RowKit Go.Proofs
theorem parts_lenK {sep x:Bs}:∀ k s,x∈Lib.splitK sep 0 k s→x.length≤s.length:=by
 intro k
 induction k with
 | zero=>intro s h;simp[Lib.splitK] at h;subst h;exact Nat.le_refl _
 | succ k ih=>
  intro s h
  unfold Lib.splitK at h
  split at h
  ·simp at h;subst h;exact Nat.le_refl _
  ·rcases List.mem_cons.1 h with rfl|h
   ·simp;omega
   ·have:=ih _ h
    simp at this;omega
theorem trimP_len (a p:Bs):(Lib.trimPrefix a p).length≤a.length:=by
 unfold Lib.trimPrefix;split<;>simp
theorem c_SplitN (l sep:Bs) (n:Nat) (w:World) (h:TM w) (hl:l.length≤1049000) (hs:1≤sep.length) (hn:1≤n) (hn2:n≤1000):Calls Tryd.prog 34 #[sv l,sv sep,.int .i64 n] w fun e w'=>∃ r,e=.returned r∧StrsO w' w.heap.size r (Lib.splitN l sep n)∧Below w.heap.size w w':=by
 obtain ⟨m,hm⟩:=h.2.2
 refine (shg_strings_SplitN ⟨l.toArray⟩ ⟨sep.toArray⟩ n m w (by simp only[ByteArray.size,List.size_toArray];omega) hm (by simp only[ByteArray.size,List.size_toArray];omega) hn (by omega)).mono ?_
 rintro e w' ⟨rfl,rfl⟩
 have hsz:(ByteArray.mk l.toArray).size=l.length:=by simp[ByteArray.size]
 rw[hsz]
 have hd:(Lib.splitB ⟨sep.toArray⟩ 0 (min n (l.length+1) - 1) ⟨l.toArray⟩).map (·.data.toList)=Lib.splitN l sep n:=by rw[Lib.splitB_data];rfl
 have hle:=Lib.splitB_length_le ⟨sep.toArray⟩ 0 (min n (l.length+1) - 1) ⟨l.toArray⟩
 obtain ⟨bs,hbs⟩:∃ bs,bs=Lib.splitB ⟨sep.toArray⟩ 0 (min n (l.length+1) - 1) ⟨l.toArray⟩:=⟨_,rfl⟩
 rw[←hbs] at hd hle ⊢
 rw[←hd]
 have hlm:(bs.map (·.data.toList)).length=bs.length:=List.length_map ..
 have hcap:bs.length≤min n (l.length+1):=by omega
 refine ⟨_,rfl,?_,(Below.refl _ _).alloc (Nat.le_refl _) _⟩
 rw[←hlm]
 refine ⟨own_of_blk (Blk.newE rfl) (Nat.le_refl _) (by simp[encS]) ?_ (by omega) (Nat.le_trans (show min n (l.length+1)≤1000 by omega) (by decide)) (by rw[Lib.cellsOf_size hcap];omega),?_⟩
 ·intro j hj
  unfold Lib.cellsOf
  rw[strs_map,List.getElem?_toArray,List.getElem?_append_left (by simp[encS] at hj ⊢;exact hj)]
 ·rw[hlm];unfold Lim;omega
theorem c_CutPre (l p:Bs) (w:World):Calls Tryd.prog 35 #[sv l,sv p] w fun e w'=>e=.returned (.tuple #[sv (Lib.trimPrefix l p),.bool (Lib.hasPrefix l p)])∧w=w':=by
 refine (shg_strings_CutPrefix ⟨l.toArray⟩ ⟨p.toArray⟩ w).mono ?_
 rintro e w' ⟨rfl,rfl⟩
 exact ⟨by simp,rfl⟩
theorem rdI_no {ps:List Bs} {k:Nat} {acc:List Int} (hk:k<ps.length) (h:parseT ps[k]=none∨acc.length=4):rdI (ps.drop k) acc=none:=by
 rw[List.drop_eq_getElem_cons hk,rdI]
 rcases h with h|h
 ·rw[h]
 ·cases parseT ps[k] with
  | none=>rfl
  | some f=>exact if_pos h
theorem rdI_yes {ps:List Bs} {k:Nat} {acc:List Int} {f:Nat} (hk:k<ps.length) (h:parseT ps[k]=some f) (hl:acc.length≠4):rdI (ps.drop k) acc=rdI (ps.drop (k+1)) (acc++[(f:Int)]):=by
 conv=>lhs;rw[List.drop_eq_getElem_cons hk,rdI,h]
 exact if_neg hl
set_option maxRecDepth 100000 in
set_option maxHeartbeats 6400000 in
theorem c_iChg (l:Bs) (w:World) (h:TM w) (hl:l.length≤1049000):Calls Tryd.prog 37 #[sv l] w fun e w'=>∃ r,e=.returned (.tuple #[r,.bool (rdIs l).isSome])∧IntsO w' w.heap.size r ((rdIs l).getD [])∧Below w.heap.size w w':=by
 have HT:=Lib.hid h
 have hw1:=h.2.1
 obtain ⟨P,hP⟩:∃ P,P=rdIs l:=⟨_,rfl⟩
 rw[←hP]
 unfold rdIs at hP
 have CS:=Lib.hid (c_CutPre l [32] w)
 obtain ⟨s,hs⟩:∃ s,s=Lib.trimPrefix l [32]:=⟨_,rfl⟩
 obtain ⟨hp,hhp⟩:∃ b,b=Lib.hasPrefix l [32]:=⟨_,rfl⟩
 have hls:s.length≤1049000:=by rw[hs];exact Nat.le_trans (trimP_len _ _) hl
 rw[←hs,←hhp] at CS hP
 clear hs hhp h
 replace hP:=Lib.hid hP
 go_enter Tryd.func37,Tryd.ntmps37
 by_cases hT:l=[]
 ·subst hT
  go_wp2_with fail
  refine bodyPost_ret (v:=.tuple #[.slice none 0 0,.bool true]) (by simp[results,Tryd.results37,go_sem]) rfl ⟨_,by rw[hP.out];rfl,?_,Below.refl _ _⟩
  rw[hP.out];exact IntsO.nil _ _
 have hTb:(l == [])=false:=by rw[bytes_eq];simpa using hT
 replace hP:Hid (P=if hp then rdI (Lib.split s [32]) [] else none):=Lib.hid (by rw[hP.out,if_neg hT])
 clear hT hl
 go_wp2_with fail
 refine CS.out.mono ?_
 rintro e w' ⟨rfl,rfl⟩
 cases hp
 ·go_wp2_with fail
  refine bodyPost_ret (v:=.tuple #[.slice none 0 0,.bool false]) (by simp[results,Tryd.results37,go_sem]) rfl ⟨_,by rw[hP.out];rfl,?_,Below.refl _ _⟩
  rw[hP.out];exact IntsO.nil _ _
 have C2:=Lib.hid (c_Split s [32] w HT.out hls (by decide))
 obtain ⟨ps,hps⟩:∃ ps,ps=Lib.split s [32]:=⟨_,rfl⟩
 rw[←hps] at C2 hP
 replace hP:Hid (P=rdI ps []):=Lib.hid (by have:=hP.out;simpa using this)
 clear hps CS
 go_wp2_with fail
 refine C2.out.mono ?_
 rintro e w2 ⟨r2,rfl,o2,hq⟩
 obtain ⟨AS,cS,rfl,v2⟩:=o2.reads
 have hzq:=hq.size
 have hpsl:ps.length≤1049600:=v2.le
 have HS:=Lib.hid v2
 have HB:=Lib.hid hq
 have HT2:=Lib.hid (HT.out.below hq)
 clear C2 o2 v2 hq HT
 go_wp2_with fail
 go_loopw [4,24] (fun v i wr=>∃ (k:Nat) (fs:List Int) (A:Option Addr) (c:Nat),v=.slice A fs.length c∧i=.int .i64 k∧k≤ps.length∧fs.length≤4∧IntsO wr w2.heap.size (.slice A fs.length c) fs∧Hid (rdI (ps.drop k) fs=rdI ps [])∧Hid (Below w2.heap.size w2 wr)) (fun _ i _=>ps.length - (intOf i).toNat)
 case atStart=>exact ⟨0,[],none,0,rfl,rfl,Nat.zero_le _,by simp,IntsO.nil _ _,Lib.hid (by rw[List.drop_zero]),Lib.hid (Below.refl _ _)⟩
 case round=>
  obtain ⟨k,fs,A,c,rfl,rfl,hk,hfl,hO,hR,HB2⟩:=hrel
  have HO:=Lib.hid hO
  have HTr:=Lib.hid (HT2.out.below HB2.out)
  have hzr:=HB2.out.size
  clear hO
  by_cases hlt:k<ps.length
  ·have hki:(k:Int)<(ps.length:Int):=by omega
   obtain ⟨bw,ow,rfl,hc⟩:=(HS.out.below HB2.out).at hlt
   have HN:=Lib.hid (fun h=>rdI_no (acc:=fs) hlt h)
   have HY:=Lib.hid (fun f h=>rdI_yes (acc:=fs) (f:=f) hlt h)
   obtain ⟨x,hxx⟩:∃ x,x=ps[k]:=⟨_,rfl⟩
   rw[←hxx] at hc HN HY
   clear hxx
   have CP:=Lib.hid (c_iPT x wr HTr.out.1)
   cases hp:parseT x with
   | none=>
    have HNo:Hid (P=none):=Lib.hid (by rw[hP.out,←hR.out];exact HN.out (.inl hp))
    rw[hp] at CP
    go_wp2_with fail
    refine CP.out.mono ?_
    rintro e w3 ⟨rfl,rfl⟩
    simp only[Option.getD_none,Option.isSome_none]
    go_wp2_with fail
    refine bodyPost_ret (v:=.tuple #[.slice none 0 0,.bool false]) (by simp[results,Tryd.results37,go_sem]) rfl ⟨_,by rw[HNo.out];rfl,?_,bgo HB.out HB2.out⟩
    rw[HNo.out];exact IntsO.nil _ _
   | some n=>
    rw[hp] at CP
    have hpS:=Lib.hid hp
    clear hp
    go_wp2_with fail
    refine CP.out.mono ?_
    rintro e w3 ⟨rfl,rfl⟩
    simp only[Option.getD_some,Option.isSome_some]
    by_cases h12:fs.length=4
    ·have h12b:((fs.length:Int) == 4)=true:=by simp;omega
     have HNo:Hid (P=none):=Lib.hid (by rw[hP.out,←hR.out];exact HN.out (.inr h12))
     go_wp2_with fail
     refine bodyPost_ret (v:=.tuple #[.slice none 0 0,.bool false]) (by simp[results,Tryd.results37,go_sem]) rfl ⟨_,by rw[HNo.out];rfl,?_,bgo HB.out HB2.out⟩
     rw[HNo.out];exact IntsO.nil _ _
    ·have h12b:((fs.length:Int) == 4)=false:=by simp;omega
     go_wp2_with (at_builtin;refine appI rfl _ _ rfl (v:=.slice A fs.length c) rfl (IntsO.below (w:=wr) HO.out bel) wr.heap.size (n:Nat) rfl (by simp) (by omega) (by simp;omega) ?_;intro g4 c4 w4 o4 hg4 hB4)
     have HB5:=Lib.hid ((HB2.out.alloc hzr _).trans hB4)
     go_round
     case rel=>exact ⟨k+1,fs++[(n:Int)],some ⟨g4,0,none⟩,c4,by simp,by go_num,by omega,by simp;omega,by simpa using o4,Lib.hid ((HY.out _ hpS.out h12).symm.trans hR.out),HB5⟩
     case measure=>simp[intOf];omega
  ·have hki:¬(k:Int)<(ps.length:Int):=by omega
   have HYes:Hid (P=some fs):=Lib.hid (by rw[hP.out,←hR.out,List.drop_eq_nil_of_le (by omega)];rfl)
   go_wp2_with fail
   refine bodyPost_ret (v:=.tuple #[.slice A fs.length c,.bool true]) (by simp[results,Tryd.results37,go_sem]) rfl ⟨_,by rw[HYes.out];rfl,?_,bgo HB.out HB2.out⟩
   rw[HYes.out];exact HO.out.lower hzq
theorem CtrI.lower {w:World} {lo base' hi:Nat} {v:Value} {k:Ctr} (h:CtrI w lo hi v k) (hb:base'≤lo):CtrI w base' hi v k:=by
 obtain ⟨a1,a2,a3,a4,iv,l1,h1,l2,h2,e,p1,p2,p3,q⟩:=h
 exact ⟨a1,a2,a3,a4,iv,l1,h1,l2,h2,e,p1,p2,⟨p3.1.lower hb,p3.2⟩,by omega⟩
theorem CtrI.setT {w:World} {lo hi:Nat} {v:Value} {k:Ctr} (h:CtrI w lo hi v k) {g:Nat} {t:TypeId} {cs:Array Value} (hk:Blk w g t cs) (h1:t≠tF) (h2:t≠tA) (h3:t≠tI) (i:Nat) (u:Value):CtrI (w.setCell ⟨g,i,none⟩ u) lo hi v k:=by
 obtain ⟨a1,a2,a3,a4,iv,l1,hh1,l2,hh2,e,p1,p2,p3,q⟩:=h
 exact ⟨a1,a2,a3,a4,iv,l1,hh1,l2,hh2,e,p1.setT hk h1 h2 i u,p2.setT hk h1 h2 i u,p3.setT hk h3 i u,by rw[World.size_setCell];exact q⟩
theorem pC3_false {a b c:Bs} (h:(Lib.hasPrefix a [112,114,101,32]&&Lib.hasPrefix b [112,111,115,116,32]&&Lib.hasPrefix c [99,104,97,110,103,101,115])=false):pC3 a b c=none:=by
 unfold pC3;rw[if_neg (by rw[h];decide)]
theorem pC3_true {a b c:Bs} (h:(Lib.hasPrefix a [112,114,101,32]&&Lib.hasPrefix b [112,111,115,116,32]&&Lib.hasPrefix c [99,104,97,110,103,101,115])=true):pC3 a b c=three (pAI (Lib.trimPrefix a [112,114,101,32])) (pAI (Lib.trimPrefix b [112,111,115,116,32])) (rdIs (Lib.trimPrefix c [99,104,97,110,103,101,115])):=if_pos h
theorem three_n1 (q:Option Asn) (c:Option (List Int)):three none q c=none:=rfl
theorem three_n2 (p:Option Asn) (c:Option (List Int)):three p none c=none:=by cases p<;>rfl
theorem three_n3 (p q:Option Asn):three p q none=none:=by cases p<;>cases q<;>rfl
set_option maxRecDepth 100000 in
set_option maxHeartbeats 12800000 in
theorem c_iPC (l:Bs) (w:World) (h:TM w) (hl:l.length≤1049000):Calls Tryd.prog 12 #[sv l] w fun e w'=>∃ r,e=.returned (.tuple #[r,.bool (pCI l).isSome])∧CtrI w' w.heap.size w'.heap.size r ((pCI l).getD ctr0)∧Below w.heap.size w w':=by
 have HT:=Lib.hid h
 have hw1:=h.2.1
 obtain ⟨P,hP⟩:∃ P,P=pCI l:=⟨_,rfl⟩
 rw[←hP]
 unfold pCI at hP
 have CS:=Lib.hid fun W (h:TM W)=>c_SplitN l [10] 4 W h hl (by decide) (by omega) (by omega)
 have hpl:Hid (∀ x∈Lib.splitN l [10] 4,x.length≤1049000):=Lib.hid fun x hx=>Nat.le_trans (parts_lenK _ _ hx) hl
 obtain ⟨ls,hls⟩:∃ ls,ls=Lib.splitN l [10] 4:=⟨_,rfl⟩
 rw[←hls] at CS hP hpl
 clear hls h hl
 replace hP:=Lib.hid hP
 go_enter Tryd.func12,Tryd.ntmps12
 go_upto_region 1 with fail
 refine bx1 (w:=w) (F:=Code.wp _ _ _ _) ?_
 rintro W k0 hB -
 replace HT:=Lib.hid (HT.out.below hB)
 go_wp2_with fail
 refine (CS.out _ HT.out).mono ?_
 rintro e w1 ⟨r1,rfl,o1,hq⟩
 obtain ⟨AS,cS,rfl,v1⟩:=o1.reads
 have HB:=Lib.hid (bgo hB hq)
 replace HT:=Lib.hid (HT.out.below hq)
 replace k0:=k0.next hq
 clear CS hB hq o1
 by_cases hlen:ls.length=4
 case neg=>
  have hlb:((ls.length:Int) == 4)=false:=by simp;omega
  have hNo:Hid (P=none):=Lib.hid (by rw[hP.out];exact if_neg fun h=>hlen h.1)
  (replace qk0:=k0.cell;replace rk0:=k0.frozen;replace lk0:=k0.lt)
  go_wp2_with fail
  have z0:=((((k0.set_ 0 (.slice none 0 0)).set_ 1 (.slice none 0 0)).set_ 2 (.slice none 0 0)).set_ 3 (.slice none 0 0)).set_ 4 (.slice none 0 0)
  refine bodyPost_ret (v:=.tuple #[.agg #[.slice none 0 0,.slice none 0 0,.slice none 0 0,.slice none 0 0,.slice none 0 0],.bool false]) (by simp[results,Tryd.results12,go_sem,z0.cell]) rfl ⟨_,by rw[hNo.out];rfl,?_,?_⟩
  ·rw[hNo.out];exact CtrI.zero (by have:=z0.lt;simp at this ⊢;omega) (Nat.le_refl _)
  ·have hb:=HB.out;exact bel
 have hle:=four_of hlen
 obtain ⟨a,ha⟩:∃ a,a=ls.getD 0 []:=⟨_,rfl⟩
 obtain ⟨b,hb⟩:∃ a,a=ls.getD 1 []:=⟨_,rfl⟩
 obtain ⟨c,hc⟩:∃ a,a=ls.getD 2 []:=⟨_,rfl⟩
 obtain ⟨d,hd⟩:∃ a,a=ls.getD 3 []:=⟨_,rfl⟩
 rw[←ha,←hb,←hc,←hd] at hle
 clear ha hb hc hd hlen
 subst hle
 obtain ⟨sb,so,rfl,q0⟩:=v1.at (k:=0) (by simp)
 have q1:w1.cell? ⟨sb,so+1,none⟩=some (sv b):=by
  obtain ⟨b',o',e,h⟩:=v1.at (k:=1) (by simp)
  injection e with e;injection e with e1 e2;subst e1 e2
  exact h
 have q2:w1.cell? ⟨sb,so+2,none⟩=some (sv c):=by
  obtain ⟨b',o',e,h⟩:=v1.at (k:=2) (by simp)
  injection e with e;injection e with e1 e2;subst e1 e2
  exact h
 have q3:w1.cell? ⟨sb,so+3,none⟩=some (sv d):=by
  obtain ⟨b',o',e,h⟩:=v1.at (k:=3) (by simp)
  injection e with e;injection e with e1 e2;subst e1 e2
  exact h
 have hla:=hpl.out a (by simp)
 have hlb:=hpl.out b (by simp)
 have hlc:=hpl.out c (by simp)
 simp only[Nat.add_zero,List.getElem_cons_zero] at q0
 clear v1 hpl
 (replace qk0:=k0.cell;replace rk0:=k0.frozen;replace lk0:=k0.lt)
 by_cases hd:d=[]
 case neg=>
  have hdb:(d == [])=false:=by rw[bytes_eq];simpa using hd
  have hNo:Hid (P=none):=Lib.hid (by rw[hP.out];exact if_neg fun h=>hd h.2)
  go_wp2_with fail
  have z0:=((((k0.set_ 0 (.slice none 0 0)).set_ 1 (.slice none 0 0)).set_ 2 (.slice none 0 0)).set_ 3 (.slice none 0 0)).set_ 4 (.slice none 0 0)
  refine bodyPost_ret (v:=.tuple #[.agg #[.slice none 0 0,.slice none 0 0,.slice none 0 0,.slice none 0 0,.slice none 0 0],.bool false]) (by simp[results,Tryd.results12,go_sem,z0.cell]) rfl ⟨_,by rw[hNo.out];rfl,?_,?_⟩
  ·rw[hNo.out];exact CtrI.zero (by have:=z0.lt;simp at this ⊢;omega) (Nat.le_refl _)
  ·have hb:=HB.out;exact bel
 subst hd
 replace hP:Hid (P=pC3 a b c):=Lib.hid (by rw[hP.out];exact if_pos ⟨rfl,rfl⟩)
 have hF:=Lib.hid (pC3_false (a:=a) (b:=b) (c:=c))
 have hY:=Lib.hid (pC3_true (a:=a) (b:=b) (c:=c))
 have C1:=Lib.hid (c_CutPre a [112,114,101,32] w1)
 have hl1:=trimP_len a [112,114,101,32]
 obtain ⟨s1,hs1⟩:∃ z,z=Lib.trimPrefix a [112,114,101,32]:=⟨_,rfl⟩
 obtain ⟨t1,ht1⟩:∃ z,z=Lib.hasPrefix a [112,114,101,32]:=⟨_,rfl⟩
 rw[←hs1] at C1 hl1 hY
 rw[←ht1] at C1 hY hF
 clear hs1 ht1
 have C2:=Lib.hid (c_CutPre b [112,111,115,116,32] w1)
 have hl2:=trimP_len b [112,111,115,116,32]
 obtain ⟨s2,hs2⟩:∃ z,z=Lib.trimPrefix b [112,111,115,116,32]:=⟨_,rfl⟩
 obtain ⟨t2,ht2⟩:∃ z,z=Lib.hasPrefix b [112,111,115,116,32]:=⟨_,rfl⟩
 rw[←hs2] at C2 hl2 hY
 rw[←ht2] at C2 hY hF
 clear hs2 ht2
 have C3:=Lib.hid (c_CutPre c [99,104,97,110,103,101,115] w1)
 have hl3:=trimP_len c [99,104,97,110,103,101,115]
 obtain ⟨s3,hs3⟩:∃ z,z=Lib.trimPrefix c [99,104,97,110,103,101,115]:=⟨_,rfl⟩
 obtain ⟨t3,ht3⟩:∃ z,z=Lib.hasPrefix c [99,104,97,110,103,101,115]:=⟨_,rfl⟩
 rw[←hs3] at C3 hl3 hY
 rw[←ht3] at C3 hY hF
 clear hs3 ht3
 go_wp2_with fail
 refine C1.out.mono ?_
 rintro e w' ⟨rfl,rfl⟩
 go_wp2_with fail
 refine C2.out.mono ?_
 rintro e w' ⟨rfl,rfl⟩
 go_wp2_with fail
 refine C3.out.mono ?_
 rintro e w' ⟨rfl,rfl⟩
 have hB:(t1&&t2&&t3)=true∨(t1&&t2&&t3)=false:=by cases t1&&t2&&t3<;>simp
 rcases hB with hB|hB
 case inr=>
  have hNo:Hid (P=none):=Lib.hid (by rw[hP.out];exact hF.out hB)
  cases t1<;>cases t2<;>cases t3<;>try (exact absurd hB (by decide))
  all_goals
   go_wp2_with fail
   have z0:=((((k0.set_ 0 (.slice none 0 0)).set_ 1 (.slice none 0 0)).set_ 2 (.slice none 0 0)).set_ 3 (.slice none 0 0)).set_ 4 (.slice none 0 0)
   refine bodyPost_ret (v:=.tuple #[.agg #[.slice none 0 0,.slice none 0 0,.slice none 0 0,.slice none 0 0,.slice none 0 0],.bool false]) (by simp[results,Tryd.results12,go_sem,z0.cell]) rfl ⟨_,by rw[hNo.out];rfl,?_,?_⟩
   ·rw[hNo.out];exact CtrI.zero (by have:=z0.lt;simp at this ⊢;omega) (Nat.le_refl _)
   ·have hb:=HB.out;exact bel
 have hP2:Hid (P=three (pAI s1) (pAI s2) (rdIs s3)):=Lib.hid (by rw[hP.out];exact hY.out hB)
 simp only[Bool.and_eq_true] at hB
 obtain ⟨⟨rfl,rfl⟩,rfl⟩:=hB
 replace hP:=hP2
 have hl1':s1.length≤1049000:=by omega
 have hl2':s2.length≤1049000:=by omega
 have hl3':s3.length≤1049000:=by omega
 clear hP2 hF hY C1 C2 C3 q0 q1 q2 q3 hla hlb hlc hl1 hl2 hl3 qk0 rk0 lk0
 have lk0:=k0.lt
 go_upto_region 11 with fail
 have k1:=Blk.new w1 34 #[.slice none 0 0,.slice none 0 0,.slice none 0 0,.slice none 0 0,.slice none 0 0]
 have hbx:=bbox (Below.refl _ w1) (.cells #[.slice none 0 0,.slice none 0 0,.slice none 0 0,.slice none 0 0,.slice none 0 0] 34)
 replace k0:=k0.next hbx
 replace HT:=Lib.hid (HT.out.below hbx)
 replace HB:=Lib.hid (bgo HB.out hbx)
 obtain ⟨y,hy⟩:∃ y,y=w1.heap.size:=⟨_,rfl⟩
 have hyw:w.heap.size<y:=by rw[hy];exact lk0
 have hyV:y+1≤(w1.alloc (.cells #[.slice none 0 0,.slice none 0 0,.slice none 0 0,.slice none 0 0,.slice none 0 0] 34)).heap.size:=by rw[hy];simp
 clear hbx
 generalize (w1.alloc (.cells #[.slice none 0 0,.slice none 0 0,.slice none 0 0,.slice none 0 0,.slice none 0 0] _))=V at *
 rw[←hy] at k1 ⊢
 clear hy lk0
 have H1:=Lib.hid (c_iPA s1 V HT.out hl1')
 (replace qk0:=k0.cell;replace rk0:=k0.frozen;replace lk0:=k0.lt;replace qk1:=k1.cell;replace rk1:=k1.frozen;replace lk1:=k1.lt)
 go_wp2_with fail
 refine H1.out.mono ?_
 rintro e w2 ⟨r2,rfl,oA,hq⟩
 have hz2:=hq.size
 replace HT:=Lib.hid (HT.out.below hq)
 replace HB:=Lib.hid (bgo HB.out hq)
 replace k0:=k0.next hq
 replace k1:=k1.next hq
 clear H1 hq qk0 rk0 lk0 qk1 rk1 lk1
 have hwy:w.heap.size≠y:=by omega
 cases hp1:pAI s1 with
 | none=>
  rw[hp1] at oA
  obtain ⟨fv,av,rfl,o2,o3⟩:=oA
  obtain ⟨G1,g1,rfl,-⟩:=o2.reads
  obtain ⟨G2,g2,rfl,-⟩:=o3.reads
  simp only[Option.getD_none,Option.isSome_none]
  have hNo:Hid (P=none):=Lib.hid (by rw[hP.out,hp1,three_n1])
  (replace qk0:=k0.cell;replace rk0:=k0.frozen;replace lk0:=k0.lt;replace qk1:=k1.cell;replace rk1:=k1.frozen;replace lk1:=k1.lt)
  have lk1':=k1.lt
  go_wp2_with fail
  have z0:=((((((k0.far (p:=⟨y,0,none⟩) (by simp only;omega) (.slice G1 0 g1)).far (p:=⟨y,1,none⟩) (by simp only;omega) (.slice G2 0 g2)).set_ 0 (.slice none 0 0)).set_ 1 (.slice none 0 0)).set_ 2 (.slice none 0 0)).set_ 3 (.slice none 0 0)).set_ 4 (.slice none 0 0)
  refine bodyPost_ret (v:=.tuple #[.agg #[.slice none 0 0,.slice none 0 0,.slice none 0 0,.slice none 0 0,.slice none 0 0],.bool false]) (by simp[results,Tryd.results12,go_sem,z0.cell]) rfl ⟨_,by rw[hNo.out];rfl,?_,?_⟩
  ·rw[hNo.out];exact CtrI.zero (by have:=z0.lt;simp at this ⊢;omega) (Nat.le_refl _)
  ·have hb:=HB.out;exact bel
 | some p=>
  rw[hp1] at oA hP
  clear hp1
  replace oA:AsnO w2 V.heap.size r2 p:=oA
  obtain ⟨fv,av,rfl,o2,o3⟩:=oA
  obtain ⟨A1,c1,rfl,-⟩:=o2.reads
  obtain ⟨A2,c2,rfl,-⟩:=o3.reads
  simp only[Option.isSome_some]
  (replace qk0:=k0.cell;replace rk0:=k0.frozen;replace lk0:=k0.lt;replace qk1:=k1.cell;replace rk1:=k1.frozen;replace lk1:=k1.lt)
  go_upto_region 14 with fail
  obtain ⟨b1,hb1⟩:∃ z,z=V.heap.size:=⟨_,rfl⟩
  rw[←hb1] at hz2 o2 o3 hyV
  have HU:=Lib.hid (And.intro o2.und o3.und)
  have HA:Hid (AsnO ((w2.setCell ⟨y,0,none⟩ (.slice A1 p.facts.length c1)).setCell ⟨y,1,none⟩ (.slice A2 p.atoms.length c2)) b1 (.agg #[.slice A1 p.facts.length c1,.slice A2 p.atoms.length c2]) p):=Lib.hid ⟨_,_,rfl,(o2.setb (by simp only;omega) _).setb (by simp only;omega) _,(o3.setb (by simp only;omega) _).setb (by simp only;omega) _⟩
  replace k1:=(k1.set_ 0 (.slice A1 p.facts.length c1)).set_ 1 (.slice A2 p.atoms.length c2)
  replace k0:=(k0.far (p:=⟨y,0,none⟩) (by simp only;omega) (.slice A1 p.facts.length c1)).far (p:=⟨y,1,none⟩) (by simp only;omega) (.slice A2 p.atoms.length c2)
  replace HT:Hid (TM ((w2.setCell ⟨y,0,none⟩ (.slice A1 p.facts.length c1)).setCell ⟨y,1,none⟩ (.slice A2 p.atoms.length c2))):=Lib.hid ((HT.out.set0 (y:=y) (i:=0) (by omega) trivial _).set0 (y:=y) (i:=1) (by omega) trivial _)
  replace HB:=Lib.hid ((HB.out.setCell (p:=⟨y,0,none⟩) (by simp only;omega) (.slice A1 p.facts.length c1)).setCell (p:=⟨y,1,none⟩) (by simp only;omega) (.slice A2 p.atoms.length c2))
  have hzU:((w2.setCell ⟨y,0,none⟩ (.slice A1 p.facts.length c1)).setCell ⟨y,1,none⟩ (.slice A2 p.atoms.length c2)).heap.size=w2.heap.size:=by simp
  clear o2 o3 hb1 qk0 rk0 lk0 qk1 rk1 lk1
  generalize ((w2.setCell ⟨y,0,none⟩ (.slice A1 p.facts.length c1)).setCell ⟨y,1,none⟩ (.slice A2 p.atoms.length c2))=U at *
  have H1:=Lib.hid (c_iPA s2 U HT.out hl2')
  (replace qk0:=k0.cell;replace rk0:=k0.frozen;replace lk0:=k0.lt;replace qk1:=k1.cell;replace rk1:=k1.frozen;replace lk1:=k1.lt)
  go_wp2_with fail
  refine H1.out.mono ?_
  rintro e w3 ⟨r3,rfl,oA,hq⟩
  have hz3:=hq.size
  replace HT:=Lib.hid (HT.out.below hq)
  replace HB:=Lib.hid (bgo HB.out hq)
  replace HA:=Lib.hid (HA.out.below hq)
  replace k0:=k0.next hq
  replace k1:=k1.next hq
  clear H1 hq qk0 rk0 lk0 qk1 rk1 lk1
  cases hp2:pAI s2 with
  | none=>
   rw[hp2] at oA
   obtain ⟨fv,av,rfl,o2,o3⟩:=oA
   obtain ⟨G1,g1,rfl,-⟩:=o2.reads
   obtain ⟨G2,g2,rfl,-⟩:=o3.reads
   simp only[Option.getD_none,Option.isSome_none]
   have hNo:Hid (P=none):=Lib.hid (by rw[hP.out,hp2,three_n2])
   (replace qk0:=k0.cell;replace rk0:=k0.frozen;replace lk0:=k0.lt;replace qk1:=k1.cell;replace rk1:=k1.frozen;replace lk1:=k1.lt)
   have lk1':=k1.lt
   go_wp2_with fail
   have z0:=((((((k0.far (p:=⟨y,2,none⟩) (by simp only;omega) (.slice G1 0 g1)).far (p:=⟨y,3,none⟩) (by simp only;omega) (.slice G2 0 g2)).set_ 0 (.slice none 0 0)).set_ 1 (.slice none 0 0)).set_ 2 (.slice none 0 0)).set_ 3 (.slice none 0 0)).set_ 4 (.slice none 0 0)
   refine bodyPost_ret (v:=.tuple #[.agg #[.slice none 0 0,.slice none 0 0,.slice none 0 0,.slice none 0 0,.slice none 0 0],.bool false]) (by simp[results,Tryd.results12,go_sem,z0.cell]) rfl ⟨_,by rw[hNo.out];rfl,?_,?_⟩
   ·rw[hNo.out];exact CtrI.zero (by have:=z0.lt;simp at this ⊢;omega) (Nat.le_refl _)
   ·have hb:=HB.out;exact bel
  | some q=>
   rw[hp2] at oA hP
   clear hp2
   replace oA:AsnO w3 U.heap.size r3 q:=oA
   obtain ⟨fv,av,rfl,o2,o3⟩:=oA
   obtain ⟨A3,c3,rfl,-⟩:=o2.reads
   obtain ⟨A4,c4,rfl,-⟩:=o3.reads
   simp only[Option.isSome_some]
   (replace qk0:=k0.cell;replace rk0:=k0.frozen;replace lk0:=k0.lt;replace qk1:=k1.cell;replace rk1:=k1.frozen;replace lk1:=k1.lt)
   go_upto_region 17 with fail
   obtain ⟨b2,hb2⟩:∃ z,z=U.heap.size:=⟨_,rfl⟩
   rw[←hb2] at hz3 o2 o3 hzU
   have HU2:=Lib.hid (And.intro o2.und o3.und)
   have HA2:Hid (AsnO ((w3.setCell ⟨y,2,none⟩ (.slice A3 q.facts.length c3)).setCell ⟨y,3,none⟩ (.slice A4 q.atoms.length c4)) b2 (.agg #[.slice A3 q.facts.length c3,.slice A4 q.atoms.length c4]) q):=Lib.hid ⟨_,_,rfl,(o2.setb (by simp only;omega) _).setb (by simp only;omega) _,(o3.setb (by simp only;omega) _).setb (by simp only;omega) _⟩
   replace HA:=Lib.hid ((HA.out.setb (p:=⟨y,2,none⟩) (by simp only;omega) (.slice A3 q.facts.length c3)).setb (p:=⟨y,3,none⟩) (by simp only;omega) (.slice A4 q.atoms.length c4))
   replace k1:=(k1.set_ 2 (.slice A3 q.facts.length c3)).set_ 3 (.slice A4 q.atoms.length c4)
   replace k0:=(k0.far (p:=⟨y,2,none⟩) (by simp only;omega) (.slice A3 q.facts.length c3)).far (p:=⟨y,3,none⟩) (by simp only;omega) (.slice A4 q.atoms.length c4)
   replace HT:Hid (TM ((w3.setCell ⟨y,2,none⟩ (.slice A3 q.facts.length c3)).setCell ⟨y,3,none⟩ (.slice A4 q.atoms.length c4))):=Lib.hid ((HT.out.set0 (y:=y) (i:=2) (by omega) trivial _).set0 (y:=y) (i:=3) (by omega) trivial _)
   replace HB:=Lib.hid ((HB.out.setCell (p:=⟨y,2,none⟩) (by simp only;omega) (.slice A3 q.facts.length c3)).setCell (p:=⟨y,3,none⟩) (by simp only;omega) (.slice A4 q.atoms.length c4))
   have hzU2:((w3.setCell ⟨y,2,none⟩ (.slice A3 q.facts.length c3)).setCell ⟨y,3,none⟩ (.slice A4 q.atoms.length c4)).heap.size=w3.heap.size:=by simp
   clear o2 o3 hb2 qk0 rk0 lk0 qk1 rk1 lk1
   generalize ((w3.setCell ⟨y,2,none⟩ (.slice A3 q.facts.length c3)).setCell ⟨y,3,none⟩ (.slice A4 q.atoms.length c4))=U2 at *
   have H1:=Lib.hid (c_iChg s3 U2 HT.out hl3')
   (replace qk0:=k0.cell;replace rk0:=k0.frozen;replace lk0:=k0.lt;replace qk1:=k1.cell;replace rk1:=k1.frozen;replace lk1:=k1.lt)
   go_wp2_with fail
   refine H1.out.mono ?_
   rintro e w4 ⟨r4,rfl,oI,hq⟩
   have hz4:=hq.size
   replace HB:=Lib.hid (bgo HB.out hq)
   replace HA:=Lib.hid (HA.out.below hq)
   replace HA2:=Lib.hid (HA2.out.below hq)
   replace k0:=k0.next hq
   replace k1:=k1.next hq
   clear H1 hq qk0 rk0 lk0 qk1 rk1 lk1 HT
   cases hp3:rdIs s3 with
   | none=>
    rw[hp3] at oI
    obtain ⟨G1,g1,rfl,-⟩:=oI.reads
    simp only[Option.getD_none,Option.isSome_none]
    have hNo:Hid (P=none):=Lib.hid (by rw[hP.out,hp3,three_n3])
    (replace qk0:=k0.cell;replace rk0:=k0.frozen;replace lk0:=k0.lt;replace qk1:=k1.cell;replace rk1:=k1.frozen;replace lk1:=k1.lt)
    have lk1':=k1.lt
    go_wp2_with fail
    have z0:=(((((k0.far (p:=⟨y,4,none⟩) (by simp only;omega) (.slice G1 0 g1)).set_ 0 (.slice none 0 0)).set_ 1 (.slice none 0 0)).set_ 2 (.slice none 0 0)).set_ 3 (.slice none 0 0)).set_ 4 (.slice none 0 0)
    refine bodyPost_ret (v:=.tuple #[.agg #[.slice none 0 0,.slice none 0 0,.slice none 0 0,.slice none 0 0,.slice none 0 0],.bool false]) (by simp[results,Tryd.results12,go_sem,z0.cell]) rfl ⟨_,by rw[hNo.out];rfl,?_,?_⟩
    ·rw[hNo.out];exact CtrI.zero (by have:=z0.lt;simp at this ⊢;omega) (Nat.le_refl _)
    ·have hb:=HB.out;exact bel
   | some cs=>
    rw[hp3] at oI hP
    clear hp3
    replace oI:IntsO w4 U2.heap.size r4 cs:=oI
    obtain ⟨A5,c5,rfl,-⟩:=oI.reads
    simp only[Option.isSome_some]
    (replace qk0:=k0.cell;replace rk0:=k0.frozen;replace lk0:=k0.lt;replace qk1:=k1.cell;replace rk1:=k1.frozen;replace lk1:=k1.lt)
    obtain ⟨b3,hb3⟩:∃ z,z=U2.heap.size:=⟨_,rfl⟩
    rw[←hb3] at hz4 oI hzU2
    have HU3:=Lib.hid oI.und
    have hzw4:(w4.setCell ⟨y,4,none⟩ (.slice A5 cs.length c5)).heap.size=w4.heap.size:=by simp
    have HC:Hid (CtrI (w4.setCell ⟨y,4,none⟩ (.slice A5 cs.length c5)) (y+1) w4.heap.size (.agg #[.slice A1 p.facts.length c1,.slice A2 p.atoms.length c2,.slice A3 q.facts.length c3,.slice A4 q.atoms.length c4,.slice A5 cs.length c5]) ⟨p,q,cs⟩):=
     Lib.hid (ctr_intro (x:=⟨p,q,cs⟩) (HA.out.setb (p:=⟨y,4,none⟩) (by simp only;omega) _) HU.out (HA2.out.setb (p:=⟨y,4,none⟩) (by simp only;omega) _) HU2.out (oI.setb (a:=⟨y,4,none⟩) (by simp only;omega) _) HU3.out (by omega) (by omega))
    have HV:=Lib.hid HC.out.reads
    have hPv:Hid (P=if (⟨p,q,cs⟩:Ctr).valid then some ⟨p,q,cs⟩ else none):=Lib.hid hP.out
    obtain ⟨K,hK⟩:∃ K:Ctr,K=⟨p,q,cs⟩:=⟨_,rfl⟩
    rw[←hK] at HC HV hPv
    have CV:=Lib.hid fun W (h:W=w4.setCell ⟨y,4,none⟩ (.slice A5 cs.length c5))=>c_impl_ContractValid _ K W (h▸HV.out)
    clear oI hb3 hK
    have k1':=k1.set_ 4 (.slice A5 cs.length c5)
    have k0':=k0.far (p:=⟨y,4,none⟩) (by simp only;omega) (.slice A5 cs.length c5)
    have HB4:=Lib.hid (HB.out.setCell (p:=⟨y,4,none⟩) (by simp only;omega) (.slice A5 cs.length c5))
    go_wp2_with fail
    refine (CV.out _ rfl).mono ?_
    rintro e w5 ⟨rfl,hq⟩
    replace k0:=k0'.next hq
    replace k1:=k1'.next hq
    replace HB:=Lib.hid (bgo HB4.out hq)
    replace HC:=Lib.hid (HC.out.below hq)
    have hz5:=hq.size
    clear hq k0' k1' HB4 CV HV qk0 rk0 lk0 qk1 rk1 lk1
    (replace qk0:=k0.cell;replace rk0:=k0.frozen;replace lk0:=k0.lt;replace qk1:=k1.cell;replace rk1:=k1.frozen;replace lk1:=k1.lt)
    cases hv:K.valid
    case false=>
     have hNo:Hid (P=none):=Lib.hid (by rw[hPv.out,hv];rfl)
     go_wp2_with fail
     have z0:=((((k0.set_ 0 (.slice none 0 0)).set_ 1 (.slice none 0 0)).set_ 2 (.slice none 0 0)).set_ 3 (.slice none 0 0)).set_ 4 (.slice none 0 0)
     refine bodyPost_ret (v:=.tuple #[.agg #[.slice none 0 0,.slice none 0 0,.slice none 0 0,.slice none 0 0,.slice none 0 0],.bool false]) (by simp[results,Tryd.results12,go_sem,z0.cell]) rfl ⟨_,by rw[hNo.out];rfl,?_,?_⟩
     ·rw[hNo.out];exact CtrI.zero (by have:=z0.lt;simp at this ⊢;omega) (Nat.le_refl _)
     ·have hb:=HB.out;exact bel
    have HYes:Hid (P=some K):=Lib.hid (by rw[hPv.out,hv];rfl)
    go_wp2_with fail
    have z0:=((((k0.set_ 0 (.slice A1 p.facts.length c1)).set_ 1 (.slice A2 p.atoms.length c2)).set_ 2 (.slice A3 q.facts.length c3)).set_ 3 (.slice A4 q.atoms.length c4)).set_ 4 (.slice A5 cs.length c5)
    refine bodyPost_ret (v:=.tuple #[.agg #[.slice A1 p.facts.length c1,.slice A2 p.atoms.length c2,.slice A3 q.facts.length c3,.slice A4 q.atoms.length c4,.slice A5 cs.length c5],.bool true]) (by simp[results,Tryd.results12,go_sem,z0.cell]) rfl ⟨_,by rw[HYes.out];rfl,?_,?_⟩
    ·rw[HYes.out]
     have c0:=HC.out.setT k0 (by decide) (by decide) (by decide) 0 (.slice A1 p.facts.length c1)
     have k0:=k0.set_ 0 (.slice A1 p.facts.length c1)
     replace c0:=c0.setT k0 (by decide) (by decide) (by decide) 1 (.slice A2 p.atoms.length c2)
     replace k0:=k0.set_ 1 (.slice A2 p.atoms.length c2)
     replace c0:=c0.setT k0 (by decide) (by decide) (by decide) 2 (.slice A3 q.facts.length c3)
     replace k0:=k0.set_ 2 (.slice A3 q.facts.length c3)
     replace c0:=c0.setT k0 (by decide) (by decide) (by decide) 3 (.slice A4 q.atoms.length c4)
     replace k0:=k0.set_ 3 (.slice A4 q.atoms.length c4)
     replace c0:=c0.setT k0 (by decide) (by decide) (by decide) 4 (.slice A5 cs.length c5)
     exact (c0.lower (by omega)).up
    ·have hb:=HB.out;exact bel
end Go.Proofs.YtjaohekkmlkinaaDoor
