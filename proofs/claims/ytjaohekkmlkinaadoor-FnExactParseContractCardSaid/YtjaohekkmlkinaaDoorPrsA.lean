/- Contracts: assertions from texts (impl). -/
import Derived.Test.YtjaohekkmlkinaaDoorPrsX
import Derived.Test.YtjaohekkmlkinaaDoorPrsP
import Derived.Test.YtjaohekkmlkinaaDoorFmtC
import Derived.Test.YtjaohekkmlkinaaDoorJoin
import Derived.Test.YtjaohekkmlkinaaDoorRow
set_option linter.unusedSimpArgs false
set_option linter.unusedVariables false
namespace Go.Proofs.YtjaohekkmlkinaaDoor
open Go Go.RowKit Go.Proofs
theorem split_len {sep:Bs} (hs:sep≠[]):∀ (k:Nat) (l:Bs),Lib.count l sep=k→(Lib.splitK sep 0 k l).length=k+1
 | 0,l,_=>rfl
 | k+1,l,h=>by
  rcases Lib.index_spec l sep with ⟨h1,_⟩|⟨i,h1,h2,h3,_⟩
  ·rw[Lib.count_miss h1] at h;cases h
  ·have hc:=Lib.count_hit hs h1
   unfold Lib.splitK
   rw[h1,if_neg (by simp),Int.toNat_natCast,List.length_cons,split_len hs k _ (by omega)]
theorem strs_map (bs:List ByteArray):bs.map Value.string=encS (bs.map (·.data.toList)):=by
 unfold encS
 rw[List.map_map]
 exact List.map_congr_left fun b _=>by simp[sv]
theorem TM.nb {w w':World} {B:Nat} (h:TM w) (hb:Below B w w') (hg:1<B):TM w':=⟨h.1.nb hb (by omega),Nat.lt_of_lt_of_le h.2.1 hb.size,by
 obtain ⟨m,hm⟩:=h.2.2
 exact ⟨m,by rw[show w'.cell? ⟨1,0,none⟩=w.cell? ⟨1,0,none⟩ by simp only[World.cell?,hb.block 1 hg]];exact hm⟩⟩
theorem c_Split (l sep:Bs) (w:World) (h:TM w) (hl:l.length≤1049000) (hs:1≤sep.length):Calls Tryd.prog 71 #[sv l,sv sep] w fun e w'=>∃ r,e=.returned r∧StrsO w' w.heap.size r (Lib.split l sep)∧Below w.heap.size w w':=by
 obtain ⟨m,hm⟩:=h.2.2
 refine (shg_strings_Split ⟨l.toArray⟩ ⟨sep.toArray⟩ m w (by simp only[ByteArray.size,List.size_toArray];omega) hm (by simp only[ByteArray.size,List.size_toArray];omega)).mono ?_
 rintro e w' ⟨rfl,rfl⟩
 have hne:sep≠[]:=by rintro rfl;simp at hs
 have hcl:Lib.countB ⟨l.toArray⟩ ⟨sep.toArray⟩=Lib.count l sep:=by simp[Lib.countB]
 have hle:=Lib.count_le l sep
 have hd:(Lib.splitB ⟨sep.toArray⟩ 0 (Lib.count l sep) ⟨l.toArray⟩).map (·.data.toList)=Lib.split l sep:=by rw[Lib.splitB_data];rfl
 have hlen:(Lib.split l sep).length=Lib.count l sep+1:=split_len hne _ _ rfl
 refine ⟨_,rfl,?_,(Below.refl _ _).alloc (Nat.le_refl _) _⟩
 rw[hcl,strs_map,hd,←hlen]
 have hen:(encS (Lib.split l sep)).length=(Lib.split l sep).length:=by simp[encS]
 refine ⟨own_of_blk (Blk.newE rfl) (Nat.le_refl _) (by rw[hen];omega) ?_ (Nat.le_refl _) ?_ (by simp[encS]),?_⟩
 ·intro j hj
  simp
 ·rw[hlen];exact Nat.le_trans (show Lib.count l sep+1≤1049600 by omega) (by decide)
 ·unfold Lim;omega
theorem parts_len {l sep x:Bs} (h:x∈Lib.split l sep):x.length≤l.length:=by
 have:∀ k s,x∈Lib.splitK sep 0 k s→x.length≤s.length:=by
  intro k
  induction k with
  | zero=>intro s h;simp[Lib.splitK] at h;subst h;exact Nat.le_refl _
  | succ k ih=>
   intro s h
   unfold Lib.splitK at h
   split at h
   ·simp at h;subst h;exact Nat.le_refl _
   ·rcases List.mem_cons.1 h with rfl|h
    ·simp;omega
    ·have:=ih _ h
     simp at this;omega
 exact this _ _ h
theorem both_n1 (x:Option (List Atm)):both none x=none:=rfl
theorem both_n2 (x:Option (List Fct)):both x none=none:=by cases x<;>rfl
theorem rdF_no {ps:List Bs} {k:Nat} {acc:List Fct} (hk:k<ps.length) (h:pFactI ps[k]=none∨acc.length=12):rdF (ps.drop k) acc=none:=by
 rw[List.drop_eq_getElem_cons hk,rdF]
 rcases h with h|h
 ·rw[h]
 ·cases pFactI ps[k] with
  | none=>rfl
  | some f=>exact if_pos h
theorem rdF_yes {ps:List Bs} {k:Nat} {acc:List Fct} {f:Fct} (hk:k<ps.length) (h:pFactI ps[k]=some f) (hl:acc.length≠12):rdF (ps.drop k) acc=rdF (ps.drop (k+1)) (acc++[f]):=by
 conv=>lhs;rw[List.drop_eq_getElem_cons hk,rdF,h]
 exact if_neg hl
theorem rdX_no {ps:List Bs} {k:Nat} {acc:List Atm} (hk:k<ps.length) (h:pAtomI ps[k]=none∨acc.length=6):rdX (ps.drop k) acc=none:=by
 rw[List.drop_eq_getElem_cons hk,rdX]
 rcases h with h|h
 ·rw[h]
 ·cases pAtomI ps[k] with
  | none=>rfl
  | some f=>exact if_pos h
theorem rdX_yes {ps:List Bs} {k:Nat} {acc:List Atm} {f:Atm} (hk:k<ps.length) (h:pAtomI ps[k]=some f) (hl:acc.length≠6):rdX (ps.drop k) acc=rdX (ps.drop (k+1)) (acc++[f]):=by
 conv=>lhs;rw[List.drop_eq_getElem_cons hk,rdX,h]
 exact if_neg hl
set_option maxRecDepth 100000 in
set_option maxHeartbeats 12800000 in
theorem c_iPA (l:Bs) (w:World) (h:TM w) (hl:l.length≤1049000):Calls Tryd.prog 36 #[sv l] w fun e w'=>∃ r,e=.returned (.tuple #[r,.bool (pAI l).isSome])∧AsnO w' w.heap.size r ((pAI l).getD ⟨[],[]⟩)∧Below w.heap.size w w':=by
 have HT:=Lib.hid h
 have hw1:=h.2.1
 have HT0:=HT
 obtain ⟨P,hP⟩:∃ P,P=pAI l:=⟨_,rfl⟩
 rw[←hP]
 unfold pAI at hP
 have hcl:=cut_len l [32,124,32]
 obtain ⟨LF,hLF⟩:∃ a,a=(Lib.cut l [32,124,32]).1:=⟨_,rfl⟩
 obtain ⟨LX,hLX⟩:∃ b,b=(Lib.cut l [32,124,32]).2.1:=⟨_,rfl⟩
 obtain ⟨fd,hfd⟩:∃ fd,fd=(Lib.cut l [32,124,32]).2.2:=⟨_,rfl⟩
 have CC:=Lib.hid fun W (h:TM W)=>c_Cut l [32,124,32] W h (by omega)
 rw[←hLF,←hLX,←hfd] at CC hP
 rw[←hLF,←hLX] at hcl
 have hlF:LF.length≤1049000:=by omega
 have hlX:LX.length≤1049000:=by omega
 clear hLF hLX hfd h hl hcl
 replace hP:=Lib.hid hP
 go_enter Tryd.func36,Tryd.ntmps36
 go_upto_region 1 with fail
 refine bx1 (w:=w) (F:=Code.wp _ _ _ _) ?_
 rintro W k0 hB -
 replace HT:=Lib.hid (HT.out.below hB)
 go_wp2_with fail
 refine (CC.out _ HT.out).mono ?_
 rintro e w1 ⟨rfl,hq⟩
 have HB:=Lib.hid (bgo hB hq)
 replace HT:=Lib.hid (HT.out.below hq)
 replace k0:=k0.next hq
 clear CC hB hq
 cases fd
 ·(replace qk0:=k0.cell;replace rk0:=k0.frozen;replace lk0:=k0.lt)
  go_wp2_with fail
  have z0:=(k0.set_ 0 (.slice none 0 0)).set_ 1 (.slice none 0 0)
  refine bodyPost_ret (v:=.tuple #[.agg #[.slice none 0 0,.slice none 0 0],.bool false]) (by simp[results,Tryd.results36,go_sem,z0.cell]) rfl ⟨_,by rw[hP.out];rfl,?_,?_⟩
  ·rw[hP.out];exact ⟨_,_,rfl,FactsO.nil _ _,AtomsO.nil _ _⟩
  ·exact (HB.out.setCell (p:=⟨w.heap.size,0,none⟩) (by simp only;omega) _).setCell (p:=⟨w.heap.size,1,none⟩) (by simp only;omega) _
 replace hP:Hid (P=both (rdFs LF) (rdXs LX)):=Lib.hid (by have:=hP.out;simpa using this)
 have lk0:=k0.lt
 go_upto_region 5 with fail
 have k1:=Blk.new w1 31 #[.slice none 0 0,.slice none 0 0]
 have hbx:=bbox (Below.refl _ w1) (.cells #[.slice none 0 0,.slice none 0 0] 31)
 replace k0:=k0.next hbx
 replace HT:=Lib.hid (HT.out.below hbx)
 replace HB:=Lib.hid (bgo HB.out hbx)
 obtain ⟨y,hy⟩:∃ y,y=w1.heap.size:=⟨_,rfl⟩
 have hyw:w.heap.size<y:=by rw[hy];exact lk0
 have hyV:y+1≤(w1.alloc (.cells #[.slice none 0 0,.slice none 0 0] 31)).heap.size:=by rw[hy];simp
 clear hbx
 generalize (w1.alloc (.cells #[.slice none 0 0,.slice none 0 0] _))=V at *
 rw[←hy] at k1 ⊢
 clear hy lk0
 by_cases hT:LF=[116,114,117,101]
 case' pos=>
  subst hT
  go_upto_region 14 with fail
  have HP2:Hid (rdFs [116,114,117,101]=some []):=Lib.hid rfl
  obtain ⟨U,rfl⟩:∃ z,z=V:=⟨_,rfl⟩
  obtain ⟨A,hA⟩:∃ A:Option Addr,A=none:=⟨_,rfl⟩
  obtain ⟨c,hc⟩:∃ c:Nat,c=0:=⟨_,rfl⟩
  obtain ⟨fs,hfs⟩:∃ fs:List Fct,fs=[]:=⟨_,rfl⟩
  have HO:=Lib.hid (FactsO.nil U (y+1))
  rw[show (#[Value.slice none 0 0,.slice none 0 0]:Array Value)=#[.slice A fs.length c,.slice none 0 0] by rw[hA,hc,hfs];rfl] at k1
  have e0:(Value.slice none 0 0)=.slice A fs.length c:=by rw[hA,hc,hfs];rfl
  rw[e0] at HO
  rw[←hfs] at HO HP2
  clear e0 hA hc hfs
 case' neg=>
  have hTb:(LF == [116,114,117,101])=false:=by rw[bytes_eq];simpa using hT
  have hne:Hid (rdFs LF=rdF (Lib.split LF [32,38,32]) []):=Lib.hid (by unfold rdFs;exact if_neg hT)
  have hpl:Hid (∀ x∈Lib.split LF [32,38,32],x.length≤1049000):=Lib.hid fun x hx=>Nat.le_trans (parts_len hx) hlF
  have CS:=Lib.hid (c_Split LF [32,38,32] V HT.out hlF (by decide))
  obtain ⟨ps,hps⟩:∃ ps,ps=Lib.split LF [32,38,32]:=⟨_,rfl⟩
  rw[←hps] at CS hne hpl
  clear hps hT
  go_wp2_with fail
  refine CS.out.mono ?_
  rintro e w2 ⟨r2,rfl,o2,hq⟩
  obtain ⟨AS,cS,rfl,v2⟩:=o2.reads
  have hzq:=hq.size
  have hpsl:ps.length≤1049600:=v2.le
  have HS:=Lib.hid (StrsV.mono (lo':=y+1) v2 hyV (Nat.le_refl _))
  have HB2:=Lib.hid (bgo HB.out hq)
  have HT2:=Lib.hid (HT.out.below hq)
  replace k0:=k0.next hq
  replace k1:=k1.next hq
  clear CS o2 v2 hq
  obtain ⟨B,hBe⟩:∃ B,B=w2.heap.size:=⟨_,rfl⟩
  rw[←hBe] at HS
  have hBy:y+1≤B:=by omega
  go_wp2_with fail
  go_loopw [30] (fun i wr=>∃ (k:Nat) (fs:List Fct) (A:Option Addr) (c:Nat),i=.int .i64 k∧k≤ps.length∧fs.length≤12∧FactsO wr B (.slice A fs.length c) fs∧StrsV wr (y+1) B AS ps∧Hid (rdF (ps.drop k) fs=rdF ps [])∧
   Blk wr y 31 #[.slice A fs.length c,.slice none 0 0]∧Blk wr w.heap.size 31 #[.slice none 0 0,.slice none 0 0]∧Hid (Below w.heap.size w wr)∧B≤wr.heap.size) (fun i _=>ps.length - (intOf i).toNat)
  case atStart=>exact ⟨0,[],none,0,rfl,Nat.zero_le _,by simp,FactsO.nil _ _,HS.out,Lib.hid (by rw[List.drop_zero]),k1,k0,HB2,by omega⟩
  case' round=>
   clear HS k0 k1 HB2
   obtain ⟨k,fs,A,c,rfl,hk,hfl,hO,hS,hR,k1,k0,HB2,hBr⟩:=hrel
   have HO:=Lib.hid hO
   have HS:=Lib.hid hS
   have HT2:=Lib.hid ((HT0.out).nb HB2.out hw1)
   clear hO hS
   (replace qk0:=k0.cell;replace rk0:=k0.frozen;replace lk0:=k0.lt;replace qk1:=k1.cell;replace rk1:=k1.frozen;replace lk1:=k1.lt)
   by_cases hlt:k<ps.length
   case pos=>
    have hki:(k:Int)<(ps.length:Int):=by omega
    obtain ⟨bw,ow,rfl,hc⟩:=HS.out.at hlt
    have HN:=Lib.hid (fun h=>rdF_no (acc:=fs) hlt h)
    have HY:=Lib.hid (fun f h=>rdF_yes (acc:=fs) (f:=f) hlt h)
    have hxl:=hpl.out _ (List.getElem_mem hlt)
    obtain ⟨x,hxx⟩:∃ x,x=ps[k]:=⟨_,rfl⟩
    rw[←hxx] at hc HN HY hxl
    clear hxx
    have CP:=Lib.hid (c_iPF x wr HT2.out (by omega))
    cases hp:pFactI x with
    | none=>
     have HNo:Hid (P=none):=Lib.hid (by rw[hP.out,show rdFs LF=none by rw[hne.out,←hR.out];exact HN.out (.inl hp),both_n1])
     rw[hp] at CP
     go_wp2_with fail
     refine CP.out.mono ?_
     rintro e w3 ⟨rfl,hq⟩
     have HB3:=Lib.hid (bgo HB2.out hq)
     replace k0:=k0.next hq
     clear hq CP qk0 rk0 lk0 hc
     (replace qk0:=k0.cell;replace rk0:=k0.frozen;replace lk0:=k0.lt)
     simp only[Option.getD_none,Option.isSome_none,fct0,Fct.val]
     go_wp2_with fail
     have z0:=((k0.set_ 0 (.slice none 0 0)).set_ 1 (.slice none 0 0)).alloc (.cells #[.bool false,.int .i64 0,.int .i64 0] tF)
     refine bodyPost_ret (v:=.tuple #[.agg #[.slice none 0 0,.slice none 0 0],.bool false]) (by simp[results,Tryd.results36,go_sem,z0.cell]) rfl ⟨_,by rw[HNo.out];rfl,?_,?_⟩
     ·rw[HNo.out];exact ⟨_,_,rfl,FactsO.nil _ _,AtomsO.nil _ _⟩
     ·have hb:=HB3.out;have:=k0.lt;exact bel
    | some f=>
     obtain ⟨fe,fa,fb⟩:=f
     rw[hp] at CP
     have hpS:=Lib.hid hp
     clear hp
     go_wp2_with fail
     refine CP.out.mono ?_
     rintro e w3 ⟨rfl,hq⟩
     have HB3:=Lib.hid (bgo HB2.out hq)
     have HO3:=Lib.hid (HO.out.below hq)
     have HS3:=Lib.hid (HS.out.below hq)
     replace k0:=k0.next hq
     replace k1:=k1.next hq
     have hB3:=Nat.le_trans hBr hq.size
     clear hq CP qk0 rk0 lk0 qk1 rk1 lk1 hc
     (replace qk0:=k0.cell;replace rk0:=k0.frozen;replace lk0:=k0.lt;replace qk1:=k1.cell;replace rk1:=k1.frozen;replace lk1:=k1.lt)
     simp only[Option.getD_some,Option.isSome_some,Fct.val]
     by_cases h12:fs.length=12
     ·have h12b:((fs.length:Int) == 12)=true:=by simp;omega
      have HNo:Hid (P=none):=Lib.hid (by rw[hP.out,show rdFs LF=none by rw[hne.out,←hR.out];exact HN.out (.inr h12),both_n1])
      go_wp2_with fail
      have z0:=((k0.set_ 0 (.slice none 0 0)).set_ 1 (.slice none 0 0)).alloc (.cells #[.bool fe,.int .i64 fa,.int .i64 fb] tF)
      refine bodyPost_ret (v:=.tuple #[.agg #[.slice none 0 0,.slice none 0 0],.bool false]) (by simp[results,Tryd.results36,go_sem,z0.cell]) rfl ⟨_,by rw[HNo.out];rfl,?_,?_⟩
      ·rw[HNo.out];exact ⟨_,_,rfl,FactsO.nil _ _,AtomsO.nil _ _⟩
      ·have hb:=HB3.out;have:=k0.lt;exact bel
     ·have h12b:((fs.length:Int) == 12)=false:=by simp;omega
      go_wp2_with (at_builtin;refine appFL rfl _ _ rfl (base:=B) (xs:=fs) rfl (HO3.out.below bel) rfl (FactsV.one (f:=⟨fe,fa,fb⟩) (Blk.newE (by simp))) (by simp;omega) (by simp;omega) ?_;intro A' c' w4 of4 hg4 hB4;have z0:=Blk.grownO (g:=w.heap.size) (hg:=hg4) blks (FactsO.below (w:=w3) HO3.out bel).1 (by decide);have z1b:=Blk.grownO (g:=y) (hg:=hg4) blks (FactsO.below (w:=w3) HO3.out bel).1 (by decide);have z1c:=z1b.cell;have z1f:=z1b.frozen;have hB34:Below B w3 w4:=(((Below.refl _ w3).alloc hB3 _).alloc (by simp;omega) _).trans hB4;have hl4:=z1b.lt;have hz4:=hB4.size;clear hg4 hB4)
      have hz5:=hB34.size
      go_round
      case rel=>exact ⟨k+1,fs++[⟨fe,fa,fb⟩],A',c',by go_num,by omega,by simp;omega,of4.setT z1b (by decide) 0 _,Rd.setb (Rd.keepB HS3.out hB34 (Nat.le_refl _)) (.inl (Nat.lt_succ_self y)) _,Lib.hid ((HY.out _ hpS.out h12).symm.trans hR.out),(by have h:=z1b.set_ 0 (.slice A' (fs.length+1) c');simpa using h),z0.far (by simp only[];omega) _,Lib.hid ((HB3.out.trans (hB34.mono (by omega))).setCell (by simp only;omega) _),by simp;omega⟩
      case measure=>simp[intOf];omega
   case' neg=>
    have hki:¬(k:Int)<(ps.length:Int):=by omega
    have HP2:Hid (rdFs LF=some fs):=Lib.hid (by rw[hne.out,←hR.out,List.drop_eq_nil_of_le (by omega)];rfl)
    replace HO:=Lib.hid (HO.out.lower hBy)
    go_upto_region 14 with fail
    replace HB:=HB2
    replace HT:=HT2
    skip
    clear hne hpl HS HB2 HT2 hR hki hk hfl hBr hlt hBe hBy hTb
    obtain ⟨U,rfl⟩:∃ z,z=wr:=⟨_,rfl⟩
 all_goals
  obtain ⟨AF,rfl⟩:∃ z,z=A:=⟨_,rfl⟩
  obtain ⟨cF,rfl⟩:∃ z,z=c:=⟨_,rfl⟩
  obtain ⟨fl,rfl⟩:∃ z,z=fs:=⟨_,rfl⟩
  have HPF:=HP2
  have HF:=HO
  clear HP2 HO
  have lk1:=k1.lt
  have hyV:y+1≤U.heap.size:=lk1
  (replace qk0:=k0.cell;replace rk0:=k0.frozen;replace lk0:=k0.lt;replace qk1:=k1.cell;replace rk1:=k1.frozen;replace lk1:=k1.lt)
  by_cases hT:LX=[101,109,112]
  case' pos=>
   subst hT
   go_upto_region 23 with fail
   have HP2:Hid (rdXs [101,109,112]=some []):=Lib.hid rfl
   obtain ⟨Y,rfl⟩:∃ z,z=U:=⟨_,rfl⟩
   obtain ⟨A,hA⟩:∃ A:Option Addr,A=none:=⟨_,rfl⟩
   obtain ⟨c,hc⟩:∃ c:Nat,c=0:=⟨_,rfl⟩
   obtain ⟨fs,hfs⟩:∃ fs:List Atm,fs=[]:=⟨_,rfl⟩
   have HO:=Lib.hid (AtomsO.nil Y (y+1))
   rw[show (#[Value.slice AF fl.length cF,.slice none 0 0]:Array Value)=#[.slice AF fl.length cF,.slice A fs.length c] by rw[hA,hc,hfs];rfl] at k1
   have e0:(Value.slice none 0 0)=.slice A fs.length c:=by rw[hA,hc,hfs];rfl
   rw[e0] at HO
   rw[←hfs] at HO HP2
   clear e0 hA hc hfs
  case' neg=>
   have hTb:(LX == [101,109,112])=false:=by rw[bytes_eq];simpa using hT
   have hne:Hid (rdXs LX=rdX (Lib.split LX [32,42,32]) []):=Lib.hid (by unfold rdXs;exact if_neg hT)
   have hpl:Hid (∀ x∈Lib.split LX [32,42,32],x.length≤1049000):=Lib.hid fun x hx=>Nat.le_trans (parts_len hx) hlX
   have CS:=Lib.hid (c_Split LX [32,42,32] U HT.out hlX (by decide))
   obtain ⟨ps,hps⟩:∃ ps,ps=Lib.split LX [32,42,32]:=⟨_,rfl⟩
   rw[←hps] at CS hne hpl
   clear hps hT
   go_wp2_with fail
   refine CS.out.mono ?_
   rintro e w2 ⟨r2,rfl,o2,hq⟩
   obtain ⟨AS,cS,rfl,v2⟩:=o2.reads
   have hzq:=hq.size
   have hpsl:ps.length≤1049600:=v2.le
   have HS:=Lib.hid (StrsV.mono (lo':=y+1) v2 hyV (Nat.le_refl _))
   have HB2:=Lib.hid (bgo HB.out hq)
   have HT2:=Lib.hid (HT.out.below hq)
   have HFl:=Lib.hid (HF.out.below hq)
   replace k0:=k0.next hq
   replace k1:=k1.next hq
   clear CS o2 v2 hq qk0 rk0 lk0 qk1 rk1 lk1
   obtain ⟨B,hBe⟩:∃ B,B=w2.heap.size:=⟨_,rfl⟩
   rw[←hBe] at HS
   have hBy:y+1≤B:=by omega
   go_wp2_with fail
   go_loopw [60] (fun i wr=>∃ (k:Nat) (fs:List Atm) (A:Option Addr) (c:Nat),i=.int .i64 k∧k≤ps.length∧fs.length≤6∧AtomsO wr B (.slice A fs.length c) fs∧StrsV wr (y+1) B AS ps∧Hid (rdX (ps.drop k) fs=rdX ps [])∧
    Blk wr y 31 #[.slice AF fl.length cF,.slice A fs.length c]∧Blk wr w.heap.size 31 #[.slice none 0 0,.slice none 0 0]∧Hid (Below w.heap.size w wr)∧B≤wr.heap.size∧FactsO wr (y+1) (.slice AF fl.length cF) fl) (fun i _=>ps.length - (intOf i).toNat)
   case atStart=>exact ⟨0,[],none,0,rfl,Nat.zero_le _,by simp,AtomsO.nil _ _,HS.out,Lib.hid (by rw[List.drop_zero]),k1,k0,HB2,by omega,HFl.out⟩
   case' round=>
    clear HS k0 k1 HB2 HFl
    obtain ⟨k,fs,A,c,rfl,hk,hfl,hO,hS,hR,k1,k0,HB2,hBr,hFl⟩:=hrel
    have HO:=Lib.hid hO
    have HS:=Lib.hid hS
    have HFl:=Lib.hid hFl
    have HT2:=Lib.hid ((HT0.out).nb HB2.out hw1)
    clear hO hS hFl
    (replace qk0:=k0.cell;replace rk0:=k0.frozen;replace lk0:=k0.lt;replace qk1:=k1.cell;replace rk1:=k1.frozen;replace lk1:=k1.lt)
    by_cases hlt:k<ps.length
    case pos=>
     have hki:(k:Int)<(ps.length:Int):=by omega
     obtain ⟨bw,ow,rfl,hc⟩:=HS.out.at hlt
     have HN:=Lib.hid (fun h=>rdX_no (acc:=fs) hlt h)
     have HY:=Lib.hid (fun f h=>rdX_yes (acc:=fs) (f:=f) hlt h)
     have hxl:=hpl.out _ (List.getElem_mem hlt)
     obtain ⟨x,hxx⟩:∃ x,x=ps[k]:=⟨_,rfl⟩
     rw[←hxx] at hc HN HY hxl
     clear hxx
     have CP:=Lib.hid (c_iPX x wr HT2.out (by omega))
     cases hp:pAtomI x with
     | none=>
      have HNo:Hid (P=none):=Lib.hid (by rw[hP.out,HPF.out,show rdXs LX=none by rw[hne.out,←hR.out];exact HN.out (.inl hp),both_n2])
      rw[hp] at CP
      go_wp2_with fail
      refine CP.out.mono ?_
      rintro e w3 ⟨rfl,hq⟩
      have HB3:=Lib.hid (bgo HB2.out hq)
      replace k0:=k0.next hq
      clear hq CP qk0 rk0 lk0 hc
      (replace qk0:=k0.cell;replace rk0:=k0.frozen;replace lk0:=k0.lt)
      simp only[Option.getD_none,Option.isSome_none,Atm.val]
      go_wp2_with fail
      have z0:=((k0.set_ 0 (.slice none 0 0)).set_ 1 (.slice none 0 0)).alloc (.cells #[.int .i64 0,.int .i64 0,.int .i64 0] tA)
      refine bodyPost_ret (v:=.tuple #[.agg #[.slice none 0 0,.slice none 0 0],.bool false]) (by simp[results,Tryd.results36,go_sem,z0.cell]) rfl ⟨_,by rw[HNo.out];rfl,?_,?_⟩
      ·rw[HNo.out];exact ⟨_,_,rfl,FactsO.nil _ _,AtomsO.nil _ _⟩
      ·have hb:=HB3.out;have:=k0.lt;exact bel
     | some f=>
      obtain ⟨fe,fa,fb⟩:=f
      rw[hp] at CP
      have hpS:=Lib.hid hp
      clear hp
      go_wp2_with fail
      refine CP.out.mono ?_
      rintro e w3 ⟨rfl,hq⟩
      have HB3:=Lib.hid (bgo HB2.out hq)
      have HO3:=Lib.hid (HO.out.below hq)
      have HS3:=Lib.hid (HS.out.below hq)
      have HFl3:=Lib.hid (HFl.out.below hq)
      replace k0:=k0.next hq
      replace k1:=k1.next hq
      have hB3:=Nat.le_trans hBr hq.size
      clear hq CP qk0 rk0 lk0 qk1 rk1 lk1 hc
      (replace qk0:=k0.cell;replace rk0:=k0.frozen;replace lk0:=k0.lt;replace qk1:=k1.cell;replace rk1:=k1.frozen;replace lk1:=k1.lt)
      simp only[Option.getD_some,Option.isSome_some,Atm.val]
      by_cases h12:fs.length=6
      ·have h12b:((fs.length:Int) == 6)=true:=by simp;omega
       have HNo:Hid (P=none):=Lib.hid (by rw[hP.out,HPF.out,show rdXs LX=none by rw[hne.out,←hR.out];exact HN.out (.inr h12),both_n2])
       go_wp2_with fail
       have z0:=((k0.set_ 0 (.slice none 0 0)).set_ 1 (.slice none 0 0)).alloc (.cells #[.int .i64 fe,.int .i64 fa,.int .i64 fb] tA)
       refine bodyPost_ret (v:=.tuple #[.agg #[.slice none 0 0,.slice none 0 0],.bool false]) (by simp[results,Tryd.results36,go_sem,z0.cell]) rfl ⟨_,by rw[HNo.out];rfl,?_,?_⟩
       ·rw[HNo.out];exact ⟨_,_,rfl,FactsO.nil _ _,AtomsO.nil _ _⟩
       ·have hb:=HB3.out;have:=k0.lt;exact bel
      ·have h12b:((fs.length:Int) == 6)=false:=by simp;omega
       go_wp2_with (at_builtin;refine appAL rfl _ _ rfl (base:=B) (xs:=fs) rfl (HO3.out.below bel) rfl (AtomsV.one (f:=⟨fe,fa,fb⟩) (Blk.newE (by simp))) (by simp;omega) (by simp;omega) ?_;intro A' c' w4 of4 hg4 hB4;have z0:=Blk.grownO (g:=w.heap.size) (hg:=hg4) blks (AtomsO.below (w:=w3) HO3.out bel).1 (by decide);have z1b:=Blk.grownO (g:=y) (hg:=hg4) blks (AtomsO.below (w:=w3) HO3.out bel).1 (by decide);have z1c:=z1b.cell;have z1f:=z1b.frozen;have hB34:Below B w3 w4:=(((Below.refl _ w3).alloc hB3 _).alloc (by simp;omega) _).trans hB4;have hl4:=z1b.lt;have ox4:=FactsO.grownA (FactsO.below (w:=w3) HFl3.out bel) (AtomsO.below (w:=w3) HO3.out bel) hg4;have hz4:=hB4.size;clear hg4 hB4)
       have hz5:=hB34.size
       go_round
       case rel=>exact ⟨k+1,fs++[⟨fe,fa,fb⟩],A',c',by go_num,by omega,by simp;omega,of4.setT z1b (by decide) 1 _,Rd.setb (Rd.keepB HS3.out hB34 (Nat.le_refl _)) (.inl (Nat.lt_succ_self y)) _,Lib.hid ((HY.out _ hpS.out h12).symm.trans hR.out),(by have h:=z1b.set_ 1 (.slice A' (fs.length+1) c');simpa using h),z0.far (by simp only[];omega) _,Lib.hid ((HB3.out.trans (hB34.mono (by omega))).setCell (by simp only;omega) _),by simp;omega,ox4.setT z1b (by decide) 1 _⟩
       case measure=>simp[intOf];omega
    case' neg=>
     have hki:¬(k:Int)<(ps.length:Int):=by omega
     have HP2:Hid (rdXs LX=some fs):=Lib.hid (by rw[hne.out,←hR.out,List.drop_eq_nil_of_le (by omega)];rfl)
     replace HO:=Lib.hid (HO.out.lower hBy)
     go_upto_region 23 with fail
     replace HB:=HB2
     replace HT:=HT2
     replace HF:=HFl
     clear hne hpl HS HB2 HT2 hR hki hk hfl hBr hlt hBe hBy hTb
     obtain ⟨Y,rfl⟩:∃ z,z=wr:=⟨_,rfl⟩
  all_goals
   have HYes:Hid (P=some ⟨fl,fs⟩):=Lib.hid (by rw[hP.out,HPF.out,HP2.out];rfl)
   (replace qk0:=k0.cell;replace rk0:=k0.frozen;replace lk0:=k0.lt;replace qk1:=k1.cell;replace rk1:=k1.frozen;replace lk1:=k1.lt)
   go_wp2_with fail
   have z0:=(k0.set_ 0 (.slice AF fl.length cF)).set_ 1 (.slice A fs.length c)
   refine bodyPost_ret (v:=.tuple #[.agg #[.slice AF fl.length cF,.slice A fs.length c],.bool true]) (by simp[results,Tryd.results36,go_sem,z0.cell]) rfl ⟨_,by rw[HYes.out];rfl,?_,?_⟩
   ·rw[HYes.out]
    exact ⟨_,_,rfl,((HF.out.setT k0 (by decide) 0 _).setT (k0.set_ _ _) (by decide) 1 _).lower (by omega),((HO.out.setT k0 (by decide) 0 _).setT (k0.set_ _ _) (by decide) 1 _).lower (by omega)⟩
   ·have hb:=HB.out;have:=k0.lt;exact bel
end Go.Proofs.YtjaohekkmlkinaaDoor
