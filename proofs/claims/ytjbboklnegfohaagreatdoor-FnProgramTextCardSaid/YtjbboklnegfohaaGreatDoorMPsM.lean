/- Contracts: the text of an assertion (impl). -/
import Derived.Test.YtjbboklnegfohaaGreatDoorMFmtP
import Derived.Test.YtjbboklnegfohaaGreatDoorMRange
import Derived.Lib.Split
import Derived.Test.YtjbboklnegfohaaGreatDoorVal
import Derived.Test.YtjbboklnegfohaaGreatDoorDraw
import Derived.MapKept
import Derived.LaidEql
import Derived.Carry
set_option linter.unusedSimpArgs false
set_option linter.unusedVariables false
namespace Go.Proofs.YtjbboklnegfohaaGreatDoor
open Go Go.RowKit Go.Proofs
theorem strs_cap {w:World} {b n d:Nat} {S:Option Addr} {xs:List Bs} (h:StrsO w b (.slice S n d) xs):n≤d:=by
 obtain ⟨⟨h1,h2⟩,-⟩:=h
 rcases h2 with ⟨hv,hn⟩|⟨k,cap,cur,hv,hk,hh,r⟩
 ·injection hv with e1 e2 e3;omega
 ·injection hv with e1 e2 e3;subst e3;omega
theorem StrsO.reads2 {w:World} {b n d:Nat} {S:Option Addr} {xs:List Bs} (h:StrsO w b (.slice S n d) xs):StrsV w b w.heap.size S xs:=by
 obtain ⟨A,c,e,h2⟩:=h.reads
 injection e with e1 e2 e3
 subst e1
 exact h2
theorem c_Join {lo hi:Nat} (A:Option Addr) (c:Nat) (xs:List Bs) (sep:Bs) (w:World) (h:StrsV w lo hi A xs) (h0:0<xs.length) (hcap:xs.length≤c) (hl:(Lib.join xs sep).length≤1000000):Calls Tryz.prog 52 #[.slice A xs.length c,sv sep] w fun e w'=>e=.returned (sv (Lib.join xs sep))∧Below w.heap.size w w':=by
 obtain ⟨b,o,rfl,-⟩:=h.at h0
 have hb:b<w.heap.size:=by
  obtain ⟨b',o',e,hc⟩:=h.at h0
  injection e with e
  injection e with e1 e2
  subst e1
  exact block_lt_of_cell hc
 have em:(xs.map fun l=>(⟨l.toArray⟩:ByteArray)).map (·.data.toList)=xs:=by
  rw[List.map_map,show ((fun x:ByteArray=>x.data.toList)∘fun l:Bs=>(⟨l.toArray⟩:ByteArray))=id from funext fun l=>by simp,List.map_id]
 have:=shf_strings_Join b o c (xs.map fun l=>(⟨l.toArray⟩:ByteArray)) ⟨sep.toArray⟩ w (fun j x hx=>by
  rw[List.getElem?_map,Option.map_eq_some_iff] at hx
  obtain ⟨l,hl,rfl⟩:=hx
  obtain ⟨hj,rfl⟩:=List.getElem?_eq_some_iff.1 hl
  obtain ⟨b',o',e,hc⟩:=h.at hj
  injection e with e
  injection e with e1 e2
  subst e1 e2
  exact hc) hb (by rw[List.length_map];have:=h.le;unfold Lim at this;omega) (by rw[List.length_map];exact hcap) (by rw[em];simp only[List.toList_toArray];omega)
 rw[em,List.length_map] at this
 simpa only[List.toList_toArray] using this
set_option maxRecDepth 100000 in
set_option maxHeartbeats 6400000 in
theorem c_iFAs {lo hi:Nat} (v:Value) (a:Asn) (w:World) (hT:TN w) (h:AsnV w lo hi v a) (hv:a.valid=true):Calls Tryz.prog 29 #[v] w fun e w'=>e=.returned (sv (textA a))∧Below w.heap.size w w':=by
 have HX:=Lib.hid h
 obtain ⟨A1,c1,A2,c2,rfl,g1,g2⟩:=h
 have H1:=Lib.hid g1
 have H2:=Lib.hid g2
 clear g1 g2
 have hva:=hv
 simp only[Asn.valid,factsValid,Bool.and_eq_true,decide_eq_true_eq,List.all_eq_true] at hva
 have hf:a.facts.length≤12:=hva.1.1
 have hx:a.atoms.length≤6:=hva.2.1
 have HV:Hid (∀ k (h:k<a.facts.length),a.facts[k].valid=true):=Lib.hid fun k h=>hva.1.2 _ (List.getElem_mem h)
 have HE:=Lib.hid (textA_join a)
 clear hva
 go_enter Tryz.func29,Tryz.ntmps29
 go_upto_region 1 with fail
 refine bx1 (w:=w) (F:=Code.wp _ _ _ _) ?_
 rintro W k0 hB -
 (replace qk0:=k0.cell;replace rk0:=k0.frozen;replace lk0:=k0.lt)
 go_wp2_with fail
 refine (c_impl_AssertionValid _ a _ (HX.out.below hB)).mono ?_
 rintro e w1 ⟨rfl,hq⟩
 rw[hv]
 replace k0:=k0.next hq
 have HB:=Lib.hid (bgo hB hq)
 have HT:=Lib.hid (hT.below HB.out)
 replace H1:=Lib.hid (H1.out.below HB.out)
 replace H2:=Lib.hid (H2.out.below HB.out)
 clear hq hB hv hT HX
 (replace qk0:=k0.cell;replace rk0:=k0.frozen;replace lk0:=k0.lt)
 obtain ⟨FT,hFT⟩:∃ z,z=factsT a.facts:=⟨_,rfl⟩
 have hlFT:(FT).length≤200:=by rw[hFT];exact Nat.le_trans (factsT_len _) (by omega)
 replace HE:Hid (textA a=FT++[32,124,32]++atomsT a.atoms):=Lib.hid (by rw[HE.out,hFT])
 by_cases h0:a.facts.length=0
 case' pos=>
  have h0':¬0<a.facts.length:=by omega
  have hX:[116,114,117,101]=FT:=by rw[hFT];unfold factsT;rw[if_pos h0]
  go_upto_region 12 with fail
  rw[show (ByteArray.mk #[116,114,117,101])=⟨(FT).toArray⟩ from by rw[←hX]]
  obtain ⟨w4,rfl⟩:∃ z,z=w1:=⟨_,rfl⟩
  clear hFT h0 h0' hX
 case' neg=>
  have h0':0<a.facts.length:=by omega
  have hX:Lib.join (a.facts.map fmtF) [32,38,32]=FT:=by rw[hFT];rw[factsT_join (by omega)]
  go_wp2_with fail
  go_loopw [5,21] (fun p i wr=>∃ (k:Nat) (S:Option Addr) (d:Nat),k≤a.facts.length∧i=.int .i64 k∧p=.slice S k d∧StrsO wr w1.heap.size (.slice S k d) ((a.facts.take k).map fmtF)∧Hid (Below w1.heap.size w1 wr)) (fun _ i _=>a.facts.length - (intOf i).toNat)
  case atStart=>exact ⟨0,none,0,by omega,rfl,rfl,⟨World.ownsRow_nil _ _ _ _,by simp[Lim]⟩,Lib.hid (Below.refl _ _)⟩
  case' round=>
   obtain ⟨k,S,d,hk,rfl,rfl,hO,HB2⟩:=hrel
   have HO:=Lib.hid hO
   have hz:=HB2.out.size
   have HTr:=Lib.hid (HT.out.below HB2.out)
   clear hO
   by_cases hlt:k<a.facts.length
   case pos=>
    have hki:(k:Int)<(a.facts.length:Int):=by omega
    obtain ⟨b,o,rfl,q0,q1,q2⟩:=(H1.out.below HB2.out).at hlt
    have hsn:=Lib.hid (map_snoc fmtF hlt)
    go_wp2_with (go_at_call 28;refine (c_iFF a.facts[k] _ (HTr.out.below bel) (HV.out k hlt)).mono ?_)
    rintro e w5 ⟨rfl,hq⟩
    have HB5:=Lib.hid (bgo HB2.out (bgo (bbox (Below.refl _ wr) (.cells #[.bool a.facts[k].eq,.int .i64 a.facts[k].a,.int .i64 a.facts[k].b] tF)) hq))
    have HO5:=Lib.hid (HO.out.below (bgo (bbox (Below.refl _ wr) (.cells #[.bool a.facts[k].eq,.int .i64 a.facts[k].a,.int .i64 a.facts[k].b] tF)) hq))
    have hz5:=HB5.out.size
    clear hq q0 q1 q2
    go_wp2_with (at_builtin;refine appS rfl _ _ rfl (v:=.slice S k d) rfl (StrsO.below (w:=w5) HO5.out bel) w5.heap.size (fmtF a.facts[k]) rfl (by simp[sv]) (by simp;omega) (by simp;omega) ?_;intro g2 d2 w2 o2 hg2 hB6)
    rw[List.length_map,List.length_take,Nat.min_eq_left hk] at o2
    try rw[List.length_map,List.length_take,Nat.min_eq_left hk]
    have HB7:=Lib.hid ((HB5.out.alloc hz5 _).trans hB6)
    go_round
    case rel=>exact ⟨k+1,some ⟨g2,0,none⟩,d2,by omega,by go_num,by simp,by rw[hsn.out];exact o2,HB7⟩
    case measure=>simp[intOf];omega
   case' neg=>
    have hkn:k=a.facts.length:=by omega
    have hki:¬(k:Int)<(a.facts.length:Int):=by omega
    subst hkn
    rw[List.take_length] at HO
    have HJ:=Lib.hid (c_Join (lo:=w1.heap.size) (hi:=wr.heap.size) S d (a.facts.map fmtF) [32,38,32] wr)
    rw[List.length_map,hX] at HJ
    have hcap:a.facts.length≤d:=strs_cap HO.out
    have HTr2:=HTr
    clear HTr
    go_wp2_with fail
    refine (HJ.out HO.out.reads2 (by omega) (by omega) (by omega)).mono ?_
    rintro e w4 ⟨rfl,hq⟩
    replace HT:=Lib.hid (HTr2.out.below hq)
    replace H1:=Lib.hid (H1.out.below (bgo HB2.out hq))
    replace H2:=Lib.hid (H2.out.below (bgo HB2.out hq))
    replace HB:=Lib.hid (bgo HB.out (bgo HB2.out hq))
    replace k0:=k0.next (bgo HB2.out hq)
    clear hFT h0 h0' hX HO hz HB2 HTr2 HJ hq hki
    go_upto_region 12 with fail
 all_goals
  clear qk0 rk0 lk0
  (replace qk0:=k0.cell;replace rk0:=k0.frozen;replace lk0:=k0.lt)
  obtain ⟨AT,hAT⟩:∃ z,z=atomsT a.atoms:=⟨_,rfl⟩
  have hlAT:(AT).length≤200:=by rw[hAT];exact atomsT_len hx
  replace HE:Hid (textA a=FT++[32,124,32]++AT):=Lib.hid (by rw[HE.out,hAT])
  by_cases h0:a.atoms.length=0
  case' pos=>
   have h0':¬0<a.atoms.length:=by omega
   have hX:[101,109,112]=AT:=by rw[hAT];unfold atomsT;rw[if_pos h0]
   go_upto_region 20 with fail
   rw[show (ByteArray.mk #[101,109,112])=⟨(AT).toArray⟩ from by rw[←hX]]
   obtain ⟨w7,rfl⟩:∃ z,z=w4:=⟨_,rfl⟩
   clear hAT h0 h0' hX
  case' neg=>
   have h0':0<a.atoms.length:=by omega
   have hX:Lib.join (a.atoms.map fmtX) [32,42,32]=AT:=by rw[hAT];unfold atomsT;rw[if_neg h0]
   go_wp2_with fail
   go_loopw [8,40] (fun p i wr=>∃ (k:Nat) (S:Option Addr) (d:Nat),k≤a.atoms.length∧i=.int .i64 k∧p=.slice S k d∧StrsO wr w4.heap.size (.slice S k d) ((a.atoms.take k).map fmtX)∧Hid (Below w4.heap.size w4 wr)) (fun _ i _=>a.atoms.length - (intOf i).toNat)
   case atStart=>exact ⟨0,none,0,by omega,rfl,rfl,⟨World.ownsRow_nil _ _ _ _,by simp[Lim]⟩,Lib.hid (Below.refl _ _)⟩
   case' round=>
    obtain ⟨k,S,d,hk,rfl,rfl,hO,HB2⟩:=hrel
    have HO:=Lib.hid hO
    have hz:=HB2.out.size
    have HTr:=Lib.hid (HT.out.below HB2.out)
    clear hO
    by_cases hlt:k<a.atoms.length
    case pos=>
     have hki:(k:Int)<(a.atoms.length:Int):=by omega
     obtain ⟨b,o,rfl,q0,q1,q2⟩:=(H2.out.below HB2.out).at hlt
     have hsn:=Lib.hid (map_snoc fmtX hlt)
     go_wp2_with (go_at_call 53;refine (c_iFA a.atoms[k].kind a.atoms[k].a a.atoms[k].b _ (HTr.out.below bel)).mono ?_)
     rintro e w5 ⟨rfl,hq⟩
     have HB5:=Lib.hid (bgo HB2.out (bgo (bbox (Below.refl _ wr) (.cells #[.int .i64 a.atoms[k].kind,.int .i64 a.atoms[k].a,.int .i64 a.atoms[k].b] tA)) hq))
     have HO5:=Lib.hid (HO.out.below (bgo (bbox (Below.refl _ wr) (.cells #[.int .i64 a.atoms[k].kind,.int .i64 a.atoms[k].a,.int .i64 a.atoms[k].b] tA)) hq))
     have hz5:=HB5.out.size
     clear hq q0 q1 q2
     go_wp2_with (at_builtin;refine appS rfl _ _ rfl (v:=.slice S k d) rfl (StrsO.below (w:=w5) HO5.out bel) w5.heap.size (fmtX a.atoms[k]) rfl (by simp[sv,fmtX]) (by simp;omega) (by simp;omega) ?_;intro g2 d2 w2 o2 hg2 hB6)
     rw[List.length_map,List.length_take,Nat.min_eq_left hk] at o2
     try rw[List.length_map,List.length_take,Nat.min_eq_left hk]
     have HB7:=Lib.hid ((HB5.out.alloc hz5 _).trans hB6)
     go_round
     case rel=>exact ⟨k+1,some ⟨g2,0,none⟩,d2,by omega,by go_num,by simp,by rw[hsn.out];exact o2,HB7⟩
     case measure=>simp[intOf];omega
    case' neg=>
     have hkn:k=a.atoms.length:=by omega
     have hki:¬(k:Int)<(a.atoms.length:Int):=by omega
     subst hkn
     rw[List.take_length] at HO
     have HJ:=Lib.hid (c_Join (lo:=w4.heap.size) (hi:=wr.heap.size) S d (a.atoms.map fmtX) [32,42,32] wr)
     rw[List.length_map,hX] at HJ
     have hcap:a.atoms.length≤d:=strs_cap HO.out
     have HTr2:=HTr
     clear HTr
     go_wp2_with fail
     refine (HJ.out HO.out.reads2 (by omega) (by omega) (by omega)).mono ?_
     rintro e w7 ⟨rfl,hq⟩
     replace HT:=Lib.hid (HTr2.out.below hq)
     replace H1:=Lib.hid (H1.out.below (bgo HB2.out hq))
     replace H2:=Lib.hid (H2.out.below (bgo HB2.out hq))
     replace HB:=Lib.hid (bgo HB.out (bgo HB2.out hq))
     replace k0:=k0.next (bgo HB2.out hq)
     clear hAT h0 h0' hX HO hz HB2 HTr2 HJ hq hki
     go_upto_region 20 with fail
  all_goals
   have hs1:=addS (P:=Tryz.prog) FT [32,124,32] (by simp;omega) w7
   have hs2:=addS (P:=Tryz.prog) (FT++[32,124,32]) AT (by simp;omega) w7
   go_wp2_with fail
   go_ret
   exact ⟨ret_str (by rw[HE.out];simp),HB.out⟩
end Go.Proofs.YtjbboklnegfohaaGreatDoor

/- Contracts: terms, facts and atoms from texts (impl). -/
namespace Go.Proofs.YtjbboklnegfohaaGreatDoor
open Go Go.RowKit Go.Proofs
def TM (w:World):Prop:=TN w∧1<w.heap.size∧∃ m:Int,w.cell? ⟨1,0,none⟩=some (.int .i64 m)
theorem TM.below {w w':World} (h:TM w) (hb:Below w.heap.size w w'):TM w':=⟨h.1.below hb,Nat.lt_of_lt_of_le h.2.1 hb.size,by
 obtain ⟨m,hm⟩:=h.2.2
 exact ⟨m,by rw[(bcell hb).1 1 0 h.2.1];exact hm⟩⟩
def pFactI (l:Bs):Option Fct:=if (Lib.cut l [61]).2.2 then if Lib.hasSuffix (Lib.cut l [61]).1 [33] then pairF false (Lib.trimSuffix (Lib.cut l [61]).1 [33]) (Lib.cut l [61]).2.1 else pairF true (Lib.cut l [61]).1 (Lib.cut l [61]).2.1 else none
def atmI (kd:Int) (c:Bs×Bs×Bool):Option Atm:=pairX kd (parseT c.1) (parseT c.2.1)
def pAtomI (l:Bs):Option Atm:=if (Lib.cut l [62]).2.2 then atmI 1 (Lib.cut l [62]) else if (Lib.cut l [126]).2.2 then atmI 2 (Lib.cut l [126]) else none
set_option maxRecDepth 100000 in
set_option maxHeartbeats 1600000 in
theorem c_iPT (l:Bs) (w:World) (h:TN w):Calls Tryz.prog 92 #[sv l] w fun e w'=>e=.returned (.tuple #[.int .i64 ((parseT l).getD 0:Nat),.bool (parseT l).isSome])∧w=w':=by
 have HT:=Lib.hid h
 clear h
 go_enter Tryz.func92,Tryz.ntmps92
 go_wp2_with fail
 go_loopw [4] (fun i wr=>∃ k:Nat,k≤9∧i=.int .i64 k∧Hid (∀ j:Nat,j<k→tnameL j≠l)∧wr=w) (fun i _=>9 - (intOf i).toNat)
 case atStart=>exact ⟨0,by omega,rfl,Lib.hid fun j h=>by omega,rfl⟩
 case round=>
  obtain ⟨k,hk,rfl,HN,rfl⟩:=hrel
  by_cases h9:k<9
  ·have hki:(k:Int)≤8:=by omega
   have hc:=HT.out.2 k h9
   by_cases he:tnameL k=l
   ·have hb:(tnameL k == l)=true:=by rw[bytes_eq];simpa using he
    have HR:=Lib.hid (parseT_some h9 he HN.out)
    clear he
    go_wp2_with fail
    refine bodyPost_ret (v:=.tuple #[.int .i64 k,.bool true]) (by simp[results,Tryz.results92,go_sem]) rfl ⟨by rw[HR.out];rfl,rfl⟩
   ·have hb:(tnameL k == l)=false:=by rw[bytes_eq];simpa using he
    have HM:Hid (∀ j:Nat,j<k+1→tnameL j≠l):=Lib.hid fun j hj=>by
     by_cases e:j=k
     ·subst e;exact he
     ·exact HN.out j (by omega)
    clear he
    go_wp2_with fail
    go_round
    case rel=>exact ⟨k+1,by omega,by go_num,HM,by first|rfl|trivial⟩
    case measure=>simp[intOf];omega
  ·obtain rfl:k=9:=by omega
   have HR:=Lib.hid (parseT_none HN.out)
   go_wp2_with fail
   refine bodyPost_ret (v:=.tuple #[.int .i64 0,.bool false]) (by simp[results,Tryz.results92,go_sem]) rfl ⟨by rw[HR.out];rfl,rfl⟩
theorem c_Cut (l sep:Bs) (w:World) (h:TM w) (hl:l.length≤2000000):Calls Tryz.prog 54 #[sv l,sv sep] w fun e w'=>e=.returned (.tuple #[sv (Lib.cut l sep).1,sv (Lib.cut l sep).2.1,.bool (Lib.cut l sep).2.2])∧Below w.heap.size w w':=by
 obtain ⟨m,hm⟩:=h.2.2
 refine (shg_strings_Cut ⟨l.toArray⟩ ⟨sep.toArray⟩ m w (by simp only[ByteArray.size,List.size_toArray];omega) hm).mono ?_
 rintro e w' ⟨rfl,n,rfl⟩
 exact ⟨by simp,below_drewN (Below.refl _ _) n⟩
end Go.Proofs.YtjbboklnegfohaaGreatDoor

/- Plain: both readers of an assertion accept exactly the texts of the valid assertions. -/
namespace Go.Proofs.YtjbboklnegfohaaGreatDoor
open Go Go.RowKit Go.Proofs
theorem join_cc (x y:Bs) (r:List Bs) (sep:Bs):Lib.join (x :: y :: r) sep=x++sep++Lib.join (y :: r) sep:=by
 rw[Lib.join_cons,Lib.join_cons];simp[Lib.joinTail,List.append_assoc]
theorem take_idx {s sep:Bs} {i:Nat} (h:Lib.index s sep=i):s=s.take i++sep++s.drop (i+sep.length):=by
 rcases Lib.index_spec s sep with ⟨h1,_⟩|⟨j,h1,h2,h3,_⟩
 ·omega
 ·have:j=i:=by omega
  subst this
  unfold Lib.occAt at h3
  obtain ⟨t,ht⟩:=List.isPrefixOf_iff_prefix.1 h3
  conv=>lhs;rw[←List.take_append_drop j s,←ht]
  rw[List.append_assoc,←List.drop_drop,←ht]
  simp
theorem splitK_ne (sep:Bs):∀ k s,Lib.splitK sep 0 k s≠[]
 | 0,s=>by simp[Lib.splitK]
 | k+1,s=>by unfold Lib.splitK;split<;>simp
theorem splitK_join (sep:Bs):∀ k s,Lib.join (Lib.splitK sep 0 k s) sep=s
 | 0,s=>Lib.join_one _ _
 | k+1,s=>by
  unfold Lib.splitK
  split
  ·exact Lib.join_one _ _
  ·rename_i h
   have ih:=splitK_join sep k (s.drop ((Lib.index s sep).toNat+sep.length))
   obtain ⟨y,r,e⟩:=List.exists_cons_of_ne_nil (splitK_ne sep k (s.drop ((Lib.index s sep).toNat+sep.length)))
   rw[e] at ih ⊢
   rw[join_cc,ih]
   have hg:=Lib.index_ge s sep
   have hn:Lib.index s sep≠-1:=fun e=>h (beq_iff_eq.2 e)
   exact (take_idx (i:=(Lib.index s sep).toNat) (by omega)).symm
structure Free (sep p:Bs):Prop where
 mid:∀ r j,j<p.length→Lib.occAt (p++sep++r) sep j=false
 last:∀ j,j≤p.length→Lib.occAt p sep j=false
theorem free1 {c:UInt8} {p:Bs} (h:c∉p):Free [c] p:=by
 refine ⟨fun r j hj=>?_,fun j _=>?_⟩
 ·cases e:Lib.occAt (p++[c]++r) [c] j
  ·rfl
  ·have:=Lib.occAt_head rfl e
   rw[List.append_assoc,List.getElem?_append_left hj] at this
   exact absurd (List.mem_of_getElem? this) h
 ·cases e:Lib.occAt p [c] j
  ·rfl
  ·exact absurd (List.mem_of_getElem? (Lib.occAt_head rfl e)) h
theorem occ_second {s:Bs} {a c d:UInt8} {j:Nat} (h:Lib.occAt s [a,c,d] j=true):s[j+1]? = some c:=by
 unfold Lib.occAt at h
 obtain ⟨r,hr⟩:=List.isPrefixOf_iff_prefix.1 h
 have:(s.drop j)[1]? = some c:=by rw[←hr];rfl
 simpa using this
theorem free3 {c:UInt8} {p:Bs} (h:c∉p) (hc:c≠32):Free [32,c,32] p:=by
 refine ⟨fun r j hj=>?_,fun j _=>?_⟩
 ·cases e:Lib.occAt (p++[32,c,32]++r) [32,c,32] j
  ·rfl
  ·have:=occ_second e
   rw[List.append_assoc] at this
   rcases Nat.lt_or_ge (j+1) p.length with h1|h1
   ·rw[List.getElem?_append_left h1] at this
    exact absurd (List.mem_of_getElem? this) h
   ·rw[List.getElem?_append_right h1,show j+1 - p.length=0 by omega] at this
    simp at this
    exact absurd this.symm hc
 ·cases e:Lib.occAt p [32,c,32] j
  ·rfl
  ·exact absurd (List.mem_of_getElem? (occ_second e)) h
theorem Free.index {sep p:Bs} (h:Free sep p) (r:Bs):Lib.index (p++sep++r) sep=p.length:=by
 refine Lib.index_first (by simp) ?_ fun j hj=>h.mid r j hj
 unfold Lib.occAt
 rw[List.append_assoc,List.drop_left]
 exact List.isPrefixOf_iff_prefix.2 ⟨r,rfl⟩
theorem Free.miss {sep p:Bs} (h:Free sep p):Lib.index p sep = -1:=Lib.index_none h.last
theorem drop_sep (p sep r:Bs):(p++sep++r).drop (p.length+sep.length)=r:=by
 rw[←List.length_append,List.drop_left]
theorem take_sep (p sep r:Bs):(p++sep++r).take p.length=p:=by
 rw[List.append_assoc,List.take_left]
theorem Free.cut {sep p:Bs} (h:Free sep p) (r:Bs):Lib.cut (p++sep++r) sep=(p,r,true):=by
 unfold Lib.cut
 rw[h.index r,if_pos (by omega),Int.toNat_natCast,drop_sep,take_sep]
theorem cut_true {l sep:Bs} (h:(Lib.cut l sep).2.2=true):l=(Lib.cut l sep).1++sep++(Lib.cut l sep).2.1:=by
 unfold Lib.cut at h ⊢
 split at h
 ·rename_i hi
  rw[if_pos hi]
  exact take_idx (i:=(Lib.index l sep).toNat) (by omega)
 ·cases h
theorem count_join {sep:Bs} (hs:sep≠[]):∀ (ps:List Bs) (p:Bs),(∀ q∈p :: ps,Free sep q)→Lib.count (Lib.join (p :: ps) sep) sep=ps.length
 | [],p,h=>by rw[Lib.join_one];exact Lib.count_miss (h p (by simp)).miss
 | q :: r,p,h=>by
  rw[join_cc,Lib.count_hit hs ((h p (by simp)).index _),drop_sep,count_join hs r q fun x hx=>h x (by simp at hx ⊢;exact .inr hx)]
  simp;omega
theorem splitK_of {sep:Bs}:∀ (ps:List Bs) (p:Bs) (k:Nat),ps.length≤k→(∀ q∈p :: ps,Free sep q)→Lib.splitK sep 0 k (Lib.join (p :: ps) sep)=p :: ps
 | [],p,k,_,h=>by
  rw[Lib.join_one]
  cases k with
  | zero=>rfl
  | succ k=>unfold Lib.splitK;rw[if_pos (beq_iff_eq.2 (h p (by simp)).miss)]
 | q :: r,p,0,hk,h=>by simp at hk
 | q :: r,p,k+1,hk,h=>by
  have hi:=(h p (by simp)).index (Lib.join (q :: r) sep)
  rw[join_cc]
  unfold Lib.splitK
  rw[hi,if_neg (by simp),Int.toNat_natCast,drop_sep,Nat.add_zero,take_sep,splitK_of r q k (by simpa using hk) fun x hx=>h x (by simp at hx ⊢;exact .inr hx)]
theorem split_join {sep:Bs} (hs:sep≠[]) {p:Bs} {ps:List Bs} (h:∀ q∈p :: ps,Free sep q):Lib.split (Lib.join (p :: ps) sep) sep=p :: ps:=by
 unfold Lib.split
 rw[count_join hs ps p h]
 exact splitK_of ps p _ (Nat.le_refl _) h
/-! the names -/
theorem tname_free (t:Int):(32:UInt8)∉tnameL t∧(33:UInt8)∉tnameL t∧(38:UInt8)∉tnameL t∧(42:UInt8)∉tnameL t∧(61:UInt8)∉tnameL t∧(124:UInt8)∉tnameL t∧(10:UInt8)∉tnameL t:=by
 unfold tnameL
 repeat' split
 all_goals decide
theorem fmtF_free (f:Fct):(32:UInt8)∉fmtF f∧(38:UInt8)∉fmtF f∧(124:UInt8)∉fmtF f∧(10:UInt8)∉fmtF f:=by
 have h1:=tname_free f.a
 have h2:=tname_free f.b
 unfold fmtF
 split<;>simp[h1,h2]
theorem fmtF_in (f:Fct):(61:UInt8)∈fmtF f:=by
 unfold fmtF
 split<;>simp
theorem fmtX_free (x:Atm):(32:UInt8)∉fmtX x∧(42:UInt8)∉fmtX x∧(10:UInt8)∉fmtX x:=by
 have h1:=tname_free x.a
 have h2:=tname_free x.b
 unfold fmtX signX
 split<;>simp[h1,h2]
theorem fmtX_in (x:Atm):(62:UInt8)∈fmtX x∨(126:UInt8)∈fmtX x:=by
 unfold fmtX signX
 split<;>simp
theorem pairF_back {eq:Bool} {a b:Bs} {f:Fct} (h:pairF eq a b=some f):f.eq=eq∧tnameL f.a=a∧tnameL f.b=b:=by
 unfold pairF pairP at h
 split at h
 ·rename_i x y hx hy
  injection h with h
  subst h
  exact ⟨rfl,(parseT_lt hx).2,(parseT_lt hy).2⟩
 ·cases h
theorem pairX_back {kd:Int} {a b:Bs} {x:Atm} (hk:kd=1∨kd=2) (h:pairX kd (parseT a) (parseT b)=some x):x.kind=kd∧tnameL x.a=a∧tnameL x.b=b∧x.valid=true:=by
 unfold pairX at h
 split at h
 ·rename_i m n hm hn
  injection h with h
  subst h
  have h1:=parseT_lt hm
  have h2:=parseT_lt hn
  refine ⟨rfl,h1.2,h2.2,?_⟩
  simp only[Atm.valid,Bool.and_eq_true,decide_eq_true_eq]
  exact ⟨⟨hk,isTermB_iff.2 (by omega)⟩,isTermB_iff.2 (by omega)⟩
 ·cases h
theorem suffix_back {a:Bs} {c:UInt8} (h:Lib.hasSuffix a [c]=true):a=Lib.trimSuffix a [c]++[c]:=by
 have h':=h
 unfold Lib.hasSuffix at h
 obtain ⟨t,ht⟩:=List.isSuffixOf_iff_suffix.1 h
 unfold Lib.trimSuffix
 rw[if_pos h',←ht]
 simp
theorem pFactI_back {l:Bs} {f:Fct} (h:pFactI l=some f):fmtF f=l∧f.valid=true:=by
 unfold pFactI at h
 split at h
 ·rename_i hc
  have e:=cut_true hc
  split at h
  ·rename_i hs
   have e2:=suffix_back hs
   obtain ⟨h1,h2,h3⟩:=pairF_back h
   refine ⟨?_,pairF_valid h⟩
   unfold fmtF
   rw[h1,h2,h3,if_neg (by decide)]
   conv=>rhs;rw[e,e2]
   simp
  ·obtain ⟨h1,h2,h3⟩:=pairF_back h
   refine ⟨?_,pairF_valid h⟩
   unfold fmtF
   rw[h1,h2,h3,if_pos rfl]
   exact e.symm
 ·cases h
theorem pAtomI_back {l:Bs} {x:Atm} (h:pAtomI l=some x):fmtX x=l∧x.valid=true:=by
 unfold pAtomI atmI at h
 split at h
 ·rename_i hc
  have e:=cut_true hc
  obtain ⟨h1,h2,h3,h4⟩:=pairX_back (.inl rfl) h
  refine ⟨?_,h4⟩
  unfold fmtX signX
  rw[h1,h2,h3,if_neg (by decide)]
  exact e.symm
 ·split at h
  ·rename_i hc
   have e:=cut_true hc
   obtain ⟨h1,h2,h3,h4⟩:=pairX_back (.inr rfl) h
   refine ⟨?_,h4⟩
   unfold fmtX signX
   rw[h1,h2,h3,if_pos rfl]
   exact e.symm
  ·cases h
theorem fct_all (P:Fct→Prop) (h:∀ e:Bool,∀ a:Nat,a<9→∀ b:Nat,b<9→P ⟨e,(a:Int),(b:Int)⟩) {f:Fct} (hv:f.valid=true):P f:=by
 obtain ⟨e,a,b⟩:=f
 simp only[Fct.valid,Bool.and_eq_true] at hv
 have h1:=isTermB_iff.1 hv.1
 have h2:=isTermB_iff.1 hv.2
 obtain ⟨a',rfl⟩:∃ n:Nat,a=n:=⟨a.toNat,by omega⟩
 obtain ⟨b',rfl⟩:∃ n:Nat,b=n:=⟨b.toNat,by omega⟩
 exact h e a' (by omega) b' (by omega)
theorem atm_all (P:Atm→Prop) (h:∀ k:Nat,k<2→∀ a:Nat,a<9→∀ b:Nat,b<9→P ⟨((k+1:Nat):Int),(a:Int),(b:Int)⟩) {f:Atm} (hv:f.valid=true):P f:=by
 obtain ⟨e,a,b⟩:=f
 simp only[Atm.valid,Bool.and_eq_true,decide_eq_true_eq] at hv
 have h1:=isTermB_iff.1 hv.1.2
 have h2:=isTermB_iff.1 hv.2
 obtain ⟨a',rfl⟩:∃ n:Nat,a=n:=⟨a.toNat,by omega⟩
 obtain ⟨b',rfl⟩:∃ n:Nat,b=n:=⟨b.toNat,by omega⟩
 rcases hv.1.1 with rfl|rfl
 ·exact h 0 (by omega) a' (by omega) b' (by omega)
 ·exact h 1 (by omega) a' (by omega) b' (by omega)
set_option maxRecDepth 100000 in
theorem pFactI_fmt {f:Fct} (hv:f.valid=true):pFactI (fmtF f)=some f:=fct_all (fun f=>pFactI (fmtF f)=some f) (by decide) hv
set_option maxRecDepth 100000 in
theorem parseF_fmt {f:Fct} (hv:f.valid=true):parseF (fmtF f)=some f:=fct_all (fun f=>parseF (fmtF f)=some f) (by decide) hv
set_option maxRecDepth 100000 in
theorem pAtomI_fmt {f:Atm} (hv:f.valid=true):pAtomI (fmtX f)=some f:=atm_all (fun f=>pAtomI (fmtX f)=some f) (by decide) hv
set_option maxRecDepth 100000 in
theorem parseX_fmt {f:Atm} (hv:f.valid=true):parseX (fmtX f)=some f:=atm_all (fun f=>parseX (fmtX f)=some f) (by decide) hv
/-! the program's reader -/
def rdF:List Bs→List Fct→Option (List Fct)
 | [],acc=>some acc
 | x :: r,acc=>match pFactI x with
  | none=>none
  | some f=>if acc.length=12 then none else rdF r (acc++[f])
def rdX:List Bs→List Atm→Option (List Atm)
 | [],acc=>some acc
 | x :: r,acc=>match pAtomI x with
  | none=>none
  | some f=>if acc.length=6 then none else rdX r (acc++[f])
def rdFs (l:Bs):Option (List Fct):=if l=[116,114,117,101] then some [] else rdF (Lib.split l [32,38,32]) []
def rdXs (l:Bs):Option (List Atm):=if l=[101,109,112] then some [] else rdX (Lib.split l [32,42,32]) []
def both:Option (List Fct)→Option (List Atm)→Option Asn
 | some fs,some xs=>some ⟨fs,xs⟩
 | _,_=>none
def pAI (l:Bs):Option Asn:=if (Lib.cut l [32,124,32]).2.2 then both (rdFs (Lib.cut l [32,124,32]).1) (rdXs (Lib.cut l [32,124,32]).2.1) else none
theorem rdF_back:∀ {xs:List Bs} {acc fs:List Fct},rdF xs acc=some fs→∃ gs,fs=acc++gs∧xs=gs.map fmtF∧(∀ g∈gs,g.valid=true)∧(acc.length≤12→fs.length≤12)
 | [],acc,fs,h=>by
  rw[rdF] at h
  injection h with h
  subst h
  exact ⟨[],by simp,rfl,by simp,id⟩
 | x :: r,acc,fs,h=>by
  rw[rdF] at h
  cases hp:pFactI x with
  | none=>rw[hp] at h;cases h
  | some f=>
   rw[hp] at h
   simp only at h
   split at h
   ·cases h
   ·rename_i hl
    obtain ⟨gs,rfl,e2,h3,h4⟩:=rdF_back h
    obtain ⟨h5,h6⟩:=pFactI_back hp
    refine ⟨f :: gs,by simp,by rw[List.map_cons,←e2,h5],?_,fun ha=>h4 (by simp;omega)⟩
    intro g hg
    rcases List.mem_cons.1 hg with rfl|hg
    ·exact h6
    ·exact h3 g hg
theorem rdX_back:∀ {xs:List Bs} {acc fs:List Atm},rdX xs acc=some fs→∃ gs,fs=acc++gs∧xs=gs.map fmtX∧(∀ g∈gs,g.valid=true)∧(acc.length≤6→fs.length≤6)
 | [],acc,fs,h=>by
  rw[rdX] at h
  injection h with h
  subst h
  exact ⟨[],by simp,rfl,by simp,id⟩
 | x :: r,acc,fs,h=>by
  rw[rdX] at h
  cases hp:pAtomI x with
  | none=>rw[hp] at h;cases h
  | some f=>
   rw[hp] at h
   simp only at h
   split at h
   ·cases h
   ·rename_i hl
    obtain ⟨gs,rfl,e2,h3,h4⟩:=rdX_back h
    obtain ⟨h5,h6⟩:=pAtomI_back hp
    refine ⟨f :: gs,by simp,by rw[List.map_cons,←e2,h5],?_,fun ha=>h4 (by simp;omega)⟩
    intro g hg
    rcases List.mem_cons.1 hg with rfl|hg
    ·exact h6
    ·exact h3 g hg
theorem rdF_fmt:∀ {gs acc:List Fct},(∀ g∈gs,g.valid=true)→acc.length+gs.length≤12→rdF (gs.map fmtF) acc=some (acc++gs)
 | [],acc,_,_=>by simp[rdF]
 | g :: r,acc,h,hl=>by
  simp only[List.length_cons] at hl
  rw[List.map_cons,rdF,pFactI_fmt (h g (by simp))]
  simp only
  rw[if_neg (by omega),rdF_fmt (fun x hx=>h x (by simp[hx])) (by simp;omega)]
  simp
theorem rdX_fmt:∀ {gs acc:List Atm},(∀ g∈gs,g.valid=true)→acc.length+gs.length≤6→rdX (gs.map fmtX) acc=some (acc++gs)
 | [],acc,_,_=>by simp[rdX]
 | g :: r,acc,h,hl=>by
  simp only[List.length_cons] at hl
  rw[List.map_cons,rdX,pAtomI_fmt (h g (by simp))]
  simp only
  rw[if_neg (by omega),rdX_fmt (fun x hx=>h x (by simp[hx])) (by simp;omega)]
  simp
theorem asn_valid_iff {a:Asn}:a.valid=true↔(a.facts.length≤12∧∀ g∈a.facts,g.valid=true)∧a.atoms.length≤6∧∀ g∈a.atoms,g.valid=true:=by
 simp only[Asn.valid,factsValid,Bool.and_eq_true,decide_eq_true_eq,List.all_eq_true]
theorem rdFs_iff {l:Bs} {fs:List Fct}:rdFs l=some fs↔(fs.length≤12∧∀ g∈fs,g.valid=true)∧factsT fs=l:=by
 constructor
 ·intro h
  unfold rdFs at h
  split at h
  ·rename_i hl
   injection h with h
   subst h
   exact ⟨by simp,by rw[hl];rfl⟩
  ·obtain ⟨gs,rfl,e2,h3,h4⟩:=rdF_back h
   refine ⟨⟨h4 (by simp),h3⟩,?_⟩
   have hj:=splitK_join [32,38,32] (Lib.count l [32,38,32]) l
   have hn:=splitK_ne [32,38,32] (Lib.count l [32,38,32]) l
   change Lib.split l [32,38,32]≠[] at hn
   change Lib.join (Lib.split l [32,38,32]) [32,38,32]=l at hj
   rw[e2] at hj hn
   rw[factsT_join (by cases fs with
    | nil=>simp at hn
    | cons x r=>simp),hj]
 ·rintro ⟨⟨h1,h2⟩,rfl⟩
  unfold rdFs
  cases fs with
  | nil=>rfl
  | cons f r=>
   rw[factsT_join (by simp)]
   have hin:(61:UInt8)∈Lib.join ((f :: r).map fmtF) [32,38,32]:=by
    rw[List.map_cons,Lib.join_cons,List.mem_append]
    exact .inl (fmtF_in f)
   rw[if_neg (by intro e;rw[e] at hin;revert hin;decide),List.map_cons,split_join (by simp),←List.map_cons,rdF_fmt h2 (by simpa using h1)]
   ·rfl
   ·intro q hq
    rw[←List.map_cons] at hq
    obtain ⟨g,_,rfl⟩:=List.mem_map.1 hq
    exact free3 (fmtF_free g).2.1 (by decide)
theorem rdXs_iff {l:Bs} {fs:List Atm}:rdXs l=some fs↔(fs.length≤6∧∀ g∈fs,g.valid=true)∧atomsT fs=l:=by
 constructor
 ·intro h
  unfold rdXs at h
  split at h
  ·rename_i hl
   injection h with h
   subst h
   exact ⟨by simp,by rw[hl];rfl⟩
  ·obtain ⟨gs,rfl,e2,h3,h4⟩:=rdX_back h
   refine ⟨⟨h4 (by simp),h3⟩,?_⟩
   have hj:=splitK_join [32,42,32] (Lib.count l [32,42,32]) l
   have hn:=splitK_ne [32,42,32] (Lib.count l [32,42,32]) l
   change Lib.split l [32,42,32]≠[] at hn
   change Lib.join (Lib.split l [32,42,32]) [32,42,32]=l at hj
   rw[e2] at hj hn
   unfold atomsT
   rw[if_neg (by cases fs with
    | nil=>simp at hn
    | cons x r=>simp),hj]
 ·rintro ⟨⟨h1,h2⟩,rfl⟩
  unfold rdXs
  cases fs with
  | nil=>rfl
  | cons f r=>
   rw[show atomsT (f :: r)=Lib.join ((f :: r).map fmtX) [32,42,32] from if_neg (by simp)]
   have hin:(62:UInt8)∈Lib.join ((f :: r).map fmtX) [32,42,32]∨(126:UInt8)∈Lib.join ((f :: r).map fmtX) [32,42,32]:=by
    rw[List.map_cons,Lib.join_cons,List.mem_append,List.mem_append]
    rcases fmtX_in f with h|h
    ·exact .inl (.inl h)
    ·exact .inr (.inl h)
   rw[if_neg (by intro e;rw[e] at hin;revert hin;decide),List.map_cons,split_join (by simp),←List.map_cons,rdX_fmt h2 (by simpa using h1)]
   ·rfl
   ·intro q hq
    rw[←List.map_cons] at hq
    obtain ⟨g,_,rfl⟩:=List.mem_map.1 hq
    exact free3 (fmtX_free g).2.1 (by decide)
theorem mem_join {c:UInt8} {sep:Bs} (hs:c∉sep):∀ {ps:List Bs},(∀ p∈ps,c∉p)→c∉Lib.join ps sep
 | [],_=>by simp[Lib.join_nil]
 | [x],h=>by rw[Lib.join_one];exact h x (by simp)
 | x :: y :: r,h=>by
  rw[join_cc]
  simp only[List.mem_append,not_or]
  exact ⟨⟨h x (by simp),hs⟩,mem_join hs fun p hp=>h p (by simp at hp ⊢;exact .inr hp)⟩
theorem factsT_free (fs:List Fct):(124:UInt8)∉factsT fs∧(10:UInt8)∉factsT fs:=by
 rcases Nat.eq_zero_or_pos fs.length with h|h
 ·unfold factsT;rw[if_pos h];decide
 ·rw[factsT_join h]
  refine ⟨mem_join (by decide) ?_,mem_join (by decide) ?_⟩
  ·intro p hp;obtain ⟨f,-,rfl⟩:=List.mem_map.1 hp;exact (fmtF_free f).2.2.1
  ·intro p hp;obtain ⟨f,-,rfl⟩:=List.mem_map.1 hp;exact (fmtF_free f).2.2.2
theorem atomsT_free (xs:List Atm):(10:UInt8)∉atomsT xs:=by
 unfold atomsT
 split
 ·decide
 ·refine mem_join (by decide) ?_
  intro p hp;obtain ⟨f,-,rfl⟩:=List.mem_map.1 hp;exact (fmtX_free f).2.2
theorem textA_free (a:Asn):(10:UInt8)∉textA a:=by
 rw[textA_join]
 simp[(factsT_free a.facts).2,atomsT_free a.atoms]
theorem pAI_iff {l:Bs} {a:Asn}:pAI l=some a↔a.valid=true∧textA a=l:=by
 rw[asn_valid_iff]
 constructor
 ·intro h
  unfold pAI at h
  split at h
  ·rename_i hc
   have e:=cut_true hc
   unfold both at h
   split at h
   ·rename_i fs xs hf hx
    injection h with h
    subst h
    obtain ⟨h1,h2⟩:=rdFs_iff.1 hf
    obtain ⟨h3,h4⟩:=rdXs_iff.1 hx
    refine ⟨⟨h1,h3⟩,?_⟩
    rw[textA_join]
    simp only
    rw[h2,h4]
    exact e.symm
   ·cases h
  ·cases h
 ·rintro ⟨⟨h1,h2⟩,rfl⟩
  unfold pAI
  rw[textA_join,(free3 (factsT_free a.facts).1 (by decide)).cut]
  simp only[if_true]
  rw[rdFs_iff.2 ⟨h1,rfl⟩,rdXs_iff.2 ⟨h2,rfl⟩]
  rfl
/-! the reference's reader -/
theorem splitA_free {c:UInt8}:∀ {p:Bs} (acc:Bs),c∉p→splitA c acc p=[acc++p]
 | [],acc,_=>by simp[splitA]
 | x :: r,acc,h=>by
  simp only[List.mem_cons,not_or] at h
  rw[splitA,if_neg (Ne.symm h.1),splitA_free _ h.2]
  simp
theorem splitA_mid {c:UInt8}:∀ {p:Bs} (acc q:Bs),c∉p→splitA c acc (p++c :: q)=(acc++p) :: splitA c [] q
 | [],acc,q,_=>by simp[splitA]
 | x :: r,acc,q,h=>by
  simp only[List.mem_cons,not_or] at h
  rw[List.cons_append,splitA,if_neg (Ne.symm h.1),splitA_mid _ _ h.2]
  simp
theorem splitL_mid {c:UInt8} {p:Bs} (q:Bs) (h:c∉p):splitL c (p++c :: q)=p :: splitL c q:=by
 unfold splitL;rw[splitA_mid _ _ h];rfl
theorem splitL_free {c:UInt8} {p:Bs} (h:c∉p):splitL c p=[p]:=by
 unfold splitL;rw[splitA_free _ h];rfl
theorem wordsL_mid {p:Bs} (q:Bs) (h:(32:UInt8)∉p) (hn:p≠[]):wordsL (p++32 :: q)=p :: wordsL q:=by
 unfold wordsL;rw[splitL_mid q h,List.filter_cons,if_pos (by simpa using hn)]
theorem wordsL_free {p:Bs} (h:(32:UInt8)∉p) (hn:p≠[]):wordsL p=[p]:=by
 unfold wordsL;rw[splitL_free h,List.filter_cons,if_pos (by simpa using hn)];rfl
def inter (c:UInt8):List Bs→List Bs
 | []=>[]
 | [x]=>[x]
 | x :: y :: r=>x :: [c] :: inter c (y :: r)
theorem wordsL_join {c:UInt8} (hc:c≠32):∀ {ps:List Bs} {p:Bs},(∀ q∈p :: ps,(32:UInt8)∉q∧q≠[])→wordsL (Lib.join (p :: ps) [32,c,32])=inter c (p :: ps)
 | [],p,h=>by rw[Lib.join_one];exact wordsL_free (h p (by simp)).1 (h p (by simp)).2
 | y :: r,p,h=>by
  rw[join_cc,inter,List.append_assoc]
  simp only[List.cons_append,List.nil_append]
  rw[wordsL_mid _ (h p (by simp)).1 (h p (by simp)).2,show c :: 32 :: Lib.join (y :: r) [32,c,32]=[c]++32 :: Lib.join (y :: r) [32,c,32] from rfl,
   wordsL_mid _ (by simpa using Ne.symm hc) (by simp),wordsL_join hc fun q hq=>h q (by simp at hq ⊢;exact .inr hq)]
theorem wordsL_joinT {c:UInt8} (hc:c≠32) (t:Bs):∀ {ps:List Bs} {p:Bs},(∀ q∈p :: ps,(32:UInt8)∉q∧q≠[])→wordsL (Lib.join (p :: ps) [32,c,32]++32 :: t)=inter c (p :: ps)++wordsL t
 | [],p,h=>by rw[Lib.join_one,wordsL_mid _ (h p (by simp)).1 (h p (by simp)).2];rfl
 | y :: r,p,h=>by
  rw[join_cc,inter,List.append_assoc,List.append_assoc]
  simp only[List.cons_append,List.nil_append]
  rw[wordsL_mid _ (h p (by simp)).1 (h p (by simp)).2,show c :: 32 :: (Lib.join (y :: r) [32,c,32]++32 :: t)=[c]++32 :: (Lib.join (y :: r) [32,c,32]++32 :: t) from rfl,
   wordsL_mid _ (by simpa using Ne.symm hc) (by simp),wordsL_joinT hc t fun q hq=>h q (by simp at hq ⊢;exact .inr hq)]
theorem stepA_F {f:Fct} (h:f.valid=true) (fs:List Fct) (xs:List Atm):stepA (fs,xs,false) (fmtF f)=some (fs++[f],xs):=by
 unfold stepA;simp[parseF_fmt h]
theorem stepA_X {x:Atm} (h:x.valid=true) (fs:List Fct) (xs:List Atm):stepA (fs,xs,true) (fmtX x)=some (fs,xs++[x]):=by
 unfold stepA;simp[parseX_fmt h]
theorem readA_F:∀ {gs:List Fct} {g:Fct} (t:List Bs) (acc:List Fct),(∀ x∈g :: gs,x.valid=true)→readA (inter 38 ((g :: gs).map fmtF)++[124] :: t) (acc,[],false)=readA t (acc++g :: gs,[],true)
 | [],g,t,acc,h=>by
  rw[List.map_cons,List.map_nil,inter,List.cons_append,List.nil_append,readA,stepA_F (h g (by simp))]
  simp
 | g2 :: r,g,t,acc,h=>by
  rw[List.map_cons,List.map_cons,inter,List.cons_append,List.cons_append,readA,stepA_F (h g (by simp))]
  simp only
  rw[show (false || decide (([38]:Bs)=[124]))=false by decide,←List.map_cons,readA_F t _ fun x hx=>h x (by simp at hx ⊢;exact .inr hx)]
  simp
theorem readA_X:∀ {gs:List Atm} {g:Atm} (fs:List Fct) (acc:List Atm),(∀ x∈g :: gs,x.valid=true)→readA (inter 42 ((g :: gs).map fmtX)) (fs,acc,true)=some ⟨fs,acc++g :: gs⟩
 | [],g,fs,acc,h=>by
  rw[List.map_cons,List.map_nil,inter,readA,stepA_X (h g (by simp))]
  rfl
 | g2 :: r,g,fs,acc,h=>by
  rw[List.map_cons,List.map_cons,inter,readA,stepA_X (h g (by simp))]
  simp only[Bool.true_or]
  rw[←List.map_cons,readA_X fs _ fun x hx=>h x (by simp at hx ⊢;exact .inr hx)]
  simp
theorem ne_of_in {c:UInt8} {p:Bs} (h:c∈p):p≠[]:=by rintro rfl;cases h
theorem words_atoms {xs:List Atm} (fs:List Fct) (h:∀ g∈xs,g.valid=true):readA (wordsL (atomsT xs)) (fs,[],true)=some ⟨fs,xs⟩:=by
 cases xs with
 | nil=>
  have:wordsL (atomsT [])=[[101,109,112]]:=by decide
  rw[this,readA]
  have:stepA (fs,[],true) [101,109,112]=some (fs,[]):=by
   unfold stepA
   rw[show parseX [101,109,112]=none by decide]
   simp
  rw[this]
  rfl
 | cons g r=>
  rw[show atomsT (g :: r)=Lib.join ((g :: r).map fmtX) [32,42,32] from if_neg (by simp),List.map_cons,wordsL_join (by decide),←List.map_cons,readA_X fs [] h]
  ·rfl
  ·intro q hq
   rw[←List.map_cons] at hq
   obtain ⟨x,-,rfl⟩:=List.mem_map.1 hq
   exact ⟨(fmtX_free x).1,by rcases fmtX_in x with h|h<;>exact ne_of_in h⟩
theorem parseA_text {a:Asn} (hv:a.valid=true):parseA (textA a)=some a:=by
 have hv':=asn_valid_iff.1 hv
 have hl:=textA_len a
 have hf:fmtA a=textA a:=if_pos hv
 have hr:readA (wordsL (textA a)) ([],[],false)=some a:=by
  rw[textA_join,List.append_assoc]
  simp only[List.cons_append,List.nil_append]
  have e1:wordsL (factsT a.facts++32 :: 124 :: 32 :: atomsT a.atoms)=(if a.facts.length=0 then [[116,114,117,101]] else inter 38 (a.facts.map fmtF))++[124] :: wordsL (atomsT a.atoms):=by
   have e2:wordsL (124 :: 32 :: atomsT a.atoms)=[124] :: wordsL (atomsT a.atoms):=wordsL_mid (p:=[124]) _ (by decide) (by simp)
   cases hc:a.facts with
   | nil=>
    rw[if_pos (by simp),show factsT []=[116,114,117,101] from rfl,wordsL_mid _ (by decide) (by simp),e2]
    rfl
   | cons f r=>
    rw[if_neg (by simp),factsT_join (by simp),List.map_cons,wordsL_joinT (by decide),e2]
    intro q hq
    rw[←List.map_cons] at hq
    obtain ⟨x,-,rfl⟩:=List.mem_map.1 hq
    exact ⟨(fmtF_free x).1,ne_of_in (fmtF_in x)⟩
  rw[e1]
  cases hc:a.facts with
  | nil=>
   rw[if_pos (by simp),List.cons_append,List.nil_append,readA]
   have:stepA ([],[],false) [116,114,117,101]=some ([],[]):=by decide
   rw[this]
   simp only
   simp only[decide_true,Bool.or_true]
   rw[words_atoms [] hv'.2.2,←hc]
  | cons f r=>
   rw[if_neg (by simp),readA_F _ [] (by rw[←hc];exact hv'.1.2),List.nil_append,←hc,words_atoms _ hv'.2.2]
 unfold parseA
 rw[if_neg (by omega),hr]
 simp only
 rw[if_pos ⟨hf,by rw[textA_join];simp⟩]
end Go.Proofs.YtjbboklnegfohaaGreatDoor

/- Contracts: facts and atoms from texts (impl). -/
namespace Go.Proofs.YtjbboklnegfohaaGreatDoor
open Go Go.RowKit Go.Proofs
theorem c_CutSuf (l sep:Bs) (w:World) (hl:l.length≤2000000):Calls Tryz.prog 102 #[sv l,sv sep] w fun e w'=>e=.returned (.tuple #[sv (Lib.trimSuffix l sep),.bool (Lib.hasSuffix l sep)])∧w=w':=by
 refine (shg_strings_CutSuffix ⟨l.toArray⟩ ⟨sep.toArray⟩ w (by simp only[ByteArray.size,List.size_toArray];omega)).mono ?_
 rintro e w' ⟨rfl,rfl⟩
 exact ⟨by simp,rfl⟩
theorem TN.set0 {w:World} (h:TN w) {y i:Nat} (hy:0<y) (v:Value):TN (w.setCell ⟨y,i,none⟩ v):=⟨by simpa using h.1,fun k hk=>by
 have:=h.2 k hk
 rw[World.cell?_setCell_other _ _ _ _ (by intro h;simp only[Addr.mk.injEq] at h;omega)]
 exact this⟩
theorem TM.set0 {w:World} (h:TM w) {y i:Nat} (hy:1<y) (_:True) (v:Value):TM (w.setCell ⟨y,i,none⟩ v):=⟨h.1.set0 (by omega) v,by simpa using h.2.1,by
 obtain ⟨m,hm⟩:=h.2.2
 refine ⟨m,?_⟩
 rw[World.cell?_setCell_other _ _ _ _ (by intro h;simp only[Addr.mk.injEq] at h;omega)]
 exact hm⟩
theorem cut_len (l sep:Bs):(Lib.cut l sep).1.length≤l.length∧(Lib.cut l sep).2.1.length≤l.length:=by
 unfold Lib.cut
 split
 ·exact ⟨by simp;omega,by simp⟩
 ·exact ⟨Nat.le_refl _,by simp⟩
set_option maxRecDepth 100000 in
set_option maxHeartbeats 6400000 in
theorem c_iPF (l:Bs) (w:World) (h:TM w) (hl:l.length≤2000000):Calls Tryz.prog 88 #[sv l] w fun e w'=>e=.returned (.tuple #[((pFactI l).getD fct0).val,.bool (pFactI l).isSome])∧Below w.heap.size w w':=by
 have HT:=Lib.hid h
 have hw1:=h.2.1
 obtain ⟨P,hP⟩:∃ P,P=pFactI l:=⟨_,rfl⟩
 rw[←hP]
 unfold pFactI at hP
 obtain ⟨a,ha⟩:∃ a,a=(Lib.cut l [61]).1:=⟨_,rfl⟩
 obtain ⟨b,hb⟩:∃ b,b=(Lib.cut l [61]).2.1:=⟨_,rfl⟩
 obtain ⟨fd,hfd⟩:∃ fd,fd=(Lib.cut l [61]).2.2:=⟨_,rfl⟩
 have CC:=Lib.hid fun W (h:TM W)=>c_Cut l [61] W h hl
 have hla:a.length≤2000000:=by rw[ha];exact Nat.le_trans (cut_len _ _).1 hl
 rw[←ha,←hb,←hfd] at CC hP
 clear ha hb hfd h hl
 replace hP:=Lib.hid hP
 go_enter Tryz.func88,Tryz.ntmps88
 go_upto_region 1 with fail
 refine bx1 (w:=w) (F:=Code.wp _ _ _ _) ?_
 rintro W k2 hB -
 replace HT:=Lib.hid (HT.out.below hB)
 go_wp2_with fail
 refine (CC.out _ HT.out).mono ?_
 rintro e w1 ⟨rfl,hq⟩
 have HB:=Lib.hid (bgo hB hq)
 replace HT:=Lib.hid (HT.out.below hq)
 replace k2:=k2.next hq
 clear CC hB hq
 cases fd
 ·(replace qk2:=k2.cell;replace rk2:=k2.frozen;replace lk2:=k2.lt)
  go_wp2_with fail
  have z2:=((k2.set_ 0 (.bool false)).set_ 1 (.int .i64 0)).set_ 2 (.int .i64 0)
  refine bodyPost_ret (v:=.tuple #[.agg #[.bool false,.int .i64 0,.int .i64 0],.bool false]) (by simp[results,Tryz.results88,go_sem,z2.cell]) rfl ⟨by rw[hP.out];rfl,?_⟩
  exact ((HB.out.setCell (p:=⟨w.heap.size,0,none⟩) (by simp only;omega) _).setCell (p:=⟨w.heap.size,1,none⟩) (by simp only;omega) _).setCell (p:=⟨w.heap.size,2,none⟩) (by simp only;omega) _
 have lk20:=k2.lt
 go_upto_region 5 with fail
 have kf:=Blk.new w1 tF #[.bool true,.int .i64 0,.int .i64 0]
 have hbx:=bbox (Below.refl _ w1) (.cells #[.bool true,.int .i64 0,.int .i64 0] tF)
 replace k2:=k2.next hbx
 replace HT:=Lib.hid (HT.out.below hbx)
 replace HB:=Lib.hid (bgo HB.out hbx)
 have lk2:=k2.lt
 obtain ⟨y,hy⟩:∃ y,y=w1.heap.size:=⟨_,rfl⟩
 have hyw:w.heap.size<y:=by rw[hy];exact lk20
 clear hbx
 generalize (w1.alloc (.cells #[.bool true,.int .i64 0,.int .i64 0] _))=V at *
 rw[←hy] at kf ⊢
 clear hy
 obtain ⟨s,hs⟩:∃ s,s=Lib.trimSuffix a [33]:=⟨_,rfl⟩
 obtain ⟨hf,hhf⟩:∃ b,b=Lib.hasSuffix a [33]:=⟨_,rfl⟩
 have CS:=Lib.hid (c_CutSuf a [33] V hla)
 rw[←hs,←hhf] at CS hP
 clear hs hhf
 cases hf
 case' false=>
  have HP:Hid (P=pairP true (parseT a) (parseT b)):=Lib.hid hP.out
  (replace qk2:=k2.cell;replace rk2:=k2.frozen;replace lk2:=k2.lt;replace qkf:=kf.cell;replace rkf:=kf.frozen;replace lkf:=kf.lt)
  go_wp2_with fail
  refine CS.out.mono ?_
  rintro e w' ⟨rfl,rfl⟩
  go_upto_region 10 with fail
  obtain ⟨q,hq⟩:∃ q,q=true:=⟨_,rfl⟩
  rw[←hq] at kf HP
  clear hq CS hP qk2 rk2 lk2 qkf rkf lkf
  obtain ⟨U,rfl⟩:∃ z,z=V:=⟨_,rfl⟩
  obtain ⟨x,rfl⟩:∃ z,z=a:=⟨_,rfl⟩
 case' true=>
  have HP:Hid (P=pairP false (parseT s) (parseT b)):=Lib.hid hP.out
  (replace qk2:=k2.cell;replace rk2:=k2.frozen;replace lk2:=k2.lt;replace qkf:=kf.cell;replace rkf:=kf.frozen;replace lkf:=kf.lt)
  go_wp2_with fail
  refine CS.out.mono ?_
  rintro e w' ⟨rfl,rfl⟩
  go_upto_region 10 with fail
  replace kf:=kf.set_ 0 (.bool false)
  replace k2:=k2.far (p:=⟨y,0,none⟩) (by simp only;omega) (.bool false)
  replace HT:=Lib.hid (HT.out.set0 (y:=y) (i:=0) (by omega) trivial (.bool false))
  replace HB:=Lib.hid (HB.out.setCell (p:=⟨y,0,none⟩) (by simp only;omega) (.bool false))
  clear CS hP qk2 rk2 lk2 qkf rkf lkf
  generalize V.setCell ⟨y,0,none⟩ (.bool false)=U at *
  obtain ⟨q,hq⟩:∃ q,q=false:=⟨_,rfl⟩
  rw[show (#[Value.bool true,.int .i64 0,.int .i64 0]:Array Value).setIfInBounds 0 (.bool false)=#[.bool q,.int .i64 0,.int .i64 0] by rw[hq];rfl] at kf
  rw[←hq] at HP
  clear hq
  obtain ⟨x,rfl⟩:∃ z,z=s:=⟨_,rfl⟩
 all_goals
  have HTT:=HT.out.1
  have lkf:=kf.lt
  have lk2:=k2.lt
  (replace qk2:=k2.cell;replace rk2:=k2.frozen;replace lk2:=k2.lt;replace qkf:=kf.cell;replace rkf:=kf.frozen;replace lkf:=kf.lt)
  obtain ⟨p1,hp1⟩:∃ p,p=parseT x:=⟨_,rfl⟩
  obtain ⟨p2,hp2⟩:∃ p,p=parseT b:=⟨_,rfl⟩
  rw[←hp1,←hp2] at HP
  have CT:=Lib.hid (c_iPT x U HTT)
  rw[←hp1] at CT
  clear hp1
  have CT2:=Lib.hid fun W (h:TN W)=>c_iPT b W h
  rw[←hp2] at CT2
  clear hp2
  have hyn:w.heap.size≠y:=by omega
  cases p1 with
  | none=>
   go_wp2_with fail
   refine CT.out.mono ?_
   rintro e w' ⟨rfl,rfl⟩
   simp only[Option.getD_none,Option.isSome_none]
   have z2:=(((((k2.far (p:=⟨y,1,none⟩) (by simp only;omega) (.int .i64 0)).set_ 0 (.bool false)).set_ 1 (.int .i64 0)).set_ 2 (.int .i64 0))).cell
   have z3:=((((HB.out.setCell (p:=⟨y,1,none⟩) (by simp only;omega) (.int .i64 0)).setCell (p:=⟨w.heap.size,0,none⟩) (by simp only;omega) (.bool false)).setCell (p:=⟨w.heap.size,1,none⟩) (by simp only;omega) (.int .i64 0)).setCell (p:=⟨w.heap.size,2,none⟩) (by simp only;omega) (.int .i64 0))
   go_wp2_with fail
   refine bodyPost_ret (v:=.tuple #[.agg #[.bool false,.int .i64 0,.int .i64 0],.bool false]) (by simp[results,Tryz.results88,go_sem,z2]) rfl ⟨by rw[HP.out];rfl,z3⟩
  | some n1=>
   go_wp2_with fail
   refine CT.out.mono ?_
   rintro e w' ⟨rfl,rfl⟩
   simp only[Option.getD_some,Option.isSome_some]
   have HT2:Hid (TN (U.setCell ⟨y,1,none⟩ (.int .i64 (n1:Nat)))):=Lib.hid (HTT.set0 (by omega) _)
   cases p2 with
   | none=>
    go_wp2_with fail
    refine (CT2.out _ HT2.out).mono ?_
    rintro e w' ⟨rfl,rfl⟩
    simp only[Option.getD_none,Option.isSome_none]
    have z2:=((((((k2.far (p:=⟨y,1,none⟩) (by simp only;omega) (.int .i64 (n1:Nat))).far (p:=⟨y,2,none⟩) (by simp only;omega) (.int .i64 0)).set_ 0 (.bool false)).set_ 1 (.int .i64 0)).set_ 2 (.int .i64 0))).cell
    have z3:=(((((HB.out.setCell (p:=⟨y,1,none⟩) (by simp only;omega) (.int .i64 (n1:Nat))).setCell (p:=⟨y,2,none⟩) (by simp only;omega) (.int .i64 0)).setCell (p:=⟨w.heap.size,0,none⟩) (by simp only;omega) (.bool false)).setCell (p:=⟨w.heap.size,1,none⟩) (by simp only;omega) (.int .i64 0)).setCell (p:=⟨w.heap.size,2,none⟩) (by simp only;omega) (.int .i64 0))
    go_wp2_with fail
    refine bodyPost_ret (v:=.tuple #[.agg #[.bool false,.int .i64 0,.int .i64 0],.bool false]) (by simp[results,Tryz.results88,go_sem,z2]) rfl ⟨by rw[HP.out];rfl,z3⟩
   | some n2=>
    go_wp2_with fail
    refine (CT2.out _ HT2.out).mono ?_
    rintro e w' ⟨rfl,rfl⟩
    simp only[Option.getD_some,Option.isSome_some]
    have z2:=((((((k2.far (p:=⟨y,1,none⟩) (by simp only;omega) (.int .i64 (n1:Nat))).far (p:=⟨y,2,none⟩) (by simp only;omega) (.int .i64 (n2:Nat))).set_ 0 (.bool q)).set_ 1 (.int .i64 (n1:Nat))).set_ 2 (.int .i64 (n2:Nat)))).cell
    have z3:=(((((HB.out.setCell (p:=⟨y,1,none⟩) (by simp only;omega) (.int .i64 (n1:Nat))).setCell (p:=⟨y,2,none⟩) (by simp only;omega) (.int .i64 (n2:Nat))).setCell (p:=⟨w.heap.size,0,none⟩) (by simp only;omega) (.bool q)).setCell (p:=⟨w.heap.size,1,none⟩) (by simp only;omega) (.int .i64 (n1:Nat))).setCell (p:=⟨w.heap.size,2,none⟩) (by simp only;omega) (.int .i64 (n2:Nat)))
    go_wp2_with fail
    refine bodyPost_ret (v:=.tuple #[.agg #[.bool q,.int .i64 (n1:Nat),.int .i64 (n2:Nat)],.bool true]) (by simp[results,Tryz.results88,go_sem,z2]) rfl ⟨by rw[HP.out];rfl,z3⟩
end Go.Proofs.YtjbboklnegfohaaGreatDoor

/- Contracts: atoms from texts (impl). -/
namespace Go.Proofs.YtjbboklnegfohaaGreatDoor
open Go Go.RowKit Go.Proofs
set_option maxRecDepth 100000 in
set_option maxHeartbeats 6400000 in
theorem c_iPX (l:Bs) (w:World) (h:TM w) (hl:l.length≤2000000):Calls Tryz.prog 104 #[sv l] w fun e w'=>e=.returned (.tuple #[((pAtomI l).getD ⟨0,0,0⟩).val,.bool (pAtomI l).isSome])∧Below w.heap.size w w':=by
 have HT:=Lib.hid h
 have hw1:=h.2.1
 obtain ⟨P,hP⟩:∃ P,P=pAtomI l:=⟨_,rfl⟩
 rw[←hP]
 unfold pAtomI atmI at hP
 obtain ⟨a1,ha1⟩:∃ a,a=(Lib.cut l [62]).1:=⟨_,rfl⟩
 obtain ⟨b1,hb1⟩:∃ b,b=(Lib.cut l [62]).2.1:=⟨_,rfl⟩
 obtain ⟨f1,hf1⟩:∃ fd,fd=(Lib.cut l [62]).2.2:=⟨_,rfl⟩
 have C1:=Lib.hid fun W (h:TM W)=>c_Cut l [62] W h hl
 rw[←ha1,←hb1,←hf1] at C1 hP
 obtain ⟨a2,ha2⟩:∃ a,a=(Lib.cut l [126]).1:=⟨_,rfl⟩
 obtain ⟨b2,hb2⟩:∃ b,b=(Lib.cut l [126]).2.1:=⟨_,rfl⟩
 obtain ⟨f2,hf2⟩:∃ fd,fd=(Lib.cut l [126]).2.2:=⟨_,rfl⟩
 have C2:=Lib.hid fun W (h:TM W)=>c_Cut l [126] W h hl
 rw[←ha2,←hb2,←hf2] at C2 hP
 clear ha1 hb1 hf1 ha2 hb2 hf2 h hl
 replace hP:=Lib.hid hP
 go_enter Tryz.func104,Tryz.ntmps104
 go_upto_region 2 with fail
 refine bx2 (w:=w) (F:=Code.wp _ _ _ _) ?_
 rintro W k2 kf hB -
 replace HT:=Lib.hid (HT.out.below hB)
 go_wp2_with fail
 refine (C1.out _ HT.out).mono ?_
 rintro e w1 ⟨rfl,hq⟩
 have HB:=Lib.hid (bgo hB hq)
 replace HT:=Lib.hid (HT.out.below hq)
 replace k2:=k2.next hq
 replace kf:=kf.next hq
 obtain ⟨y,hy⟩:∃ y,y=w.heap.size+1:=⟨_,rfl⟩
 have hyw:w.heap.size<y:=by omega
 rw[←hy] at kf ⊢
 clear C1 hB hq hy
 cases f1
 case' true=>
  have HP:Hid (P=pairX 1 (parseT a1) (parseT b1)):=Lib.hid (by have:=hP.out;simpa using this)
  (replace qk2:=k2.cell;replace rk2:=k2.frozen;replace lk2:=k2.lt;replace qkf:=kf.cell;replace rkf:=kf.frozen;replace lkf:=kf.lt)
  go_upto_region 8 with fail
  obtain ⟨q,hq⟩:∃ q,q=(1:Int):=⟨_,rfl⟩
  rw[←hq] at kf HP
  clear hq C2 hP qk2 rk2 lk2 qkf rkf lkf
  obtain ⟨U,rfl⟩:∃ z,z=w1:=⟨_,rfl⟩
  obtain ⟨x,rfl⟩:∃ z,z=a1:=⟨_,rfl⟩
  obtain ⟨b,rfl⟩:∃ z,z=b1:=⟨_,rfl⟩
 case' false=>
  (replace qk2:=k2.cell;replace rk2:=k2.frozen;replace lk2:=k2.lt;replace qkf:=kf.cell;replace rkf:=kf.frozen;replace lkf:=kf.lt)
  go_upto_region 5 with fail
  replace kf:=kf.set_ 0 (.int .i64 2)
  replace k2:=k2.far (p:=⟨y,0,none⟩) (by simp only;omega) (.int .i64 2)
  replace HT:=Lib.hid (HT.out.set0 (y:=y) (i:=0) (by omega) trivial (.int .i64 2))
  replace HB:=Lib.hid (HB.out.setCell (p:=⟨y,0,none⟩) (by simp only;omega) (.int .i64 2))
  clear qk2 rk2 lk2 qkf rkf lkf
  generalize w1.setCell ⟨y,0,none⟩ (.int .i64 2)=V at *
  go_wp2_with fail
  refine (C2.out _ HT.out).mono ?_
  rintro e U ⟨rfl,hq⟩
  replace HB:=Lib.hid (bgo HB.out hq)
  replace HT:=Lib.hid (HT.out.below hq)
  replace k2:=k2.next hq
  replace kf:=kf.next hq
  clear C2 hq
  (replace qk2:=k2.cell;replace rk2:=k2.frozen;replace lk2:=k2.lt;replace qkf:=kf.cell;replace rkf:=kf.frozen;replace lkf:=kf.lt)
  cases f2
  ·go_wp2_with fail
   have z2:=((k2.set_ 0 (.int .i64 0)).set_ 1 (.int .i64 0)).set_ 2 (.int .i64 0)
   refine bodyPost_ret (v:=.tuple #[.agg #[.int .i64 0,.int .i64 0,.int .i64 0],.bool false]) (by simp[results,Tryz.results104,go_sem,z2.cell]) rfl ⟨by rw[hP.out];rfl,?_⟩
   exact ((HB.out.setCell (p:=⟨w.heap.size,0,none⟩) (by simp only;omega) _).setCell (p:=⟨w.heap.size,1,none⟩) (by simp only;omega) _).setCell (p:=⟨w.heap.size,2,none⟩) (by simp only;omega) _
  have HP:Hid (P=pairX 2 (parseT a2) (parseT b2)):=Lib.hid (by have:=hP.out;simpa using this)
  go_upto_region 8 with fail
  obtain ⟨q,hq⟩:∃ q,q=(2:Int):=⟨_,rfl⟩
  rw[show (#[Value.int .i64 1,.int .i64 0,.int .i64 0]:Array Value).setIfInBounds 0 (.int .i64 2)=#[.int .i64 q,.int .i64 0,.int .i64 0] by rw[hq];rfl] at kf
  rw[←hq] at HP
  clear hq hP qk2 rk2 lk2 qkf rkf lkf
  obtain ⟨x,rfl⟩:∃ z,z=a2:=⟨_,rfl⟩
  obtain ⟨b,rfl⟩:∃ z,z=b2:=⟨_,rfl⟩
 all_goals
  have HTT:=HT.out.1
  have lkf:=kf.lt
  have lk2:=k2.lt
  (replace qk2:=k2.cell;replace rk2:=k2.frozen;replace lk2:=k2.lt;replace qkf:=kf.cell;replace rkf:=kf.frozen;replace lkf:=kf.lt)
  obtain ⟨p1,hp1⟩:∃ p,p=parseT x:=⟨_,rfl⟩
  obtain ⟨p2,hp2⟩:∃ p,p=parseT b:=⟨_,rfl⟩
  rw[←hp1,←hp2] at HP
  have CT:=Lib.hid (c_iPT x U HTT)
  rw[←hp1] at CT
  clear hp1
  have CT2:=Lib.hid fun W (h:TN W)=>c_iPT b W h
  rw[←hp2] at CT2
  clear hp2
  have hyn:w.heap.size≠y:=by omega
  cases p1 with
  | none=>
   go_wp2_with fail
   refine CT.out.mono ?_
   rintro e w' ⟨rfl,rfl⟩
   simp only[Option.getD_none,Option.isSome_none]
   have z2:=(((((k2.far (p:=⟨y,1,none⟩) (by simp only;omega) (.int .i64 0)).set_ 0 (.int .i64 0)).set_ 1 (.int .i64 0)).set_ 2 (.int .i64 0))).cell
   have z3:=((((HB.out.setCell (p:=⟨y,1,none⟩) (by simp only;omega) (.int .i64 0)).setCell (p:=⟨w.heap.size,0,none⟩) (by simp only;omega) (.int .i64 0)).setCell (p:=⟨w.heap.size,1,none⟩) (by simp only;omega) (.int .i64 0)).setCell (p:=⟨w.heap.size,2,none⟩) (by simp only;omega) (.int .i64 0))
   go_wp2_with fail
   refine bodyPost_ret (v:=.tuple #[.agg #[.int .i64 0,.int .i64 0,.int .i64 0],.bool false]) (by simp[results,Tryz.results104,go_sem,z2]) rfl ⟨by rw[HP.out];rfl,z3⟩
  | some n1=>
   go_wp2_with fail
   refine CT.out.mono ?_
   rintro e w' ⟨rfl,rfl⟩
   simp only[Option.getD_some,Option.isSome_some]
   have HT2:Hid (TN (U.setCell ⟨y,1,none⟩ (.int .i64 (n1:Nat)))):=Lib.hid (HTT.set0 (by omega) _)
   cases p2 with
   | none=>
    go_wp2_with fail
    refine (CT2.out _ HT2.out).mono ?_
    rintro e w' ⟨rfl,rfl⟩
    simp only[Option.getD_none,Option.isSome_none]
    have z2:=((((((k2.far (p:=⟨y,1,none⟩) (by simp only;omega) (.int .i64 (n1:Nat))).far (p:=⟨y,2,none⟩) (by simp only;omega) (.int .i64 0)).set_ 0 (.int .i64 0)).set_ 1 (.int .i64 0)).set_ 2 (.int .i64 0))).cell
    have z3:=(((((HB.out.setCell (p:=⟨y,1,none⟩) (by simp only;omega) (.int .i64 (n1:Nat))).setCell (p:=⟨y,2,none⟩) (by simp only;omega) (.int .i64 0)).setCell (p:=⟨w.heap.size,0,none⟩) (by simp only;omega) (.int .i64 0)).setCell (p:=⟨w.heap.size,1,none⟩) (by simp only;omega) (.int .i64 0)).setCell (p:=⟨w.heap.size,2,none⟩) (by simp only;omega) (.int .i64 0))
    go_wp2_with fail
    refine bodyPost_ret (v:=.tuple #[.agg #[.int .i64 0,.int .i64 0,.int .i64 0],.bool false]) (by simp[results,Tryz.results104,go_sem,z2]) rfl ⟨by rw[HP.out];rfl,z3⟩
   | some n2=>
    go_wp2_with fail
    refine (CT2.out _ HT2.out).mono ?_
    rintro e w' ⟨rfl,rfl⟩
    simp only[Option.getD_some,Option.isSome_some]
    have z2:=((((((k2.far (p:=⟨y,1,none⟩) (by simp only;omega) (.int .i64 (n1:Nat))).far (p:=⟨y,2,none⟩) (by simp only;omega) (.int .i64 (n2:Nat))).set_ 0 (.int .i64 q)).set_ 1 (.int .i64 (n1:Nat))).set_ 2 (.int .i64 (n2:Nat)))).cell
    have z3:=(((((HB.out.setCell (p:=⟨y,1,none⟩) (by simp only;omega) (.int .i64 (n1:Nat))).setCell (p:=⟨y,2,none⟩) (by simp only;omega) (.int .i64 (n2:Nat))).setCell (p:=⟨w.heap.size,0,none⟩) (by simp only;omega) (.int .i64 q)).setCell (p:=⟨w.heap.size,1,none⟩) (by simp only;omega) (.int .i64 (n1:Nat))).setCell (p:=⟨w.heap.size,2,none⟩) (by simp only;omega) (.int .i64 (n2:Nat)))
    go_wp2_with fail
    refine bodyPost_ret (v:=.tuple #[.agg #[.int .i64 q,.int .i64 (n1:Nat),.int .i64 (n2:Nat)],.bool true]) (by simp[results,Tryz.results104,go_sem,z2]) rfl ⟨by rw[HP.out];rfl,z3⟩
end Go.Proofs.YtjbboklnegfohaaGreatDoor

/- A map keyed by places of pairs of lists: no key is met twice. -/
namespace Go.Proofs.YtjbboklnegfohaaGreatDoor
open Go Go.RowKit Go.Proofs
abbrev tPK:TypeId:=53
abbrev tPM:TypeId:=42
def pk (g:Nat) (q:Addr) (n:Int):Value:=.agg #[.pointer (some ⟨g,0,none⟩),.pointer (some q),.int .i64 n]
def Pl (w:World) (g:Nat):Prop:=∃ cs t,w.heap[g]? = some (.cells cs t (0,0))
def MapOk (w0 w:World) (r:Nat) (K:List Nat):Prop:=∃ es clock,w.heap[r]? = some (.map es clock)∧∀ e∈es.toList,∃ g q n,e.key=pk g q n∧g∈K∧Pl w0 g
section
variable {w w':World} {r g g':Nat} {q q':Addr} {n n':Int} {K:List Nat}
theorem pk_neq (hne:g≠g') (h:Pl w g) (h':Pl w g'):(Op.equal tPK (pk g q n) (pk g' q' n')).run Tryz.prog w=.ok false w:=by
 obtain ⟨cs,t,h⟩:=h
 obtain ⟨cs',t',h'⟩:=h'
 have hs:=run_sameAddr_other (P:=Tryz.prog) w (a:=⟨g,0,none⟩) (b:=⟨g',0,none⟩) (ca:=cs) (cb:=cs') (ta:=t) (tb:=t') (by simp[hne]) h h'
 have u0:=Tryz.underlying53
 have u1:=Tryz.underlying43
 have hst:Tryz.prog.stoodInHeld tPK=false:=by kernel_rfl
 have hz:(sizeOf 51).run Tryz.prog w=.ok 10 w:=by simp[Tryz.sizeOf51,go_sem]
 have ha:(isAgg 43).run Tryz.prog w=.ok false w:=by simp[Tryz.isAgg43,go_sem]
 have gen:∀ d,(Op.equalIn (d+2) tPK (pk g q n) (pk g' q' n')).run Tryz.prog w=.ok false w:=by
  intro d
  simp[Op.equalIn,pk,run_underlying u0,run_underlying u1,hst,part,ha,hz,hs,Result.andThen]
 exact gen 9998
theorem ask_none (h:Pl w g):∀ (l:List MapEntry) (i:Nat),(∀ e∈l,∃ g' q' n',e.key=pk g' q' n'∧g'≠g∧Pl w g')→(Instr.findAsking tPK (pk g q n) l i).run Tryz.prog w=.ok none w
 | [],_,_=>rfl
 | e :: l,i,hl=>by
  obtain ⟨g',q',n',e1,hne,h'⟩:=hl e (.head _)
  have h1:=pk_neq (q:=q) (q':=q') (n:=n) (n':=n') (Ne.symm hne) h h'
  have h2:=ask_none h l (i+1) fun x hx=>hl x (.tail _ hx)
  simp[Instr.findAsking,e1,h1,h2,Result.andThen]
theorem find_none (h:Pl w g) {es:Array MapEntry} (hl:∀ e∈es.toList,∃ g' q' n',e.key=pk g' q' n'∧g'≠g∧Pl w g'):(Instr.findKey tPK (pk g q n) es.toList).run Tryz.prog w=.ok none w:=by
 have u0:=Tryz.underlying53
 have h1:=ask_none (q:=q) (n:=n) h es.toList 0 hl
 generalize es.toList=l at h1
 cases l with
 | nil=>simp[Instr.findKey,run_underlying u0,Instr.findNow,Result.andThen]
 | cons e l=>simp[Instr.findKey,run_underlying u0,Instr.findNow,Instr.sameNow,h1,Result.andThen]
theorem check_pk (em:Bool):(Instr.checkKey em 10000 tPK (pk g q n)).run Tryz.prog w=.ok () w:=by
 have u0:=Tryz.underlying53
 have u1:=Tryz.underlying43
 have u2:=Tryz.underlying3
 have ha:(isAgg 43).run Tryz.prog w=.ok false w:=by simp[Tryz.isAgg43,go_sem]
 have hb:(isAgg 3).run Tryz.prog w=.ok false w:=by simp[Tryz.isAgg3,go_sem]
 have gen:∀ d,(Instr.checkKey em (d+2) tPK (pk g q n)).run Tryz.prog w=.ok () w:=by
  intro d
  simp[Instr.checkKey,pk,run_underlying u0,run_underlying u1,run_underlying u2,part,ha,hb,Result.andThen]
 exact gen 9998
theorem MapOk.keep {w0:World} (h:MapOk w0 w r K) (e:w'.heap[r]? = w.heap[r]?):MapOk w0 w' r K:=by
 obtain ⟨es,c,h1,h2⟩:=h
 exact ⟨es,c,e.trans h1,h2⟩
theorem Pl.below {w0:World} (h:Pl w0 g) (hb:Below w0.heap.size w0 w):Pl w g:=by
 obtain ⟨cs,t,h⟩:=h
 exact ⟨cs,t,(hb.block g (Array.getElem?_eq_some_iff.1 h).1).trans h⟩
theorem MapOk.look {w0:World} (h:MapOk w0 w r K) (hb:Below w0.heap.size w0 w) (hg:Pl w0 g) (hK:g∉K):(Instr.lookup tPM (.map (some r)) (pk g q n) false).run Tryz.prog w=.ok (.int .i64 0) w:=by
 obtain ⟨es,c,h1,h2⟩:=h
 have u0:=Tryz.underlying42
 have h3:=find_none (q:=q) (n:=n) (hg.below hb) (es:=es) fun e he=>by
  obtain ⟨g',q',n',e1,e2,e3⟩:=h2 e he
  exact ⟨g',q',n',e1,fun e=>hK (e▸e2),e3.below hb⟩
 have hz:(zeroValue 3).run Tryz.prog w=.ok (.int .i64 0) w:=by simp[Tryz.zeroValue3,go_sem]
 have hc:=fun em=>check_pk (w:=w) (g:=g) (q:=q) (n:=n) em
 simp[Instr.lookup,run_underlying u0,MapKept.run_getObj_map h1,hc,h3,hz,Result.andThen]
theorem MapOk.put {w0:World} (h:MapOk w0 w r K) (hb:Below w0.heap.size w0 w) (hg:Pl w0 g) (hK:g∉K):∃ w2,(Instr.mapUpdate tPM (.map (some r)) (pk g q n) (.int .i64 1)).run Tryz.prog w=.ok () w2∧MapOk w0 w2 r (g :: K)∧Fr r w w2:=by
 obtain ⟨es,c,h1,h2⟩:=h
 have u0:=Tryz.underlying42
 have h3:=find_none (q:=q) (n:=n) (hg.below hb) (es:=es) fun e he=>by
  obtain ⟨g',q',n',e1,e2,e3⟩:=h2 e he
  exact ⟨g',q',n',e1,fun e=>hK (e▸e2),e3.below hb⟩
 have hc:=fun em=>check_pk (w:=w) (g:=g) (q:=q) (n:=n) em
 refine ⟨{ w with heap:=w.heap.setIfInBounds r (Obj.map (es.push { key:=pk g q n,val:=.int .i64 1,born:=c }) (c+1)) },by simp[Instr.mapUpdate,run_underlying u0,MapKept.run_getObj_map h1,hc,h3,MapKept.run_setObj_map _ h1,Result.andThen],⟨_,_,(MapKept.heap_set h1).1,fun e he=>?_⟩,⟨rfl,rfl,rfl,by simp,fun k _ hk=>(MapKept.heap_set h1).2 k hk⟩⟩
 simp only[Array.toList_push,List.mem_append,List.mem_singleton] at he
 rcases he with he|rfl
 ·obtain ⟨g',q',n',e1,e2,e3⟩:=h2 e he
  exact ⟨g',q',n',e1,.tail _ e2,e3⟩
 ·exact ⟨g,q,n,rfl,.head _,hg⟩
end
end Go.Proofs.YtjbboklnegfohaaGreatDoor
