/- Contracts: the text of an assertion (impl). -/
import Derived.Test.YtjaohekkmlkinaaDoorFmtI
import Derived.Test.YtjaohekkmlkinaaDoorFmtP
import Derived.Test.YtjaohekkmlkinaaDoorShf
set_option linter.unusedSimpArgs false
set_option linter.unusedVariables false
set_option maxRecDepth 100000
set_option maxHeartbeats 25600000
namespace Go.Proofs.YtjaohekkmlkinaaDoor
section
open Go Go.RowKit Go.Proofs
theorem strs_cap {w:World} {b n d:Nat} {S:Option Addr} {xs:List Bs} (h:StrsO w b (.slice S n d) xs):n≤d:=by
 obtain ⟨⟨h1,h2⟩,-⟩:=h;rcases h2 with ⟨hv,hn⟩|⟨k,cap,cur,hv,hk,hh,r⟩
 ·injection hv with e1 e2 e3;omega
 ·injection hv with e1 e2 e3;subst e3;omega
theorem StrsO.reads2 {w:World} {b n d:Nat} {S:Option Addr} {xs:List Bs} (h:StrsO w b (.slice S n d) xs):StrsV w b w.heap.size S xs:=by
 obtain ⟨A,c,e,h2⟩:=h.rj;injection e with e1 e2 e3;subst e1;exact h2
theorem c_Join {lo hi:Nat} (A:Option Addr) (c:Nat) (xs:List Bs) (sep:Bs) (w:World) (h:StrsV w lo hi A xs) (h0:0<xs.length) (hcap:xs.length≤c) (hl:(Lib.join xs sep).length≤1000000):Calls Tryd.prog 89 #[.slice A xs.length c,sv sep] w fun e w'=>e=.returned (sv (Lib.join xs sep))∧Below w.heap.size w w':=by
 obtain ⟨b,o,rfl,-⟩:=h.at h0
 have hb:b<w.heap.size:=by
  obtain ⟨b',o',e,hc⟩:=h.at h0;injection e with e;injection e with e1 e2;subst e1;exact block_lt_of_cell hc
 have em:(xs.map fun l=>(⟨l.toArray⟩:ByteArray)).map (·.data.toList)=xs:=by
  rw[List.map_map,show ((fun x:ByteArray=>x.data.toList)∘fun l:Bs=>(⟨l.toArray⟩:ByteArray))=id from funext fun l=>by simp,List.map_id]
 have:=shf_strings_Join b o c (xs.map fun l=>(⟨l.toArray⟩:ByteArray)) ⟨sep.toArray⟩ w (fun j x hx=>by
  rw[List.getElem?_map,Option.map_eq_some_iff] at hx;obtain ⟨l,hl,rfl⟩:=hx;obtain ⟨hj,rfl⟩:=List.getElem?_eq_some_iff.1 hl;obtain ⟨b',o',e,hc⟩:=h.at hj;injection e with e;injection e with e1 e2;subst e1 e2
  exact hc) hb (by rw[List.length_map];have:=h.le;unfold Lim at this;omega) (by rw[List.length_map];exact hcap) (by rw[em];simp only[List.toList_toArray];omega)
 rw[em,List.length_map] at this;simpa only[List.toList_toArray] using this
theorem c_iFAs {lo hi:Nat} (v:Value) (a:Asn) (w:World) (hT:TN w) (h:AsnV w lo hi v a) (hv:a.valid=true):Calls Tryd.prog 53 #[v] w fun e w'=>e=.returned (sv (textA a))∧Below w.heap.size w w':=by
 have HX:=ax h;obtain ⟨A1,c1,A2,c2,rfl,g1,g2⟩:=h;have H1:=ax g1;have H2:=ax g2;clear g1 g2;have hva:=hv;simp only[Asn.valid,factsValid,Bool.and_eq_true,decide_eq_true_eq,List.all_eq_true] at hva;have hf:a.facts.length≤12:=hva.1.1;have hx:a.atoms.length≤6:=hva.2.1;have HV:aJ (∀ k (h:k<a.facts.length),a.facts[k].valid=true):=ax fun k h=>hva.1.2 _ (List.getElem_mem h);have HE:=ax (textA_join a);clear hva;(go_enter Tryd.func53,Tryd.ntmps53);(go_upto_region 1 with fail);refine bx1 (w:=w) (F:=Code.wp _ _ _ _) ?_;rintro W k0 hB -;(replace qk0:=k0.z);(go_wp2_with fail);refine (jz _ a _ (HX.o.bz hB)).mono ?_;rintro e w1 ⟨rfl,hq⟩;rw[hv];replace k0:=k0.nz hq;have HB:=ax (bgo hB hq);have HT:=ax (hT.bz HB.o);replace H1:=ax (H1.o.bz HB.o);replace H2:=ax (H2.o.bz HB.o);clear hq hB hv hT HX;(replace qk0:=k0.z);obtain ⟨FT,hFT⟩:∃ z,z=factsT a.facts:=⟨_,rfl⟩;have hlFT:(FT).length≤200:=by rw[hFT];exact Nat.le_trans (factsT_len _) (by omega)
 replace HE:aJ (textA a=FT++[32,124,32]++atomsT a.atoms):=ax (by rw[HE.o,hFT]);by_cases h0:a.facts.length=0
 case' pos=>
  have h0':¬0<a.facts.length:=by omega
  have hX:[116,114,117,101]=FT:=by rw[hFT];unfold factsT;rw[if_pos h0]
  (go_upto_region 12 with fail);rw[show (ByteArray.mk #[116,114,117,101])=⟨(FT).toArray⟩ from by rw[←hX]];obtain ⟨w4,rfl⟩:∃ z,z=w1:=⟨_,rfl⟩;clear hFT h0 h0' hX
 case' neg=>
  have h0':0<a.facts.length:=by omega
  have hX:Lib.join (a.facts.map fmtF) [32,38,32]=FT:=by rw[hFT];rw[factsT_join (by omega)]
  go_wp2_with fail
  go_loopw [5,21] (fun p i wr=>∃ (k:Nat) (S:Option Addr) (d:Nat),k≤a.facts.length∧i=.int .i64 k∧p=.slice S k d∧StrsO wr w1.heap.size (.slice S k d) ((a.facts.take k).map fmtF)∧aJ (Below w1.heap.size w1 wr)) (fun _ i _=>a.facts.length - (intOf i).toNat)
  case atStart=>exact ⟨0,none,0,by omega,rfl,rfl,⟨World.ownsRow_nil _ _ _ _,by simp[Lim]⟩,ax (Below.refl _ _)⟩
  case' round=>
   obtain ⟨k,S,d,hk,rfl,rfl,hO,HB2⟩:=hrel;have HO:=ax hO;have hz:=HB2.o.size;have HTr:=ax (HT.o.bz HB2.o);clear hO;by_cases hlt:k<a.facts.length
   case pos=>
    have hki:(k:Int)<(a.facts.length:Int):=by omega
    obtain ⟨b,o,rfl,q0,q1,q2⟩:=(H1.o.bz HB2.o).at hlt;have hsn:=ax (map_snoc fmtF hlt);(go_wp2_with (go_at_call 88;refine (c_iFF a.facts[k] _ (HTr.o.bz bel) (HV.o k hlt)).mono ?_));rintro e w5 ⟨rfl,hq⟩;have HB5:=ax (bgo HB2.o (bgo (bbox (Below.refl _ wr) (.cells #[.bool a.facts[k].eq,.int .i64 a.facts[k].a,.int .i64 a.facts[k].b] tF)) hq));have HO5:=ax (HO.o.bz (bgo (bbox (Below.refl _ wr) (.cells #[.bool a.facts[k].eq,.int .i64 a.facts[k].a,.int .i64 a.facts[k].b] tF)) hq));have hz5:=HB5.o.size;clear hq q0 q1 q2;(go_wp2_with (at_builtin;refine appS rfl _ _ rfl (v:=.slice S k d) rfl (StrsO.bz (w:=w5) HO5.o bel) w5.heap.size (fmtF a.facts[k]) rfl (by simp[sv]) (by simp;omega) (by simp;omega) ?_;intro g2 d2 w2 o2 hg2 hB6));rw[List.length_map,List.length_take,Nat.min_eq_left hk] at o2;(try rw[List.length_map,List.length_take,Nat.min_eq_left hk]);have HB7:=ax ((HB5.o.alloc hz5 _).trans hB6)
    go_round
    case rel=>exact ⟨k+1,some ⟨g2,0,none⟩,d2,by omega,by go_num,by simp,by rw[hsn.o];exact o2,HB7⟩
    case measure=>simp[intOf];omega
   case' neg=>
    have hkn:k=a.facts.length:=by omega
    have hki:¬(k:Int)<(a.facts.length:Int):=by omega
    subst hkn;rw[List.take_length] at HO;have HJ:=ax (c_Join (lo:=w1.heap.size) (hi:=wr.heap.size) S d (a.facts.map fmtF) [32,38,32] wr);rw[List.length_map,hX] at HJ;have hcap:a.facts.length≤d:=strs_cap HO.o;have HTr2:=HTr;clear HTr;(go_wp2_with fail);refine (HJ.o HO.o.reads2 (by omega) (by omega) (by omega)).mono ?_;rintro e w4 ⟨rfl,hq⟩;replace HT:=ax (HTr2.o.bz hq);replace H1:=ax (H1.o.bz (bgo HB2.o hq));replace H2:=ax (H2.o.bz (bgo HB2.o hq));replace HB:=ax (bgo HB.o (bgo HB2.o hq));replace k0:=k0.nz (bgo HB2.o hq);clear hFT h0 h0' hX HO hz HB2 HTr2 HJ hq hki;(go_upto_region 12 with fail)
 all_goals
  clear qk0;(replace qk0:=k0.z);obtain ⟨AT,hAT⟩:∃ z,z=atomsT a.atoms:=⟨_,rfl⟩;have hlAT:(AT).length≤200:=by rw[hAT];exact atomsT_len hx
  replace HE:aJ (textA a=FT++[32,124,32]++AT):=ax (by rw[HE.o,hAT]);by_cases h0:a.atoms.length=0
  case' pos=>
   have h0':¬0<a.atoms.length:=by omega
   have hX:[101,109,112]=AT:=by rw[hAT];unfold atomsT;rw[if_pos h0]
   (go_upto_region 20 with fail);rw[show (ByteArray.mk #[101,109,112])=⟨(AT).toArray⟩ from by rw[←hX]];obtain ⟨w7,rfl⟩:∃ z,z=w4:=⟨_,rfl⟩;clear hAT h0 h0' hX
  case' neg=>
   have h0':0<a.atoms.length:=by omega
   have hX:Lib.join (a.atoms.map fmtX) [32,42,32]=AT:=by rw[hAT];unfold atomsT;rw[if_neg h0]
   go_wp2_with fail
   go_loopw [8,40] (fun p i wr=>∃ (k:Nat) (S:Option Addr) (d:Nat),k≤a.atoms.length∧i=.int .i64 k∧p=.slice S k d∧StrsO wr w4.heap.size (.slice S k d) ((a.atoms.take k).map fmtX)∧aJ (Below w4.heap.size w4 wr)) (fun _ i _=>a.atoms.length - (intOf i).toNat)
   case atStart=>exact ⟨0,none,0,by omega,rfl,rfl,⟨World.ownsRow_nil _ _ _ _,by simp[Lim]⟩,ax (Below.refl _ _)⟩
   case' round=>
    obtain ⟨k,S,d,hk,rfl,rfl,hO,HB2⟩:=hrel;have HO:=ax hO;have hz:=HB2.o.size;have HTr:=ax (HT.o.bz HB2.o);clear hO;by_cases hlt:k<a.atoms.length
    case pos=>
     have hki:(k:Int)<(a.atoms.length:Int):=by omega
     obtain ⟨b,o,rfl,q0,q1,q2⟩:=(H2.o.bz HB2.o).at hlt;have hsn:=ax (map_snoc fmtX hlt);(go_wp2_with (go_at_call 90;refine (c_iFA a.atoms[k].kind a.atoms[k].a a.atoms[k].b _ (HTr.o.bz bel)).mono ?_));rintro e w5 ⟨rfl,hq⟩;have HB5:=ax (bgo HB2.o (bgo (bbox (Below.refl _ wr) (.cells #[.int .i64 a.atoms[k].kind,.int .i64 a.atoms[k].a,.int .i64 a.atoms[k].b] tA)) hq));have HO5:=ax (HO.o.bz (bgo (bbox (Below.refl _ wr) (.cells #[.int .i64 a.atoms[k].kind,.int .i64 a.atoms[k].a,.int .i64 a.atoms[k].b] tA)) hq));have hz5:=HB5.o.size;clear hq q0 q1 q2;(go_wp2_with (at_builtin;refine appS rfl _ _ rfl (v:=.slice S k d) rfl (StrsO.bz (w:=w5) HO5.o bel) w5.heap.size (fmtX a.atoms[k]) rfl (by simp[sv,fmtX]) (by simp;omega) (by simp;omega) ?_;intro g2 d2 w2 o2 hg2 hB6));rw[List.length_map,List.length_take,Nat.min_eq_left hk] at o2;(try rw[List.length_map,List.length_take,Nat.min_eq_left hk]);have HB7:=ax ((HB5.o.alloc hz5 _).trans hB6)
     go_round
     case rel=>exact ⟨k+1,some ⟨g2,0,none⟩,d2,by omega,by go_num,by simp,by rw[hsn.o];exact o2,HB7⟩
     case measure=>simp[intOf];omega
    case' neg=>
     have hkn:k=a.atoms.length:=by omega
     have hki:¬(k:Int)<(a.atoms.length:Int):=by omega
     subst hkn;rw[List.take_length] at HO;have HJ:=ax (c_Join (lo:=w4.heap.size) (hi:=wr.heap.size) S d (a.atoms.map fmtX) [32,42,32] wr);rw[List.length_map,hX] at HJ;have hcap:a.atoms.length≤d:=strs_cap HO.o;have HTr2:=HTr;clear HTr;(go_wp2_with fail);refine (HJ.o HO.o.reads2 (by omega) (by omega) (by omega)).mono ?_;rintro e w7 ⟨rfl,hq⟩;replace HT:=ax (HTr2.o.bz hq);replace H1:=ax (H1.o.bz (bgo HB2.o hq));replace H2:=ax (H2.o.bz (bgo HB2.o hq));replace HB:=ax (bgo HB.o (bgo HB2.o hq));replace k0:=k0.nz (bgo HB2.o hq);clear hAT h0 h0' hX HO hz HB2 HTr2 HJ hq hki;(go_upto_region 20 with fail)
  all_goals
   have hs1:=addS (P:=Tryd.prog) FT [32,124,32] (by simp;omega) w7;have hs2:=addS (P:=Tryd.prog) (FT++[32,124,32]) AT (by simp;omega) w7;(go_wp2_with fail);go_ret;exact ⟨ret_str (by rw[HE.o];simp),HB.o⟩
end
end Go.Proofs.YtjaohekkmlkinaaDoor
