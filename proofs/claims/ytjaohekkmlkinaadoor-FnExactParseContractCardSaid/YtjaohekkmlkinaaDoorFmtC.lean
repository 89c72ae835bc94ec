/- Contracts: the text of a contract (both). -/
import Derived.Test.YtjaohekkmlkinaaDoorFmtA
import Derived.Test.YtjaohekkmlkinaaDoorBld
import Derived.Test.YtjaohekkmlkinaaDoorStrG
set_option linter.unusedSimpArgs false
set_option linter.unusedVariables false
namespace Go.Proofs.YtjaohekkmlkinaaDoor
open Go Go.RowKit Go.Proofs
def changesT (xs:List Int):Bs:=(xs.map fun x=>[32]++tnameL x).flatten
theorem changesT_snoc {xs:List Int} {n:Nat} (h:n<xs.length):changesT (xs.take (n+1))=changesT (xs.take n)++([32]++tnameL xs[n]):=by
 unfold changesT
 rw[List.take_add_one,List.getElem?_eq_getElem h,List.map_append,List.flatten_append];simp
theorem changesT_len:∀ (xs:List Int),(changesT xs).length≤xs.length * 4
 | []=>by simp[changesT]
 | x :: r=>by
  have h1:=changesT_len r
  have h2:=tnameL_len x
  unfold changesT at h1 ⊢
  simp only[List.map_cons,List.flatten_cons,List.length_append,List.length_cons,List.length_nil]
  omega
def headT (k:Ctr):Bs:=([112,114,101,32]++textA k.pre++[10])++([112,111,115,116,32]++textA k.post++[10])++[99,104,97,110,103,101,115]
def fmtC (k:Ctr):Bs:=if k.valid then headT k++changesT k.changes++[10] else []
section
variable {w w':World} {lo hi B g:Nat}
theorem CtrV.formS {v:Value} {k:Ctr} (h:CtrV w lo hi v k):∃ K1 K2 K3 K4 K5 K6 K7 K8 K9 K0,v=.agg #[.slice K1 k.pre.facts.length K2,.slice K3 k.pre.atoms.length K4,.slice K5 k.post.facts.length K6,.slice K7 k.post.atoms.length K8,.slice K9 k.changes.length K0]:=by
 obtain ⟨a1,a2,a3,a4,A5,c5,rfl,p,q,-⟩:=h
 obtain ⟨R1,e1,R2,e2,g1,-,-⟩:=p
 obtain ⟨R3,e3,R4,e4,g2,-,-⟩:=q
 simp only[Value.agg.injEq,Array.mk.injEq,List.cons.injEq,and_true] at g1 g2
 obtain ⟨rfl,rfl⟩:=g1
 obtain ⟨rfl,rfl⟩:=g2
 exact ⟨_,_,_,_,_,_,_,_,_,_,rfl⟩
theorem CtrV.ppre {k:Ctr} {a1 a2 a3 a4:Value} {A:Option Addr} {n c:Nat} (h:CtrV w lo hi (.agg #[a1,a2,a3,a4,.slice A n c]) k):AsnV w lo hi (.agg #[a1,a2]) k.pre:=by
 obtain ⟨b1,b2,b3,b4,A5,c5,e,g1,g2,g3⟩:=h
 simp only[Value.agg.injEq,Array.mk.injEq,List.cons.injEq,and_true,Value.slice.injEq] at e
 obtain ⟨rfl,rfl,rfl,rfl,rfl,rfl,rfl⟩:=e
 exact g1
theorem CtrV.ppost {k:Ctr} {a1 a2 a3 a4:Value} {A:Option Addr} {n c:Nat} (h:CtrV w lo hi (.agg #[a1,a2,a3,a4,.slice A n c]) k):AsnV w lo hi (.agg #[a3,a4]) k.post:=by
 obtain ⟨b1,b2,b3,b4,A5,c5,e,g1,g2,g3⟩:=h
 simp only[Value.agg.injEq,Array.mk.injEq,List.cons.injEq,and_true,Value.slice.injEq] at e
 obtain ⟨rfl,rfl,rfl,rfl,rfl,rfl,rfl⟩:=e
 exact g2
theorem CtrV.pch {k:Ctr} {a1 a2 a3 a4:Value} {A:Option Addr} {n c:Nat} (h:CtrV w lo hi (.agg #[a1,a2,a3,a4,.slice A n c]) k):IntsV w lo hi A k.changes:=by
 obtain ⟨b1,b2,b3,b4,A5,c5,e,g1,g2,g3⟩:=h
 simp only[Value.agg.injEq,Array.mk.injEq,List.cons.injEq,and_true,Value.slice.injEq] at e
 obtain ⟨rfl,rfl,rfl,rfl,rfl,rfl,rfl⟩:=e
 exact g3
theorem Blk.nb {t:TypeId} {cs:Array Value} (h:Blk w g t cs) (hb:Below B w w') (hg:g<B):Blk w' g t cs:=(hb.block g hg).trans h
theorem TN.nb (h:TN w) (hb:Below B w w') (hg:0<B):TN w':=⟨Nat.lt_of_lt_of_le h.1 hb.size,fun i hi=>by
 have:=hb.block 0 hg
 rw[show w'.cell? ⟨0,i,none⟩=w.cell? ⟨0,i,none⟩ by simp only[World.cell?,this]]
 exact h.2 i hi⟩
theorem CtrV.nb {v:Value} {k:Ctr} (h:CtrV w lo hi v k) (hb:Below B w w') (hg:hi≤B):CtrV w' lo hi v k:=by
 obtain ⟨a1,a2,a3,a4,A5,c5,e,⟨A1,c1,A2,c2,e1,p1,p2⟩,⟨A3,c3,A4,c4,e2,p3,p4⟩,p5⟩:=h
 exact ⟨a1,a2,a3,a4,A5,c5,e,⟨A1,c1,A2,c2,e1,p1.keep fun b _ hh=>hb.block b (by omega),p2.keep fun b _ hh=>hb.block b (by omega)⟩,⟨A3,c3,A4,c4,e2,p3.keep fun b _ hh=>hb.block b (by omega),p4.keep fun b _ hh=>hb.block b (by omega)⟩,Rd.keep p5 fun b _ hh=>hb.block b (by omega)⟩
end
set_option maxRecDepth 100000 in
set_option maxHeartbeats 6400000 in
theorem c_sFC {lo hi:Nat} (v:Value) (k:Ctr) (w:World) (h:CtrV w lo hi v k):Calls Tryd.prog 17 #[v] w fun e w'=>e=.returned (sv (fmtC k))∧Below w.heap.size w w':=by
 obtain ⟨K1,K2,K3,K4,K5,K6,K7,K8,K9,K0,rfl⟩:=h.formS
 have HC:=Lib.hid h
 clear h
 go_enter Tryd.func17,Tryd.ntmps17
 go_upto_region 1 with fail
 refine bx1 (w:=w) (F:=Code.wp _ _ _ _) ?_
 rintro W k0 hB -
 (replace qk0:=k0.cell;replace rk0:=k0.frozen;replace lk0:=k0.lt)
 go_wp2_with fail
 refine (c_spec_ContractValid _ k _ (HC.out.below hB)).mono ?_
 rintro e w1 ⟨rfl,hq⟩
 have HB:=Lib.hid (bgo hB hq)
 replace HC:=Lib.hid (HC.out.below HB.out)
 replace k0:=k0.next hq
 clear hB hq qk0 rk0 lk0
 cases hv:k.valid
 ·go_wp2_with fail
  go_ret
  exact ⟨ret_str (by unfold fmtC;rw[if_neg (by rw[hv];decide)]),HB.out⟩
 have hvk:=hv
 simp only[Ctr.valid,Bool.and_eq_true] at hvk
 have hvpre:k.pre.valid=true:=hvk.1.1
 have hvpost:k.post.valid=true:=hvk.1.2
 have hl1:(textA k.pre).length≤300:=by have:=textA_len k.pre;have:=valid_len hvpre;omega
 have hl2:(textA k.post).length≤300:=by have:=textA_len k.post;have:=valid_len hvpost;omega
 have hlc:k.changes.length≤1049600:=HC.out.pch.le
 have hct:∀ n,(changesT (k.changes.take n)).length≤4198400:=fun n=>by
  have:=changesT_len (k.changes.take n)
  have:(k.changes.take n).length≤k.changes.length:=by rw[List.length_take];omega
  omega
 have HF:Hid (fmtC k=headT k++changesT k.changes++[10]):=Lib.hid (by unfold fmtC;rw[if_pos hv])
 clear hv hvk
 have h1:=fun w:World=>addS (P:=Tryd.prog) [112,114,101,32] (textA k.pre) (by simp;omega) w
 go_wp2_with fail
 refine wp_region_noPanic ?_
 refine wp_region_held_drew (S:=(fun w'=>∀ i,w'.cell? ⟨w.heap.size,i,none⟩=#[.slice K1 k.pre.facts.length K2,.slice K3 k.pre.atoms.length K4,.slice K5 k.post.facts.length K6,.slice K7 k.post.atoms.length K8,.slice K9 k.changes.length K0][i]?)) (by kernel_rfl) (k0.drew.cell) (fun hHeld=>?_)
 have hdr:Below w1.heap.size w1 w1.drew:=(Below.refl _ _).drew
 replace k0:=k0.next hdr
 replace HC:=Lib.hid (HC.out.below hdr)
 replace HB:=Lib.hid (bgo HB.out hdr)
 clear hdr
 generalize w1.drew=V at *
 refine tk 0 ?_ rfl (fun w hSw=>?_) hHeld ?_
 rotate_left
 ·((try dsimp only at hSw);go_split_ands;go_simp;(try with_reducible rfl))
 try simp only[Act.put,zA,zB,zC,zD,zE,zF]
 refine tk 1 ?_ rfl (fun w hSw=>?_) hHeld ?_
 rotate_left
 ·((try dsimp only at hSw);go_split_ands;go_simp;(try with_reducible rfl))
 try simp only[Act.put,zA,zB,zC,zD,zE,zF]
 refine tk 5 ?_ rfl (fun w hSw=>?_) hHeld ?_
 rotate_left
 ·((try dsimp only at hSw);go_split_ands;go_simp;(try with_reducible rfl))
 try simp only[Act.put,zA,zB,zC,zD,zE,zF]
 refine tk 6 ?_ rfl (fun w hSw=>?_) hHeld ?_
 rotate_left
 ·((try dsimp only at hSw);go_split_ands;go_simp;(try with_reducible rfl))
 try simp only[Act.put,zA,zB,zC,zD,zE,zF]
 refine rdc 2 rfl fun K hK=>?_
 try simp only[zA,zB,zC]
 (go_simp;refine (c_l3Text _ k.pre _ HC.out.ppre).mono ?_;rintro e w2 ⟨rfl,hq⟩;replace k0:=k0.next hq;replace HC:=Lib.hid (HC.out.below hq);replace HB:=Lib.hid (bgo HB.out hq);clear hq)
 refine hK.out _ _ (k0.cell) ?_
 clear hHeld hK K
 intro hHeld
 try simp only[Act.put,zA,zB,zC,zD,zE,zF]
 refine tk 3 ?_ rfl (fun w hSw=>?_) hHeld ?_
 rotate_left
 ·((try dsimp only at hSw);go_split_ands;go_simp;(try with_reducible rfl))
 try simp only[Act.put,zA,zB,zC,zD,zE,zF]
 obtain ⟨P1,hP1⟩:∃ P,P=112 :: 114 :: 101 :: 32 :: textA k.pre:=⟨_,rfl⟩
 rw[←hP1]
 have hL1:P1.length≤310:=by rw[hP1];simp;omega
 replace hP1:=Lib.hid hP1
 have h2:=fun w:World=>addS (P:=Tryd.prog) P1 [10,112,111,115,116,32] (by simp;omega) w
 refine tk 4 ?_ rfl (fun w hSw=>?_) hHeld ?_
 rotate_left
 ·((try dsimp only at hSw);go_split_ands;go_simp;(try with_reducible rfl))
 try simp only[Act.put,zA,zB,zC,zD,zE,zF]
 obtain ⟨P2,hP2⟩:∃ P,P=P1++[10,112,111,115,116,32]:=⟨_,rfl⟩
 rw[←hP2]
 have hL2:P2.length≤320:=by rw[hP2];simp;omega
 replace hP2:=Lib.hid hP2
 have h3:=fun w:World=>addS (P:=Tryd.prog) P2 (textA k.post) (by omega) w
 refine rdc 7 rfl fun K hK=>?_
 try simp only[zA,zB,zC]
 (go_simp;refine (c_l3Text _ k.post _ HC.out.ppost).mono ?_;rintro e w3 ⟨rfl,hq⟩;replace k0:=k0.next hq;replace HC:=Lib.hid (HC.out.below hq);replace HB:=Lib.hid (bgo HB.out hq);clear hq)
 refine hK.out _ _ (k0.cell) ?_
 clear hHeld hK K
 intro hHeld
 try simp only[Act.put,zA,zB,zC,zD,zE,zF]
 refine tk 8 ?_ rfl (fun w hSw=>?_) hHeld ?_
 rotate_left
 ·((try dsimp only at hSw);go_split_ands;go_simp;(try with_reducible rfl))
 try simp only[Act.put,zA,zB,zC,zD,zE,zF]
 obtain ⟨P3,hP3⟩:∃ P,P=P2++textA k.post:=⟨_,rfl⟩
 rw[←hP3]
 have hL3:P3.length≤700:=by rw[hP3];simp;omega
 replace hP3:=Lib.hid hP3
 have h4:=fun w:World=>addS (P:=Tryd.prog) P3 [10,99,104,97,110,103,101,115] (by simp;omega) w
 refine tk 9 ?_ rfl (fun w hSw=>?_) hHeld ?_
 rotate_left
 ·((try dsimp only at hSw);go_split_ands;go_simp;(try with_reducible rfl))
 try simp only[Act.put,zA,zB,zC,zD,zE,zF]
 refine tk 10 ?_ rfl (fun w hSw=>?_) hHeld ?_
 rotate_left
 ·((try dsimp only at hSw);go_split_ands;go_simp;(try with_reducible rfl))
 try simp only[Act.put,zA,zB,zC,zD,zE,zF]
 refine wpAnyH_done (by kernel_rfl) ?_ _
 refine NoPanic.normal ?_
 clear hHeld h1 h2 h3 h4
 obtain ⟨H,hH⟩:∃ H,H=headT k:=⟨_,rfl⟩
 have hlH:H.length≤700:=by rw[hH];unfold headT;simp;omega
 have hHe:P3++[10,99,104,97,110,103,101,115]=H:=by rw[hH,hP3.out,hP2.out,hP1.out];unfold headT;simp
 rw[←hH] at HF
 clear hH hP1 hP2 hP3
 rw[hHe]
 clear hHe hL1 hL2 hL3
 (replace qk0:=k0.cell;replace rk0:=k0.frozen;replace lk0:=k0.lt)
 go_wp2_with fail
 go_loopw [3,4] (fun o i wr=>∃ n:Nat,n≤k.changes.length∧i=.int .i64 n∧o=sv (H++changesT (k.changes.take n))∧wr=w3) (fun _ i _=>k.changes.length - (intOf i).toNat)
 case atStart=>exact ⟨0,Nat.zero_le _,rfl,by simp[changesT],rfl⟩
 case round=>
  obtain ⟨n,hn,rfl,rfl,rfl⟩:=hrel
  have hcn:=hct n
  by_cases hlt:n<k.changes.length
  ·have hni:(n:Int)<(k.changes.length:Int):=by omega
   have hsn:=Lib.hid (changesT_snoc hlt)
   obtain ⟨cb,co,rfl,q0⟩:=HC.out.pch.at hlt
   have htn:=tnameL_len k.changes[n]
   obtain ⟨x,hx⟩:∃ x,x=k.changes[n]:=⟨_,rfl⟩
   rw[←hx] at hsn q0 htn
   clear hx
   obtain ⟨Y,hY⟩:∃ Y,Y=H++changesT (k.changes.take n):=⟨_,rfl⟩
   have hlY:Y.length≤4200000:=by rw[hY];simp;omega
   rw[←hY]
   replace hY:=Lib.hid hY
   have hs5:=addS (P:=Tryd.prog) Y [32] (by simp;omega) wr
   have hs6:=addS (P:=Tryd.prog) (Y++[32]) (tnameL x) (by simp;omega) wr
   go_wp2_with (go_at_call 49;refine (c_TermName _ _).mono ?_;rintro e w' ⟨rfl,rfl⟩)
   go_round
   case rel=>exact ⟨n+1,by omega,by go_num,by rw[hsn.out,←List.append_assoc,←hY.out];simp,by first|rfl|trivial⟩
   case measure=>simp[intOf];omega
  ·have hkn:n=k.changes.length:=by omega
   have hni:¬(n:Int)<(k.changes.length:Int):=by omega
   subst hkn
   rw[List.take_length] at hcn ⊢
   have hs5:=addS (P:=Tryd.prog) (H++changesT k.changes) [10] (by simp;omega) wr
   go_wp2_with fail
   go_ret
   exact ⟨ret_str (by rw[HF.out];simp),HB.out⟩
end Go.Proofs.YtjaohekkmlkinaaDoor
