/- Contracts: the first line of a command as a text (spec.l8Line). -/
import Derived.Test.YtjaohekkmlkinaaGreatMbPrgD
set_option linter.unusedSimpArgs false
set_option linter.unusedVariables false
set_option maxRecDepth 100000
set_option maxHeartbeats 25600000
namespace Go.Proofs.YtjaohekkmlkinaaGreat
section
open Go Go.RowKit Go.Proofs
theorem c_l8Line {lo hi:Nat} (k a b:Int) (t:Fct) (i:Asn) (A1 A2 A3 A4:Option Addr) (c1 c2 n3 c3 n4 c4:Nat) (w:World) (h:AsnV w lo hi (.agg #[.slice A1 i.facts.length c1,.slice A2 i.atoms.length c2]) i) :
  Calls Tryz.prog 280 #[.agg #[.int .i64 k,.int .i64 a,.int .i64 b,.bool t.eq,.int .i64 t.a,.int .i64 t.b,.slice A1 i.facts.length c1,.slice A2 i.atoms.length c2,.slice A3 n3 c3,.slice A4 n4 c4]] w fun e w'=>e=.returned (sv (lineL k a b t i))∧Below w.heap.size w w':=by
 obtain ⟨hl1,hl2⟩:i.facts.length≤1049600∧i.atoms.length≤1049600:=by
  obtain ⟨B1,d1,B2,d2,e,h1,h2⟩:=h;exact ⟨h1.le,h2.le⟩
 have HV:=ax h;have la:=tnameL_len a;have lb:=tnameL_len b;have lt:=fmtF_len t;have li:=textA_len i;have ca:=c_TermName a;have cb:=c_TermName b;have ct:=c_l1Text t;have ci:=fun w h=>c_l3Text (lo:=lo) (hi:=hi) (.agg #[.slice A1 i.facts.length c1,.slice A2 i.atoms.length c2]) i w h;obtain ⟨NA,hNA⟩:∃ N,N=tnameL a:=⟨_,rfl⟩;obtain ⟨NB,hNB⟩:∃ N,N=tnameL b:=⟨_,rfl⟩;obtain ⟨NT,hNT⟩:∃ N,N=fmtF t:=⟨_,rfl⟩;obtain ⟨NI,hNI⟩:∃ N,N=textA i:=⟨_,rfl⟩
 have hL:aJ (lineL k a b t i=if k=1 then NA++[58,61]++NB else if k=2 then NA++[58,61,91]++NB++[93] else if k=3 then [91]++NA++[93,58,61]++NB
  else if k=4 then [110,101,119,32]++NA else if k=5 then [102,114,101,101,32]++NA else if k=6 then [105,102,32]++NT else [119,104,105,108,101,32]++NT++[32,119,105,116,104,32]++NI):=ax (by rw[hNA,hNB,hNT,hNI];rfl)
 rw[←hNA] at la ca;rw[←hNB] at lb cb;rw[←hNT] at lt ct;rw[←hNI] at li ci;replace ca:=ax ca;replace cb:=ax cb;replace ct:=ax ct;replace ci:=ax ci;clear hNA hNB hNT hNI h;obtain ⟨te,ta,tb⟩:=t;unfold Fct.val at ct;simp only at ct ⊢;have k0:Blk (w.alloc (.cells #[.int .i64 k,.int .i64 a,.int .i64 b,.bool te,.int .i64 ta,.int .i64 tb,.slice A1 i.facts.length c1,.slice A2 i.atoms.length c2,.slice A3 n3 c3,.slice A4 n4 c4] tC)) w.heap.size tC #[.int .i64 k,.int .i64 a,.int .i64 b,.bool te,.int .i64 ta,.int .i64 tb,.slice A1 i.facts.length c1,.slice A2 i.atoms.length c2,.slice A3 n3 c3,.slice A4 n4 c4]:=Blk.new _ _ _;have hB0:Below w.heap.size w (w.alloc (.cells #[.int .i64 k,.int .i64 a,.int .i64 b,.bool te,.int .i64 ta,.int .i64 tb,.slice A1 i.facts.length c1,.slice A2 i.atoms.length c2,.slice A3 n3 c3,.slice A4 n4 c4] tC)):=bbox (Below.refl _ _) _;(go_enter Tryz.func280,Tryz.ntmps280);(replace qk0:=k0.z);(go_wp2_with fail);refine (ca.o _).mono ?_;rintro e w1 ⟨rfl,rfl⟩;(go_wp2_with fail);refine (cb.o _).mono ?_;rintro e w1 ⟨rfl,rfl⟩;have hBh:=ax hB0;by_cases h1:k=1
 ·have b1:(k == 1)=true:=by simp[h1]
  obtain ⟨S0,e0,n0⟩:=addO (P:=Tryz.prog) NA [58,61] (by first|omega|(simp;omega));have l0:S0.length≤10:=by rw[e0.o];simp;omega
  obtain ⟨S1,e1,n1⟩:=addO (P:=Tryz.prog) S0 NB (by first|omega|(simp;omega));have hR:aJ (lineL k a b ⟨te,ta,tb⟩ i=S1):=ax (by rw[hL.o,if_pos h1,e1.o,e0.o]);clear hL h1;(go_wp2_with fail);go_ret;exact ⟨ret_str hR.o.symm,hBh.o⟩
 have b1:(k == 1)=false:=by simp[h1]
 by_cases h2:k=2
 ·have b2:(k == 2)=true:=by simp[h2]
  obtain ⟨S0,e0,n0⟩:=addO (P:=Tryz.prog) NA [58,61,91] (by first|omega|(simp;omega));have l0:S0.length≤10:=by rw[e0.o];simp;omega
  obtain ⟨S1,e1,n1⟩:=addO (P:=Tryz.prog) S0 NB (by first|omega|(simp;omega));have l1:S1.length≤20:=by rw[e1.o];simp;omega
  obtain ⟨S2,e2,n2⟩:=addO (P:=Tryz.prog) S1 [93] (by first|omega|(simp;omega));have hR:aJ (lineL k a b ⟨te,ta,tb⟩ i=S2):=ax (by rw[hL.o,if_neg h1,if_pos h2,e2.o,e1.o,e0.o]);clear hL h2;(go_wp2_with fail);go_ret;exact ⟨ret_str hR.o.symm,hBh.o⟩
 have b2:(k == 2)=false:=by simp[h2]
 by_cases h3:k=3
 ·have b3:(k == 3)=true:=by simp[h3]
  obtain ⟨S0,e0,n0⟩:=addO (P:=Tryz.prog) [91] NA (by first|omega|(simp;omega));have l0:S0.length≤10:=by rw[e0.o];simp;omega
  obtain ⟨S1,e1,n1⟩:=addO (P:=Tryz.prog) S0 [93,58,61] (by first|omega|(simp;omega));have l1:S1.length≤20:=by rw[e1.o];simp;omega
  obtain ⟨S2,e2,n2⟩:=addO (P:=Tryz.prog) S1 NB (by first|omega|(simp;omega));have hR:aJ (lineL k a b ⟨te,ta,tb⟩ i=S2):=ax (by rw[hL.o,if_neg h1,if_neg h2,if_pos h3,e2.o,e1.o,e0.o]);clear hL h3;(go_wp2_with fail);go_ret;exact ⟨ret_str hR.o.symm,hBh.o⟩
 have b3:(k == 3)=false:=by simp[h3]
 by_cases h4:k=4
 ·have b4:(k == 4)=true:=by simp[h4]
  obtain ⟨S0,e0,n0⟩:=addO (P:=Tryz.prog) [110,101,119,32] NA (by first|omega|(simp;omega));have hR:aJ (lineL k a b ⟨te,ta,tb⟩ i=S0):=ax (by rw[hL.o,if_neg h1,if_neg h2,if_neg h3,if_pos h4,e0.o]);clear hL h4;(go_wp2_with fail);go_ret;exact ⟨ret_str hR.o.symm,hBh.o⟩
 have b4:(k == 4)=false:=by simp[h4]
 by_cases h5:k=5
 ·have b5:(k == 5)=true:=by simp[h5]
  obtain ⟨S0,e0,n0⟩:=addO (P:=Tryz.prog) [102,114,101,101,32] NA (by first|omega|(simp;omega));have hR:aJ (lineL k a b ⟨te,ta,tb⟩ i=S0):=ax (by rw[hL.o,if_neg h1,if_neg h2,if_neg h3,if_neg h4,if_pos h5,e0.o]);clear hL h5;(go_wp2_with fail);go_ret;exact ⟨ret_str hR.o.symm,hBh.o⟩
 have b5:(k == 5)=false:=by simp[h5]
 by_cases h6:k=6
 ·have b6:(k == 6)=true:=by simp[h6]
  obtain ⟨S0,e0,n0⟩:=addO (P:=Tryz.prog) [105,102,32] NT (by simp;omega);have hR:aJ (lineL k a b ⟨te,ta,tb⟩ i=S0):=ax (by rw[hL.o,if_neg h1,if_neg h2,if_neg h3,if_neg h4,if_neg h5,if_pos h6,e0.o]);clear hL h1 h2 h3 h4 h5 h6;(go_wp2_with fail);refine (ct.o _).mono ?_;rintro e w2 ⟨rfl,hB2⟩;have hB2':=ax (bgo hBh.o hB2);(go_wp2_with fail);go_ret;exact ⟨ret_str hR.o.symm,hB2'.o⟩
 have b6:(k == 6)=false:=by simp[h6]
 obtain ⟨S0,e0,n0⟩:=addO (P:=Tryz.prog) [119,104,105,108,101,32] NT (by simp;omega);have l0:S0.length≤20:=by rw[e0.o];simp;omega
 obtain ⟨S1,e1,n1⟩:=addO (P:=Tryz.prog) S0 [32,119,105,116,104,32] (by simp;omega);have l1:S1.length≤30:=by rw[e1.o];simp;omega
 obtain ⟨S2,e2,n2⟩:=addO (P:=Tryz.prog) S1 NI (by omega);have hR:aJ (lineL k a b ⟨te,ta,tb⟩ i=S2):=ax (by rw[hL.o,if_neg h1,if_neg h2,if_neg h3,if_neg h4,if_neg h5,if_neg h6,e2.o,e1.o,e0.o]);clear hL h1 h2 h3 h4 h5 h6 l0 l1;(go_wp2_with fail)
 go_region_held3 (fun w'=>(∀ j,w'.cell? ⟨w.heap.size,j,none⟩=#[.int .i64 k,.int .i64 a,.int .i64 b,.bool te,.int .i64 ta,.int .i64 tb,.slice A1 i.facts.length c1,.slice A2 i.atoms.length c2,.slice A3 n3 c3,.slice A4 n4 c4][j]?))
  (exact Blk.cell blks)
  (first
   | (go_at_call 277;refine (ct.o _).mono ?_;rintro e w2 ⟨rfl,hB2⟩;have hBw2:=bgo (w:=w) bel hB2;have m0:=Blk.nz (g:=w.heap.size) blks hB2;have m0c:=m0.cell;have m0f:=m0.frozen)
   | (go_at_call 240;refine (ci.o _ (HV.o.bz bel)).mono ?_;rintro e w3 ⟨rfl,hB3⟩;have hBw3:=bgo (w:=w) bel hB3;have p0:=Blk.nz (g:=w.heap.size) blks hB3;have p0c:=p0.cell;have p0f:=p0.frozen))
 all_goals
  (go_wp2_with fail);go_ret;exact ⟨ret_str hR.o.symm,bel⟩
theorem textL_cons (k a b:Int) (t:Fct) (i:Asn) (body els r:Cms):textL (.cons k a b t i body els r)=lineL k a b t i++[10]++textL body++(if 0<els.len then [101,108,115,101,10]++textL els else [])++(if k=6∨k=7 then [101,110,100,10] else [])++textL r:=by rw[textL]
theorem l8Text_go:∀ (N:Nat) (L:Cms),L.sz<N→∀ (A:Option Addr) (c d lo hi:Nat) (w:World),CmsV w lo hi A L→L.len≤1049600→L.small 1049600→L.shape d=true→L.sz≤16→
  Calls Tryz.prog 242 #[.slice A L.len c] w fun e w'=>e=.returned (sv (textL L))∧Below w.heap.size w w':=by
 intro N
 induction N with
 | zero=>intro L h;omega
 | succ N IH=>
  intro L hsz A c d lo hi w hV hlen hsm hsh hcz;replace IH:=ax IH;replace hV:=ax hV;replace hsm:=ax hsm;replace hsz:=ax hsz;have hTL:=textL_len hsh;obtain ⟨R,hR⟩:∃ R,R=textL L:=⟨_,rfl⟩;have hRl:R.length≤4000:=by rw[hR];omega
  replace hcz:=ax hcz;replace hsh:=ax hsh;obtain ⟨n,hn⟩:∃ n,n=L.len:=⟨_,rfl⟩;rw[←hn,←hR];rw[←hn] at hlen;replace hn:=ax hn;replace hR:=ax hR;clear hTL;(go_enter Tryz.func242,Tryz.ntmps242);(go_wp2_with fail)
  go_loopw [3,4] (fun y x wr=>∃ (j:Nat) (X:Bs),j≤n∧x=.int .i64 j∧y=sv X∧aJ (X++textL (L.drop j)=R)∧aJ (Below w.heap.size w wr)) (fun _ x _=>n - (intOf x).toNat)
  case atStart=>exact ⟨0,[],Nat.zero_le _,rfl,rfl,ax hR.o.symm,ax bel⟩
  case round=>
   obtain ⟨j,X,hj,rfl,rfl,HR,HB⟩:=hrel;have hXl:X.length≤4000:=by have h:=congrArg List.length HR.o;rw[List.length_append] at h;omega
   by_cases hlt:j<n
   ·have hlti:(j:Int)<(n:Int):=by omega
    have hpos:0<(L.drop j).len:=by rw[Cms.drop_len,←hn.o];omega
    obtain ⟨k,a,b,t,i,body,els,r,eL⟩:=Cms.cons_of_len hpos;obtain ⟨bl,o,rfl,-,-,hAt⟩:=(hV.o.bz HB.o) (by rw[←hn.o];omega);have hD:=hAt.drop j;have hS:=Cms.small_drop j hsm.o;have hZ:=Cms.sz_drop j L;have hSh:=Cms.shape_drop j hsh.o;have hDs:=Cms.drop_succ j L eL;have HR':=HR.o;rw[eL] at hD hS hZ HR' hSh;obtain ⟨⟨p0,p1,p2,p3,p4,p5⟩,⟨A6,c6,p6,g6⟩,⟨A7,c7,p7,g7⟩,⟨A8,c8,p8,g8⟩,⟨A9,c9,p9,g9⟩,-⟩:=hD;obtain ⟨s1,s2,s3,s4,s5,s6,-⟩:=hS;simp only[Cms.sz] at hZ;simp only[Cms.shape,Bool.and_eq_true] at hSh;have hbs:body.sz<N:=by have:=hsz.o;omega
    have hes:els.sz<N:=by have:=hsz.o;omega
    have hbz:body.sz≤16:=by have:=hcz.o;omega
    have hez:els.sz≤16:=by have:=hcz.o;omega
    have gB:aJ (CmsV wr lo hi A8 body):=g8;have gE:aJ (CmsV wr lo hi A9 els):=g9;have gI:aJ (AsnV wr lo hi (.agg #[.slice A6 i.facts.length c6,.slice A7 i.atoms.length c7]) i):=ax ⟨A6,c6,A7,c7,rfl,⟨g6,s1⟩,⟨g7,s2⟩⟩;have hfi:=fval_inv hSh.2.1;have lln:=lineL_len (k:=k) (a:=a) (b:=b) (t:=t) hfi.1 hfi.2;have lbd:=textL_len hSh.2.2.1;have lel:=textL_len hSh.2.2.2.1;rw[←hDs,textL_cons] at HR';have cl:=fun W h=>c_l8Line (lo:=lo) (hi:=hi) k a b t i A6 A7 A8 A9 c6 c7 body.len c8 els.len c9 W h;have cB:=fun W h=>IH.o body hbs A8 c8 (d - 1) lo hi W h s3 s5 hSh.2.2.1 hbz;have cE:=fun W h=>IH.o els hes A9 c9 (d - 1) lo hi W h s4 s6 hSh.2.2.2.1 hez;obtain ⟨LN,hLN⟩:∃ x,x=lineL k a b t i:=⟨_,rfl⟩;obtain ⟨TB,hTB⟩:∃ x,x=textL body:=⟨_,rfl⟩;obtain ⟨TE,hTE⟩:∃ x,x=textL els:=⟨_,rfl⟩;rw[←hLN] at HR' lln cl;rw[←hTB] at HR' lbd cB;rw[←hTE] at HR' lel cE;obtain ⟨te,ta,tb⟩:=t;simp only at p3 p4 p5 cl;have lbd':TB.length≤4000:=by omega
    have lel':TE.length≤4000:=by omega
    have hbl:bl<wr.heap.size:=block_lt_of_cell p0;replace HR':=ax HR';replace cl:=ax cl;replace cB:=ax cB;replace cE:=ax cE;have hj1:=ax (show ((j+1:Nat):Int)=(j:Int)+1 by omega);clear HR hLN hTB hTE hSh hfi hZ s5 s6 s1 s2 g6 g7 g8 g9 hAt eL hDs hpos lbd lel hbs hes hbz hez;obtain ⟨S1,e1,n1⟩:=addO (P:=Tryz.prog) X LN (by omega);have l1:S1.length≤4300:=by rw[e1.o,List.length_append];omega
    obtain ⟨S2,e2,n2⟩:=addO (P:=Tryz.prog) S1 [10] (by simp;omega);have l2:S2.length≤4400:=by rw[e2.o,List.length_append];simp;omega
    obtain ⟨S3,e3,n3⟩:=addO (P:=Tryz.prog) S2 TB (by omega);have l3:S3.length≤9000:=by rw[e3.o,List.length_append];omega
    have E3:aJ (S3=X++LN++[10]++TB):=ax (by rw[e3.o,e2.o,e1.o]);clear l1 l2 e1 e2 e3 lln hXl;have k0:Blk (wr.alloc (.cells #[.int .i64 k,.int .i64 a,.int .i64 b,.bool te,.int .i64 ta,.int .i64 tb,.slice A6 i.facts.length c6,.slice A7 i.atoms.length c7,.slice A8 body.len c8,.slice A9 els.len c9] tC)) wr.heap.size tC #[.int .i64 k,.int .i64 a,.int .i64 b,.bool te,.int .i64 ta,.int .i64 tb,.slice A6 i.facts.length c6,.slice A7 i.atoms.length c7,.slice A8 body.len c8,.slice A9 els.len c9]:=Blk.new _ _ _;have hz:=HB.o.size;(go_wp2_with fail)
    go_region_held3 (fun w'=>(∀ q,w'.cell? ⟨wr.heap.size,q,none⟩=#[.int .i64 k,.int .i64 a,.int .i64 b,.bool te,.int .i64 ta,.int .i64 tb,.slice A6 i.facts.length c6,.slice A7 i.atoms.length c7,.slice A8 body.len c8,.slice A9 els.len c9][q]?))
     (exact Blk.cell blks)
     (first
      | (go_at_call 280;refine (cl.o _ (gI.o.bz bel)).mono ?_;rintro e w2 ⟨rfl,hB2⟩;have hBw2:=bgo (w:=wr) bel hB2;have m0:=Blk.nz (g:=wr.heap.size) blks hB2;have m0c:=m0.cell;have m0f:=m0.frozen)
      | (go_at_call 242;refine (cB.o _ (gB.o.bz bel)).mono ?_;rintro e w3 ⟨rfl,hB3⟩;have hBw3:=bgo (w:=wr) bel hB3;have p0:=Blk.nz (g:=wr.heap.size) blks hB3;have p0c:=p0.cell;have p0f:=p0.frozen))
    all_goals
     have HBx:aJ (Below wr.heap.size wr _):=ax hBw3;clear hBw3 hBw2 hB2 hB3 m0 m0c m0f;by_cases hel:0<els.len
     ·have heli:(0:Int)<(els.len:Int):=by omega
      obtain ⟨S4,e4,n4⟩:=addO (P:=Tryz.prog) S3 [101,108,115,101,10] (by simp;omega);have l4:S4.length≤9100:=by rw[e4.o,List.length_append];simp;omega
      obtain ⟨S5,e5,n5⟩:=addO (P:=Tryz.prog) S4 TE (by omega);have l5:S5.length≤14000:=by rw[e5.o,List.length_append];omega
      have E5:aJ (S5=X++LN++[10]++TB++([101,108,115,101,10]++TE)):=ax (by rw[e5.o,e4.o,E3.o,List.append_assoc]);replace HR':aJ (S5++((if k=6∨k=7 then [101,110,100,10] else [])++textL (L.drop (j+1)))=R):=ax (by rw[E5.o,←HR'.o,if_pos hel];simp only[List.append_assoc]);clear e4 e5 E5 E3 hel l4;(go_wp2_with fail);refine (cE.o _ (gE.o.bz HBx.o)).mono ?_;rintro e w4 ⟨rfl,hB4⟩;have HB4:=ax (bgo HBx.o hB4);have q0:=p0.nz hB4;clear hB4 HBx p0c p0f p0;have q0c:=q0.cell;have q0f:=q0.frozen;by_cases h6:k=6
      ·have b6:(k == 6)=true:=by simp[h6]
       obtain ⟨S6,e6,n6⟩:=addO (P:=Tryz.prog) S5 [101,110,100,10] (by simp;omega);have HR2:aJ (S6++textL (L.drop (j+1))=R):=ax (by rw[e6.o,←HR'.o,if_pos (Or.inl h6),List.append_assoc]);clear h6 e6;(go_wp2_with fail)
       go_round
       case rel=>exact ⟨j+1,S6,by omega,by go_num,rfl,HR2,ax (bgo HB.o HB4.o)⟩
       case measure=>simp[intOf];omega
      have b6:(k == 6)=false:=by simp[h6]
      by_cases h7:k=7
      ·have b7:(k == 7)=true:=by simp[h7]
       obtain ⟨S6,e6,n6⟩:=addO (P:=Tryz.prog) S5 [101,110,100,10] (by simp;omega);have HR2:aJ (S6++textL (L.drop (j+1))=R):=ax (by rw[e6.o,←HR'.o,if_pos (Or.inr h7),List.append_assoc]);clear h6 h7 e6;(go_wp2_with fail)
       go_round
       case rel=>exact ⟨j+1,S6,by omega,by go_num,rfl,HR2,ax (bgo HB.o HB4.o)⟩
       case measure=>simp[intOf];omega
      have b7:(k == 7)=false:=by simp[h7]
      have HR2:aJ (S5++textL (L.drop (j+1))=R):=ax (by rw[←HR'.o,if_neg (by rintro (h|h)<;>contradiction),List.nil_append]);clear h6 h7;(go_wp2_with fail)
      go_round
      case rel=>exact ⟨j+1,S5,by omega,by go_num,rfl,HR2,ax (bgo HB.o HB4.o)⟩
      case measure=>simp[intOf];omega
     ·have heli:¬(0:Int)<(els.len:Int):=by omega
      replace HR':aJ (S3++((if k=6∨k=7 then [101,110,100,10] else [])++textL (L.drop (j+1)))=R):=ax (by rw[E3.o,←HR'.o,if_neg hel];simp only[List.append_assoc,List.append_nil,List.nil_append]);clear E3 hel;by_cases h6:k=6
      ·have b6:(k == 6)=true:=by simp[h6]
       obtain ⟨S6,e6,n6⟩:=addO (P:=Tryz.prog) S3 [101,110,100,10] (by simp;omega);have HR2:aJ (S6++textL (L.drop (j+1))=R):=ax (by rw[e6.o,←HR'.o,if_pos (Or.inl h6),List.append_assoc]);clear h6 e6;(go_wp2_with fail)
       go_round
       case rel=>exact ⟨j+1,S6,by omega,by go_num,rfl,HR2,ax (bgo HB.o HBx.o)⟩
       case measure=>simp[intOf];omega
      have b6:(k == 6)=false:=by simp[h6]
      by_cases h7:k=7
      ·have b7:(k == 7)=true:=by simp[h7]
       obtain ⟨S6,e6,n6⟩:=addO (P:=Tryz.prog) S3 [101,110,100,10] (by simp;omega);have HR2:aJ (S6++textL (L.drop (j+1))=R):=ax (by rw[e6.o,←HR'.o,if_pos (Or.inr h7),List.append_assoc]);clear h6 h7 e6;(go_wp2_with fail)
       go_round
       case rel=>exact ⟨j+1,S6,by omega,by go_num,rfl,HR2,ax (bgo HB.o HBx.o)⟩
       case measure=>simp[intOf];omega
      have b7:(k == 7)=false:=by simp[h7]
      have HR2:aJ (S3++textL (L.drop (j+1))=R):=ax (by rw[←HR'.o,if_neg (by rintro (h|h)<;>contradiction),List.nil_append]);clear h6 h7;(go_wp2_with fail)
      go_round
      case rel=>exact ⟨j+1,S3,by omega,by go_num,rfl,HR2,ax (bgo HB.o HBx.o)⟩
      case measure=>simp[intOf];omega
   ·obtain rfl:j=n:=by omega
    have hE:aJ (X=R):=ax (by have h:=HR.o;rw[hn.o,Cms.drop_all,textL,List.append_nil] at h;exact h);(go_wp2_with fail);go_ret;exact ⟨ret_str hE.o,HB.o⟩
theorem c_FormatProgram {lo hi:Nat} (L:Cms) (A:Option Addr) (c:Nat) (w:World) (hV:CmsV w lo hi A L) (hlen:L.len≤1049600) (hsm:L.small 1049600) (hz:L.sz≤1049600) :
  Calls Tryz.prog 195 #[.slice A L.len c] w fun e w'=>e=.returned (sv (fmtP L))∧Below w.heap.size w w':=by
 have HV:=ax hV;have cp:=ax (fun W h=>c_spec_ProgramValid (lo:=lo) (hi:=hi) L A c W h hlen hsm hz);have cT:=ax (fun W h h1 h2=>l8Text_go (L.sz+1) L (Nat.lt_succ_self _) A c 4 lo hi W h hlen hsm h1 h2);clear hV hsm hz;(go_enter Tryz.func195,Tryz.ntmps195);(go_wp2_with fail);refine (cp.o _ HV.o).mono ?_;rintro e w1 ⟨rfl,hB1⟩;have HB1:=ax hB1;clear hB1;cases hp:L.prog
 ·have hR:aJ (fmtP L=[]):=ax (by unfold fmtP;rw[hp];rfl);clear hp;(go_wp2_with fail);go_ret;exact ⟨ret_str hR.o.symm,HB1.o⟩
 ·have hR:aJ (fmtP L=textL L):=ax (by unfold fmtP;rw[if_pos hp]);have hs:=ax (prog_shape hp);clear hp;(go_wp2_with fail);refine (cT.o _ (HV.o.bz HB1.o) hs.o.1 hs.o.2).mono ?_;rintro e w2 ⟨rfl,hB2⟩;(go_wp2_with fail);go_ret;exact ⟨ret_str hR.o.symm,bgo HB1.o hB2⟩
def Cms.invs:Cms→Prop
 | .nil=>True
 | .cons _ _ _ _ i body els r=>(i.facts.length≤12∧i.atoms.length≤6)∧body.invs∧els.invs∧r.invs
theorem Cms.invs_small {n:Nat} (h12:12≤n):∀ {L:Cms},L.invs→L.sz≤n→L.small n
 | .nil,_,_=>trivial
 | .cons k a b t i body els r,h,hs=>by
  simp only[Cms.sz] at hs;have h1:=Cms.len_sz body;have h2:=Cms.len_sz els;exact ⟨by have:=h.1.1;omega,by have:=h.1.2;omega,by omega,by omega,Cms.invs_small h12 h.2.1 (by omega),Cms.invs_small h12 h.2.2.1 (by omega),Cms.invs_small h12 h.2.2.2 (by omega)⟩
theorem pA_short (l:Bs):(pA l).facts.length≤12∧(pA l).atoms.length≤6:=by
 unfold pA
 cases h:parseA l with
 | none=>simp
 | some a=>exact Asn.valid_len (parseA_valid h).1
theorem headF_short (l:Bs):(headF l).i.facts.length≤12∧(headF l).i.atoms.length≤6:=by
 unfold headF
 split
 ·simp[asgnPF]
 ·unfold wordF
  repeat' split
  ·simp
  ·simp
  ·simp
  ·exact pA_short _
theorem one1_invs {l:Bs} {body els r:Cms} (h1:body.invs) (h2:els.invs) (h3:r.invs):(Cms.one1 (headF l) body els r).invs:=⟨headF_short l,h1,h2,h3⟩
theorem blkF_invs (ls:List Bs):∀ (n p d:Nat),(blkF ls n p d).1.invs
 | 0,p,d=>trivial
 | n+1,p,d=>by
  have I:=blkF_invs ls n;unfold blkF
  split
  ·split
   ·split
    ·trivial
    ·split
     ·rename_i body hb;exact one1_invs (by have:=I (p+1) (d - 1);rw[hb] at this;exact this) trivial trivial
     ·rename_i body m hb;have hbi:body.invs:=by have:=I (p+1) (d - 1);rw[hb] at this;exact this
      split
      ·split
       ·rename_i els he;exact one1_invs hbi (by have:=I (m+1) (d - 1);rw[he] at this;exact this) trivial
       ·rename_i els q he;exact one1_invs hbi (by have:=I (m+1) (d - 1);rw[he] at this;exact this) (I _ _)
      ·exact one1_invs hbi trivial (I _ _)
   ·exact one1_invs trivial trivial (I _ _)
  ·trivial
theorem blkF_sz (ls:List Bs):∀ (n p d:Nat),(∀ m,(blkF ls n p d).2=some m→(blkF ls n p d).1.sz+p≤m)∧((blkF ls n p d).2=none→(blkF ls n p d).1.sz+p≤ls.length+d)
 | 0,p,d=>⟨fun m h=>by simp[blkF] at h;simp[blkF,Cms.sz];omega,fun h=>by simp[blkF] at h⟩
 | n+1,p,d=>by
  have I:=blkF_sz ls n;unfold blkF
  split
  ·rename_i hc
   split
   ·split
    ·exact ⟨fun m h=>by simp at h,fun _=>by simp only[Cms.sz];omega⟩
    ·rename_i hd
     split
     ·rename_i body hb;have h1:=(I (p+1) (d - 1)).2;rw[hb] at h1;have h1:=h1 rfl;exact ⟨fun m h=>by simp at h,fun _=>by simp only[Cms.one1,Cms.sz];simp only at h1;omega⟩
     ·rename_i body m hb;have h1:=(I (p+1) (d - 1)).1 m;rw[hb] at h1;have h1:=h1 rfl;simp only at h1
      split
      ·split
       ·rename_i els he;have h2:=(I (m+1) (d - 1)).2;rw[he] at h2;have h2:=h2 rfl;simp only at h2;exact ⟨fun m h=>by simp at h,fun _=>by simp only[Cms.one1,Cms.sz];omega⟩
       ·rename_i els q he;have h2:=(I (m+1) (d - 1)).1 q;rw[he] at h2;have h2:=h2 rfl;simp only at h2;have h3:=I (q+1) d;refine ⟨fun r h=>?_,fun h=>?_⟩
        ·have:=h3.1 r h;simp only[Cms.one1,Cms.sz];omega
        ·have:=h3.2 h;simp only[Cms.one1,Cms.sz];omega
      ·have h3:=I (m+1) d;refine ⟨fun r h=>?_,fun h=>?_⟩
       ·have:=h3.1 r h;simp only[Cms.one1,Cms.sz];omega
       ·have:=h3.2 h;simp only[Cms.one1,Cms.sz];omega
   ·have h3:=I (p+1) d;refine ⟨fun r h=>?_,fun h=>?_⟩
    ·have:=h3.1 r h;simp only[Cms.one1,Cms.sz];omega
    ·have:=h3.2 h;simp only[Cms.one1,Cms.sz];omega
  ·rename_i hc;exact ⟨fun m h=>by injection h with h;simp only[Cms.sz];omega,fun h=>by cases h⟩
theorem readP_sz {l:Bs} (h:l.length≤4000):(readP l).sz≤4010:=by
 unfold readP;have hl:=splitA_len 10 l []
 change (splitL 10 l).length≤_ at hl
 have h1:=blkF_sz (splitL 10 l) ((splitL 10 l).length+1) 0 4
 cases e:(blkF (splitL 10 l) ((splitL 10 l).length+1) 0 4).2 with
 | none=>have:=h1.2 e;omega
 | some m=>have:=h1.1 m e;have:=blkF_le _ _ _ _ e;omega
theorem splitA_short (c:UInt8):∀ (l acc:Bs),∀ x∈splitA c acc l,x.length≤acc.length+l.length
 | [],acc,x,h=>by simp[splitA] at h;subst h;simp
 | y :: r,acc,x,h=>by
  unfold splitA at h
  split at h
  ·rcases List.mem_cons.1 h with rfl|h
   ·simp
   ·have:=splitA_short c r [] x h;simp at this ⊢;omega
  ·have:=splitA_short c r (acc++[y]) x h;simp at this ⊢;omega
theorem c_ParseProgram (l:Bs) (w:World) (hl:l.length≤1049000):Calls Tryz.prog 144 #[sv l] w fun e w'=>∃ v,e=.returned (.tuple #[v,.bool (parsesP l)])∧CmsN w' w.heap.size v (parseP l)∧Below w.heap.size w w':=by
 by_cases h4:l.length≤4000
 ·have h4i:¬(4000:Int)<(l.length:Int):=by omega
  have hz:=readP_sz h4;have hinv:(readP l).invs:=blkF_invs _ _ _ _;have hsm:=ax (Cms.invs_small (n:=1049600) (by omega) hinv (by omega));have hlen:=Cms.len_sz (readP l);have hb:=ax (fun lo hi A c W hV=>c_l8Block 4 (by omega) lo hi A c (splitL 10 l) 0 ((splitL 10 l).length+1) W hV (fun x hx=>by have:=splitA_short 10 l [] x hx;simp at this;omega) (by have:=splitA_len 10 l [];change (splitL 10 l).length≤_ at this;omega) (Nat.zero_le _) (by omega));have hP:aJ (parsesP l=(decide (fmtP (readP l)=l)&&(readP l).prog)):=ax (by unfold parsesP;rw[decide_eq_true h4,Bool.true_and]);have hQ:aJ (parseP l=if parsesP l then readP l else .nil):=ax rfl;rw[show (blkF (splitL 10 l) ((splitL 10 l).length+1) 0 4).1=readP l from rfl] at hb;obtain ⟨L,hL⟩:∃ L,L=readP l:=⟨_,rfl⟩;obtain ⟨nx,hnx⟩:∃ nx,nx=(blkF (splitL 10 l) ((splitL 10 l).length+1) 0 4).2:=⟨_,rfl⟩;rw[←hL] at hz hsm hlen hb hP hQ;rw[←hnx] at hb;obtain ⟨ls,hls⟩:∃ ls,ls=splitL 10 l:=⟨_,rfl⟩;rw[←hls] at hb;replace hls:=ax hls;clear hinv hL hnx;have cF:=ax (fun (lo hi:Nat) A c W h=>c_FormatProgram (lo:=lo) (hi:=hi) L A c W h (by omega) hsm.o (by omega));have cV:=ax (fun (lo hi:Nat) A c W h=>c_spec_ProgramValid (lo:=lo) (hi:=hi) L A c W h (by omega) hsm.o (by omega));clear hz hlen hsm;(go_enter Tryz.func144,Tryz.ntmps144);(go_wp2_with fail);refine (c_l18Cut l 10 _ hl).mono ?_;rintro e w1 ⟨r1,rfl,o1,hB1⟩;obtain ⟨A1,d1,rfl,v1⟩:=o1.rj;rw[←hls.o] at v1 ⊢;have HB1:=ax hB1;have HV1:=ax v1;clear v1 o1 hB1 hls;(go_wp2_with fail);refine (hb.o _ _ _ _ _ HV1.o).mono ?_;rintro e w2 ⟨v,rfl,N2,hB2⟩;obtain ⟨A2,d2,rfl,V2⟩:=N2.rj;have HB2:=ax (bgo HB1.o hB2);have HN2:=ax (N2.bq (base':=w.heap.size) HB1.o.size);have HV2:=ax V2;clear N2 V2 hB2 hb HB1;(go_wp2_with fail);refine (cF.o _ _ _ _ _ HV2.o).mono ?_;rintro e w3 ⟨rfl,hB3⟩;have HB3:=ax (bgo HB2.o hB3);have HN3:=ax (HN2.o.bz hB3);have HV3:=ax (HV2.o.bz hB3);clear hB3 HN2 HV2 HB2;obtain ⟨T,hT⟩:∃ T,T=fmtP L:=⟨_,rfl⟩;rw[←hT] at hP ⊢;clear hT;by_cases ht:T=l
  ·subst ht;(go_wp2_with fail);refine (cV.o _ _ _ _ _ HV3.o).mono ?_;rintro e w4 ⟨rfl,hB4⟩;have HB4:=ax (bgo HB3.o hB4);have HN4:=ax (HN3.o.bz hB4);clear hB4 HN3 HB3;cases hp:L.prog
   ·have hE:aJ (parsesP T=false):=ax (by rw[hP.o,hp];simp);have hF:aJ (parseP T=.nil):=ax (by rw[hQ.o,hE.o];rfl);clear hp;(go_wp2_with fail);refine bodyPost_ret (v:=.tuple #[.slice (some ⟨w4.heap.size,0,none⟩) 0 0,.bool false]) (by simp[results,Tryz.results144,go_sem]) rfl ⟨_,by rw[hE.o],by rw[hF.o];exact CmsN.empty _ HB4.o.size,HB4.o.alloc HB4.o.size _⟩
   ·have hE:aJ (parsesP T=true):=ax (by rw[hP.o,hp];simp);have hF:aJ (parseP T=L):=ax (by rw[hQ.o,hE.o];rfl);clear hp;(go_wp2_with fail);refine bodyPost_ret (v:=.tuple #[.slice A2 L.len d2,.bool true]) (by simp[results,Tryz.results144,go_sem]) rfl ⟨_,by rw[hE.o],by rw[hF.o];exact HN4.o,HB4.o⟩
  ·have htb:(T == l)=false:=by rw[bytes_eq];simpa using ht
   have hE:aJ (parsesP l=false):=ax (by rw[hP.o,decide_eq_false ht];rfl);have hF:aJ (parseP l=.nil):=ax (by rw[hQ.o,hE.o];rfl);clear ht;(go_wp2_with fail);refine bodyPost_ret (v:=.tuple #[.slice (some ⟨w3.heap.size,0,none⟩) 0 0,.bool false]) (by simp[results,Tryz.results144,go_sem]) rfl ⟨_,by rw[hE.o],by rw[hF.o];exact CmsN.empty _ HB3.o.size,HB3.o.alloc HB3.o.size _⟩
 ·have h4i:(4000:Int)<(l.length:Int):=by omega
  have hE:aJ (parsesP l=false):=ax (by unfold parsesP;rw[decide_eq_false h4];rfl);have hF:aJ (parseP l=.nil):=ax (by unfold parseP;rw[hE.o];rfl);clear h4;(go_enter Tryz.func144,Tryz.ntmps144);(go_wp2_with fail);refine bodyPost_ret (v:=.tuple #[.slice (some ⟨w.heap.size,0,none⟩) 0 0,.bool false]) (by simp[results,Tryz.results144,go_sem]) rfl ⟨_,by rw[hE.o],by rw[hF.o];exact CmsN.empty _ (Nat.le_refl _),bbox (Below.refl _ _) _⟩
end
end Go.Proofs.YtjaohekkmlkinaaGreat
