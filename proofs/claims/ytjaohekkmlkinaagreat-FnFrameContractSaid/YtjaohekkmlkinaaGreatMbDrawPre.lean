/- Contracts: assertions from texts (spec). -/
import Derived.Test.YtjaohekkmlkinaaGreatMbStrI
import Derived.Test.YtjaohekkmlkinaaGreatMbStrG
import Derived.Test.YtjaohekkmlkinaaGreatMbOpenB
set_option linter.unusedSimpArgs false
set_option linter.unusedVariables false
set_option maxRecDepth 100000
set_option maxHeartbeats 25600000
namespace Go.Proofs.YtjaohekkmlkinaaGreat
section
open Go Go.RowKit Go.Proofs
def nextB (ws:List Bs) (k:Nat):Bool:=decide (ws[k+1]? = some [124])
theorem readA_next {ws:List Bs} {k:Nat} {fs:List Fct} {xs:List Atm} {sb:Bool} {p:List Fct×List Atm} (hk:k<ws.length) (h:stepA (fs,xs,sb) ws[k]=some p):readA (ws.drop k) (fs,xs,sb)=readA (ws.drop (k+2)) (p.1,p.2,sb || nextB ws k):=by
 rw[List.drop_eq_getElem_cons hk];rcases Nat.lt_or_ge (k+1) ws.length with h1|h1
 ·rw[List.drop_eq_getElem_cons h1,readA,h];simp[nextB,List.getElem?_eq_getElem h1]
 ·rw[List.drop_eq_nil_of_le (show ws.length≤k+1 from h1),List.drop_eq_nil_of_le (show ws.length≤k+2 by omega),readA,readA,h];rfl
theorem readA_fail {ws:List Bs} {k:Nat} {st:List Fct×List Atm×Bool} (hk:k<ws.length) (h:stepA st ws[k]=none):readA (ws.drop k) st=none:=by
 rw[List.drop_eq_getElem_cons hk];rcases Nat.lt_or_ge (k+1) ws.length with h1|h1
 ·rw[List.drop_eq_getElem_cons h1,readA,h]
 ·rw[List.drop_eq_nil_of_le (show ws.length≤k+1 from h1),readA,h];rfl
theorem readA_end {ws:List Bs} {k:Nat} {fs:List Fct} {xs:List Atm} {sb:Bool} (hk:ws.length≤k):readA (ws.drop k) (fs,xs,sb)=some ⟨fs,xs⟩:=by
 rw[List.drop_eq_nil_of_le hk,readA]
theorem stepA_f {x:Bs} {f:Fct} {fs:List Fct} {xs:List Atm} (h:parseF x=some f):stepA (fs,xs,false) x=some (fs++[f],xs):=by
 unfold stepA;simp[h]
theorem stepA_x {x:Bs} {y:Atm} {fs:List Fct} {xs:List Atm} (h:parseX x=some y):stepA (fs,xs,true) x=some (fs,xs++[y]):=by
 unfold stepA;simp[h]
theorem stepA_f0 {x:Bs} {fs:List Fct} {xs:List Atm} (h:parseF x=none):stepA (fs,xs,false) x=if x≠[116,114,117,101]∧x≠[101,109,112] then none else some (fs,xs):=by
 unfold stepA;simp[h]
theorem stepA_x0 {x:Bs} {fs:List Fct} {xs:List Atm} (h:parseX x=none):stepA (fs,xs,true) x=if x≠[116,114,117,101]∧x≠[101,109,112] then none else some (fs,xs):=by
 unfold stepA;simp[h]
theorem parseA_none1 {l:Bs} (h:readA (wordsL l) ([],[],false)=none):parseA l=none:=by
 unfold parseA;rw[h];split<;>rfl
theorem parseA_some {l:Bs} {a:Asn} (hl:l.length≤300) (h:readA (wordsL l) ([],[],false)=some a):parseA l=if fmtA a=l∧l≠[] then some a else none:=by
 unfold parseA;rw[if_neg (by omega),h]
theorem c_ParseAssertion (l:Bs) (w:World) (hl:l.length≤1049000):Calls Tryz.prog 143 #[sv l] w fun e w'=>∃ r,e=.returned (.tuple #[r,.bool (parseA l).isSome])∧AsnO w' w.heap.size r ((parseA l).getD ⟨[],[]⟩)∧Below w.heap.size w w':=by
 (go_enter Tryz.func143,Tryz.ntmps143);have k0:Blk (w.alloc (.cells #[.slice none 0 0,.slice none 0 0] 37)) w.heap.size 37 #[.slice none 0 0,.slice none 0 0]:=blks;(go_wp2_with fail);refine (c_l18Words l _ hl).mono ?_;rintro e w1 ⟨r1,rfl,o1,hB1⟩;obtain ⟨A1,d1,rfl,v1⟩:=o1.rj;replace k0:=k0.nz hB1;have z1:w.heap.size+1≤w1.heap.size:=by simpa using hB1.size
 have HW1:aJ (Below w.heap.size w w1):=ax (bgo (w:=w) bel hB1);have HP0:=ax (fun h=>parseA_none1 (l:=l) h);have HP1:=ax (fun a (h:l.length≤300)=>parseA_some (l:=l) (a:=a) h);have hwl:=wordsL_len l;obtain ⟨ws,hws⟩:∃ ws,ws=wordsL l:=⟨_,rfl⟩;rw[←hws] at v1 HP0 HP1 hwl ⊢;have HV:=ax v1;clear v1 o1 hB1 hws;(replace qk0:=k0.z);by_cases hl3':¬l.length≤300
 ·have hli:(300:Int)<(l.length:Int):=by omega
  have hN:=ax (show parseA l=none by unfold parseA;rw[if_pos (by omega)]);(go_wp2_with fail);have kz:=(((k0.set_ 0 (.slice none 0 0)).set_ 1 (.slice none 0 0)).alloc (.cells #[.slice none 0 0,.slice none 0 0] 37)).cell;refine bodyPost_ret (v:=.tuple #[.agg #[.slice none 0 0,.slice none 0 0],.bool false]) (by simp[results,Tryz.results143,go_sem,kz]) rfl ⟨_,by rw[hN.o];rfl,?_,?_⟩
  ·rw[hN.o];exact ⟨_,_,rfl,FactsO.nil _ _,AtomsO.nil _ _⟩
  ·have hb:=HW1.o;exact bel
 have hl3:l.length≤300:=by omega
 clear hl3';have hli:¬(300:Int)<(l.length:Int):=by omega
 go_wp2_with fail
 go_loopw [6,7] (fun s i wr=>∃ (k:Nat) (fs:List Fct) (xs:List Atm) (AF:Option Addr) (cF:Nat) (AA:Option Addr) (cA:Nat) (sb:Bool),s=.bool sb∧i=.int .i64 k∧k≤ws.length+1∧fs.length≤k∧xs.length≤k∧
  FactsO wr (w1.heap.size+1) (.slice AF fs.length cF) fs∧AtomsO wr (w1.heap.size+1) (.slice AA xs.length cA) xs∧aJ (readA (ws.drop k) (fs,xs,sb)=readA ws ([],[],false))∧
  Blk wr w1.heap.size 37 #[.slice AF fs.length cF,.slice AA xs.length cA]∧Blk wr w.heap.size 37 #[.slice none 0 0,.slice none 0 0]∧aJ (Below w1.heap.size w1 wr)) (fun _ i _=>ws.length+2 - (intOf i).toNat)
 case atStart=>exact ⟨0,[],[],none,0,none,0,false,rfl,rfl,by omega,Nat.le_refl _,Nat.le_refl _,FactsO.nil _ _,AtomsO.nil _ _,ax (by rw[List.drop_zero]),Blk.newE rfl,k0.alloc _,ax (bbox (Below.refl _ _) _)⟩
 case round=>
  clear k0 qk0;obtain ⟨k,fs,xs,AF,cF,AA,cA,sb,rfl,rfl,hk,hfl,hxl,hF,hX,hR,k1,k0,HB⟩:=hrel;have HF:=ax hF;have HX:=ax hX;have hz:w1.heap.size+1≤wr.heap.size:=by have:=k1.lt;omega
  clear hF hX;(replace qk0:=k0.z;replace qk1:=k1.z);by_cases hlt:k<ws.length
  ·have hki:(k:Int)<(ws.length:Int):=by omega
   obtain ⟨bw,ow,rfl,hc⟩:=(HV.o.bz HB.o).at hlt;have hbl:=block_lt_of_cell hc;have HS:=ax (fun p=>readA_next (p:=p) (fs:=fs) (xs:=xs) (sb:=sb) hlt);have HN:=ax (fun st=>readA_fail (st:=st) hlt);obtain ⟨x,hxx⟩:∃ x,x=ws[k]:=⟨_,rfl⟩;rw[←hxx] at hc HS HN;clear hxx;(go_wp2_with fail);refine (c_ParseFact x _).mono ?_;rintro e w2 ⟨rfl,hB2⟩;have HB2:=ax (bgo HB.o hB2);have HF2:=ax (HF.o.bz hB2);have HX2:=ax (HX.o.bz hB2);have hc2:=(bcell hB2).1 bw (ow+k) hbl;rw[hc] at hc2;have hbl2:=block_lt_of_cell hc2;replace k0:=k0.nz hB2;replace k1:=k1.nz hB2;have hz2:=Nat.le_trans hz hB2.size;clear hB2 HF HX hc qk0 qk1 hz hbl;(replace qk0:=k0.z;replace qk1:=k1.z);obtain ⟨fe,fa,fb,hfv⟩:∃ fe fa fb,((parseF x).getD fct0)=⟨fe,fa,fb⟩:=⟨_,_,_,rfl⟩;have hfv2:((parseF x).getD fct0).val=.agg #[.bool fe,.int .i64 fa,.int .i64 fb]:=by rw[hfv]
   rw[hfv2];obtain ⟨pf,hpf⟩:∃ pf,pf=(parseF x).isSome:=⟨_,rfl⟩;rw[←hpf];replace hfv:=ax hfv;replace hpf:=ax hpf;clear hfv2;have k2:Blk (w2.alloc (.cells #[.bool fe,.int .i64 fa,.int .i64 fb] tF)) w2.heap.size tF #[.bool fe,.int .i64 fa,.int .i64 fb]:=blks;(go_wp2_with fail);refine (c_ParseAtom x _).mono ?_;rintro e w3 ⟨⟨yk,ya,yb⟩,rfl,hyz,hB3⟩;have z3:w2.heap.size+1≤w3.heap.size:=by simpa using hB3.size
   have hB23:Below w2.heap.size w2 w3:=bgo (w:=w2) bel hB3;have HB3:=ax (bgo HB2.o hB23);have HF3:=ax (HF2.o.bz hB23);have HX3:=ax (HX2.o.bz hB23);have hc3:=(bcell hB23).1 bw (ow+k) hbl2;rw[hc2] at hc3;have hbl3:=block_lt_of_cell hc3;replace k0:=k0.nz hB23;replace k1:=k1.nz hB23;replace k2:=k2.nz hB3;have hz3:w1.heap.size+1≤w3.heap.size:=by omega
   clear hB23 hB3 HF2 HX2 hc2 qk0 qk1 HB2 hz2 hbl2;(replace qk0:=k0.z;replace qk1:=k1.z;replace qk2:=k2.z);obtain ⟨px,hpx⟩:∃ px,px=(parseX x).isSome:=⟨_,rfl⟩;rw[←hpx];replace hpx:=ax hpx;replace hyz:=ax hyz;simp only
   have hbw:bw<w1.heap.size:=by
    obtain ⟨b',o',e,-,h2,-⟩:=HV.o.raw.2 (by omega);injection e with e;injection e with e1;omega
   have hd4:aJ (∀ (h:k+1<ws.length) W,Below w1.heap.size w1 W→W.cell? ⟨bw,ow+(k+1),none⟩=some (sv ws[k+1])):=ax fun h W hW=>by
    obtain ⟨b',o',e,hd⟩:=StrsV.at (Rd.keepB HV.o hW (Nat.le_refl _)) h;injection e with e;injection e with e1 e2;subst e1 e2;exact hd
   cases sb with
   | false=>
    cases hq:parseF x with
    | some f=>
     have hpF:aJ (parseF x=some ⟨fe,fa,fb⟩):=ax (by have h:=hfv.o;rw[hq] at h ⊢;exact congrArg some h);have hpt:pf=true:=by rw[hpf.o,hq];rfl
     subst hpt;clear hq;by_cases hn1:k+1<ws.length
     ·have hni:(k:Int)+1<(ws.length:Int):=by omega
      have hdc:=ax (fun W=>hd4.o hn1 W);obtain ⟨y,hyy⟩:∃ y,y=ws[k+1]:=⟨_,rfl⟩;have hnb:nextB ws k=decide (y=[124]):=by unfold nextB;rw[List.getElem?_eq_getElem hn1,←hyy,decide_eq_decide];simp
      rw[←hyy] at hdc;clear hyy;by_cases hy:y=[124]
      ·subst hy;have hnB:aJ (nextB ws k=true):=ax (by rw[hnb];rfl);clear hnb;(go_wp2_with (at_builtin;refine appFL rfl _ _ rfl (base:=w1.heap.size+1) (xs:=fs) rfl (HF3.o.bz bel) rfl (FactsV.one (f:=⟨fe,fa,fb⟩) (Blk.newE (by simp))) (by simp;omega) (by simp;omega) ?_;intro A' c' w4 of4 hg4 hB4;have z0:=Blk.zm (g:=w.heap.size) (hg:=hg4) blks (FactsO.bz (w:=w3) HF3.o bel).1 (by decide);have z1b:=Blk.zm (g:=w1.heap.size) (hg:=hg4) blks (FactsO.bz (w:=w3) HF3.o bel).1 (by decide);have z1c:=z1b.cell;have z1f:=z1b.frozen;have ox4:=AtomsO.grownF (AtomsO.bz (w:=w3) HX3.o bel) (FactsO.bz (w:=w3) HF3.o bel) hg4;have hB34:Below (w1.heap.size+1) w3 w4:=(((Below.refl _ w3).alloc hz3 _).alloc (by simp;omega) _).trans hB4;have hl4:=z1b.lt;clear hg4 hB4;have hdy:=hdc.o w4 (HB3.o.trans (hB34.mono (Nat.le_succ _)))))
       go_round
       case rel=>exact ⟨k+2,fs++[⟨fe,fa,fb⟩],xs,A',c',AA,cA,true,rfl,by go_num,by omega,by simp;omega,by omega,(of4.setT z1b (by decide) 0 _),(ox4.setT z1b (by decide) 0 _),ax (((HS.o _ (stepA_f hpF.o)).symm.trans hR.o |> fun h=>by rw[hnB.o] at h;exact h)),(by have h:=z1b.set_ 0 (.slice A' (fs.length+1) c');simpa using h),z0.far (by simp only[];omega) _,ax ((HB3.o.trans (hB34.mono (Nat.le_succ _))).setCell (Nat.le_refl _) _)⟩
       case measure=>simp[intOf];omega
      ·have hnB:aJ (nextB ws k=false):=ax (by rw[hnb];simpa using hy);have hyb:(y == [124])=false:=by rw[bytes_eq];simpa using hy
       clear hnb hy;(go_wp2_with (at_builtin;refine appFL rfl _ _ rfl (base:=w1.heap.size+1) (xs:=fs) rfl (HF3.o.bz bel) rfl (FactsV.one (f:=⟨fe,fa,fb⟩) (Blk.newE (by simp))) (by simp;omega) (by simp;omega) ?_;intro A' c' w4 of4 hg4 hB4;have z0:=Blk.zm (g:=w.heap.size) (hg:=hg4) blks (FactsO.bz (w:=w3) HF3.o bel).1 (by decide);have z1b:=Blk.zm (g:=w1.heap.size) (hg:=hg4) blks (FactsO.bz (w:=w3) HF3.o bel).1 (by decide);have z1c:=z1b.cell;have z1f:=z1b.frozen;have ox4:=AtomsO.grownF (AtomsO.bz (w:=w3) HX3.o bel) (FactsO.bz (w:=w3) HF3.o bel) hg4;have hB34:Below (w1.heap.size+1) w3 w4:=(((Below.refl _ w3).alloc hz3 _).alloc (by simp;omega) _).trans hB4;have hl4:=z1b.lt;clear hg4 hB4;have hdy:=hdc.o w4 (HB3.o.trans (hB34.mono (Nat.le_succ _)))))
       go_round
       case rel=>exact ⟨k+2,fs++[⟨fe,fa,fb⟩],xs,A',c',AA,cA,false,rfl,by go_num,by omega,by simp;omega,by omega,(of4.setT z1b (by decide) 0 _),(ox4.setT z1b (by decide) 0 _),ax (((HS.o _ (stepA_f hpF.o)).symm.trans hR.o |> fun h=>by rw[hnB.o] at h;exact h)),(by have h:=z1b.set_ 0 (.slice A' (fs.length+1) c');simpa using h),z0.far (by simp only[];omega) _,ax ((HB3.o.trans (hB34.mono (Nat.le_succ _))).setCell (Nat.le_refl _) _)⟩
       case measure=>simp[intOf];omega
     ·have hni:¬(k:Int)+1<(ws.length:Int):=by omega
      have hnB:aJ (nextB ws k=false):=ax (by unfold nextB;rw[List.getElem?_eq_none (by omega)];rfl);(go_wp2_with (at_builtin;refine appFL rfl _ _ rfl (base:=w1.heap.size+1) (xs:=fs) rfl (HF3.o.bz bel) rfl (FactsV.one (f:=⟨fe,fa,fb⟩) (Blk.newE (by simp))) (by simp;omega) (by simp;omega) ?_;intro A' c' w4 of4 hg4 hB4;have z0:=Blk.zm (g:=w.heap.size) (hg:=hg4) blks (FactsO.bz (w:=w3) HF3.o bel).1 (by decide);have z1b:=Blk.zm (g:=w1.heap.size) (hg:=hg4) blks (FactsO.bz (w:=w3) HF3.o bel).1 (by decide);have z1c:=z1b.cell;have z1f:=z1b.frozen;have ox4:=AtomsO.grownF (AtomsO.bz (w:=w3) HX3.o bel) (FactsO.bz (w:=w3) HF3.o bel) hg4;have hB34:Below (w1.heap.size+1) w3 w4:=(((Below.refl _ w3).alloc hz3 _).alloc (by simp;omega) _).trans hB4;have hl4:=z1b.lt;clear hg4 hB4))
      go_round
      case rel=>exact ⟨k+2,fs++[⟨fe,fa,fb⟩],xs,A',c',AA,cA,false,rfl,by go_num,by omega,by simp;omega,by omega,(of4.setT z1b (by decide) 0 _),(ox4.setT z1b (by decide) 0 _),ax (((HS.o _ (stepA_f hpF.o)).symm.trans hR.o |> fun h=>by rw[hnB.o] at h;exact h)),(by have h:=z1b.set_ 0 (.slice A' (fs.length+1) c');simpa using h),z0.far (by simp only[];omega) _,ax ((HB3.o.trans (hB34.mono (Nat.le_succ _))).setCell (Nat.le_refl _) _)⟩
      case measure=>simp[intOf];omega
    | none=>
     have hpO:aJ (parseF x=none):=ax hq;have hpt:pf=false:=by rw[hpf.o,hq];rfl
     subst hpt;clear hq;by_cases hx1:x=[116,114,117,101]
     ·subst hx1;have hst:aJ (stepA (fs,xs,false) [116,114,117,101]=some (fs,xs)):=ax (by rw[stepA_f0 hpO.o];rfl);clear hpO;by_cases hn1:k+1<ws.length
      ·have hni:(k:Int)+1<(ws.length:Int):=by omega
       have hdc:=ax (fun W=>hd4.o hn1 W);obtain ⟨y,hyy⟩:∃ y,y=ws[k+1]:=⟨_,rfl⟩;have hnb:nextB ws k=decide (y=[124]):=by unfold nextB;rw[List.getElem?_eq_getElem hn1,←hyy,decide_eq_decide];simp
       rw[←hyy] at hdc;clear hyy;by_cases hy:y=[124]
       ·subst hy;have hnB:aJ (nextB ws k=true):=ax (by rw[hnb];rfl);clear hnb;have hdy:=hdc.o w3 HB3.o;(go_wp2_with fail)
        go_round
        case rel=>exact ⟨k+2,fs,xs,AF,cF,AA,cA,true,rfl,by go_num,by omega,by omega,by omega,HF3.o.bz bel,HX3.o.bz bel,ax (((HS.o _ hst.o).symm.trans hR.o |> fun h=>by rw[hnB.o] at h;exact h)),k1.alloc _,k0.alloc _,ax (HB3.o.alloc (by omega) _)⟩
        case measure=>simp[intOf];omega
       ·have hnB:aJ (nextB ws k=false):=ax (by rw[hnb];simpa using hy);have hyb:(y == [124])=false:=by rw[bytes_eq];simpa using hy
        clear hnb hy;have hdy:=hdc.o w3 HB3.o;(go_wp2_with fail)
        go_round
        case rel=>exact ⟨k+2,fs,xs,AF,cF,AA,cA,false,rfl,by go_num,by omega,by omega,by omega,HF3.o.bz bel,HX3.o.bz bel,ax (((HS.o _ hst.o).symm.trans hR.o |> fun h=>by rw[hnB.o] at h;exact h)),k1.alloc _,k0.alloc _,ax (HB3.o.alloc (by omega) _)⟩
        case measure=>simp[intOf];omega
      ·have hni:¬(k:Int)+1<(ws.length:Int):=by omega
       have hnB:aJ (nextB ws k=false):=ax (by unfold nextB;rw[List.getElem?_eq_none (by omega)];rfl);(go_wp2_with fail)
       go_round
       case rel=>exact ⟨k+2,fs,xs,AF,cF,AA,cA,false,rfl,by go_num,by omega,by omega,by omega,HF3.o.bz bel,HX3.o.bz bel,ax (((HS.o _ hst.o).symm.trans hR.o |> fun h=>by rw[hnB.o] at h;exact h)),k1.alloc _,k0.alloc _,ax (HB3.o.alloc (by omega) _)⟩
       case measure=>simp[intOf];omega
     ·have hx1b:(x == [116,114,117,101])=false:=by rw[bytes_eq];simpa using hx1
      by_cases hx2:x=[101,109,112]
      ·subst hx2;have hst:aJ (stepA (fs,xs,false) [101,109,112]=some (fs,xs)):=ax (by rw[stepA_f0 hpO.o];rfl);clear hpO hx1 hx1b;by_cases hn1:k+1<ws.length
       ·have hni:(k:Int)+1<(ws.length:Int):=by omega
        have hdc:=ax (fun W=>hd4.o hn1 W);obtain ⟨y,hyy⟩:∃ y,y=ws[k+1]:=⟨_,rfl⟩;have hnb:nextB ws k=decide (y=[124]):=by unfold nextB;rw[List.getElem?_eq_getElem hn1,←hyy,decide_eq_decide];simp
        rw[←hyy] at hdc;clear hyy;by_cases hy:y=[124]
        ·subst hy;have hnB:aJ (nextB ws k=true):=ax (by rw[hnb];rfl);clear hnb;have hdy:=hdc.o w3 HB3.o;(go_wp2_with fail)
         go_round
         case rel=>exact ⟨k+2,fs,xs,AF,cF,AA,cA,true,rfl,by go_num,by omega,by omega,by omega,HF3.o.bz bel,HX3.o.bz bel,ax (((HS.o _ hst.o).symm.trans hR.o |> fun h=>by rw[hnB.o] at h;exact h)),k1.alloc _,k0.alloc _,ax (HB3.o.alloc (by omega) _)⟩
         case measure=>simp[intOf];omega
        ·have hnB:aJ (nextB ws k=false):=ax (by rw[hnb];simpa using hy);have hyb:(y == [124])=false:=by rw[bytes_eq];simpa using hy
         clear hnb hy;have hdy:=hdc.o w3 HB3.o;(go_wp2_with fail)
         go_round
         case rel=>exact ⟨k+2,fs,xs,AF,cF,AA,cA,false,rfl,by go_num,by omega,by omega,by omega,HF3.o.bz bel,HX3.o.bz bel,ax (((HS.o _ hst.o).symm.trans hR.o |> fun h=>by rw[hnB.o] at h;exact h)),k1.alloc _,k0.alloc _,ax (HB3.o.alloc (by omega) _)⟩
         case measure=>simp[intOf];omega
       ·have hni:¬(k:Int)+1<(ws.length:Int):=by omega
        have hnB:aJ (nextB ws k=false):=ax (by unfold nextB;rw[List.getElem?_eq_none (by omega)];rfl);(go_wp2_with fail)
        go_round
        case rel=>exact ⟨k+2,fs,xs,AF,cF,AA,cA,false,rfl,by go_num,by omega,by omega,by omega,HF3.o.bz bel,HX3.o.bz bel,ax (((HS.o _ hst.o).symm.trans hR.o |> fun h=>by rw[hnB.o] at h;exact h)),k1.alloc _,k0.alloc _,ax (HB3.o.alloc (by omega) _)⟩
        case measure=>simp[intOf];omega
      ·have hx2b:(x == [101,109,112])=false:=by rw[bytes_eq];simpa using hx2
       have hst:aJ (stepA (fs,xs,false) x=none):=ax (by rw[stepA_f0 hpO.o,if_pos ⟨hx1,hx2⟩]);clear hpO hx1 hx2;have hNo:aJ (parseA l=none):=ax (HP0.o (hR.o.symm.trans (HN.o _ hst.o)));(go_wp2_with fail);have kz:=(((k0.set_ 0 (.slice none 0 0)).set_ 1 (.slice none 0 0)).alloc (.cells #[.int .i64 yk,.int .i64 ya,.int .i64 yb] tA)).cell;refine bodyPost_ret (v:=.tuple #[.agg #[.slice none 0 0,.slice none 0 0],.bool false]) (by simp[results,Tryz.results143,go_sem,kz]) rfl ⟨_,by rw[hNo.o];rfl,?_,?_⟩
       ·rw[hNo.o];exact ⟨_,_,rfl,FactsO.nil _ _,AtomsO.nil _ _⟩
       ·have hb:=HW1.o.trans (HB3.o.mono (by omega:w.heap.size≤w1.heap.size));exact bel
   | true=>
    cases hq:parseX x with
    | some f=>
     have hpX:aJ (parseX x=some ⟨yk,ya,yb⟩):=ax (by rw[hq];exact congrArg some (hyz.o f hq).symm);have hpt:px=true:=by rw[hpx.o,hq];rfl
     subst hpt;clear hq;(go_wp2_with (at_builtin;refine appAL rfl _ _ rfl (base:=w1.heap.size+1) (xs:=xs) rfl (HX3.o.bz bel) rfl (AtomsV.one (f:=⟨yk,ya,yb⟩) (Blk.newE (by simp))) (by simp;omega) (by simp;omega) ?_;intro A' c' w4 of4 hg4 hB4;have z0:=Blk.zm (g:=w.heap.size) (hg:=hg4) blks (AtomsO.bz (w:=w3) HX3.o bel).1 (by decide);have z1b:=Blk.zm (g:=w1.heap.size) (hg:=hg4) blks (AtomsO.bz (w:=w3) HX3.o bel).1 (by decide);have z1c:=z1b.cell;have z1f:=z1b.frozen;have ox4:=FactsO.grownA (FactsO.bz (w:=w3) HF3.o bel) (AtomsO.bz (w:=w3) HX3.o bel) hg4;have hB34:Below (w1.heap.size+1) w3 w4:=(((Below.refl _ w3).alloc hz3 _).alloc (by simp;omega) _).trans hB4;have hl4:=z1b.lt;clear hg4 hB4))
     go_round
     case rel=>exact ⟨k+2,fs,xs++[⟨yk,ya,yb⟩],AF,cF,A',c',true,rfl,by go_num,by omega,by omega,by simp;omega,(ox4.setT z1b (by decide) 1 _),(of4.setT z1b (by decide) 1 _),ax ((HS.o _ (stepA_x hpX.o)).symm.trans hR.o),(by have h:=z1b.set_ 1 (.slice A' (xs.length+1) c');simpa using h),z0.far (by simp only[];omega) _,ax ((HB3.o.trans (hB34.mono (Nat.le_succ _))).setCell (Nat.le_refl _) _)⟩
     case measure=>simp[intOf];omega
    | none=>
     have hpO:aJ (parseX x=none):=ax hq;have hpt:px=false:=by rw[hpx.o,hq];rfl
     subst hpt;clear hq;by_cases hx1:x=[116,114,117,101]
     ·subst hx1;have hst:aJ (stepA (fs,xs,true) [116,114,117,101]=some (fs,xs)):=ax (by rw[stepA_x0 hpO.o];rfl);clear hpO;(go_wp2_with fail)
      go_round
      case rel=>exact ⟨k+2,fs,xs,AF,cF,AA,cA,true,rfl,by go_num,by omega,by omega,by omega,HF3.o.bz bel,HX3.o.bz bel,ax ((HS.o _ hst.o).symm.trans hR.o),k1.alloc _,k0.alloc _,ax (HB3.o.alloc (by omega) _)⟩
      case measure=>simp[intOf];omega
     ·have hx1b:(x == [116,114,117,101])=false:=by rw[bytes_eq];simpa using hx1
      by_cases hx2:x=[101,109,112]
      ·subst hx2;have hst:aJ (stepA (fs,xs,true) [101,109,112]=some (fs,xs)):=ax (by rw[stepA_x0 hpO.o];rfl);clear hpO hx1 hx1b;(go_wp2_with fail)
       go_round
       case rel=>exact ⟨k+2,fs,xs,AF,cF,AA,cA,true,rfl,by go_num,by omega,by omega,by omega,HF3.o.bz bel,HX3.o.bz bel,ax ((HS.o _ hst.o).symm.trans hR.o),k1.alloc _,k0.alloc _,ax (HB3.o.alloc (by omega) _)⟩
       case measure=>simp[intOf];omega
      ·have hx2b:(x == [101,109,112])=false:=by rw[bytes_eq];simpa using hx2
       have hst:aJ (stepA (fs,xs,true) x=none):=ax (by rw[stepA_x0 hpO.o,if_pos ⟨hx1,hx2⟩]);clear hpO hx1 hx2;have hNo:aJ (parseA l=none):=ax (HP0.o (hR.o.symm.trans (HN.o _ hst.o)));(go_wp2_with fail);have kz:=(((k0.set_ 0 (.slice none 0 0)).set_ 1 (.slice none 0 0)).alloc (.cells #[.int .i64 yk,.int .i64 ya,.int .i64 yb] tA)).cell;refine bodyPost_ret (v:=.tuple #[.agg #[.slice none 0 0,.slice none 0 0],.bool false]) (by simp[results,Tryz.results143,go_sem,kz]) rfl ⟨_,by rw[hNo.o];rfl,?_,?_⟩
       ·rw[hNo.o];exact ⟨_,_,rfl,FactsO.nil _ _,AtomsO.nil _ _⟩
       ·have hb:=HW1.o.trans (HB3.o.mono (by omega:w.heap.size≤w1.heap.size));exact bel
  ·have hki:¬(k:Int)<(ws.length:Int):=by omega
   have hE:=ax (HP1.o ⟨fs,xs⟩ hl3 (hR.o.symm.trans (readA_end (by omega))));have HA:aJ (AsnO wr (w1.heap.size+1) (.agg #[.slice AF fs.length cF,.slice AA xs.length cA]) ⟨fs,xs⟩):=ax ⟨_,_,rfl,HF.o,HX.o⟩;(go_wp2_with fail);refine (c_FormatAssertion _ ⟨fs,xs⟩ _ HA.o.rj).mono ?_;rintro e w5 ⟨rfl,hB5⟩;have HB5:=ax (bgo HB.o hB5);replace k0:=k0.nz hB5;replace k1:=k1.nz hB5;have HA5:=ax (HA.o.bz hB5);clear hB5 HA qk0 qk1;(replace qk0:=k0.z;replace qk1:=k1.z);obtain ⟨T,hT⟩:∃ T,T=fmtA ⟨fs,xs⟩:=⟨_,rfl⟩;rw[←hT] at hE ⊢;clear hT;by_cases ht:T=l
   ·subst ht;by_cases he:T=[]
    ·subst he;have hNo:aJ (parseA []=none):=ax (by rw[hE.o];rfl);clear hE;(go_wp2_with fail);have kz:=((k0.set_ 0 (.slice none 0 0)).set_ 1 (.slice none 0 0)).cell;refine bodyPost_ret (v:=.tuple #[.agg #[.slice none 0 0,.slice none 0 0],.bool false]) (by simp[results,Tryz.results143,go_sem,kz]) rfl ⟨_,by rw[hNo.o];rfl,?_,?_⟩
     ·rw[hNo.o];exact ⟨_,_,rfl,FactsO.nil _ _,AtomsO.nil _ _⟩
     ·have hb:=HW1.o.trans (HB5.o.mono (by omega:w.heap.size≤w1.heap.size));exact bel
    ·have heb:(T == [])=false:=by rw[bytes_eq];simpa using he
     have hYes:aJ (parseA T=some ⟨fs,xs⟩):=ax (by rw[hE.o,if_pos ⟨rfl,he⟩]);clear hE he;(go_wp2_with fail);have kz:=((k0.set_ 0 (.slice AF fs.length cF)).set_ 1 (.slice AA xs.length cA)).cell;refine bodyPost_ret (v:=.tuple #[.agg #[.slice AF fs.length cF,.slice AA xs.length cA],.bool true]) (by simp[results,Tryz.results143,go_sem,kz]) rfl ⟨_,by rw[hYes.o];rfl,?_,?_⟩
     ·rw[hYes.o];obtain ⟨fv,av,e,h1,h2⟩:=HA5.o;injection e with e;injection e with e;injection e with e1 e2;injection e2 with e2;subst e1 e2;exact ⟨_,_,rfl,((h1.setT k0 (by decide) 0 _).setT (k0.set_ _ _) (by decide) 1 _).bq (by omega),((h2.setT k0 (by decide) 0 _).setT (k0.set_ _ _) (by decide) 1 _).bq (by omega)⟩
     ·have hb:=HW1.o.trans (HB5.o.mono (by omega:w.heap.size≤w1.heap.size));exact bel
   ·have htb:(T == l)=false:=by rw[bytes_eq];simpa using ht
    have hNo:aJ (parseA l=none):=ax (by rw[hE.o,if_neg (fun h=>ht h.1)]);clear hE ht;(go_wp2_with fail);have kz:=((k0.set_ 0 (.slice none 0 0)).set_ 1 (.slice none 0 0)).cell;refine bodyPost_ret (v:=.tuple #[.agg #[.slice none 0 0,.slice none 0 0],.bool false]) (by simp[results,Tryz.results143,go_sem,kz]) rfl ⟨_,by rw[hNo.o];rfl,?_,?_⟩
    ·rw[hNo.o];exact ⟨_,_,rfl,FactsO.nil _ _,AtomsO.nil _ _⟩
    ·have hb:=HW1.o.trans (HB5.o.mono (by omega:w.heap.size≤w1.heap.size));exact bel
end
section
open Go Go.RowKit Go.Proofs
attribute [local go_sem ↓] Go.wp_at_zero Go.wp_at_succ
def strOfB:Value→Bs
 | .string s=>s.data.toList
 | _=>[]
theorem c_ofB {lo hi:Nat} (g p:Nat) (A:Option Addr) (c:Nat) (xs:List Bs) (w:World) (h:Rdr w g p) (hp:p≤1000000) (hx:StrsV w lo hi A xs) (hg:g<lo∨hi≤g) (hn:0<xs.length) :
  Calls Tryz.prog 175 #[.pointer (some ⟨g,0,none⟩),.slice A xs.length c] w fun e w'=>∃ m∈xs,e=.returned (sv m)∧Rdr w' g (p+1)∧Fr g w w':=by
 have H:=ax h;have HX:=ax hx;clear h hx;(go_enter Tryz.func175,Tryz.ntmps175);(go_wp2_with fail);refine (c_pick g p _ _ H.o hp).mono ?_;rintro e w1 ⟨m,rfl,hm,hR,hF⟩;have hlt:m<xs.length:=by omega
 obtain ⟨b,o,rfl,c0⟩:=StrsV.at (Rd.fr HX.o hF hg) hlt;have hmi:(m:Int)<(xs.length:Int):=by omega
 have HRF:=ax (And.intro hR hF);have hmem:=ax (List.getElem_mem hlt);obtain ⟨x,hxx⟩:∃ x,x=xs[m]:=⟨_,rfl⟩;rw[←hxx] at c0 hmem;clear hm hR hF hxx;(go_wp2_with fail);go_ret;exact ⟨x,hmem.o,rfl,HRF.o.1,HRF.o.2⟩
theorem c_ofLB (g p:Nat) (cs:Array Value) (x n:Nat) (w:World) (h:Rdr w g p) (hp:p≤1000000) (hk:Blk w x tS cs) (hcs:cs=(encS (cs.toList.map strOfB)).toArray) (hg:g<x) (hn:n=cs.size) (h0:0<cs.size) (hl:∀ u∈cs.toList.map strOfB,1≤u.length∧u.length≤4000) (hl1:cs.size≤100) :
  Calls Tryz.prog 175 #[.pointer (some ⟨g,0,none⟩),.slice (some ⟨x,0,none⟩) n n] w fun e w'=>∃ m:Bs,(1≤m.length∧m.length≤4000)∧e=.returned (sv m)∧Rdr w' g (p+1)∧Fr g w w':=by
 have e:n=(cs.toList.map strOfB).length:=by rw[hn];simp
 rw[e];refine (c_ofB (lo:=x) (hi:=x+1) g p _ _ (cs.toList.map strOfB) w h hp ⟨⟨by simp[encS],fun _=>⟨x,0,rfl,Nat.le_refl _,Nat.lt_succ_self _,fun j u hu=>?_⟩⟩,by unfold Lim;simp;omega⟩ (Or.inl hg) (by simpa using h0)).mono ?_
 ·rw[Nat.zero_add,hk.cell,hcs];simpa using hu
 ·rintro e w' ⟨m,hm,rfl,h1,h2⟩;exact ⟨m,hl m hm,rfl,h1,h2⟩
theorem c_l10Pre (g p:Nat) (w:World) (h:Rdr w g p) (hp:p≤900000) :
  Calls Tryz.prog 118 #[.pointer (some ⟨g,0,none⟩)] w fun e w'=>∃ r a q,e=.returned r∧AsnO w' w.heap.size r a∧(a.facts.length≤12∧a.atoms.length≤6)∧Rdr w' g q∧q≤p+40∧Fr g w w':=by
 have H:=ax h;have hlt:=h.lt;clear h;(go_enter Tryz.func118,Tryz.ntmps118);have k0:Blk (w.alloc (.cells #[.slice none 0 0,.slice none 0 0] 37)) w.heap.size 37 #[.slice none 0 0,.slice none 0 0]:=blks;have H0:=ax (H.o.bz (w':=w.alloc (.cells #[.slice none 0 0,.slice none 0 0] 37)) bel);have F0:aJ (Fr g w (w.alloc (.cells #[.slice none 0 0,.slice none 0 0] 37))):=ax ((Fr.refl g w).alloc _);have hs0:(w.alloc (.cells #[.slice none 0 0,.slice none 0 0] 37)).heap.size=w.heap.size+1:=by simp
 clear H;(go_wp2_with fail);generalize w.alloc (.cells #[.slice none 0 0,.slice none 0 0] 37)=W at k0 H0 F0 hs0 ⊢;refine (c_ofLB g p _ _ _ _ (H0.o.bz (bbox (Below.refl _ _) _)) (by omega) (Blk.newE (by omega)) (by rfl) (by omega) (by rfl) (by decide) (by decide) (by decide)).mono ?_;rintro e w1 ⟨l,hl,rfl,hR,hF⟩;have hFw:Fr g W w1:=((Fr.refl g W).alloc _).trans hF;replace k0:=k0.fr hFw (by omega);have hF1:aJ (Fr g w w1):=ax (F0.o.trans hFw);have HR1:=ax hR;have z1:=hF1.o.size;have hg1:g<w1.heap.size:=by omega
 clear hR hF H0 F0 hFw;obtain ⟨hl1,hl2⟩:=hl;have cP:=ax (fun W=>c_ParseAssertion l W (by omega))
 have hok:=ax (fun (h:(parseA l).isSome=true)=>(show ((parseA l).getD ⟨[],[]⟩).facts.length≤12∧((parseA l).getD ⟨[],[]⟩).atoms.length≤6 from by
  cases e:parseA l with
  | none=>rw[e] at h;cases h
  | some a=>exact zjC (parseA_valid e).1))
 obtain ⟨ok,hk⟩:∃ ok,ok=(parseA l).isSome:=⟨_,rfl⟩;obtain ⟨a,ha⟩:∃ a,a=(parseA l).getD ⟨[],[]⟩:=⟨_,rfl⟩;rw[←hk,←ha] at cP hok;clear hk ha hl1 hl2;have hl0:=k0.lt;(go_wp2_with fail);refine (cP.o _).mono ?_;rintro e w2 ⟨v,rfl,N2,hB2⟩;obtain ⟨fv,av,rfl,n1,n2⟩:=N2;obtain ⟨F,e1,rfl,-⟩:=n1.rj;obtain ⟨G,e2,rfl,-⟩:=n2.rj;have hbx:=bbox hB2 (.cells #[.slice F a.facts.length e1,.slice G a.atoms.length e2] 37);have N1:=ax ((n1.bz (bbox (Below.refl _ _) (.cells #[.slice F a.facts.length e1,.slice G a.atoms.length e2] 37))).bq (base':=w.heap.size) z1);have N2:=ax ((n2.bz (bbox (Below.refl _ _) (.cells #[.slice F a.facts.length e1,.slice G a.atoms.length e2] 37))).bq (base':=w.heap.size) z1);have HF2:aJ (Fr g w (w2.alloc (.cells #[.slice F a.facts.length e1,.slice G a.atoms.length e2] 37))):=ax (hF1.o.trans (Fr.ofBelow hbx));have HR2:=ax (HR1.o.bz hbx);have kx:Blk (w2.alloc (.cells #[.slice F a.facts.length e1,.slice G a.atoms.length e2] 37)) w2.heap.size 37 #[.slice F a.facts.length e1,.slice G a.atoms.length e2]:=Blk.new _ _ _;replace k0:=k0.nz hbx;have hz2:=hB2.size;have hs2:(w2.alloc (.cells #[.slice F a.facts.length e1,.slice G a.atoms.length e2] 37)).heap.size=w2.heap.size+1:=by simp
 clear n1 n2 hB2 hF1 HR1 cP hbx;cases ok
 ·(go_wp2_with fail);generalize (w2.alloc (.cells #[.slice F a.facts.length e1,.slice G a.atoms.length e2] 37))=W2 at k0 kx N1 N2 HF2 HR2 hs2 ⊢;refine (c_l6Chains g _ _ HR2.o (by omega)).mono ?_;rintro e w3 ⟨r3,a3,q3,rfl,o3,hv3,hf3,hx3,hR,hq,hF⟩;replace k0:=k0.fr hF (by omega);have HF3:=ax (HF2.o.trans hF);have HR3:=ax hR;have HO3:=ax (o3.bq (base':=w.heap.size) (by omega));obtain ⟨fv,av,rfl,m1,m2⟩:=HO3.o;obtain ⟨F3,e3,rfl,-⟩:=m1.rj;obtain ⟨G3,e4,rfl,-⟩:=m2.rj;have M1:=ax m1;have M2:=ax m2;clear hR hF o3 HO3 m1 m2;(replace qk0:=k0.cell;replace rk0:=k0.frozen;replace lk0:=k0.lt);(go_wp2_with fail);refine bodyPost_ret (v:=.agg #[.slice F3 a3.facts.length e3,.slice G3 a3.atoms.length e4]) (by simp[results,Tryz.results118,go_sem,qk0,lk0]) rfl ⟨_,a3,q3,rfl,⟨_,_,rfl,?_,?_⟩,by omega,?_,by omega,?_⟩
  ·exact (M1.o.setT k0 (by decide) 0 _).setT (k0.set_ 0 _) (by decide) 1 _
  ·exact (M2.o.setT k0 (by decide) 0 _).setT (k0.set_ 0 _) (by decide) 1 _
  ·exact (HR3.o.set_ (q:=⟨w.heap.size,0,none⟩) (by simp only;omega) _).set_ (q:=⟨w.heap.size,1,none⟩) (by simp only;omega) _
  ·exact (HF3.o.set_ (p:=⟨w.heap.size,0,none⟩) (Or.inr (Nat.le_refl _)) _).set_ (p:=⟨w.heap.size,1,none⟩) (Or.inr (Nat.le_refl _)) _
 ·have HOK:=ax (hok.o rfl);have lkx:=kx.lt;(go_wp2_with fail);generalize (w2.alloc (.cells #[.slice F a.facts.length e1,.slice G a.atoms.length e2] 37))=W1 at k0 kx N1 N2 HF2 HR2 hs2 lkx ⊢;refine (c_pick g _ 4 _ HR2.o (by omega)).mono ?_;rintro e w4 ⟨m,rfl,-,hR,hF⟩;replace k0:=k0.fr hF (by omega);replace kx:=kx.fr hF (by omega);have hzF:=hF.size;have hgW:g<W1.heap.size:=HR2.o.lt;have P1:=ax (N1.o.fr hF (by omega));have P2:=ax (N2.o.fr hF (by omega));replace HF2:=ax (HF2.o.trans hF);replace HR2:=ax hR;clear hR hF N1 N2;by_cases hm:(0:Int)<(m:Int)
  ·(replace qk0:=k0.cell;replace rk0:=k0.frozen;replace lk0:=k0.lt;replace qkx:=kx.cell;replace rkx:=kx.frozen;replace lkx:=kx.lt);(go_wp2_with fail);refine bodyPost_ret (v:=.agg #[.slice F a.facts.length e1,.slice G a.atoms.length e2]) (by simp[results,Tryz.results118,go_sem,qk0,lk0]) rfl ⟨_,a,p+1+1,rfl,⟨_,_,rfl,?_,?_⟩,HOK.o,?_,by omega,?_⟩
   ·exact (P1.o.setT k0 (by decide) 0 _).setT (k0.set_ 0 _) (by decide) 1 _
   ·exact (P2.o.setT k0 (by decide) 0 _).setT (k0.set_ 0 _) (by decide) 1 _
   ·exact (HR2.o.set_ (q:=⟨w.heap.size,0,none⟩) (by simp only;omega) _).set_ (q:=⟨w.heap.size,1,none⟩) (by simp only;omega) _
   ·exact (HF2.o.set_ (p:=⟨w.heap.size,0,none⟩) (Or.inr (Nat.le_refl _)) _).set_ (p:=⟨w.heap.size,1,none⟩) (Or.inr (Nat.le_refl _)) _
  ·(go_wp2_with fail);refine (c_l6Chains g _ _ HR2.o (by omega)).mono ?_;rintro e w3 ⟨r3,a3,q3,rfl,o3,hv3,hf3,hx3,hR,hq,hF⟩;replace k0:=k0.fr hF (by omega);have HF3:=ax (HF2.o.trans hF);have HR3:=ax hR;have HO3:=ax (o3.bq (base':=w.heap.size) (by omega));obtain ⟨fv,av,rfl,m1,m2⟩:=HO3.o;obtain ⟨F3,e3,rfl,-⟩:=m1.rj;obtain ⟨G3,e4,rfl,-⟩:=m2.rj;have M1:=ax m1;have M2:=ax m2;clear hR hF o3 HO3 m1 m2;(replace qk0:=k0.cell;replace rk0:=k0.frozen;replace lk0:=k0.lt);(go_wp2_with fail);refine bodyPost_ret (v:=.agg #[.slice F3 a3.facts.length e3,.slice G3 a3.atoms.length e4]) (by simp[results,Tryz.results118,go_sem,qk0,lk0]) rfl ⟨_,a3,q3,rfl,⟨_,_,rfl,?_,?_⟩,by omega,?_,by omega,?_⟩
   ·exact (M1.o.setT k0 (by decide) 0 _).setT (k0.set_ 0 _) (by decide) 1 _
   ·exact (M2.o.setT k0 (by decide) 0 _).setT (k0.set_ 0 _) (by decide) 1 _
   ·exact (HR3.o.set_ (q:=⟨w.heap.size,0,none⟩) (by simp only;omega) _).set_ (q:=⟨w.heap.size,1,none⟩) (by simp only;omega) _
   ·exact (HF3.o.set_ (p:=⟨w.heap.size,0,none⟩) (Or.inr (Nat.le_refl _)) _).set_ (p:=⟨w.heap.size,1,none⟩) (Or.inr (Nat.le_refl _)) _
end
end Go.Proofs.YtjaohekkmlkinaaGreat
