/- Contracts: assertions from texts (spec). -/
import Derived.Test.YtjaohekkmlkinaaDoorStrI
import Derived.Test.YtjaohekkmlkinaaDoorStrG
import Derived.Test.YtjaohekkmlkinaaDoorJoin
import Derived.Test.YtjaohekkmlkinaaDoorRow
set_option linter.unusedSimpArgs false
set_option linter.unusedVariables false
namespace Go.Proofs.YtjaohekkmlkinaaDoor
open Go Go.RowKit Go.Proofs
def nextB (ws:List Bs) (k:Nat):Bool:=decide (ws[k+1]? = some [124])
theorem readA_next {ws:List Bs} {k:Nat} {fs:List Fct} {xs:List Atm} {sb:Bool} {p:List Fct×List Atm} (hk:k<ws.length) (h:stepA (fs,xs,sb) ws[k]=some p):readA (ws.drop k) (fs,xs,sb)=readA (ws.drop (k+2)) (p.1,p.2,sb || nextB ws k):=by
 rw[List.drop_eq_getElem_cons hk]
 rcases Nat.lt_or_ge (k+1) ws.length with h1|h1
 ·rw[List.drop_eq_getElem_cons h1,readA,h]
  simp[nextB,List.getElem?_eq_getElem h1]
 ·rw[List.drop_eq_nil_of_le (show ws.length≤k+1 from h1),List.drop_eq_nil_of_le (show ws.length≤k+2 by omega),readA,readA,h]
  rfl
theorem readA_fail {ws:List Bs} {k:Nat} {st:List Fct×List Atm×Bool} (hk:k<ws.length) (h:stepA st ws[k]=none):readA (ws.drop k) st=none:=by
 rw[List.drop_eq_getElem_cons hk]
 rcases Nat.lt_or_ge (k+1) ws.length with h1|h1
 ·rw[List.drop_eq_getElem_cons h1,readA,h]
 ·rw[List.drop_eq_nil_of_le (show ws.length≤k+1 from h1),readA,h]
  rfl
theorem readA_end {ws:List Bs} {k:Nat} {fs:List Fct} {xs:List Atm} {sb:Bool} (hk:ws.length≤k):readA (ws.drop k) (fs,xs,sb)=some ⟨fs,xs⟩:=by
 rw[List.drop_eq_nil_of_le hk,readA]
theorem stepA_f {x:Bs} {f:Fct} {fs:List Fct} {xs:List Atm} (h:parseF x=some f):stepA (fs,xs,false) x=some (fs++[f],xs):=by
 unfold stepA;simp[h]
theorem stepA_x {x:Bs} {y:Atm} {fs:List Fct} {xs:List Atm} (h:parseX x=some y):stepA (fs,xs,true) x=some (fs,xs++[y]):=by
 unfold stepA;simp[h]
theorem stepA_f0 {x:Bs} {fs:List Fct} {xs:List Atm} (h:parseF x=none):stepA (fs,xs,false) x=if x≠[116,114,117,101]∧x≠[101,109,112] then none else some (fs,xs):=by
 unfold stepA;simp[h]
theorem stepA_x0 {x:Bs} {fs:List Fct} {xs:List Atm} (h:parseX x=none):stepA (fs,xs,true) x=if x≠[116,114,117,101]∧x≠[101,109,112] then none else some (fs,xs):=by
 unfold stepA;simp[h]
theorem parseA_none1 {l:Bs} (h:readA (wordsL l) ([],[],false)=none):parseA l=none:=by
 unfold parseA;rw[h];split<;>rfl
theorem parseA_some {l:Bs} {a:Asn} (hl:l.length≤300) (h:readA (wordsL l) ([],[],false)=some a):parseA l=if fmtA a=l∧l≠[] then some a else none:=by
 unfold parseA;rw[if_neg (by omega),h]
set_option maxRecDepth 100000 in
set_option maxHeartbeats 12800000 in
theorem c_ParseAssertion (l:Bs) (w:World) (hl:l.length≤1049000):Calls Tryd.prog 31 #[sv l] w fun e w'=>∃ r,e=.returned (.tuple #[r,.bool (parseA l).isSome])∧AsnO w' w.heap.size r ((parseA l).getD ⟨[],[]⟩)∧Below w.heap.size w w':=by
 go_enter Tryd.func31,Tryd.ntmps31
 have k0:Blk (w.alloc (.cells #[.slice none 0 0,.slice none 0 0] 31)) w.heap.size 31 #[.slice none 0 0,.slice none 0 0]:=blks
 go_wp2_with fail
 refine (c_l18Words l _ hl).mono ?_
 rintro e w1 ⟨r1,rfl,o1,hB1⟩
 obtain ⟨A1,d1,rfl,v1⟩:=o1.reads
 replace k0:=k0.next hB1
 have z1:w.heap.size+1≤w1.heap.size:=by simpa using hB1.size
 have HW1:Hid (Below w.heap.size w w1):=Lib.hid (bgo (w:=w) bel hB1)
 have HP0:=Lib.hid (fun h=>parseA_none1 (l:=l) h)
 have HP1:=Lib.hid (fun a (h:l.length≤300)=>parseA_some (l:=l) (a:=a) h)
 have hwl:=wordsL_len l
 obtain ⟨ws,hws⟩:∃ ws,ws=wordsL l:=⟨_,rfl⟩
 rw[←hws] at v1 HP0 HP1 hwl ⊢
 have HV:=Lib.hid v1
 clear v1 o1 hB1 hws
 (replace qk0:=k0.cell;replace rk0:=k0.frozen;replace lk0:=k0.lt)
 by_cases hl3':¬l.length≤300
 ·have hli:(300:Int)<(l.length:Int):=by omega
  have hN:=Lib.hid (show parseA l=none by unfold parseA;rw[if_pos (by omega)])
  go_wp2_with fail
  have kz:=(((k0.set_ 0 (.slice none 0 0)).set_ 1 (.slice none 0 0)).alloc (.cells #[.slice none 0 0,.slice none 0 0] 31)).cell
  refine bodyPost_ret (v:=.tuple #[.agg #[.slice none 0 0,.slice none 0 0],.bool false]) (by simp[results,Tryd.results31,go_sem,kz]) rfl ⟨_,by rw[hN.out];rfl,?_,?_⟩
  ·rw[hN.out];exact ⟨_,_,rfl,FactsO.nil _ _,AtomsO.nil _ _⟩
  ·have hb:=HW1.out;exact bel
 have hl3:l.length≤300:=by omega
 clear hl3'
 have hli:¬(300:Int)<(l.length:Int):=by omega
 go_wp2_with fail
 go_loopw [6,7] (fun s i wr=>∃ (k:Nat) (fs:List Fct) (xs:List Atm) (AF:Option Addr) (cF:Nat) (AA:Option Addr) (cA:Nat) (sb:Bool),s=.bool sb∧i=.int .i64 k∧k≤ws.length+1∧fs.length≤k∧xs.length≤k∧
  FactsO wr (w1.heap.size+1) (.slice AF fs.length cF) fs∧AtomsO wr (w1.heap.size+1) (.slice AA xs.length cA) xs∧Hid (readA (ws.drop k) (fs,xs,sb)=readA ws ([],[],false))∧
  Blk wr w1.heap.size 31 #[.slice AF fs.length cF,.slice AA xs.length cA]∧Blk wr w.heap.size 31 #[.slice none 0 0,.slice none 0 0]∧Hid (Below w1.heap.size w1 wr)) (fun _ i _=>ws.length+2 - (intOf i).toNat)
 case atStart=>exact ⟨0,[],[],none,0,none,0,false,rfl,rfl,by omega,Nat.le_refl _,Nat.le_refl _,FactsO.nil _ _,AtomsO.nil _ _,Lib.hid (by rw[List.drop_zero]),Blk.newE rfl,k0.alloc _,Lib.hid (bbox (Below.refl _ _) _)⟩
 case round=>
  clear k0 qk0 rk0 lk0
  obtain ⟨k,fs,xs,AF,cF,AA,cA,sb,rfl,rfl,hk,hfl,hxl,hF,hX,hR,k1,k0,HB⟩:=hrel
  have HF:=Lib.hid hF
  have HX:=Lib.hid hX
  have hz:w1.heap.size+1≤wr.heap.size:=by have:=k1.lt;omega
  clear hF hX
  (replace qk0:=k0.cell;replace rk0:=k0.frozen;replace lk0:=k0.lt;replace qk1:=k1.cell;replace rk1:=k1.frozen;replace lk1:=k1.lt)
  by_cases hlt:k<ws.length
  ·have hki:(k:Int)<(ws.length:Int):=by omega
   obtain ⟨bw,ow,rfl,hc⟩:=(HV.out.below HB.out).at hlt
   have hbl:=block_lt_of_cell hc
   have HS:=Lib.hid (fun p=>readA_next (p:=p) (fs:=fs) (xs:=xs) (sb:=sb) hlt)
   have HN:=Lib.hid (fun st=>readA_fail (st:=st) hlt)
   obtain ⟨x,hxx⟩:∃ x,x=ws[k]:=⟨_,rfl⟩
   rw[←hxx] at hc HS HN
   clear hxx
   go_wp2_with fail
   refine (c_ParseFact x _).mono ?_
   rintro e w2 ⟨rfl,hB2⟩
   have HB2:=Lib.hid (bgo HB.out hB2)
   have HF2:=Lib.hid (HF.out.below hB2)
   have HX2:=Lib.hid (HX.out.below hB2)
   have hc2:=(bcell hB2).1 bw (ow+k) hbl
   rw[hc] at hc2
   have hbl2:=block_lt_of_cell hc2
   replace k0:=k0.next hB2
   replace k1:=k1.next hB2
   have hz2:=Nat.le_trans hz hB2.size
   clear hB2 HF HX hc qk0 rk0 lk0 qk1 rk1 lk1 hz hbl
   (replace qk0:=k0.cell;replace rk0:=k0.frozen;replace lk0:=k0.lt;replace qk1:=k1.cell;replace rk1:=k1.frozen;replace lk1:=k1.lt)
   obtain ⟨fe,fa,fb,hfv⟩:∃ fe fa fb,((parseF x).getD fct0)=⟨fe,fa,fb⟩:=⟨_,_,_,rfl⟩
   have hfv2:((parseF x).getD fct0).val=.agg #[.bool fe,.int .i64 fa,.int .i64 fb]:=by rw[hfv]
   rw[hfv2]
   obtain ⟨pf,hpf⟩:∃ pf,pf=(parseF x).isSome:=⟨_,rfl⟩
   rw[←hpf]
   replace hfv:=Lib.hid hfv
   replace hpf:=Lib.hid hpf
   clear hfv2
   have k2:Blk (w2.alloc (.cells #[.bool fe,.int .i64 fa,.int .i64 fb] tF)) w2.heap.size tF #[.bool fe,.int .i64 fa,.int .i64 fb]:=blks
   go_wp2_with fail
   refine (c_ParseAtom x _).mono ?_
   rintro e w3 ⟨⟨yk,ya,yb⟩,rfl,hyz,hB3⟩
   have z3:w2.heap.size+1≤w3.heap.size:=by simpa using hB3.size
   have hB23:Below w2.heap.size w2 w3:=bgo (w:=w2) bel hB3
   have HB3:=Lib.hid (bgo HB2.out hB23)
   have HF3:=Lib.hid (HF2.out.below hB23)
   have HX3:=Lib.hid (HX2.out.below hB23)
   have hc3:=(bcell hB23).1 bw (ow+k) hbl2
   rw[hc2] at hc3
   have hbl3:=block_lt_of_cell hc3
   replace k0:=k0.next hB23
   replace k1:=k1.next hB23
   replace k2:=k2.next hB3
   have hz3:w1.heap.size+1≤w3.heap.size:=by omega
   clear hB23 hB3 HF2 HX2 hc2 qk0 rk0 lk0 qk1 rk1 lk1 HB2 hz2 hbl2
   (replace qk0:=k0.cell;replace rk0:=k0.frozen;replace lk0:=k0.lt;replace qk1:=k1.cell;replace rk1:=k1.frozen;replace lk1:=k1.lt;replace qk2:=k2.cell;replace rk2:=k2.frozen;replace lk2:=k2.lt)
   obtain ⟨px,hpx⟩:∃ px,px=(parseX x).isSome:=⟨_,rfl⟩
   rw[←hpx]
   replace hpx:=Lib.hid hpx
   replace hyz:=Lib.hid hyz
   simp only
   have hbw:bw<w1.heap.size:=by
    obtain ⟨b',o',e,-,h2,-⟩:=HV.out.raw.2 (by omega)
    injection e with e
    injection e with e1
    omega
   have hd4:Hid (∀ (h:k+1<ws.length) W,Below w1.heap.size w1 W→W.cell? ⟨bw,ow+(k+1),none⟩=some (sv ws[k+1])):=Lib.hid fun h W hW=>by
    obtain ⟨b',o',e,hd⟩:=StrsV.at (Rd.keepB HV.out hW (Nat.le_refl _)) h
    injection e with e
    injection e with e1 e2
    subst e1 e2
    exact hd
   cases sb with
   | false=>
    cases hq:parseF x with
    | some f=>
     have hpF:Hid (parseF x=some ⟨fe,fa,fb⟩):=Lib.hid (by have h:=hfv.out;rw[hq] at h ⊢;exact congrArg some h)
     have hpt:pf=true:=by rw[hpf.out,hq];rfl
     subst hpt
     clear hq
     by_cases hn1:k+1<ws.length
     ·have hni:(k:Int)+1<(ws.length:Int):=by omega
      have hdc:=Lib.hid (fun W=>hd4.out hn1 W)
      obtain ⟨y,hyy⟩:∃ y,y=ws[k+1]:=⟨_,rfl⟩
      have hnb:nextB ws k=decide (y=[124]):=by unfold nextB;rw[List.getElem?_eq_getElem hn1,←hyy,decide_eq_decide];simp
      rw[←hyy] at hdc
      clear hyy
      by_cases hy:y=[124]
      ·subst hy
       have hnB:Hid (nextB ws k=true):=Lib.hid (by rw[hnb];rfl)
       clear hnb
       go_wp2_with (at_builtin;refine appFL rfl _ _ rfl (base:=w1.heap.size+1) (xs:=fs) rfl (HF3.out.below bel) rfl (FactsV.one (f:=⟨fe,fa,fb⟩) (Blk.newE (by simp))) (by simp;omega) (by simp;omega) ?_;intro A' c' w4 of4 hg4 hB4;have z0:=Blk.grownO (g:=w.heap.size) (hg:=hg4) blks (FactsO.below (w:=w3) HF3.out bel).1 (by decide);have z1b:=Blk.grownO (g:=w1.heap.size) (hg:=hg4) blks (FactsO.below (w:=w3) HF3.out bel).1 (by decide);have z1c:=z1b.cell;have z1f:=z1b.frozen;have ox4:=AtomsO.grownF (AtomsO.below (w:=w3) HX3.out bel) (FactsO.below (w:=w3) HF3.out bel) hg4;have hB34:Below (w1.heap.size+1) w3 w4:=(((Below.refl _ w3).alloc hz3 _).alloc (by simp;omega) _).trans hB4;have hl4:=z1b.lt;clear hg4 hB4;have hdy:=hdc.out w4 (HB3.out.trans (hB34.mono (Nat.le_succ _))))
       go_round
       case rel=>exact ⟨k+2,fs++[⟨fe,fa,fb⟩],xs,A',c',AA,cA,true,rfl,by go_num,by omega,by simp;omega,by omega,(of4.setT z1b (by decide) 0 _),(ox4.setT z1b (by decide) 0 _),Lib.hid (((HS.out _ (stepA_f hpF.out)).symm.trans hR.out |> fun h=>by rw[hnB.out] at h;exact h)),(by have h:=z1b.set_ 0 (.slice A' (fs.length+1) c');simpa using h),z0.far (by simp only[];omega) _,Lib.hid ((HB3.out.trans (hB34.mono (Nat.le_succ _))).setCell (Nat.le_refl _) _)⟩
       case measure=>simp[intOf];omega
      ·have hnB:Hid (nextB ws k=false):=Lib.hid (by rw[hnb];simpa using hy)
       have hyb:(y == [124])=false:=by rw[bytes_eq];simpa using hy
       clear hnb hy
       go_wp2_with (at_builtin;refine appFL rfl _ _ rfl (base:=w1.heap.size+1) (xs:=fs) rfl (HF3.out.below bel) rfl (FactsV.one (f:=⟨fe,fa,fb⟩) (Blk.newE (by simp))) (by simp;omega) (by simp;omega) ?_;intro A' c' w4 of4 hg4 hB4;have z0:=Blk.grownO (g:=w.heap.size) (hg:=hg4) blks (FactsO.below (w:=w3) HF3.out bel).1 (by decide);have z1b:=Blk.grownO (g:=w1.heap.size) (hg:=hg4) blks (FactsO.below (w:=w3) HF3.out bel).1 (by decide);have z1c:=z1b.cell;have z1f:=z1b.frozen;have ox4:=AtomsO.grownF (AtomsO.below (w:=w3) HX3.out bel) (FactsO.below (w:=w3) HF3.out bel) hg4;have hB34:Below (w1.heap.size+1) w3 w4:=(((Below.refl _ w3).alloc hz3 _).alloc (by simp;omega) _).trans hB4;have hl4:=z1b.lt;clear hg4 hB4;have hdy:=hdc.out w4 (HB3.out.trans (hB34.mono (Nat.le_succ _))))
       go_round
       case rel=>exact ⟨k+2,fs++[⟨fe,fa,fb⟩],xs,A',c',AA,cA,false,rfl,by go_num,by omega,by simp;omega,by omega,(of4.setT z1b (by decide) 0 _),(ox4.setT z1b (by decide) 0 _),Lib.hid (((HS.out _ (stepA_f hpF.out)).symm.trans hR.out |> fun h=>by rw[hnB.out] at h;exact h)),(by have h:=z1b.set_ 0 (.slice A' (fs.length+1) c');simpa using h),z0.far (by simp only[];omega) _,Lib.hid ((HB3.out.trans (hB34.mono (Nat.le_succ _))).setCell (Nat.le_refl _) _)⟩
       case measure=>simp[intOf];omega
     ·have hni:¬(k:Int)+1<(ws.length:Int):=by omega
      have hnB:Hid (nextB ws k=false):=Lib.hid (by unfold nextB;rw[List.getElem?_eq_none (by omega)];rfl)
      go_wp2_with (at_builtin;refine appFL rfl _ _ rfl (base:=w1.heap.size+1) (xs:=fs) rfl (HF3.out.below bel) rfl (FactsV.one (f:=⟨fe,fa,fb⟩) (Blk.newE (by simp))) (by simp;omega) (by simp;omega) ?_;intro A' c' w4 of4 hg4 hB4;have z0:=Blk.grownO (g:=w.heap.size) (hg:=hg4) blks (FactsO.below (w:=w3) HF3.out bel).1 (by decide);have z1b:=Blk.grownO (g:=w1.heap.size) (hg:=hg4) blks (FactsO.below (w:=w3) HF3.out bel).1 (by decide);have z1c:=z1b.cell;have z1f:=z1b.frozen;have ox4:=AtomsO.grownF (AtomsO.below (w:=w3) HX3.out bel) (FactsO.below (w:=w3) HF3.out bel) hg4;have hB34:Below (w1.heap.size+1) w3 w4:=(((Below.refl _ w3).alloc hz3 _).alloc (by simp;omega) _).trans hB4;have hl4:=z1b.lt;clear hg4 hB4)
      go_round
      case rel=>exact ⟨k+2,fs++[⟨fe,fa,fb⟩],xs,A',c',AA,cA,false,rfl,by go_num,by omega,by simp;omega,by omega,(of4.setT z1b (by decide) 0 _),(ox4.setT z1b (by decide) 0 _),Lib.hid (((HS.out _ (stepA_f hpF.out)).symm.trans hR.out |> fun h=>by rw[hnB.out] at h;exact h)),(by have h:=z1b.set_ 0 (.slice A' (fs.length+1) c');simpa using h),z0.far (by simp only[];omega) _,Lib.hid ((HB3.out.trans (hB34.mono (Nat.le_succ _))).setCell (Nat.le_refl _) _)⟩
      case measure=>simp[intOf];omega
    | none=>
     have hpO:Hid (parseF x=none):=Lib.hid hq
     have hpt:pf=false:=by rw[hpf.out,hq];rfl
     subst hpt
     clear hq
     by_cases hx1:x=[116,114,117,101]
     ·subst hx1
      have hst:Hid (stepA (fs,xs,false) [116,114,117,101]=some (fs,xs)):=Lib.hid (by rw[stepA_f0 hpO.out];rfl)
      clear hpO
      by_cases hn1:k+1<ws.length
      ·have hni:(k:Int)+1<(ws.length:Int):=by omega
       have hdc:=Lib.hid (fun W=>hd4.out hn1 W)
       obtain ⟨y,hyy⟩:∃ y,y=ws[k+1]:=⟨_,rfl⟩
       have hnb:nextB ws k=decide (y=[124]):=by unfold nextB;rw[List.getElem?_eq_getElem hn1,←hyy,decide_eq_decide];simp
       rw[←hyy] at hdc
       clear hyy
       by_cases hy:y=[124]
       ·subst hy
        have hnB:Hid (nextB ws k=true):=Lib.hid (by rw[hnb];rfl)
        clear hnb
        have hdy:=hdc.out w3 HB3.out
        go_wp2_with fail
        go_round
        case rel=>exact ⟨k+2,fs,xs,AF,cF,AA,cA,true,rfl,by go_num,by omega,by omega,by omega,HF3.out.below bel,HX3.out.below bel,Lib.hid (((HS.out _ hst.out).symm.trans hR.out |> fun h=>by rw[hnB.out] at h;exact h)),k1.alloc _,k0.alloc _,Lib.hid (HB3.out.alloc (by omega) _)⟩
        case measure=>simp[intOf];omega
       ·have hnB:Hid (nextB ws k=false):=Lib.hid (by rw[hnb];simpa using hy)
        have hyb:(y == [124])=false:=by rw[bytes_eq];simpa using hy
        clear hnb hy
        have hdy:=hdc.out w3 HB3.out
        go_wp2_with fail
        go_round
        case rel=>exact ⟨k+2,fs,xs,AF,cF,AA,cA,false,rfl,by go_num,by omega,by omega,by omega,HF3.out.below bel,HX3.out.below bel,Lib.hid (((HS.out _ hst.out).symm.trans hR.out |> fun h=>by rw[hnB.out] at h;exact h)),k1.alloc _,k0.alloc _,Lib.hid (HB3.out.alloc (by omega) _)⟩
        case measure=>simp[intOf];omega
      ·have hni:¬(k:Int)+1<(ws.length:Int):=by omega
       have hnB:Hid (nextB ws k=false):=Lib.hid (by unfold nextB;rw[List.getElem?_eq_none (by omega)];rfl)
       go_wp2_with fail
       go_round
       case rel=>exact ⟨k+2,fs,xs,AF,cF,AA,cA,false,rfl,by go_num,by omega,by omega,by omega,HF3.out.below bel,HX3.out.below bel,Lib.hid (((HS.out _ hst.out).symm.trans hR.out |> fun h=>by rw[hnB.out] at h;exact h)),k1.alloc _,k0.alloc _,Lib.hid (HB3.out.alloc (by omega) _)⟩
       case measure=>simp[intOf];omega
     ·have hx1b:(x == [116,114,117,101])=false:=by rw[bytes_eq];simpa using hx1
      by_cases hx2:x=[101,109,112]
      ·subst hx2
       have hst:Hid (stepA (fs,xs,false) [101,109,112]=some (fs,xs)):=Lib.hid (by rw[stepA_f0 hpO.out];rfl)
       clear hpO hx1 hx1b
       by_cases hn1:k+1<ws.length
       ·have hni:(k:Int)+1<(ws.length:Int):=by omega
        have hdc:=Lib.hid (fun W=>hd4.out hn1 W)
        obtain ⟨y,hyy⟩:∃ y,y=ws[k+1]:=⟨_,rfl⟩
        have hnb:nextB ws k=decide (y=[124]):=by unfold nextB;rw[List.getElem?_eq_getElem hn1,←hyy,decide_eq_decide];simp
        rw[←hyy] at hdc
        clear hyy
        by_cases hy:y=[124]
        ·subst hy
         have hnB:Hid (nextB ws k=true):=Lib.hid (by rw[hnb];rfl)
         clear hnb
         have hdy:=hdc.out w3 HB3.out
         go_wp2_with fail
         go_round
         case rel=>exact ⟨k+2,fs,xs,AF,cF,AA,cA,true,rfl,by go_num,by omega,by omega,by omega,HF3.out.below bel,HX3.out.below bel,Lib.hid (((HS.out _ hst.out).symm.trans hR.out |> fun h=>by rw[hnB.out] at h;exact h)),k1.alloc _,k0.alloc _,Lib.hid (HB3.out.alloc (by omega) _)⟩
         case measure=>simp[intOf];omega
        ·have hnB:Hid (nextB ws k=false):=Lib.hid (by rw[hnb];simpa using hy)
         have hyb:(y == [124])=false:=by rw[bytes_eq];simpa using hy
         clear hnb hy
         have hdy:=hdc.out w3 HB3.out
         go_wp2_with fail
         go_round
         case rel=>exact ⟨k+2,fs,xs,AF,cF,AA,cA,false,rfl,by go_num,by omega,by omega,by omega,HF3.out.below bel,HX3.out.below bel,Lib.hid (((HS.out _ hst.out).symm.trans hR.out |> fun h=>by rw[hnB.out] at h;exact h)),k1.alloc _,k0.alloc _,Lib.hid (HB3.out.alloc (by omega) _)⟩
         case measure=>simp[intOf];omega
       ·have hni:¬(k:Int)+1<(ws.length:Int):=by omega
        have hnB:Hid (nextB ws k=false):=Lib.hid (by unfold nextB;rw[List.getElem?_eq_none (by omega)];rfl)
        go_wp2_with fail
        go_round
        case rel=>exact ⟨k+2,fs,xs,AF,cF,AA,cA,false,rfl,by go_num,by omega,by omega,by omega,HF3.out.below bel,HX3.out.below bel,Lib.hid (((HS.out _ hst.out).symm.trans hR.out |> fun h=>by rw[hnB.out] at h;exact h)),k1.alloc _,k0.alloc _,Lib.hid (HB3.out.alloc (by omega) _)⟩
        case measure=>simp[intOf];omega
      ·have hx2b:(x == [101,109,112])=false:=by rw[bytes_eq];simpa using hx2
       have hst:Hid (stepA (fs,xs,false) x=none):=Lib.hid (by rw[stepA_f0 hpO.out,if_pos ⟨hx1,hx2⟩])
       clear hpO hx1 hx2
       have hNo:Hid (parseA l=none):=Lib.hid (HP0.out (hR.out.symm.trans (HN.out _ hst.out)))
       go_wp2_with fail
       have kz:=(((k0.set_ 0 (.slice none 0 0)).set_ 1 (.slice none 0 0)).alloc (.cells #[.int .i64 yk,.int .i64 ya,.int .i64 yb] tA)).cell
       refine bodyPost_ret (v:=.tuple #[.agg #[.slice none 0 0,.slice none 0 0],.bool false]) (by simp[results,Tryd.results31,go_sem,kz]) rfl ⟨_,by rw[hNo.out];rfl,?_,?_⟩
       ·rw[hNo.out];exact ⟨_,_,rfl,FactsO.nil _ _,AtomsO.nil _ _⟩
       ·have hb:=HW1.out.trans (HB3.out.mono (by omega:w.heap.size≤w1.heap.size));exact bel
   | true=>
    cases hq:parseX x with
    | some f=>
     have hpX:Hid (parseX x=some ⟨yk,ya,yb⟩):=Lib.hid (by rw[hq];exact congrArg some (hyz.out f hq).symm)
     have hpt:px=true:=by rw[hpx.out,hq];rfl
     subst hpt
     clear hq
     go_wp2_with (at_builtin;refine appAL rfl _ _ rfl (base:=w1.heap.size+1) (xs:=xs) rfl (HX3.out.below bel) rfl (AtomsV.one (f:=⟨yk,ya,yb⟩) (Blk.newE (by simp))) (by simp;omega) (by simp;omega) ?_;intro A' c' w4 of4 hg4 hB4;have z0:=Blk.grownO (g:=w.heap.size) (hg:=hg4) blks (AtomsO.below (w:=w3) HX3.out bel).1 (by decide);have z1b:=Blk.grownO (g:=w1.heap.size) (hg:=hg4) blks (AtomsO.below (w:=w3) HX3.out bel).1 (by decide);have z1c:=z1b.cell;have z1f:=z1b.frozen;have ox4:=FactsO.grownA (FactsO.below (w:=w3) HF3.out bel) (AtomsO.below (w:=w3) HX3.out bel) hg4;have hB34:Below (w1.heap.size+1) w3 w4:=(((Below.refl _ w3).alloc hz3 _).alloc (by simp;omega) _).trans hB4;have hl4:=z1b.lt;clear hg4 hB4)
     go_round
     case rel=>exact ⟨k+2,fs,xs++[⟨yk,ya,yb⟩],AF,cF,A',c',true,rfl,by go_num,by omega,by omega,by simp;omega,(ox4.setT z1b (by decide) 1 _),(of4.setT z1b (by decide) 1 _),Lib.hid ((HS.out _ (stepA_x hpX.out)).symm.trans hR.out),(by have h:=z1b.set_ 1 (.slice A' (xs.length+1) c');simpa using h),z0.far (by simp only[];omega) _,Lib.hid ((HB3.out.trans (hB34.mono (Nat.le_succ _))).setCell (Nat.le_refl _) _)⟩
     case measure=>simp[intOf];omega
    | none=>
     have hpO:Hid (parseX x=none):=Lib.hid hq
     have hpt:px=false:=by rw[hpx.out,hq];rfl
     subst hpt
     clear hq
     by_cases hx1:x=[116,114,117,101]
     ·subst hx1
      have hst:Hid (stepA (fs,xs,true) [116,114,117,101]=some (fs,xs)):=Lib.hid (by rw[stepA_x0 hpO.out];rfl)
      clear hpO
      go_wp2_with fail
      go_round
      case rel=>exact ⟨k+2,fs,xs,AF,cF,AA,cA,true,rfl,by go_num,by omega,by omega,by omega,HF3.out.below bel,HX3.out.below bel,Lib.hid ((HS.out _ hst.out).symm.trans hR.out),k1.alloc _,k0.alloc _,Lib.hid (HB3.out.alloc (by omega) _)⟩
      case measure=>simp[intOf];omega
     ·have hx1b:(x == [116,114,117,101])=false:=by rw[bytes_eq];simpa using hx1
      by_cases hx2:x=[101,109,112]
      ·subst hx2
       have hst:Hid (stepA (fs,xs,true) [101,109,112]=some (fs,xs)):=Lib.hid (by rw[stepA_x0 hpO.out];rfl)
       clear hpO hx1 hx1b
       go_wp2_with fail
       go_round
       case rel=>exact ⟨k+2,fs,xs,AF,cF,AA,cA,true,rfl,by go_num,by omega,by omega,by omega,HF3.out.below bel,HX3.out.below bel,Lib.hid ((HS.out _ hst.out).symm.trans hR.out),k1.alloc _,k0.alloc _,Lib.hid (HB3.out.alloc (by omega) _)⟩
       case measure=>simp[intOf];omega
      ·have hx2b:(x == [101,109,112])=false:=by rw[bytes_eq];simpa using hx2
       have hst:Hid (stepA (fs,xs,true) x=none):=Lib.hid (by rw[stepA_x0 hpO.out,if_pos ⟨hx1,hx2⟩])
       clear hpO hx1 hx2
       have hNo:Hid (parseA l=none):=Lib.hid (HP0.out (hR.out.symm.trans (HN.out _ hst.out)))
       go_wp2_with fail
       have kz:=(((k0.set_ 0 (.slice none 0 0)).set_ 1 (.slice none 0 0)).alloc (.cells #[.int .i64 yk,.int .i64 ya,.int .i64 yb] tA)).cell
       refine bodyPost_ret (v:=.tuple #[.agg #[.slice none 0 0,.slice none 0 0],.bool false]) (by simp[results,Tryd.results31,go_sem,kz]) rfl ⟨_,by rw[hNo.out];rfl,?_,?_⟩
       ·rw[hNo.out];exact ⟨_,_,rfl,FactsO.nil _ _,AtomsO.nil _ _⟩
       ·have hb:=HW1.out.trans (HB3.out.mono (by omega:w.heap.size≤w1.heap.size));exact bel
  ·have hki:¬(k:Int)<(ws.length:Int):=by omega
   have hE:=Lib.hid (HP1.out ⟨fs,xs⟩ hl3 (hR.out.symm.trans (readA_end (by omega))))
   have HA:Hid (AsnO wr (w1.heap.size+1) (.agg #[.slice AF fs.length cF,.slice AA xs.length cA]) ⟨fs,xs⟩):=Lib.hid ⟨_,_,rfl,HF.out,HX.out⟩
   go_wp2_with fail
   refine (c_FormatAssertion _ ⟨fs,xs⟩ _ HA.out.reads).mono ?_
   rintro e w5 ⟨rfl,hB5⟩
   have HB5:=Lib.hid (bgo HB.out hB5)
   replace k0:=k0.next hB5
   replace k1:=k1.next hB5
   have HA5:=Lib.hid (HA.out.below hB5)
   clear hB5 HA qk0 rk0 lk0 qk1 rk1 lk1
   (replace qk0:=k0.cell;replace rk0:=k0.frozen;replace lk0:=k0.lt;replace qk1:=k1.cell;replace rk1:=k1.frozen;replace lk1:=k1.lt)
   obtain ⟨T,hT⟩:∃ T,T=fmtA ⟨fs,xs⟩:=⟨_,rfl⟩
   rw[←hT] at hE ⊢
   clear hT
   by_cases ht:T=l
   ·subst ht
    by_cases he:T=[]
    ·subst he
     have hNo:Hid (parseA []=none):=Lib.hid (by rw[hE.out];rfl)
     clear hE
     go_wp2_with fail
     have kz:=((k0.set_ 0 (.slice none 0 0)).set_ 1 (.slice none 0 0)).cell
     refine bodyPost_ret (v:=.tuple #[.agg #[.slice none 0 0,.slice none 0 0],.bool false]) (by simp[results,Tryd.results31,go_sem,kz]) rfl ⟨_,by rw[hNo.out];rfl,?_,?_⟩
     ·rw[hNo.out];exact ⟨_,_,rfl,FactsO.nil _ _,AtomsO.nil _ _⟩
     ·have hb:=HW1.out.trans (HB5.out.mono (by omega:w.heap.size≤w1.heap.size));exact bel
    ·have heb:(T == [])=false:=by rw[bytes_eq];simpa using he
     have hYes:Hid (parseA T=some ⟨fs,xs⟩):=Lib.hid (by rw[hE.out,if_pos ⟨rfl,he⟩])
     clear hE he
     go_wp2_with fail
     have kz:=((k0.set_ 0 (.slice AF fs.length cF)).set_ 1 (.slice AA xs.length cA)).cell
     refine bodyPost_ret (v:=.tuple #[.agg #[.slice AF fs.length cF,.slice AA xs.length cA],.bool true]) (by simp[results,Tryd.results31,go_sem,kz]) rfl ⟨_,by rw[hYes.out];rfl,?_,?_⟩
     ·rw[hYes.out]
      obtain ⟨fv,av,e,h1,h2⟩:=HA5.out
      injection e with e;injection e with e;injection e with e1 e2;injection e2 with e2;subst e1 e2
      exact ⟨_,_,rfl,((h1.setT k0 (by decide) 0 _).setT (k0.set_ _ _) (by decide) 1 _).lower (by omega),((h2.setT k0 (by decide) 0 _).setT (k0.set_ _ _) (by decide) 1 _).lower (by omega)⟩
     ·have hb:=HW1.out.trans (HB5.out.mono (by omega:w.heap.size≤w1.heap.size));exact bel
   ·have htb:(T == l)=false:=by rw[bytes_eq];simpa using ht
    have hNo:Hid (parseA l=none):=Lib.hid (by rw[hE.out,if_neg (fun h=>ht h.1)])
    clear hE ht
    go_wp2_with fail
    have kz:=((k0.set_ 0 (.slice none 0 0)).set_ 1 (.slice none 0 0)).cell
    refine bodyPost_ret (v:=.tuple #[.agg #[.slice none 0 0,.slice none 0 0],.bool false]) (by simp[results,Tryd.results31,go_sem,kz]) rfl ⟨_,by rw[hNo.out];rfl,?_,?_⟩
    ·rw[hNo.out];exact ⟨_,_,rfl,FactsO.nil _ _,AtomsO.nil _ _⟩
    ·have hb:=HW1.out.trans (HB5.out.mono (by omega:w.heap.size≤w1.heap.size));exact bel
end Go.Proofs.YtjaohekkmlkinaaDoor
