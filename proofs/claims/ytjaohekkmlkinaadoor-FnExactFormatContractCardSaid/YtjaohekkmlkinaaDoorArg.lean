/- Contracts: the laws' own helpers on plain data: sizes, copies into impl's types, equality. -/
import Derived.Test.YtjaohekkmlkinaaDoorOwn
set_option linter.unusedSimpArgs false
set_option linter.unusedVariables false
set_option maxRecDepth 100000
set_option maxHeartbeats 25600000
namespace Go.Proofs.YtjaohekkmlkinaaDoor
section
open Go Go.RowKit Go.Proofs
def szL (n:Nat) (left:Int):Int:=if left - n<0 then -1 else left - n
def szA (a:Asn) (left:Int):Int:=if szL a.facts.length left<0 then -1 else szL a.atoms.length (szL a.facts.length left)
theorem szL_neg {n:Nat} {left:Int} (h:szL n left<0):szL n left = -1:=by
 by_cases h3:left - n<0
 ·rw[szL,if_pos h3]
 ·rw[szL,if_neg h3] at h;exact absurd h h3
theorem szL_le {n:Nat} {left:Int} (h:¬szL n left<0):szL n left=left - n∧0≤left - n:=by unfold szL at h ⊢;split<;>simp_all<;>omega
theorem szA_le {a:Asn} {left:Int} (h:¬szA a left<0):0≤szA a left∧szA a left=left - a.facts.length - a.atoms.length∧0≤left:=by
 unfold szA at h ⊢
 split at h
 ·omega
 ·rename_i h1;have e1:=szL_le h1;have e2:=szL_le h;rw[if_neg h1];omega
theorem c_szFactS (A:Option Addr) (n c:Nat) (left:Int) (w:World) (hn:n≤9223372036854775807) (h0:0≤left) (h1:left≤1048576):Calls Tryd.prog 79 #[.slice A n c,.int .i64 left] w fun e w'=>e=.returned (.int .i64 (szL n left))∧w=w':=by
 by_cases h:left - n<0
 all_goals
  (go_enter Tryd.func79,Tryd.ntmps79);go_wp2;go_ret;exact ⟨ret_int (by simp[szL];omega),rfl⟩
theorem c_szAtomS (A:Option Addr) (n c:Nat) (left:Int) (w:World) (hn:n≤9223372036854775807) (h0:0≤left) (h1:left≤1048576):Calls Tryd.prog 80 #[.slice A n c,.int .i64 left] w fun e w'=>e=.returned (.int .i64 (szL n left))∧w=w':=by
 by_cases h:left - n<0
 all_goals
  (go_enter Tryd.func80,Tryd.ntmps80);go_wp2;go_ret;exact ⟨ret_int (by simp[szL];omega),rfl⟩
theorem c_szIntS (A:Option Addr) (n c:Nat) (left:Int) (w:World) (hn:n≤9223372036854775807) (h0:0≤left) (h1:left≤1048576):Calls Tryd.prog 46 #[.slice A n c,.int .i64 left] w fun e w'=>e=.returned (.int .i64 (szL n left))∧w=w':=by
 by_cases h:left - n<0
 all_goals
  (go_enter Tryd.func46,Tryd.ntmps46);go_wp2;go_ret;exact ⟨ret_int (by simp[szL];omega),rfl⟩
theorem c_szAssertion (A1 A2:Option Addr) (c1 c2:Nat) (a:Asn) (left:Int) (w:World) (hn:a.facts.length≤9223372036854775807) (hm:a.atoms.length≤9223372036854775807) (h0:0≤left) (h1:left≤1048576):Calls Tryd.prog 45 #[.agg #[.slice A1 a.facts.length c1,.slice A2 a.atoms.length c2],.int .i64 left] w fun e w'=>e=.returned (.int .i64 (szA a left))∧Below w.heap.size w w':=by
 have hle:szL a.facts.length left≤left:=by unfold szL;split<;>omega
 have hH:=ax (show szA a left=if szL a.facts.length left<0 then -1 else szL a.atoms.length (szL a.facts.length left) from rfl);by_cases h:szL a.facts.length left<0
 ·(go_enter Tryd.func45,Tryd.ntmps45);(go_wp2_with (go_at_call 79;refine (c_szFactS _ _ _ _ _ hn h0 h1).mono ?_;rintro e w' ⟨rfl,rfl⟩));go_ret;exact ⟨ret_int (by rw[hH.o,if_pos h]),bel⟩
 ·by_cases h2:szL a.atoms.length (szL a.facts.length left)<0
  all_goals
   (go_enter Tryd.func45,Tryd.ntmps45);(go_wp2_with (first|(go_at_call 79;refine (c_szFactS _ _ _ _ _ hn h0 h1).mono ?_;rintro e w' ⟨rfl,rfl⟩)|(go_at_call 80;refine (c_szAtomS _ _ _ _ _ hm (by omega) (by omega)).mono ?_;rintro e w' ⟨rfl,rfl⟩)));go_ret
  ·refine ⟨ret_int ?_,bel⟩;rw[hH.o,if_neg (by omega)];exact (szL_neg h2).symm
  ·exact ⟨ret_int (by rw[hH.o,if_neg (by omega)]),bel⟩
theorem c_toFact (f:Fct) (w:World):Calls Tryd.prog 113 #[f.val] w fun e w'=>e=.returned f.val∧Below w.heap.size w w':=by
 (go_enter Tryd.func113,Tryd.ntmps113);go_wp2;exact bodyPost_ret (v:=f.val) (by simp[results,Tryd.results113,go_sem]) rfl ⟨rfl,bel⟩
theorem c_toAtom (f:Atm) (w:World):Calls Tryd.prog 114 #[f.val] w fun e w'=>e=.returned f.val∧Below w.heap.size w w':=by
 (go_enter Tryd.func114,Tryd.ntmps114);go_wp2;exact bodyPost_ret (v:=f.val) (by simp[results,Tryd.results114,go_sem]) rfl ⟨rfl,bel⟩
theorem c_toFactS {lo hi:Nat} (A:Option Addr) (c:Nat) (fs:List Fct) (w:World) (h:FactsV w lo hi A fs):Calls Tryd.prog 85 #[.slice A fs.length c] w fun e w'=>∃ v,e=.returned v∧FactsO w' w.heap.size v fs∧Below w.heap.size w w':=by
 have hl:=h.le;have hmk:=mkF fs.length h.lim;have hL:=len3 (fun f:Fct=>Value.bool f.eq) (fun f=>.int .i64 f.a) (fun f=>.int .i64 f.b) fs;(go_enter Tryd.func85,Tryd.ntmps85);go_wp2;clear hmk
 go_loopw [4] (fun i wr=>∃ (k:Nat) (cs:Array Value),k≤fs.length∧i=.int .i64 k∧cs.size=fs.length * 3∧Pre cs (encF fs) (k * 3)∧Blk wr w.heap.size tF cs∧Below w.heap.size w wr) (fun i _=>fs.length - (intOf i).toNat)
 case atStart=>exact ⟨0,_,Nat.zero_le _,rfl,size_madeCells _ _,by simpa using Pre.zero _ _,Blk.new _ _ _,bel⟩
 case round=>
  obtain ⟨k,cs,hk,rfl,HS,HP,hK,hB⟩:=hrel;have HS:=ax HS;have HP:=ax HP;have HL:=ax hL;clear hL;by_cases hlt:k<fs.length
  ·obtain ⟨b,off,rfl,c0,c1,c2⟩:=(h.bz hB).at hlt;(go_wp2_with fail);refine (c_toFact fs[k] wr).mono ?_;rintro e w' ⟨rfl,hB2⟩;have hK2:=hK.nz hB2;have hs:=HS.o;have q0:w'.cell? ⟨w.heap.size,k * 3,none⟩=some (cs[k*3]'(by omega)):=by rw[hK2.cell];exact Array.getElem?_eq_getElem _
   have q1:w'.cell? ⟨w.heap.size,k * 3+1,none⟩=some (cs[k*3+1]'(by omega)):=by rw[hK2.cell];exact Array.getElem?_eq_getElem _
   have q2:w'.cell? ⟨w.heap.size,k * 3+2,none⟩=some (cs[k*3+2]'(by omega)):=by rw[hK2.cell];exact Array.getElem?_eq_getElem _
   have r:=hK2.frozen;clear hs;(go_wp2_with fail);obtain ⟨e0,e1,e2⟩:=flat3 (fun f:Fct=>Value.bool f.eq) (fun f=>.int .i64 f.a) (fun f=>.int .i64 f.b) fs k hlt;have hs:=HS.o;have hB3:=bgo hB hB2
   go_round
   case rel=>exact ⟨k+1,_,by omega,by go_num,by simp[hs],HP.o.set3 (by omega) e0 e1 e2,((hK2.set_ _ _).set_ _ _).set_ _ _,bel⟩
   case measure=>simp[intOf];omega
  ·go_wp2;go_ret;obtain rfl:k=fs.length:=by omega
   refine ⟨_,rfl,⟨own_of_blk hK (Nat.le_refl _) HL.o HP.o (Nat.le_refl _) (by unfold maxLen;omega) HS.o,by unfold Lim;omega⟩,hB⟩
theorem c_toAtomS {lo hi:Nat} (A:Option Addr) (c:Nat) (fs:List Atm) (w:World) (h:AtomsV w lo hi A fs):Calls Tryd.prog 86 #[.slice A fs.length c] w fun e w'=>∃ v,e=.returned v∧AtomsO w' w.heap.size v fs∧Below w.heap.size w w':=by
 have hl:=h.le;have hmk:=mkA fs.length h.lim;have hL:=len3 (fun f:Atm=>Value.int .i64 f.kind) (fun f=>.int .i64 f.a) (fun f=>.int .i64 f.b) fs;(go_enter Tryd.func86,Tryd.ntmps86);go_wp2;clear hmk
 go_loopw [4] (fun i wr=>∃ (k:Nat) (cs:Array Value),k≤fs.length∧i=.int .i64 k∧cs.size=fs.length * 3∧Pre cs (encA fs) (k * 3)∧Blk wr w.heap.size tA cs∧Below w.heap.size w wr) (fun i _=>fs.length - (intOf i).toNat)
 case atStart=>exact ⟨0,_,Nat.zero_le _,rfl,size_madeCells _ _,by simpa using Pre.zero _ _,Blk.new _ _ _,bel⟩
 case round=>
  obtain ⟨k,cs,hk,rfl,HS,HP,hK,hB⟩:=hrel;have HS:=ax HS;have HP:=ax HP;have HL:=ax hL;clear hL;by_cases hlt:k<fs.length
  ·obtain ⟨b,off,rfl,c0,c1,c2⟩:=(h.bz hB).at hlt;(go_wp2_with fail);refine (c_toAtom fs[k] wr).mono ?_;rintro e w' ⟨rfl,hB2⟩;have hK2:=hK.nz hB2;have hs:=HS.o;have q0:w'.cell? ⟨w.heap.size,k * 3,none⟩=some (cs[k*3]'(by omega)):=by rw[hK2.cell];exact Array.getElem?_eq_getElem _
   have q1:w'.cell? ⟨w.heap.size,k * 3+1,none⟩=some (cs[k*3+1]'(by omega)):=by rw[hK2.cell];exact Array.getElem?_eq_getElem _
   have q2:w'.cell? ⟨w.heap.size,k * 3+2,none⟩=some (cs[k*3+2]'(by omega)):=by rw[hK2.cell];exact Array.getElem?_eq_getElem _
   have r:=hK2.frozen;clear hs;(go_wp2_with fail);obtain ⟨e0,e1,e2⟩:=flat3 (fun f:Atm=>Value.int .i64 f.kind) (fun f=>.int .i64 f.a) (fun f=>.int .i64 f.b) fs k hlt;have hs:=HS.o;have hB3:=bgo hB hB2
   go_round
   case rel=>exact ⟨k+1,_,by omega,by go_num,by simp[hs],HP.o.set3 (by omega) e0 e1 e2,((hK2.set_ _ _).set_ _ _).set_ _ _,bel⟩
   case measure=>simp[intOf];omega
  ·go_wp2;go_ret;obtain rfl:k=fs.length:=by omega
   refine ⟨_,rfl,⟨own_of_blk hK (Nat.le_refl _) HL.o HP.o (Nat.le_refl _) (by unfold maxLen;omega) HS.o,by unfold Lim;omega⟩,hB⟩
theorem c_toIntS {lo hi:Nat} (A:Option Addr) (c:Nat) (fs:List Int) (w:World) (h:IntsV w lo hi A fs):Calls Tryd.prog 51 #[.slice A fs.length c] w fun e w'=>∃ v,e=.returned v∧IntsO w' w.heap.size v fs∧Below w.heap.size w w':=by
 have hl:=h.le;have hmk:=mkI fs.length h.lim;(go_enter Tryd.func51,Tryd.ntmps51);go_wp2;clear hmk
 go_loopw [4] (fun i wr=>∃ (k:Nat) (cs:Array Value),k≤fs.length∧i=.int .i64 k∧cs.size=fs.length * 1∧Pre cs (encI fs) k∧Blk wr w.heap.size tI cs∧Below w.heap.size w wr) (fun i _=>fs.length - (intOf i).toNat)
 case atStart=>exact ⟨0,madeCells #[.int .i64 0] fs.length,Nat.zero_le _,rfl,by rw[size_madeCells];omega,Pre.zero _ _,Blk.new _ _ _,bel⟩
 case round=>
  obtain ⟨k,cs,hk,rfl,HS,HP,hK,hB⟩:=hrel;have HS:=ax HS;have HP:=ax HP;by_cases hlt:k<fs.length
  ·obtain ⟨b,off,rfl,c0⟩:=(h.bz hB).at hlt;have hs:=HS.o;have q0:wr.cell? ⟨w.heap.size,k,none⟩=some (cs[k]'(by omega)):=by rw[hK.cell];exact Array.getElem?_eq_getElem _
   have r:=hK.frozen;clear hs;(go_wp2_with fail);have hs:=HS.o
   go_round
   case rel=>exact ⟨k+1,_,by omega,by go_num,by simp[hs],HP.o.set1 (by omega) (by simp[List.getElem?_eq_getElem hlt]),hK.set_ _ _,bel⟩
   case measure=>simp[intOf];omega
  ·go_wp2;go_ret;obtain rfl:k=fs.length:=by omega
   refine ⟨_,rfl,⟨own_of_blk hK (Nat.le_refl _) (by simp) (by simpa using HP.o) (Nat.le_refl _) (by unfold maxLen;omega) HS.o,by unfold Lim;omega⟩,hB⟩
theorem c_toAssertion {lo hi:Nat} (v:Value) (a:Asn) (w:World) (h:AsnV w lo hi v a):Calls Tryd.prog 50 #[v] w fun e w'=>∃ v,e=.returned v∧AsnO w' w.heap.size v a∧Below w.heap.size w w':=by
 obtain ⟨A1,c1,A2,c2,rfl,h1,h2⟩:=h;(go_enter Tryd.func50,Tryd.ntmps50);(go_wp2_with fail);refine (c_toFactS A1 c1 a.facts _ (h1.bz bel)).mono ?_;rintro e w1 ⟨v1,rfl,ho1,hB1⟩;obtain ⟨F1,d1,rfl,-⟩:=ho1.rj;have hB:=bgo (w:=w) bel hB1;have k0:=(((Blk.new w _ _).alloc _).alloc _).nz hB1;have k1:=((Blk.new (w.alloc _) _ _).alloc _).nz hB1;have k2:=(Blk.new ((w.alloc _).alloc _) _ _).nz hB1;simp only[World.size_alloc] at k1 k2 ho1;have q0:=k0.cell;have q2:=k2.cell;have r2:=k2.frozen;(go_wp2_with fail);refine (c_toAtomS A2 c2 a.atoms _ (h2.bz bel)).mono ?_;rintro e w2 ⟨v2,rfl,ho2,hB2⟩;obtain ⟨F2,d2,rfl,-⟩:=ho2.rj;have g1:=(k1.far (p:=⟨w.heap.size+1+1,0,none⟩) (by simp) _).nz hB2;have g2:=(k2.set_ 0 (.slice F1 a.facts.length d1)).nz hB2;have ho1':=ho1;clear q0 q2 r2 k0 k1 k2;have q1:=g1.cell;have r1:=g1.frozen;have q2:=g2.cell;have r2:=g2.frozen;(go_wp2_with fail);have hz:w.heap.size+1+1+1≤w1.heap.size:=by have:=hB1.size;simpa using this
 have hB3:=bgo (w:=w) bel hB2;have o1:=((((ho1.setb (a:=⟨w.heap.size+1+1,0,none⟩) (by simp) (.slice F1 a.facts.length d1)).bz hB2).setb (a:=⟨w.heap.size+1+1,1,none⟩) (by simp) (.slice F2 a.atoms.length d2)).setb (a:=⟨w.heap.size+1,0,none⟩) (by simp only;omega) (.slice F1 a.facts.length d1)).setb (a:=⟨w.heap.size+1,1,none⟩) (by simp only;omega) (.slice F2 a.atoms.length d2);have o2:=((ho2.setb (a:=⟨w.heap.size+1+1,1,none⟩) (by simp;omega) (.slice F2 a.atoms.length d2)).setb (a:=⟨w.heap.size+1,0,none⟩) (by simp;omega) (.slice F1 a.facts.length d1)).setb (a:=⟨w.heap.size+1,1,none⟩) (by simp;omega) (.slice F2 a.atoms.length d2);refine bodyPost_ret (v:=.agg #[.slice F1 a.facts.length d1,.slice F2 a.atoms.length d2]) (by simp[results,Tryd.results50,go_sem,q1]) rfl ⟨_,rfl,⟨_,_,rfl,o1.bq (by omega),o2.bq (by simp;omega)⟩,bel⟩
theorem c_eqFact (f g:Fct) (w:World):Calls Tryd.prog 64 #[f.val,g.val] w fun e w'=>e=.returned (.bool (decide (f=g)))∧Below w.heap.size w w':=by
 have hE:aJ (decide (f=g)=decide (f.eq=g.eq∧f.a=g.a∧f.b=g.b)):=decide_eq_decide.2 (Fct.eq_iff f g);(go_enter Tryd.func64,Tryd.ntmps64);go_wp2
 all_goals
  go_ret;exact ⟨zjD (by rw[hE.o];simp_all),bel⟩
theorem c_eqAtom (f g:Atm) (w:World):Calls Tryd.prog 110 #[f.val,g.val] w fun e w'=>e=.returned (.bool (decide (f=g)))∧Below w.heap.size w w':=by
 have hE:aJ (decide (f=g)=decide (f.kind=g.kind∧f.a=g.a∧f.b=g.b)):=decide_eq_decide.2 (Atm.eq_iff f g);(go_enter Tryd.func110,Tryd.ntmps110);go_wp2
 all_goals
  go_ret;exact ⟨zjD (by rw[hE.o];simp_all),bel⟩
theorem c_eqFactS {lo hi lo' hi':Nat} (A A':Option Addr) (c c':Nat) (fs gs:List Fct) (w:World) (h:FactsV w lo hi A fs) (h':FactsV w lo' hi' A' gs):Calls Tryd.prog 77 #[.slice A fs.length c,.slice A' gs.length c'] w fun e w'=>e=.returned (.bool (decide (fs=gs)))∧Below w.heap.size w w':=by
 have hl:=h.le;have hl':=h'.le;by_cases hn:fs.length=gs.length
 ·have hne:(fs.length != gs.length)=false:=by simpa using hn
  have hne':((fs.length:Int) != (gs.length:Int))=false:=by simp[hn]
  have HN:=ax hn;clear hn;(go_enter Tryd.func77,Tryd.ntmps77);go_wp2
  go_loopw [5] (fun i wr=>∃ k:Nat,k≤fs.length∧i=.int .i64 k∧aJ (decide (fs=gs)=decide (fs.drop k=gs.drop k))∧Below w.heap.size w wr) (fun i _=>fs.length - (intOf i).toNat)
  case atStart=>exact ⟨0,Nat.zero_le _,rfl,by simp[aJ],bel⟩
  case round=>
   obtain ⟨k,hk,rfl,HA,hB⟩:=hrel;clear hne hne';by_cases hlt:k<fs.length
   ·have hlt':k<gs.length:=by have:=HN.o;omega
    have HD:=ax (drop_eq fs gs k hlt hlt');obtain ⟨b,off,rfl,c0,c1,c2⟩:=(h.bz hB).at hlt;obtain ⟨b',off',rfl,d0,d1,d2⟩:=(h'.bz hB).at hlt';cases he:decide (fs[k]=gs[k])
    ·go_wp2_with fail
     go_still_tail 8,(by kernel_rfl)
     change wpList _ _ _ _ _ wr.drew
     have hBd:=hB.drew;clear hB;generalize wr.drew=wd at *;(go_wp2_with (go_at_call 64;refine (c_eqFact fs[k] gs[k] _).mono ?_;rintro e w' ⟨rfl,hB2⟩));go_ret;exact ⟨zjD (by rw[HA.o,HD.o,he];rfl),bgo hBd hB2⟩
    ·go_wp2_with fail
     go_still_tail 8,(by kernel_rfl)
     change wpList _ _ _ _ _ wr.drew
     have hBd:=hB.drew;clear hB;generalize wr.drew=wd at *;(go_wp2_with (go_at_call 64;refine (c_eqFact fs[k] gs[k] _).mono ?_;rintro e w' ⟨rfl,hB2⟩))
     go_round
     case rel=>exact ⟨k+1,by omega,by go_num,by show _=_;rw[HA.o,HD.o,he];rfl,bgo hBd hB2⟩
     case measure=>simp[intOf];omega
   ·go_wp2;go_ret;obtain rfl:k=fs.length:=by omega
    exact ⟨zjD (by rw[HA.o,List.drop_length,HN.o,List.drop_length];simp),hB⟩
 ·have hne:(fs.length != gs.length)=true:=by simpa using hn
  have HN:=ax hn;clear hn;(go_enter Tryd.func77,Tryd.ntmps77);go_wp2;go_ret;exact ⟨zjD (by symm;rw[decide_eq_false_iff_not];intro e;exact HN.o (by rw[e])),bel⟩
theorem c_eqAtomS {lo hi lo' hi':Nat} (A A':Option Addr) (c c':Nat) (fs gs:List Atm) (w:World) (h:AtomsV w lo hi A fs) (h':AtomsV w lo' hi' A' gs):Calls Tryd.prog 78 #[.slice A fs.length c,.slice A' gs.length c'] w fun e w'=>e=.returned (.bool (decide (fs=gs)))∧Below w.heap.size w w':=by
 have hl:=h.le;have hl':=h'.le;by_cases hn:fs.length=gs.length
 ·have hne:(fs.length != gs.length)=false:=by simpa using hn
  have hne':((fs.length:Int) != (gs.length:Int))=false:=by simp[hn]
  have HN:=ax hn;clear hn;(go_enter Tryd.func78,Tryd.ntmps78);go_wp2
  go_loopw [5] (fun i wr=>∃ k:Nat,k≤fs.length∧i=.int .i64 k∧aJ (decide (fs=gs)=decide (fs.drop k=gs.drop k))∧Below w.heap.size w wr) (fun i _=>fs.length - (intOf i).toNat)
  case atStart=>exact ⟨0,Nat.zero_le _,rfl,by simp[aJ],bel⟩
  case round=>
   obtain ⟨k,hk,rfl,HA,hB⟩:=hrel;clear hne hne';by_cases hlt:k<fs.length
   ·have hlt':k<gs.length:=by have:=HN.o;omega
    have HD:=ax (drop_eq fs gs k hlt hlt');obtain ⟨b,off,rfl,c0,c1,c2⟩:=(h.bz hB).at hlt;obtain ⟨b',off',rfl,d0,d1,d2⟩:=(h'.bz hB).at hlt';cases he:decide (fs[k]=gs[k])
    ·go_wp2_with fail
     go_still_tail 8,(by kernel_rfl)
     change wpList _ _ _ _ _ wr.drew
     have hBd:=hB.drew;clear hB;generalize wr.drew=wd at *;(go_wp2_with (go_at_call 110;refine (c_eqAtom fs[k] gs[k] _).mono ?_;rintro e w' ⟨rfl,hB2⟩));go_ret;exact ⟨zjD (by rw[HA.o,HD.o,he];rfl),bgo hBd hB2⟩
    ·go_wp2_with fail
     go_still_tail 8,(by kernel_rfl)
     change wpList _ _ _ _ _ wr.drew
     have hBd:=hB.drew;clear hB;generalize wr.drew=wd at *;(go_wp2_with (go_at_call 110;refine (c_eqAtom fs[k] gs[k] _).mono ?_;rintro e w' ⟨rfl,hB2⟩))
     go_round
     case rel=>exact ⟨k+1,by omega,by go_num,by show _=_;rw[HA.o,HD.o,he];rfl,bgo hBd hB2⟩
     case measure=>simp[intOf];omega
   ·go_wp2;go_ret;obtain rfl:k=fs.length:=by omega
    exact ⟨zjD (by rw[HA.o,List.drop_length,HN.o,List.drop_length];simp),hB⟩
 ·have hne:(fs.length != gs.length)=true:=by simpa using hn
  have HN:=ax hn;clear hn;(go_enter Tryd.func78,Tryd.ntmps78);go_wp2;go_ret;exact ⟨zjD (by symm;rw[decide_eq_false_iff_not];intro e;exact HN.o (by rw[e])),bel⟩
theorem c_eqIntS {lo hi lo' hi':Nat} (A A':Option Addr) (c c':Nat) (fs gs:List Int) (w:World) (h:IntsV w lo hi A fs) (h':IntsV w lo' hi' A' gs):Calls Tryd.prog 40 #[.slice A fs.length c,.slice A' gs.length c'] w fun e w'=>e=.returned (.bool (decide (fs=gs)))∧Below w.heap.size w w':=by
 have hl:=h.le;have hl':=h'.le;by_cases hn:fs.length=gs.length
 ·have hne:(fs.length != gs.length)=false:=by simpa using hn
  have hne':((fs.length:Int) != (gs.length:Int))=false:=by simp[hn]
  have HN:=ax hn;clear hn;(go_enter Tryd.func40,Tryd.ntmps40);go_wp2
  go_loopw [5] (fun i wr=>∃ k:Nat,k≤fs.length∧i=.int .i64 k∧aJ (decide (fs=gs)=decide (fs.drop k=gs.drop k))∧Below w.heap.size w wr) (fun i _=>fs.length - (intOf i).toNat)
  case atStart=>exact ⟨0,Nat.zero_le _,rfl,by simp[aJ],bel⟩
  case round=>
   obtain ⟨k,hk,rfl,HA,hB⟩:=hrel;clear hne hne';by_cases hlt:k<fs.length
   ·have hlt':k<gs.length:=by have:=HN.o;omega
    have HD:=ax (drop_eq fs gs k hlt hlt');obtain ⟨b,off,rfl,c0⟩:=(h.bz hB).at hlt;obtain ⟨b',off',rfl,d0⟩:=(h'.bz hB).at hlt';cases hne:(fs[k] != gs[k])
    ·have he:=ax (show decide (fs[k]=gs[k])=true by simpa using hne);(go_wp2_with fail);(go_quiet (fail));(go_wp2_with fail)
     go_round
     case rel=>exact ⟨k+1,by omega,by go_num,by show _=_;rw[HA.o,HD.o,he.o];rfl,below_drewN hB _⟩
     case measure=>simp[intOf];omega
    ·have he:=ax (show decide (fs[k]=gs[k])=false by simpa using hne);(go_wp2_with fail);(go_quiet (fail));(go_wp2_with fail);go_ret;exact ⟨zjD (by rw[HA.o,HD.o,he.o];rfl),below_drewN hB _⟩
   ·go_wp2;go_ret;obtain rfl:k=fs.length:=by omega
    exact ⟨zjD (by rw[HA.o,List.drop_length,HN.o,List.drop_length];simp),hB⟩
 ·have hne:(fs.length != gs.length)=true:=by simpa using hn
  have HN:=ax hn;clear hn;(go_enter Tryd.func40,Tryd.ntmps40);go_wp2;go_ret;exact ⟨zjD (by symm;rw[decide_eq_false_iff_not];intro e;exact HN.o (by rw[e])),bel⟩
theorem c_eqAssertion {lo hi lo' hi':Nat} (v v':Value) (a a':Asn) (w:World) (h:AsnV w lo hi v a) (h':AsnV w lo' hi' v' a'):Calls Tryd.prog 39 #[v,v'] w fun e w'=>e=.returned (.bool (decide (a=a')))∧Below w.heap.size w w':=by
 obtain ⟨A1,c1,A2,c2,rfl,h1,h2⟩:=h;obtain ⟨A3,c3,A4,c4,rfl,h3,h4⟩:=h';have hE:aJ (decide (a=a')=decide (a.facts=a'.facts∧a.atoms=a'.atoms)):=decide_eq_decide.2 (Asn.eq_iff a a');(go_enter Tryd.func39,Tryd.ntmps39);(go_wp2_with fail);refine (c_eqFactS A1 A3 c1 c3 a.facts a'.facts _ (h1.bz bel) (h3.bz bel)).mono ?_;rintro e w1 ⟨rfl,hB1⟩;have hB:=bgo (w:=w) bel hB1;have k0:=(Blk.nz (g:=w.heap.size) (((Blk.new w _ _).alloc _)) hB1).cell;have k1:=(Blk.nz (g:=w.heap.size+1) (by rw[←World.size_alloc];exact Blk.new (w.alloc _) _ _) hB1).cell;cases hd:decide (a.facts=a'.facts)
 ·(go_wp2_with fail);go_ret;exact ⟨zjD (by rw[hE.o,Bool.decide_and,hd];rfl),hB⟩
 ·(go_wp2_with fail);refine (c_eqAtomS A2 A4 c2 c4 a.atoms a'.atoms _ (h2.bz hB) (h4.bz hB)).mono ?_;rintro e w2 ⟨rfl,hB2⟩;cases hd2:decide (a.atoms=a'.atoms)
  all_goals
   (go_wp2_with fail);go_ret;exact ⟨zjD (by rw[hE.o,Bool.decide_and,hd,hd2];rfl),bgo hB hB2⟩
theorem c_eqContract {lo hi lo' hi':Nat} (v v':Value) (a:Ctr) (w:World) (h:CtrV w lo hi v a) (h':CtrV w lo' hi' v' a):Calls Tryd.prog 13 #[v,v'] w fun e w'=>e=.returned (.bool true)∧Below w.heap.size w w':=by
 obtain ⟨a1,a2,a3,a4,A5,c5,rfl,h1,h2,h3⟩:=h;obtain ⟨b1,b2,b3,b4,B5,e5,rfl,g1,g2,g3⟩:=h';(go_enter Tryd.func13,Tryd.ntmps13);(go_wp2_with fail);refine (c_eqAssertion _ _ a.pre a.pre _ (h1.bz bel) (g1.bz bel)).mono ?_;rintro e w1 ⟨rfl,hB1⟩;have hB:=bgo (w:=w) bel hB1;have k0:=Blk.nz (g:=w.heap.size) (((Blk.new w _ _).alloc _)) hB1;have k1:=Blk.nz (g:=w.heap.size+1) (by rw[←World.size_alloc];exact Blk.new (w.alloc _) _ _) hB1;have q0:=k0.cell;have q1:=k1.cell;have hd1:decide (a.pre=a.pre)=true:=by simp
 (go_wp2_with fail);refine (c_eqAssertion _ _ a.post a.post _ (h2.bz hB) (g2.bz hB)).mono ?_;rintro e w2 ⟨rfl,hB2⟩;have hB3:=bgo hB hB2;have p0:=(k0.nz hB2).cell;have p1:=(k1.nz hB2).cell;have hd2:decide (a.post=a.post)=true:=by simp
 (go_wp2_with fail);refine (c_eqIntS _ _ _ _ a.changes a.changes _ (h3.bz hB3) (g3.bz hB3)).mono ?_;rintro e w3 ⟨rfl,hB4⟩;have hd3:decide (a.changes=a.changes)=true:=by simp
 (go_wp2_with fail);go_ret;exact ⟨rfl,bgo hB3 hB4⟩
end
end Go.Proofs.YtjaohekkmlkinaaDoor
