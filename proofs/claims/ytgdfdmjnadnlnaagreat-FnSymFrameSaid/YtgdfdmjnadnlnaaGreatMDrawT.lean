/- What the reader draws: copies that are changed. -/
import Derived.Test.YtgdfdmjnadnlnaaGreatDrawB
set_option linter.unusedSimpArgs false
set_option linter.unusedVariables false
set_option maxRecDepth 100000
set_option maxHeartbeats 25600000
namespace Go.Proofs.YtgdfdmjnadnlnaaGreat
section
open Go Go.RowKit Go.Proofs
theorem c_l3Copy {lo hi:Nat} (v:Value) (a:Asn) (w:World) (h:AsnV w lo hi v a) :
  Calls Tryz.prog 60 #[v] w fun e w'=>∃ r,e=.returned r∧AsnO w' w.heap.size r a∧Below w.heap.size w w':=by
 have hV:=ax h;obtain ⟨A1,c1,A2,c2,rfl,h1,h2⟩:=h;have HL:=ax (And.intro h1.le h2.le);clear h1 h2;have e0:aJ (starA a ⟨[],[]⟩=a):=by show _=_;simp[starA]
 (go_enter Tryz.func60,Tryz.ntmps60);have kr:Blk ((w.alloc (.cells #[.slice A1 a.facts.length c1,.slice A2 a.atoms.length c2] 36)).alloc (.cells #[.slice none 0 0,.slice none 0 0] 36)) (w.heap.size+1) 36 #[.slice none 0 0,.slice none 0 0]:=blks;(go_wp2_with fail);refine (c_spec_l3Star _ _ a ⟨[],[]⟩ _ (hV.o.bz bel) (⟨none,0,none,0,rfl,Rd.nil _ 0 0 _ _,Rd.nil _ 0 0 _ _⟩) (by simpa using HL.o.1) (by simpa using HL.o.2)).mono ?_;rintro e w1 ⟨r,rfl,o,hB1⟩;have hB:=bgo (w:=w) bel hB1;replace kr:=kr.nz hB1;rw[e0.o] at o;replace o:=o.lower (base':=w.heap.size) (by simp;omega);obtain ⟨fv,av,rfl,o1,o2⟩:=o;obtain ⟨F,e1,rfl,-⟩:=o1.reads;obtain ⟨G,e2,rfl,-⟩:=o2.reads;have O1:=ax o1;have O2:=ax o2;(replace qkr:=kr.cell;replace rkr:=kr.frozen;replace lkr:=kr.lt);clear o1 o2 hB1;(go_wp2_with fail);refine bodyPost_ret (v:=.agg #[.slice F a.facts.length e1,.slice G a.atoms.length e2]) (by simp[results,Tryz.results60,go_sem,qkr]) rfl ⟨_,rfl,⟨_,_,rfl,?_,?_⟩,bel⟩
 ·exact (O1.o.setT kr (by decide) 0 _).setT (kr.set_ 0 _) (by decide) 1 _
 ·exact (O2.o.setT kr (by decide) 0 _).setT (kr.set_ 0 _) (by decide) 1 _
theorem c_l1Mutate {lo hi:Nat} (g p:Nat) (A:Option Addr) (c:Nat) (fs:List Fct) (w:World) (h:Rdr w g p) (hp:p≤999990) (hf:FactsV w lo hi A fs) (hl:fs.length≤1000) :
  Calls Tryz.prog 145 #[.pointer (some ⟨g,0,none⟩),.slice A fs.length c] w fun e w'=>∃ r fs' q,e=.returned r∧FactsO w' w.heap.size r fs'∧fs'.length≤fs.length+13∧Rdr w' g q∧q≤p+2∧Fr g w w':=by
 have H:=ax h;have HF:=ax hf;have hlt:=h.lt;have hli:(fs.length:Int)≤1000:=by omega
 clear h hf;(go_enter Tryz.func145,Tryz.ntmps145);(go_wp2_with (at_builtin;refine appFL (xs:=[]) (ys:=fs) rfl _ _ rfl (v:=.slice (some ⟨w.heap.size,0,none⟩) 0 0) rfl (FactsO.empty w) rfl (HF.o.bz bel) (by simp;omega) (by simp) ?_;intro A1 d1 w1 o1 hg1 hB1;simp only[List.nil_append] at o1 ⊢));have HF1:aJ (Fr g w w1):=((Fr.refl g w).alloc _).goB hB1 (Nat.le_refl _);have HR1:aJ (Rdr w1 g p):=(H.o.bz (bbox (Below.refl _ _) _)).belowB hB1 hlt;have HO1:=ax o1;clear o1 hg1 hB1;refine (c_pick g p 40 _ HR1.o (by omega)).mono ?_;rintro e w2 ⟨m,rfl,-,hR,hF⟩;have HF2:=ax (HF1.o.trans hF);have HR2:=ax hR;have HO2:=ax (HO1.o.fr hF hlt);have hsz2:=HF2.o.size;clear hR hF HF1 HR1 HO1;by_cases hm0:(m:Int)=0
 ·have e0:((m:Int) == 0)=true:=by simpa using hm0
  clear hm0;(go_wp2_with fail);refine (c_numL g (p+1) [-1,9,9223372036854775807] _ _ _ _ (HR2.o.bz bel) (by omega) blks (by rfl) (by first|omega|(simp;omega)) (by rfl) (by decide) (by decide)).mono ?_;rintro e w3 ⟨x,-,rfl,hR,hF⟩;have HF3:=ax ((HF2.o.alloc _).trans hF);have HR3:=ax hR;have HO3:=ax ((HO2.o.bz (bbox (Below.refl _ _) (.cells #[.int .i64 (-1),.int .i64 9,.int .i64 9223372036854775807] tI))).fr hF hlt);have hsz3:=HF3.o.size;clear hR hF;(go_wp2_with (at_builtin;refine appFL (ys:=[⟨false,x,0⟩]) (base:=w.heap.size) rfl _ _ rfl rfl (HO3.o.bz bel) rfl (FactsV.oneB (Blk.newE rfl)) (by simp;omega) (by simp;omega) ?_;intro A4 d4 w4 o4 hg4 hB4;rw[List.length_append,List.length_singleton] at o4 ⊢));have hF4:Fr g w w4:=(HF3.o.alloc _).goB hB4 (Nat.le_refl _);have hR4:Rdr w4 g (p+1+1):=(HR3.o.bz (bbox (Below.refl _ _) _)).belowB hB4 hlt;have HH:=ax (And.intro hF4 (And.intro hR4 o4));clear hF4 hR4 o4 hg4 hB4;go_ret;exact ⟨.slice A4 (fs.length+1) d4,fs++[⟨false,x,0⟩],p+1+1,rfl,HH.o.2.2,by simp,HH.o.2.1,by omega,HH.o.1⟩
 ·have e0:((m:Int) == 0)=false:=by simpa using hm0
  clear hm0;by_cases hm1:(m:Int)=1
  ·have e1:((m:Int) == 1)=true:=by simpa using hm1
   clear hm1;(go_wp2_with fail)
   go_loopw [5] (fun o wx=>∃ (xs:List Fct) (B:Option Addr) (d:Nat),o=.slice B xs.length d∧(xs.length≤13∨xs.length≤fs.length)∧FactsO wx w.heap.size (.slice B xs.length d) xs∧aJ (Rdr wx g (p+1))∧aJ (Fr g w wx)) (fun o _=>13 - (match o with | .slice _ n _=>n|_=>0))
   case atStart=>exact ⟨fs,A1,d1,rfl,Or.inr (Nat.le_refl _),HO2.o,HR2.o,HF2.o⟩
   case round=>
    clear HF2 HR2 HO2 hsz2;obtain ⟨xs,B,d,rfl,hx,hO,HR,HF⟩:=hrel;have HO:=ax hO;have hsz:=HF.o.size;have HX:=ax hx;clear hO hx;by_cases hle:xs.length≤12
    ·have hlei:(xs.length:Int)≤12:=by omega
     (go_wp2_with (at_builtin;refine appFL (ys:=[⟨true,1,2⟩]) (base:=w.heap.size) rfl _ _ rfl rfl (HO.o.bz bel) rfl (FactsV.oneB (Blk.newE rfl)) (by simp;omega) (by simp;omega) ?_;intro A4 d4 w4 o4 hg4 hB4;rw[List.length_append,List.length_singleton] at o4 ⊢));have hF4:Fr g w w4:=(HF.o.alloc _).goB hB4 (Nat.le_refl _);have hR4:Rdr w4 g (p+1):=(HR.o.bz (bbox (Below.refl _ _) _)).belowB hB4 hlt
     go_round
     case rel=>exact ⟨xs++[⟨true,1,2⟩],A4,d4,by simp,Or.inl (by simp;omega),by simpa using o4,hR4,hF4⟩
     case measure=>simp;omega
    ·have hlei:¬(xs.length:Int)≤12:=by omega
     (go_wp2_with fail);go_ret;exact ⟨.slice B xs.length d,rfl,xs,HO.o,by have:=HX.o;omega,p+1,HR.o,by omega,HF.o⟩
  ·have e1:((m:Int) == 1)=false:=by simpa using hm1
   clear hm1;(go_wp2_with fail);go_ret;exact ⟨_,fs,p+1,rfl,HO2.o,by omega,HR2.o,by omega,HF2.o⟩
abbrev tSt:Nat:=79
theorem IntsO.cell_ {w:World} {base:Nat} {A:Option Addr} {n c k:Nat} {fs:List Int} (h:IntsO w base (.slice A n c) fs) (hk:k<fs.length):∃ g cur,n=fs.length∧A=some ⟨g,0,none⟩∧base≤g∧Blk w g tI cur∧cur[k]? = some (.int .i64 fs[k])∧
  (∀ v:Int,IntsO (w.setCell ⟨g,k,none⟩ (.int .i64 v)) base (.slice A n c) (fs.set k v)):=by
 obtain ⟨⟨hl,h2⟩,hL⟩:=h;rcases h2 with ⟨e,hn⟩|⟨g,cap,cur,e,hb,hh,hn,hm,hs,ht⟩
 ·omega
 ·injection e with e1 e2 e3;subst e1 e2 e3;have hK:Blk w g tI cur:=hh
  have hP:Pre cur (encI fs) (fs.length * 1):=by
   intro j hj;rw[←ht,List.getElem?_take,if_pos hj];simp
  refine ⟨g,cur,rfl,rfl,hb,hK,(hP _ (by omega)).trans (by simp[List.getElem?_eq_getElem hk]),?_⟩;intro v;refine ⟨?_,by rw[List.length_set];exact hL⟩;rw[show encI (fs.set k v)=(encI fs).set k (.int .i64 v) from by simp[encI,List.map_set],List.length_set];exact own_of_blk (hK.set_ k (.int .i64 v)) hb (by rw[List.length_set,hl]) (hP.setL k (.int .i64 v) (by rw[hs];exact Nat.mul_le_mul hn (Nat.le_refl _)) (by rw[hl];exact Nat.le_refl _)) hn hm (by simpa using hs)
theorem IntsO.set_ne {w:World} {b:Nat} {v:Value} {xs:List Int} (h:IntsO w b v xs) {q:Addr} (hq:v.ownBlock≠some q.block) (u:Value):IntsO (w.setCell q u) b v xs:=by
 obtain ⟨⟨h1,h2⟩,h3⟩:=h;refine ⟨⟨h1,?_⟩,h3⟩;rcases h2 with h2|⟨k,cap,cur,hv,hk,hh,r⟩
 ·exact Or.inl h2
 ·exact Or.inr ⟨k,cap,cur,hv,hk,(Below.heap_setCell w q u k (fun e=>hq (by rw[hv,←e];rfl))).trans hh,r⟩
end
end Go.Proofs.YtgdfdmjnadnlnaaGreat
