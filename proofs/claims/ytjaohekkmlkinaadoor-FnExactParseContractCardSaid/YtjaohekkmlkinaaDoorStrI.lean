/- Contracts: texts cut into lines and words (spec). -/
import Derived.Test.YtjaohekkmlkinaaDoorStrHa
set_option linter.unusedSimpArgs false
set_option linter.unusedVariables false
namespace Go.Proofs.YtjaohekkmlkinaaDoor
open Go Go.RowKit Go.Proofs
theorem u8_eq2 (x c:UInt8):((x.toNat:Int) == (c.toNat:Int))=decide (x=c):=by
 rw[Bool.eq_iff_iff,beq_iff_eq,decide_eq_true_iff]
 constructor
 ·intro h;exact UInt8.toNat_inj.1 (by omega)
 ·rintro rfl;rfl
def cutSt (c:UInt8) (l:Bs) (i fr:Nat) (xs:List Bs):Prop:=
 fr≤i∧xs.length≤i∧(i≤l.length→splitL c l=xs++splitA c ((l.drop fr).take (i - fr)) (l.drop i))∧(l.length<i→splitL c l=xs)
theorem cutSt.start (c:UInt8) (l:Bs):cutSt c l 0 0 []:=⟨Nat.le_refl _,Nat.le_refl _,fun _=>by simp[splitL],fun h=>by omega⟩
theorem cutSt.hit {c:UInt8} {l:Bs} {i fr:Nat} {xs:List Bs} (h:cutSt c l i fr xs) (hi:i<l.length) (hc:l[i]=c):cutSt c l (i+1) (i+1) (xs++[(l.drop fr).take (i - fr)]):=by
 obtain ⟨h1,h2,h3,h4⟩:=h
 refine ⟨Nat.le_refl _,by simpa using h2,fun _=>?_,fun h=>by omega⟩
 rw[h3 (by omega),List.drop_eq_getElem_cons hi,splitA,if_pos hc]
 simp
theorem cutSt.miss {c:UInt8} {l:Bs} {i fr:Nat} {xs:List Bs} (h:cutSt c l i fr xs) (hi:i<l.length) (hc:l[i]≠c):cutSt c l (i+1) fr xs:=by
 obtain ⟨h1,h2,h3,h4⟩:=h
 refine ⟨by omega,by omega,fun _=>?_,fun h=>by omega⟩
 rw[h3 (by omega),List.drop_eq_getElem_cons hi,splitA,if_neg hc]
 congr 2
 rw[show i+1 - fr=(i - fr)+1 by omega,List.take_add_one,List.getElem?_drop,show fr+(i - fr)=i by omega,List.getElem?_eq_getElem hi]
 rfl
theorem cutSt.last {c:UInt8} {l:Bs} {i fr:Nat} {xs:List Bs} (h:cutSt c l i fr xs) (hi:i=l.length):cutSt c l (i+1) (i+1) (xs++[(l.drop fr).take (i - fr)]):=by
 obtain ⟨h1,h2,h3,h4⟩:=h
 refine ⟨Nat.le_refl _,by simpa using h2,fun h=>by omega,fun _=>?_⟩
 rw[h3 (by omega),hi,List.drop_length,splitA]
theorem box_ext (w:World) (l:Bs) (i j:Nat) (t:TypeId):(w.alloc (.cells #[.string ((ByteArray.mk l.toArray).extract i j)] t)).cell? ⟨w.heap.size,0,none⟩=some (sv ((l.drop i).take (j - i))):=by
 rw[bext]
 exact cell_box w _ t
set_option maxRecDepth 100000 in
set_option maxHeartbeats 3200000 in
theorem c_l18Cut (l:Bs) (c:UInt8) (w:World) (hl:l.length≤1049000):Calls Tryd.prog 21 #[sv l,.int .u8 (c.toNat:Nat)] w fun e w'=>∃ r,e=.returned r∧StrsO w' w.heap.size r (splitL c l)∧Below w.heap.size w w':=by
 go_enter Tryd.func21,Tryd.ntmps21
 have hO:StrsO (w.alloc (.cells #[] tS)) w.heap.size (.slice (some ⟨w.heap.size,0,none⟩) 0 0) []:=StrsO.empty _ rfl
 have hB:Below w.heap.size w (w.alloc (.cells #[] tS)):=bel
 go_wp2_with fail
 go_loopw [5,6,7] (fun u fr i wr=>∃ (k f:Nat) (A:Option Addr) (d:Nat) (xs:List Bs),k≤l.length+1∧i=.int .i64 k∧fr=.int .i64 f∧u=.slice A xs.length d∧StrsO wr w.heap.size (.slice A xs.length d) xs∧Hid (cutSt c l k f xs)∧Hid (Below w.heap.size w wr)) (fun _ _ i _=>l.length+1 - (intOf i).toNat)
 case atStart=>exact ⟨0,0,_,0,[],by omega,rfl,rfl,rfl,hO,Lib.hid (cutSt.start c l),hB⟩
 case round=>
  clear hO hB
  obtain ⟨k,f,A,d,xs,hk,rfl,rfl,rfl,hO,hC,HB⟩:=hrel
  have HO:=Lib.hid hO
  have hf:=hC.out.1
  have hx:=hC.out.2.1
  have hz:=HB.out.size
  clear hO
  by_cases hle:k≤l.length
  ·have hkl:(k:Int)≤(l.length:Int):=by omega
   by_cases hlt:k<l.length
   ·have hki:(k:Int)<(l.length:Int):=by omega
    have hke:((k:Int) == (l.length:Int))=false:=by simp;omega
    have hb:=bidx l k hlt
    by_cases hc:l[k]=c
    ·have hN:=Lib.hid (hC.out.hit hlt hc)
     obtain ⟨x,hxx⟩:∃ x,x=l[k]:=⟨_,rfl⟩
     rw[←hxx] at hb hc
     have hbc:((x.toNat:Int) == (c.toNat:Int))=true:=by rw[u8_eq2];simpa using hc
     clear hc hxx
     go_wp2_with (at_builtin;refine appS rfl _ _ rfl (v:=.slice A xs.length d) rfl (StrsO.below (w:=wr) HO.out bel) wr.heap.size ((l.drop f).take (k - f)) rfl (box_ext wr l f k _) (by omega) (by simp;omega) ?_;intro g2 d2 w2 o2 hg2 hB2)
     have hBB:Below w.heap.size w w2:=((HB.out.alloc hz _).trans hB2)
     go_round
     case rel=>exact ⟨k+1,k+1,some ⟨g2,0,none⟩,d2,xs++[(l.drop f).take (k - f)],by omega,by go_num,by go_num,by simp,by simpa using o2,hN,hBB⟩
     case measure=>simp[intOf];omega
    ·have hN:=Lib.hid (hC.out.miss hlt hc)
     obtain ⟨x,hxx⟩:∃ x,x=l[k]:=⟨_,rfl⟩
     rw[←hxx] at hb hc
     have hbc:((x.toNat:Int) == (c.toNat:Int))=false:=by rw[u8_eq2];simpa using hc
     clear hc hxx
     go_wp2_with fail
     go_round
     case rel=>exact ⟨k+1,f,A,d,xs,by omega,by go_num,rfl,rfl,HO.out,hN,HB.out⟩
     case measure=>simp[intOf];omega
   ·have hke:((k:Int) == (l.length:Int))=true:=by simp;omega
    have hN:=Lib.hid (hC.out.last (by omega))
    go_wp2_with (at_builtin;refine appS rfl _ _ rfl (v:=.slice A xs.length d) rfl (StrsO.below (w:=wr) HO.out bel) wr.heap.size ((l.drop f).take (k - f)) rfl (box_ext wr l f k _) (by omega) (by simp;omega) ?_;intro g2 d2 w2 o2 hg2 hB2)
    have hBB:Below w.heap.size w w2:=((HB.out.alloc hz _).trans hB2)
    go_round
    case rel=>exact ⟨k+1,k+1,some ⟨g2,0,none⟩,d2,xs++[(l.drop f).take (k - f)],by omega,by go_num,by go_num,by simp,by simpa using o2,hN,hBB⟩
    case measure=>simp[intOf];omega
  ·have hkl:¬(k:Int)≤(l.length:Int):=by omega
   have hE:=Lib.hid (hC.out.2.2.2 (by omega))
   go_wp2_with fail
   go_ret
   exact ⟨_,rfl,by rw[hE.out];exact HO.out,HB.out⟩
theorem words_take {ss:List Bs} {k:Nat} (hk:k<ss.length):(ss.take (k+1)).filter (fun x=>decide (x≠[]))=(ss.take k).filter (fun x=>decide (x≠[]))++(if ss[k]=[] then [] else [ss[k]]):=by
 rw[List.take_add_one,List.filter_append,List.getElem?_eq_getElem hk]
 congr 1
 by_cases h:ss[k]=[]<;>simp[h]
set_option maxRecDepth 100000 in
set_option maxHeartbeats 3200000 in
theorem c_l18Words (l:Bs) (w:World) (hl:l.length≤1049000):Calls Tryd.prog 32 #[sv l] w fun e w'=>∃ r,e=.returned r∧StrsO w' w.heap.size r (wordsL l)∧Below w.heap.size w w':=by
 go_enter Tryd.func32,Tryd.ntmps32
 go_wp2_with fail
 refine (c_l18Cut l 32 _ hl).mono ?_
 rintro e w1 ⟨r1,rfl,o1,hB1⟩
 obtain ⟨A1,d1,rfl,v1⟩:=o1.reads
 have hW:=Lib.hid (show wordsL l=((splitL 32 l).take (splitL 32 l).length).filter fun x=>decide (x≠[]) by rw[List.take_length];rfl)
 have hn:=splitA_len 32 l []
 change (splitL 32 l).length≤_ at hn
 obtain ⟨ss,hss⟩:∃ ss,ss=splitL 32 l:=⟨_,rfl⟩
 rw[←hss] at v1 hW hn ⊢
 have HV:=Lib.hid v1
 have z1:=hB1.size
 have HW1:=Lib.hid hB1
 have hO:StrsO (w1.alloc (.cells #[] tS)) w1.heap.size (.slice (some ⟨w1.heap.size,0,none⟩) 0 0) []:=StrsO.empty _ rfl
 have hB:Below w1.heap.size w1 (w1.alloc (.cells #[] tS)):=bel
 clear v1 o1 hB1 hss
 go_wp2_with fail
 go_loopw [4,5] (fun u i wr=>∃ (k:Nat) (A:Option Addr) (d:Nat) (xs:List Bs),k≤ss.length∧i=.int .i64 k∧u=.slice A xs.length d∧StrsO wr w1.heap.size (.slice A xs.length d) xs∧Hid (xs=(ss.take k).filter fun x=>decide (x≠[]))∧Hid (Below w1.heap.size w1 wr)) (fun _ i _=>ss.length - (intOf i).toNat)
 case atStart=>exact ⟨0,_,0,[],by omega,rfl,rfl,hO,Lib.hid rfl,hB⟩
 case round=>
  clear hO hB
  obtain ⟨k,A,d,xs,hk,rfl,rfl,hO,hC,HB⟩:=hrel
  have HO:=Lib.hid hO
  have hx:xs.length≤k:=by rw[hC.out];exact Nat.le_trans (List.length_filter_le _ _) (by simp;omega)
  have hz:=HB.out.size
  clear hO
  by_cases hlt:k<ss.length
  ·have hki:(k:Int)<(ss.length:Int):=by omega
   have hN:=Lib.hid (words_take hlt)
   obtain ⟨b,o,rfl,hc⟩:=(HV.out.below HB.out).at hlt
   have hbl:=block_lt_of_cell hc
   obtain ⟨x,hxx⟩:∃ x,x=ss[k]:=⟨_,rfl⟩
   rw[←hxx] at hc hN
   clear hxx
   by_cases he:x=[]
   ·subst he
    have hN2:Hid (xs=(ss.take (k+1)).filter fun x=>decide (x≠[])):=Lib.hid (by rw[hN.out,hC.out];simp)
    clear hN
    go_wp2_with fail
    go_round
    case rel=>exact ⟨k+1,A,d,xs,by omega,by go_num,rfl,HO.out,hN2,HB.out⟩
    case measure=>simp[intOf];omega
   ·have hN2:Hid (xs++[x]=(ss.take (k+1)).filter fun x=>decide (x≠[])):=Lib.hid (by rw[hN.out,hC.out,if_neg he])
    have heb:(x == [])=false:=by rw[bytes_eq];simpa using he
    clear hN
    go_wp2_with (at_builtin;refine appS rfl _ _ rfl (v:=.slice A xs.length d) rfl (StrsO.below (w:=wr) HO.out bel) wr.heap.size x rfl (cell_box wr _ _) (by omega) (by simp;omega) ?_;intro g2 d2 w2 o2 hg2 hB2)
    have hBB:Below w1.heap.size w1 w2:=((HB.out.alloc hz _).trans hB2)
    go_round
    case rel=>exact ⟨k+1,some ⟨g2,0,none⟩,d2,xs++[x],by omega,by go_num,by simp,by simpa using o2,hN2,hBB⟩
    case measure=>simp[intOf];omega
  ·obtain rfl:k=ss.length:=by omega
   go_wp2_with fail
   go_ret
   exact ⟨_,rfl,by rw[hW.out,←hC.out];exact HO.out.lower z1,bgo HW1.out HB.out⟩
end Go.Proofs.YtjaohekkmlkinaaDoor
