/- Programs: validity, plain. -/
import Derived.Test.YtjaohekkmlkinaaGreatMbCmdH
import Derived.Test.YtjaohekkmlkinaaGreatMbDrawPre
import Derived.Deep.RegionHeld3
set_option linter.unusedSimpArgs false
set_option linter.unusedVariables false
set_option maxRecDepth 100000
set_option maxHeartbeats 25600000
namespace Go.Proofs.YtjaohekkmlkinaaGreat
section
open Go Go.RowKit Go.Proofs
def fvalB (k a b:Int) (t:Fct) (i:Asn) (body els:Cms):Bool:=
 if k=6 then decide (a=0)&&(decide (b=0)&&(t.valid&&noAsn i))
 else if k=7 then decide (a=0)&&(decide (b=0)&&(t.valid&&(i.valid&&decide (els.len=0))))
 else plainB t i body els&&fieldsB k a b
def Cms.shape:Cms→Nat→Bool
 | .nil,_=>true
 | .cons k a b t i body els r,d=>decide (0<d)&&(fvalB k a b t i body els&&(body.shape (d - 1)&&(els.shape (d - 1)&&r.shape d)))
def Cms.count:Cms→Nat→Nat
 | .nil,_=>0
 | .cons _ _ _ _ _ body els r,d=>if 0<d then body.count (d - 1)+els.count (d - 1)+1+r.count d else 0
theorem Cms.count_shape:∀ {L:Cms} {d:Nat},L.shape d=true→L.count d=L.sz
 | .nil,_,_=>rfl
 | .cons k a b t i body els r,d,h=>by
  simp only[Cms.shape,Bool.and_eq_true,decide_eq_true_eq] at h;obtain ⟨h0,-,h1,h2,h3⟩:=h;simp only[Cms.count,Cms.sz,if_pos h0,Cms.count_shape h1,Cms.count_shape h2,Cms.count_shape h3];omega
theorem Cms.count_le:∀ (L:Cms) (d:Nat),L.count d≤L.sz
 | .nil,_=>Nat.le_refl _
 | .cons k a b t i body els r,d=>by
  simp only[Cms.count,Cms.sz];have h1:=Cms.count_le body (d - 1);have h2:=Cms.count_le els (d - 1);have h3:=Cms.count_le r d
  split<;>omega
theorem Cms.len_sz:∀ (L:Cms),L.len≤L.sz
 | .nil=>Nat.le_refl _
 | .cons k a b t i body els r=>by simp only[Cms.len,Cms.sz];have:=Cms.len_sz r;omega
theorem Cms.sz_cost:∀ (L:Cms),L.sz≤L.len+L.cost
 | .nil=>Nat.le_refl _
 | .cons k a b t i body els r=>by
  simp only[Cms.sz,Cms.len,Cms.cost];have h1:=Cms.sz_cost body;have h2:=Cms.sz_cost els;have h3:=Cms.sz_cost r;omega
def Cms.prog (L:Cms):Bool:=L.shape 4&&decide (L.sz≤16)
theorem fvalB_basic {k a b:Int} {t:Fct} {i:Asn} {body els:Cms} (h6:k≠6) (h7:k≠7):fvalB k a b t i body els=(plainB t i body els&&fieldsB k a b):=by
 unfold fvalB;rw[if_neg h6,if_neg h7]
theorem Cms.shape_drop:∀ (n:Nat) {L:Cms} {d:Nat},L.shape d=true→(L.drop n).shape d=true
 | 0,L,d,h=>h
 | n+1,.nil,d,h=>rfl
 | n+1,.cons k a b t i body els r,d,h=>by
  simp only[Cms.shape,Bool.and_eq_true] at h;exact Cms.shape_drop n h.2.2.2.2
def isMark (l m:Bs) (i:Nat):Bool:=decide ((l.drop i).take m.length=m)
def findM (l m:Bs):Option Nat:=(List.range (l.length+1 - m.length)).find? (isMark l m)
def splitM (l m:Bs):Bs×Bs×Bool:=match findM l m with
 | some i=>(l.take i,l.drop (i+m.length),true)
 | none=>(l,[],false)
theorem findM_some {l m:Bs} {k:Nat} (hk:k+m.length≤l.length) (h:isMark l m k=true) (hn:∀ j,j<k→isMark l m j=false):findM l m=some k:=by
 unfold findM;rw[List.find?_range_eq_some];exact ⟨h,by simp;omega,fun j hj=>by simp[hn j hj]⟩
theorem findM_none {l m:Bs} (hn:∀ j,j+m.length≤l.length→isMark l m j=false):findM l m=none:=by
 unfold findM;rw[List.find?_eq_none];intro j hj;simp only[List.mem_range] at hj;simp[hn j (by omega)]
theorem splitM_len (l m:Bs):(splitM l m).1.length≤l.length∧(splitM l m).2.1.length≤l.length:=by
 unfold splitM;split<;>simp<;>omega
def bareL (l:Bs):Bs×Bool:=if l.length<2∨l.head?≠some 91∨l.getLast?≠some 93 then (l,false) else ((l.drop 1).take (l.length - 2),true)
structure Hd where
 k:Int
 a:Int
 b:Int
 t:Fct
 i:Asn
def pT (l:Bs):Int:=((parseT l).getD 0:Nat)
def fctZ:Fct:=⟨false,0,0⟩
def pF (l:Bs):Fct:=(parseF l).getD fctZ
def pA (l:Bs):Asn:=(parseA l).getD ⟨[],[]⟩
def asgnPF (x y:Bs):Hd:=⟨if (bareL y).2 then 2 else if (bareL x).2 then 3 else 1,pT (bareL x).1,pT (bareL y).1,fctZ,⟨[],[]⟩⟩
def wordF (word rest:Bs):Hd:=
 if word=[110,101,119] then ⟨4,pT rest,0,fctZ,⟨[],[]⟩⟩
 else if word=[102,114,101,101] then ⟨5,pT rest,0,fctZ,⟨[],[]⟩⟩
 else if word=[105,102] then ⟨6,0,0,pF rest,⟨[],[]⟩⟩
 else ⟨7,0,0,pF (splitM rest [32,119,105,116,104,32]).1,pA (splitM rest [32,119,105,116,104,32]).2.1⟩
def headF (l:Bs):Hd:=if (splitM l [58,61]).2.2 then asgnPF (splitM l [58,61]).1 (splitM l [58,61]).2.1 else wordF (splitM l [32]).1 (splitM l [32]).2.1
abbrev endL:Bs:=[101,110,100]
abbrev elseL:Bs:=[101,108,115,101]
def Cms.one1 (h:Hd) (body els r:Cms):Cms:=.cons h.k h.a h.b h.t h.i body els r
def blkF (ls:List Bs):Nat→Nat→Nat→Cms×Option Nat
 | 0,p,_=>(.nil,some p)
 | n+1,p,d=>
  if p+1<ls.length∧ls.getD p []≠endL∧ls.getD p []≠elseL then
   if (headF (ls.getD p [])).k=6∨(headF (ls.getD p [])).k=7 then
    if d<1 then (.nil,none)
    else match blkF ls n (p+1) (d - 1) with
     | (body,none)=>(.one1 (headF (ls.getD p [])) body .nil .nil,none)
     | (body,some m)=>
      if m<ls.length∧ls.getD m []=elseL then
       match blkF ls n (m+1) (d - 1) with
       | (els,none)=>(.one1 (headF (ls.getD p [])) body els .nil,none)
       | (els,some q)=>(.one1 (headF (ls.getD p [])) body els (blkF ls n (q+1) d).1,(blkF ls n (q+1) d).2)
      else (.one1 (headF (ls.getD p [])) body .nil (blkF ls n (m+1) d).1,(blkF ls n (m+1) d).2)
   else (.one1 (headF (ls.getD p [])) .nil .nil (blkF ls n (p+1) d).1,(blkF ls n (p+1) d).2)
  else (.nil,some p)
theorem blkF_le (ls:List Bs):∀ (n p d:Nat) {m:Nat},(blkF ls n p d).2=some m→p≤m∧m≤max p (ls.length+d)
 | 0,p,d,m,h=>by simp[blkF] at h;omega
 | n+1,p,d,m,h=>by
  unfold blkF at h
  split at h
  ·rename_i hc
   split at h
   ·split at h
    ·cases h
    ·split at h
     ·cases h
     ·rename_i body q hq;have h1:=blkF_le ls n (p+1) (d - 1) (by rw[hq])
      split at h
      ·rename_i hm
       split at h
       ·cases h
       ·rename_i els r hr;have h2:=blkF_le ls n (q+1) (d - 1) (by rw[hr]);have h3:=blkF_le ls n (r+1) d h;omega
      ·have h3:=blkF_le ls n (q+1) d h;omega
   ·have h1:=blkF_le ls n (p+1) d h;omega
  ·injection h with h;omega
def lineL (k a b:Int) (t:Fct) (i:Asn):Bs:=
 if k=1 then tnameL a++[58,61]++tnameL b
 else if k=2 then tnameL a++[58,61,91]++tnameL b++[93]
 else if k=3 then [91]++tnameL a++[93,58,61]++tnameL b
 else if k=4 then [110,101,119,32]++tnameL a
 else if k=5 then [102,114,101,101,32]++tnameL a
 else if k=6 then [105,102,32]++fmtF t
 else [119,104,105,108,101,32]++fmtF t++[32,119,105,116,104,32]++textA i
def textL:Cms→Bs
 | .nil=>[]
 | .cons k a b t i body els r=>lineL k a b t i++[10]++textL body++(if 0<els.len then [101,108,115,101,10]++textL els else [])++(if k=6∨k=7 then [101,110,100,10] else [])++textL r
def fmtP (L:Cms):Bs:=if L.prog then textL L else []
def readP (l:Bs):Cms:=(blkF (splitL 10 l) ((splitL 10 l).length+1) 0 4).1
def parsesP (l:Bs):Bool:=decide (l.length≤4000)&&(decide (fmtP (readP l)=l)&&(readP l).prog)
def parseP (l:Bs):Cms:=if parsesP l then readP l else .nil
theorem lineL_len {k a b:Int} {t:Fct} {i:Asn} (h1:i.facts.length≤12) (h2:i.atoms.length≤6):(lineL k a b t i).length≤230:=by
 have ha:=tnameL_len a;have hb:=tnameL_len b;have ht:=fmtF_len t;have hi:=textA_len i;unfold lineL
 repeat' split
 all_goals simp only[List.length_append,List.length_cons,List.length_nil];omega
theorem Asn.valid_len {i:Asn} (h:i.valid=true):i.facts.length≤12∧i.atoms.length≤6:=by
 simp only[Asn.valid,factsValid,Bool.and_eq_true,decide_eq_true_eq] at h;exact ⟨h.1.1,h.2.1⟩
theorem fval_inv {k a b:Int} {t:Fct} {i:Asn} {body els:Cms} (h:fvalB k a b t i body els=true):i.facts.length≤12∧i.atoms.length≤6:=by
 unfold fvalB at h
 split at h
 ·simp only[Bool.and_eq_true,noAsn,decide_eq_true_eq] at h;have:=h.2.2.2;omega
 split at h
 ·simp only[Bool.and_eq_true] at h;exact Asn.valid_len h.2.2.2.1
 ·simp only[plainB,Bool.and_eq_true,noAsn,decide_eq_true_eq] at h;have:=h.1.2.1;omega
theorem textL_len:∀ {L:Cms} {d:Nat},L.shape d=true→(textL L).length≤L.sz * 250
 | .nil,_,_=>by simp[textL,Cms.sz]
 | .cons k a b t i body els r,d,h=>by
  simp only[Cms.shape,Bool.and_eq_true] at h;have h1:=textL_len h.2.2.1;have h2:=textL_len h.2.2.2.1;have h3:=textL_len h.2.2.2.2;have h4:=fval_inv h.2.1;have h5:=lineL_len (k:=k) (a:=a) (b:=b) (t:=t) h4.1 h4.2
  have h6:(if 0<els.len then ([101,108,115,101,10]:Bs)++textL els else []).length≤5+els.sz * 250:=by
   split
   ·simp only[List.length_append,List.length_cons,List.length_nil];omega
   ·simp
  have h7:(if k=6∨k=7 then ([101,110,100,10]:Bs) else []).length≤4:=by split<;>simp
  simp only[textL,List.length_append,List.length_cons,List.length_nil,Cms.sz];omega
theorem prog_shape {L:Cms} (h:L.prog=true):L.shape 4=true∧L.sz≤16:=by
 unfold Cms.prog at h;simpa only[Bool.and_eq_true,decide_eq_true_eq] using h
theorem sliceLH (l:Bs) (i j:Nat) (ii jj:Int) (hi:ii=i) (hj:jj=j) (hij:i≤j) (hjl:j≤l.length) (w:World):(Instr.slice 9 (sv l) (some (.int .i64 ii)) (some (.int .i64 jj)) none).run Tryz.prog w=.ok (sv ((l.drop i).take (j - i))) w:=by
 subst hi hj;rw[run_slice_string w 9 _ .i64 .i64 _ _ Tryz.underlying9 (by omega) (by omega) (by simp[ByteArray.size];omega)];simp only[Int.toNat_natCast,bext]
theorem sliceH (l:Bs) (j:Nat) (jj:Int) (hj:jj=j) (hjl:j≤l.length) (w:World):(Instr.slice 9 (sv l) none (some (.int .i64 jj)) none).run Tryz.prog w=.ok (sv (l.take j)) w:=by
 subst hj;rw[run_slice_string_h w 9 _ Tryz.underlying9 .i64 _ (by omega) (by simp[ByteArray.size];omega)];simp only[Int.toNat_natCast,bext,List.drop_zero,Nat.sub_zero]
theorem sliceL (l:Bs) (i:Nat) (ii:Int) (hi:ii=i) (hil:i≤l.length) (w:World):(Instr.slice 9 (sv l) (some (.int .i64 ii)) none none).run Tryz.prog w=.ok (sv (l.drop i)) w:=by
 subst hi;rw[run_slice_string_l w 9 _ Tryz.underlying9 .i64 _ (by omega) (by simp[ByteArray.size];omega)];simp only[Int.toNat_natCast,bext];rw[List.take_of_length_le (by simp[ByteArray.size])]
theorem c_l8Split (l m:Bs) (w:World) (hl:l.length≤2000000) (hm:m.length≤100):Calls Tryz.prog 278 #[sv l,sv m] w fun e w'=>e=.returned (.tuple #[sv (splitM l m).1,sv (splitM l m).2.1,.bool (splitM l m).2.2])∧Below w.heap.size w w':=by
 (go_enter Tryz.func278,Tryz.ntmps278);(go_wp2_with fail)
 go_loopw [7] (fun i wr=>∃ k:Nat,k≤l.length+1∧i=.int .i64 k∧aJ (∀ j:Nat,j<k→isMark l m j=false)∧wr=w) (fun i _=>l.length+2 - (intOf i).toNat)
 case atStart=>exact ⟨0,by omega,rfl,ax fun j h=>by omega,rfl⟩
 case round=>
  obtain ⟨k,hk,rfl,HN,rfl⟩:=hrel;by_cases hle:k+m.length≤l.length
  ·have hki:(k:Int)+(m.length:Int)≤(l.length:Int):=by omega
   cases he:isMark l m k
   ·obtain ⟨z,hz⟩:∃ z,z=(l.drop k).take m.length:=⟨_,rfl⟩;have hsl:=fun W:World=>sliceLH l k (k+m.length) (k:Int) ((k:Int)+(m.length:Int)) rfl (by omega) (by omega) hle W;rw[Nat.add_sub_cancel_left,←hz] at hsl
    have hzm:(z == m)=false:=by
     unfold isMark at he;rw[bytes_eq,hz];exact he
    have HM:aJ (∀ j:Nat,j<k+1→isMark l m j=false):=ax fun j hj=>by
     by_cases e:j=k
     ·subst e;exact he
     ·exact HN.o j (by omega)
    clear he hz;(go_wp2_with fail)
    go_round
    case rel=>exact ⟨k+1,by omega,by go_num,HM,by first|rfl|trivial⟩
    case measure=>simp[intOf];omega
   ·have hsl:=fun W:World=>sliceLH l k (k+m.length) (k:Int) ((k:Int)+(m.length:Int)) rfl (by omega) (by omega) hle W;rw[Nat.add_sub_cancel_left,show (l.drop k).take m.length=m from of_decide_eq_true he] at hsl;have hs2:=fun W:World=>sliceH l k (k:Int) rfl (by omega) W;have hs3:=fun W:World=>sliceL l (k+m.length) ((k:Int)+(m.length:Int)) (by omega) (by omega) W;have HR:=ax (findM_some hle he HN.o);have hS:aJ (splitM l m=(l.take k,l.drop (k+m.length),true)):=ax (by unfold splitM;rw[HR.o]);clear he HR;(go_wp2_with fail);(go_quiet (fail));(go_wp2_with fail);refine bodyPost_ret (v:=.tuple #[sv (l.take k),sv (l.drop (k+m.length)),.bool true]) (by simp[results,Tryz.results278,go_sem]) rfl ⟨by rw[hS.o],bel⟩
  ·have hki:¬(k:Int)+(m.length:Int)≤(l.length:Int):=by omega
   have hS:aJ (splitM l m=(l,[],false)):=ax (by unfold splitM;rw[findM_none (fun j hj=>HN.o j (by omega))]);(go_wp2_with fail);refine bodyPost_ret (v:=.tuple #[sv l,sv [],.bool false]) (by simp[results,Tryz.results278,go_sem]) rfl ⟨by rw[hS.o],bel⟩
theorem bare_no {l:Bs} (h:l.length<2∨l.head?≠some 91∨l.getLast?≠some 93):bareL l=(l,false):=by unfold bareL;rw[if_pos h]
theorem bare_yes {l:Bs} (h:2≤l.length) (h1:l[0]'(by omega)=91) (h2:l[l.length - 1]'(by omega)=93):bareL l=((l.drop 1).take (l.length - 2),true):=by
 unfold bareL;rw[if_neg];rintro (h3|h3|h3)
 ·omega
 ·exact h3 (by rw[List.head?_eq_getElem?,List.getElem?_eq_getElem (by omega),h1])
 ·exact h3 (by rw[List.getLast?_eq_getElem?,List.getElem?_eq_getElem (by omega),h2])
theorem c_l8Bare (l:Bs) (w:World) (hl:l.length≤2000000):Calls Tryz.prog 297 #[sv l] w fun e w'=>e=.returned (.tuple #[sv (bareL l).1,.bool (bareL l).2])∧Below w.heap.size w w':=by
 by_cases h2:l.length<2
 ·have h2i:(l.length:Int)<2:=by omega
  have hR:=ax (bare_no (Or.inl h2));clear h2;(go_enter Tryz.func297,Tryz.ntmps297);(go_wp2_with fail);refine bodyPost_ret (v:=.tuple #[sv l,.bool false]) (by simp[results,Tryz.results297,go_sem]) rfl ⟨by rw[hR.o],bel⟩
 ·have h2i:¬(l.length:Int)<2:=by omega
  have h0i:(0:Int)<(l.length:Int):=by omega
  obtain ⟨n,hn⟩:∃ n,n+1=l.length:=⟨l.length - 1,by omega⟩;have hni:(l.length:Int) - 1=(n:Int):=by omega
  have hnl:(n:Int)<(l.length:Int):=by omega
  have hx:=bidx l 0 (by omega);have hy:=bidx l n (by omega);by_cases ha:l[0]'(by omega)=91
  ·by_cases hb:l[n]'(by omega)=93
   ·have hR:=ax (bare_yes (by omega) ha (by simpa[←hn] using hb));rw[ha] at hx;rw[hb] at hy;have h1n:(1:Int)≤(n:Int):=by omega
    have hnn:(n:Int)≤(l.length:Int):=by omega
    have hsl:=fun W:World=>sliceLH l 1 n 1 (n:Int) rfl rfl (by omega) (by omega) W;rw[show n - 1=l.length - 2 by omega] at hsl;clear ha hb;(go_enter Tryz.func297,Tryz.ntmps297);(go_wp2_with fail);refine bodyPost_ret (v:=.tuple #[sv ((l.drop 1).take (l.length - 2)),.bool true]) (by simp[results,Tryz.results297,go_sem]) rfl ⟨by rw[hR.o],bel⟩
   ·have hR:=ax (bare_no (l:=l) (Or.inr (Or.inr (by rw[List.getLast?_eq_getElem?,←hn,Nat.add_sub_cancel,List.getElem?_eq_getElem (by omega)];simpa using hb))));rw[ha] at hx;obtain ⟨c,hc⟩:∃ c,c=l[n]'(by omega):=⟨_,rfl⟩;rw[←hc] at hy hb;have hb1:((c.toNat:Int) == 93)=false:=by rw[show (93:Int)=((93:Nat):Int) from rfl,u8_eq c 93 (by decide)];simpa using hb
    have hb2:¬((c.toNat:Int)=93):=by simpa using hb1
    clear hc hb ha;(go_enter Tryz.func297,Tryz.ntmps297);(go_wp2_with fail);refine bodyPost_ret (v:=.tuple #[sv l,.bool false]) (by simp[results,Tryz.results297,go_sem]) rfl ⟨by rw[hR.o],bel⟩
  ·have hR:=ax (bare_no (l:=l) (Or.inr (Or.inl (by rw[List.head?_eq_getElem?,List.getElem?_eq_getElem (by omega)];simpa using ha))));obtain ⟨c,hc⟩:∃ c,c=l[0]'(by omega):=⟨_,rfl⟩;rw[←hc] at hx ha;have hb1:((c.toNat:Int) == 91)=false:=by rw[show (91:Int)=((91:Nat):Int) from rfl,u8_eq c 91 (by decide)];simpa using ha
   have hb2:¬((c.toNat:Int)=91):=by simpa using hb1
   clear hc ha;(go_enter Tryz.func297,Tryz.ntmps297);(go_wp2_with fail);refine bodyPost_ret (v:=.tuple #[sv l,.bool false]) (by simp[results,Tryz.results297,go_sem]) rfl ⟨by rw[hR.o],bel⟩
theorem c_spec_l8Basic (k a b:Int) (t:Fct) (i:Asn) (A1 A2 A3 A4:Option Addr) (c1 c2 c3 c4:Nat) (body els:Cms) (w:World) (h1:i.facts.length≤1049600) (h2:i.atoms.length≤1049600) (h3:body.len≤1049600) (h4:els.len≤1049600) :
  Calls Tryz.prog 183 #[.agg #[.int .i64 k,.int .i64 a,.int .i64 b,.bool t.eq,.int .i64 t.a,.int .i64 t.b,.slice A1 i.facts.length c1,.slice A2 i.atoms.length c2,.slice A3 body.len c3,.slice A4 els.len c4]] w fun e w'=>e=.returned (.bool (plainB t i body els&&fieldsB k a b))∧Below w.heap.size w w':=by
 cases hn:plainB t i body els
 ·exact c_spec_l8Basic_no k a b t i A1 A2 A3 A4 c1 c2 c3 c4 body els w h1 h2 h3 h4 hn
 ·exact c_spec_l8Basic_yes k a b t i A1 A2 A3 A4 c1 c2 c3 c4 body els w h1 h2 hn
theorem and4 {R F x y z:Bool} (h:R=(F&&(x&&(y&&z)))):(F=false→R=false)∧(x=false→R=false)∧(y=false→R=false)∧(F=true→x=true→y=true→R=z):=by
 subst h;cases F<;>cases x<;>cases y<;>simp
theorem l8Shape_go:∀ (N:Nat) (L:Cms),L.sz<N→∀ (A:Option Addr) (c d lo hi:Nat) (w:World),CmsV w lo hi A L→L.len≤1049600→L.small 1049600→d≤4→
  Calls Tryz.prog 128 #[.slice A L.len c,.int .i64 d] w fun e w'=>e=.returned (.bool (L.shape d))∧Below w.heap.size w w':=by
 intro N
 induction N with
 | zero=>intro L h;omega
 | succ N IH=>
  intro L hsz A c d lo hi w hV hlen hsm hd;replace IH:=ax IH;replace hV:=ax hV;replace hsm:=ax hsm;replace hsz:=ax hsz;obtain ⟨n,hn⟩:∃ n,n=L.len:=⟨_,rfl⟩;obtain ⟨R,hR⟩:∃ R,R=L.shape d:=⟨_,rfl⟩;rw[←hn,←hR];rw[←hn] at hlen;replace hn:=ax hn;replace hR:=ax hR;rcases Nat.eq_zero_or_pos d with rfl|hd0
  ·by_cases q1:0<n
   ·(go_enter Tryz.func128,Tryz.ntmps128);(go_wp2_with fail);go_ret;refine ⟨zjD ?_,bel⟩;rw[hR.o];obtain ⟨k,a,b,t,i,body,els,r,eL⟩:=Cms.cons_of_len (L:=L) (by rw[←hn.o];exact q1);rw[eL];rfl
   ·obtain rfl:n=0:=by omega
    have e0:R=true:=by
     rw[hR.o]
     have e1:L=.nil:=by
      have:=hn.o
      cases L with
      | nil=>rfl
      | cons=>simp[Cms.len] at this
     rw[e1];rfl
    replace e0:=ax e0;(go_enter Tryz.func128,Tryz.ntmps128);(go_wp2_with fail)
    go_loopw [5] (fun x wr=>x=.int .i64 0∧Below w.heap.size w wr) (fun _ _=>0)
    case atStart=>exact ⟨rfl,bel⟩
    case round=>
     obtain ⟨rfl,hB⟩:=hrel;(go_wp2_with fail);go_ret;exact ⟨zjD e0.o.symm,hB⟩
  obtain ⟨d,rfl⟩:∃ e,d=e+1:=⟨d - 1,by omega⟩;clear hd0;(go_enter Tryz.func128,Tryz.ntmps128);(go_wp2_with fail)
  go_loopw [5] (fun x wr=>∃ j:Nat,j≤n∧x=.int .i64 j∧aJ (R=(L.drop j).shape (d+1))∧Below w.heap.size w wr) (fun x _=>n - (intOf x).toNat)
  case atStart=>exact ⟨0,Nat.zero_le _,rfl,hR,bel⟩
  case round=>
   obtain ⟨j,hj,rfl,HR,hB⟩:=hrel;by_cases hlt:j<n
   ·have hpos:0<(L.drop j).len:=by rw[Cms.drop_len,←hn.o];omega
    obtain ⟨k,a,b,t,i,body,els,r,eL⟩:=Cms.cons_of_len hpos;obtain ⟨bl,o,rfl,-,-,hAt⟩:=(hV.o.bz hB) (by rw[←hn.o];omega);have hD:=hAt.drop j;have hS:=Cms.small_drop j hsm.o;have hZ:=Cms.sz_drop j L;have hDs:=Cms.drop_succ j L eL;have HR':=HR.o;rw[eL] at hD hS hZ HR';obtain ⟨⟨p0,p1,p2,p3,p4,p5⟩,⟨A6,c6,p6,g6⟩,⟨A7,c7,p7,g7⟩,⟨A8,c8,p8,g8⟩,⟨A9,c9,p9,g9⟩,-⟩:=hD;obtain ⟨s1,s2,s3,s4,s5,s6,-⟩:=hS;simp only[Cms.sz] at hZ;have hbs:body.sz<N:=by have:=hsz.o;omega
    have hes:els.sz<N:=by have:=hsz.o;omega
    have gA:aJ (AsnV wr lo hi (.agg #[.slice A6 i.facts.length c6,.slice A7 i.atoms.length c7]) i):=⟨_,_,_,_,rfl,⟨g6,s1⟩,⟨g7,s2⟩⟩;have gB:aJ (CmsV wr lo hi A8 body):=g8;have gE:aJ (CmsV wr lo hi A9 els):=g9;rw[Cms.shape,decide_eq_true (by omega),Bool.true_and,Nat.add_sub_cancel,←hDs] at HR';obtain ⟨F,hF⟩:∃ F,F=fvalB k a b t i body els:=⟨_,rfl⟩;obtain ⟨x1,hx1⟩:∃ x,x=body.shape d:=⟨_,rfl⟩;obtain ⟨x2,hx2⟩:∃ x,x=els.shape d:=⟨_,rfl⟩;rw[←hF,←hx1,←hx2] at HR';obtain ⟨z1,z2,z3,z4⟩:=and4 HR';replace z1:=ax z1;replace z2:=ax z2;replace z3:=ax z3;replace z4:=ax z4;replace hF:=ax hF;replace hx1:=ax hx1;replace hx2:=ax hx2;replace hbs:=ax hbs;replace hes:=ax hes;replace s5:=ax s5;replace s6:=ax s6;obtain ⟨tv,htv⟩:∃ x,x=t.valid:=⟨_,rfl⟩;obtain ⟨ni,hni⟩:∃ x,x=noAsn i:=⟨_,rfl⟩;obtain ⟨iv,hiv⟩:∃ x,x=i.valid:=⟨_,rfl⟩;obtain ⟨pf,hpf⟩:∃ x,x=(plainB t i body els&&fieldsB k a b):=⟨_,rfl⟩;replace htv:=ax htv;replace hni:=ax hni;replace hiv:=ax hiv;replace hpf:=ax hpf;clear hZ hpos hAt g6 g7 g8 g9 HR HR' hDs eL;by_cases k6:k=6
    ·subst k6;by_cases a0:a=0
     case neg=>
      (go_wp2_with fail);go_ret;exact ⟨zjD (z1.o (hF.o.trans (by unfold fvalB;rw[if_pos rfl];simp[a0]))).symm,(bbox hB _)⟩
     subst a0;by_cases b0:b=0
     case neg=>
      (go_wp2_with fail);go_ret;exact ⟨zjD (z1.o (hF.o.trans (by unfold fvalB;rw[if_pos rfl];simp[b0]))).symm,(bbox hB _)⟩
     subst b0;(go_wp2_with fail);refine (c_spec_FactValid t _).mono ?_;rintro e w1 ⟨rfl,hBx⟩;rw[←htv.o];have hB2:Below w.heap.size w w1:=bgo (bbox hB _) hBx;have k0:Blk w1 wr.heap.size tC #[.int .i64 6,.int .i64 0,.int .i64 0,.bool t.eq,.int .i64 t.a,.int .i64 t.b,.slice A6 i.facts.length c6,.slice A7 i.atoms.length c7,.slice A8 body.len c8,.slice A9 els.len c9]:=Blk.nz blks hBx;have q0:=k0.cell;have l0:=k0.lt;have hW:Below wr.heap.size wr w1:=bgo (bbox (Below.refl _ _) _) hBx;clear hBx;cases tv
     case false=>
      (go_wp2_with fail);go_ret;exact ⟨zjD (z1.o (hF.o.trans (by unfold fvalB;rw[if_pos rfl];simp[←htv.o]))).symm,hB2⟩
     (go_wp2_with fail);refine (c_spec_l8NoInv A6 A7 c6 c7 i _ s1 s2).mono ?_;rintro e w2 ⟨rfl,hBx⟩;rw[←hni.o];replace hB2:=bgo hB2 hBx;replace k0:=k0.nz hBx;replace q0:=k0.cell;replace l0:=k0.lt;replace hW:=bgo hW hBx;clear hBx;cases ni
     case false=>
      (go_wp2_with fail);go_ret;exact ⟨zjD (z1.o (hF.o.trans (by unfold fvalB;rw[if_pos rfl];simp[←hni.o]))).symm,hB2⟩
     have HFt:=ax (show F=true from hF.o.trans (by unfold fvalB;rw[if_pos rfl];simp[←hni.o,←htv.o]));(go_wp2_with fail);refine (IH.o body hbs.o A8 c8 d lo hi _ (gB.o.bz hW) s3 s5.o (by omega)).mono ?_;rintro e w8 ⟨rfl,hBx⟩;rw[←hx1.o];replace hB2:=bgo hB2 hBx;replace k0:=k0.nz hBx;replace q0:=k0.cell;replace l0:=k0.lt;replace hW:=bgo hW hBx;clear hBx;cases x1
     ·(go_wp2_with fail);go_ret;exact ⟨zjD (z2.o (by simp)).symm,hB2⟩
     (go_wp2_with fail);refine (IH.o els hes.o A9 c9 d lo hi _ (gE.o.bz hW) s4 s6.o (by omega)).mono ?_;rintro e w9 ⟨rfl,hBx⟩;rw[←hx2.o];replace hB2:=bgo hB2 hBx;replace k0:=k0.nz hBx;replace q0:=k0.cell;replace l0:=k0.lt;clear hBx hW;cases x2
     ·(go_wp2_with fail);go_ret;exact ⟨zjD (z3.o (by simp)).symm,hB2⟩
     go_wp2_with fail
     go_round
     case rel=>exact ⟨j+1,by omega,by go_num,ax (z4.o HFt.o (by simp) (by simp)),hB2⟩
     case measure=>simp[intOf];omega
    by_cases k7:k=7
    ·subst k7;by_cases a0:a=0
     case neg=>
      (go_wp2_with fail);go_ret;exact ⟨zjD (z1.o (hF.o.trans (by unfold fvalB;rw[if_neg (by decide),if_pos rfl];simp[a0]))).symm,(bbox hB _)⟩
     subst a0;by_cases b0:b=0
     case neg=>
      (go_wp2_with fail);go_ret;exact ⟨zjD (z1.o (hF.o.trans (by unfold fvalB;rw[if_neg (by decide),if_pos rfl];simp[b0]))).symm,(bbox hB _)⟩
     subst b0;(go_wp2_with fail);refine (c_spec_FactValid t _).mono ?_;rintro e w4 ⟨rfl,hBx⟩;rw[←htv.o];have hB2:Below w.heap.size w w4:=bgo (bbox hB _) hBx;have k0:Blk w4 wr.heap.size tC #[.int .i64 7,.int .i64 0,.int .i64 0,.bool t.eq,.int .i64 t.a,.int .i64 t.b,.slice A6 i.facts.length c6,.slice A7 i.atoms.length c7,.slice A8 body.len c8,.slice A9 els.len c9]:=Blk.nz blks hBx;have q0:=k0.cell;have l0:=k0.lt;have hW:Below wr.heap.size wr w4:=bgo (bbox (Below.refl _ _) _) hBx;clear hBx;cases tv
     case false=>
      (go_wp2_with fail);go_ret;exact ⟨zjD (z1.o (hF.o.trans (by unfold fvalB;rw[if_neg (by decide),if_pos rfl];simp[←htv.o]))).symm,hB2⟩
     (go_wp2_with fail);refine (vz _ i _ (gA.o.bz hW)).mono ?_;rintro e w5 ⟨rfl,hBx⟩;rw[←hiv.o];replace hB2:=bgo hB2 hBx;replace k0:=k0.nz hBx;replace q0:=k0.cell;replace l0:=k0.lt;replace hW:=bgo hW hBx;clear hBx;cases iv
     case false=>
      (go_wp2_with fail);go_ret;exact ⟨zjD (z1.o (hF.o.trans (by unfold fvalB;rw[if_neg (by decide),if_pos rfl];simp[←hiv.o]))).symm,hB2⟩
     by_cases e0:els.len=0
     case neg=>
      have e1:0<els.len:=by omega
      (go_wp2_with fail);go_ret;exact ⟨zjD (z1.o (hF.o.trans (by unfold fvalB;rw[if_neg (by decide),if_pos rfl];simp[e0]))).symm,hB2⟩
     have HFt0:=ax (show F=true from hF.o.trans (by unfold fvalB;rw[if_neg (by decide),if_pos rfl];simp[←hiv.o,←htv.o,e0]));have HI2:aJ (∀ (w:World),CmsV w lo hi A9 els→Calls Tryz.prog 128 #[.slice A9 0 c9,.int .i64 d] w fun e w'=>e=.returned (.bool (els.shape d))∧Below w.heap.size w w'):=fun w h=>by have h2:=IH.o els hes.o A9 c9 d lo hi w h s4 s6.o (by omega);rwa [e0] at h2
     rw[e0] at k0 q0;have He0:=ax e0;clear e0;have HFt:=ax (HFt0.o);(go_wp2_with fail);refine (IH.o body hbs.o A8 c8 d lo hi _ (gB.o.bz hW) s3 s5.o (by omega)).mono ?_;rintro e w8 ⟨rfl,hBx⟩;rw[←hx1.o];replace hB2:=bgo hB2 hBx;replace k0:=k0.nz hBx;replace q0:=k0.cell;replace l0:=k0.lt;replace hW:=bgo hW hBx;clear hBx;cases x1
     ·(go_wp2_with fail);go_ret;exact ⟨zjD (z2.o (by simp)).symm,hB2⟩
     (go_wp2_with fail);refine (HI2.o _ (gE.o.bz hW)).mono ?_;rintro e w9 ⟨rfl,hBx⟩;rw[←hx2.o];replace hB2:=bgo hB2 hBx;replace k0:=k0.nz hBx;replace q0:=k0.cell;replace l0:=k0.lt;clear hBx hW;cases x2
     ·(go_wp2_with fail);go_ret;exact ⟨zjD (z3.o (by simp)).symm,hB2⟩
     go_wp2_with fail
     go_round
     case rel=>exact ⟨j+1,by omega,by go_num,ax (z4.o HFt.o (by simp) (by simp)),hB2⟩
     case measure=>simp[intOf];omega
    have HFb:=ax (hF.o.trans ((fvalB_basic k6 k7).trans hpf.o.symm));(go_wp2_with fail);refine (c_spec_l8Basic k a b t i A6 A7 A8 A9 c6 c7 c8 c9 body els _ s1 s2 s3 s4).mono ?_;rintro e w7 ⟨rfl,hBx⟩;rw[←hpf.o];have hB2:Below w.heap.size w w7:=bgo (bbox hB _) hBx;have k0:Blk w7 wr.heap.size tC #[.int .i64 k,.int .i64 a,.int .i64 b,.bool t.eq,.int .i64 t.a,.int .i64 t.b,.slice A6 i.facts.length c6,.slice A7 i.atoms.length c7,.slice A8 body.len c8,.slice A9 els.len c9]:=Blk.nz blks hBx;have q0:=k0.cell;have l0:=k0.lt;have hW:Below wr.heap.size wr w7:=bgo (bbox (Below.refl _ _) _) hBx;clear hBx;cases pf
    case false=>
     (go_wp2_with fail);go_ret;exact ⟨zjD (z1.o HFb.o).symm,hB2⟩
    have HFt:=ax (HFb.o);(go_wp2_with fail);refine (IH.o body hbs.o A8 c8 d lo hi _ (gB.o.bz hW) s3 s5.o (by omega)).mono ?_;rintro e w8 ⟨rfl,hBx⟩;rw[←hx1.o];replace hB2:=bgo hB2 hBx;replace k0:=k0.nz hBx;replace q0:=k0.cell;replace l0:=k0.lt;replace hW:=bgo hW hBx;clear hBx;cases x1
    ·(go_wp2_with fail);go_ret;exact ⟨zjD (z2.o (by simp)).symm,hB2⟩
    (go_wp2_with fail);refine (IH.o els hes.o A9 c9 d lo hi _ (gE.o.bz hW) s4 s6.o (by omega)).mono ?_;rintro e w9 ⟨rfl,hBx⟩;rw[←hx2.o];replace hB2:=bgo hB2 hBx;replace k0:=k0.nz hBx;replace q0:=k0.cell;replace l0:=k0.lt;clear hBx hW;cases x2
    ·(go_wp2_with fail);go_ret;exact ⟨zjD (z3.o (by simp)).symm,hB2⟩
    go_wp2_with fail
    go_round
    case rel=>exact ⟨j+1,by omega,by go_num,ax (z4.o HFt.o (by simp) (by simp)),hB2⟩
    case measure=>simp[intOf];omega
   ·(go_wp2_with fail);go_ret;obtain rfl:j=n:=by omega
    have e1:L.drop j=.nil:=by rw[hn.o];exact Cms.drop_all L
    have h2:=HR.o;rw[e1] at h2;exact ⟨zjD h2.symm,hB⟩
end
end Go.Proofs.YtjaohekkmlkinaaGreat
