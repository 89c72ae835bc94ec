/- Programs: validity, plain. -/
import Derived.Test.YtjbboklnegfohaaDoorCmdH
import Derived.Test.YtjbboklnegfohaaDoorMPrsI
import Derived.Test.YtjbboklnegfohaaDoorCmdX
import Derived.Test.YtjbboklnegfohaaDoorMPrsC
import Derived.Test.YtjbboklnegfohaaDoorMAlloc
import Derived.Test.YtjbboklnegfohaaDoorMBld
import Derived.Test.YtjbboklnegfohaaDoorDraw
set_option linter.unusedSimpArgs false
set_option linter.unusedVariables false
namespace Go.Proofs.YtjbboklnegfohaaDoor
open Go Go.RowKit Go.Proofs
def fvalB (k a b:Int) (t:Fct) (i:Asn) (body els:Cms):Bool:=
 if k=6 then decide (a=0)&&(decide (b=0)&&(t.valid&&noAsn i))
 else if k=7 then decide (a=0)&&(decide (b=0)&&(t.valid&&(i.valid&&decide (els.len=0))))
 else plainB t i body els&&fieldsB k a b
def Cms.shape:Cms→Nat→Bool
 | .nil,_=>true
 | .cons k a b t i body els r,d=>decide (0<d)&&(fvalB k a b t i body els&&(body.shape (d - 1)&&(els.shape (d - 1)&&r.shape d)))
def Cms.count:Cms→Nat→Nat
 | .nil,_=>0
 | .cons _ _ _ _ _ body els r,d=>if 0<d then body.count (d - 1)+els.count (d - 1)+1+r.count d else 0
theorem Cms.count_shape:∀ {L:Cms} {d:Nat},L.shape d=true→L.count d=L.sz
 | .nil,_,_=>rfl
 | .cons k a b t i body els r,d,h=>by
  simp only[Cms.shape,Bool.and_eq_true,decide_eq_true_eq] at h
  obtain ⟨h0,-,h1,h2,h3⟩:=h
  simp only[Cms.count,Cms.sz,if_pos h0,Cms.count_shape h1,Cms.count_shape h2,Cms.count_shape h3]
  omega
theorem Cms.count_le:∀ (L:Cms) (d:Nat),L.count d≤L.sz
 | .nil,_=>Nat.le_refl _
 | .cons k a b t i body els r,d=>by
  simp only[Cms.count,Cms.sz]
  have h1:=Cms.count_le body (d - 1)
  have h2:=Cms.count_le els (d - 1)
  have h3:=Cms.count_le r d
  split<;>omega
theorem Cms.len_sz:∀ (L:Cms),L.len≤L.sz
 | .nil=>Nat.le_refl _
 | .cons k a b t i body els r=>by simp only[Cms.len,Cms.sz];have:=Cms.len_sz r;omega
theorem Cms.sz_cost:∀ (L:Cms),L.sz≤L.len+L.cost
 | .nil=>Nat.le_refl _
 | .cons k a b t i body els r=>by
  simp only[Cms.sz,Cms.len,Cms.cost]
  have h1:=Cms.sz_cost body
  have h2:=Cms.sz_cost els
  have h3:=Cms.sz_cost r
  omega
def Cms.prog (L:Cms):Bool:=L.shape 4&&decide (L.sz≤16)
theorem fvalB_basic {k a b:Int} {t:Fct} {i:Asn} {body els:Cms} (h6:k≠6) (h7:k≠7):fvalB k a b t i body els=(plainB t i body els&&fieldsB k a b):=by
 unfold fvalB;rw[if_neg h6,if_neg h7]
theorem fieldsB_basic {k a b:Int} (h:fieldsB k a b=true):1≤k∧k≤5:=by
 unfold fieldsB at h
 split at h
 ·rename_i h1;rcases h1 with rfl|rfl<;>omega
 split at h
 ·omega
 split at h
 ·omega
 split at h
 ·omega
 ·cases h
theorem Cms.shape_drop:∀ (n:Nat) {L:Cms} {d:Nat},L.shape d=true→(L.drop n).shape d=true
 | 0,L,d,h=>h
 | n+1,.nil,d,h=>rfl
 | n+1,.cons k a b t i body els r,d,h=>by
  simp only[Cms.shape,Bool.and_eq_true] at h
  exact Cms.shape_drop n h.2.2.2.2
end Go.Proofs.YtjbboklnegfohaaDoor

/- The texts of programs, plain. -/
namespace Go.Proofs.YtjbboklnegfohaaDoor
open Go Go.RowKit Go.Proofs
def isMark (l m:Bs) (i:Nat):Bool:=decide ((l.drop i).take m.length=m)
def findM (l m:Bs):Option Nat:=(List.range (l.length+1 - m.length)).find? (isMark l m)
def splitM (l m:Bs):Bs×Bs×Bool:=match findM l m with
 | some i=>(l.take i,l.drop (i+m.length),true)
 | none=>(l,[],false)
theorem findM_some {l m:Bs} {k:Nat} (hk:k+m.length≤l.length) (h:isMark l m k=true) (hn:∀ j,j<k→isMark l m j=false):findM l m=some k:=by
 unfold findM
 rw[List.find?_range_eq_some]
 exact ⟨h,by simp;omega,fun j hj=>by simp[hn j hj]⟩
theorem findM_none {l m:Bs} (hn:∀ j,j+m.length≤l.length→isMark l m j=false):findM l m=none:=by
 unfold findM
 rw[List.find?_eq_none]
 intro j hj
 simp only[List.mem_range] at hj
 simp[hn j (by omega)]
theorem splitM_len (l m:Bs):(splitM l m).1.length≤l.length∧(splitM l m).2.1.length≤l.length:=by
 unfold splitM;split<;>simp<;>omega
def bareL (l:Bs):Bs×Bool:=if l.length<2∨l.head?≠some 91∨l.getLast?≠some 93 then (l,false) else ((l.drop 1).take (l.length - 2),true)
structure Hd where
 k:Int
 a:Int
 b:Int
 t:Fct
 i:Asn
def pT (l:Bs):Int:=((parseT l).getD 0:Nat)
def fctZ:Fct:=⟨false,0,0⟩
def pF (l:Bs):Fct:=(parseF l).getD fctZ
def pA (l:Bs):Asn:=(parseA l).getD ⟨[],[]⟩
def asgnPF (x y:Bs):Hd:=⟨if (bareL y).2 then 2 else if (bareL x).2 then 3 else 1,pT (bareL x).1,pT (bareL y).1,fctZ,⟨[],[]⟩⟩
def wordF (word rest:Bs):Hd:=
 if word=[110,101,119] then ⟨4,pT rest,0,fctZ,⟨[],[]⟩⟩
 else if word=[102,114,101,101] then ⟨5,pT rest,0,fctZ,⟨[],[]⟩⟩
 else if word=[105,102] then ⟨6,0,0,pF rest,⟨[],[]⟩⟩
 else ⟨7,0,0,pF (splitM rest [32,119,105,116,104,32]).1,pA (splitM rest [32,119,105,116,104,32]).2.1⟩
def headF (l:Bs):Hd:=if (splitM l [58,61]).2.2 then asgnPF (splitM l [58,61]).1 (splitM l [58,61]).2.1 else wordF (splitM l [32]).1 (splitM l [32]).2.1
abbrev endL:Bs:=[101,110,100]
abbrev elseL:Bs:=[101,108,115,101]
def Cms.one1 (h:Hd) (body els r:Cms):Cms:=.cons h.k h.a h.b h.t h.i body els r
def blkF (ls:List Bs):Nat→Nat→Nat→Cms×Option Nat
 | 0,p,_=>(.nil,some p)
 | n+1,p,d=>
  if p+1<ls.length∧ls.getD p []≠endL∧ls.getD p []≠elseL then
   if (headF (ls.getD p [])).k=6∨(headF (ls.getD p [])).k=7 then
    if d<1 then (.nil,none)
    else match blkF ls n (p+1) (d - 1) with
     | (body,none)=>(.one1 (headF (ls.getD p [])) body .nil .nil,none)
     | (body,some m)=>
      if m<ls.length∧ls.getD m []=elseL then
       match blkF ls n (m+1) (d - 1) with
       | (els,none)=>(.one1 (headF (ls.getD p [])) body els .nil,none)
       | (els,some q)=>(.one1 (headF (ls.getD p [])) body els (blkF ls n (q+1) d).1,(blkF ls n (q+1) d).2)
      else (.one1 (headF (ls.getD p [])) body .nil (blkF ls n (m+1) d).1,(blkF ls n (m+1) d).2)
   else (.one1 (headF (ls.getD p [])) .nil .nil (blkF ls n (p+1) d).1,(blkF ls n (p+1) d).2)
  else (.nil,some p)
theorem blkF_le (ls:List Bs):∀ (n p d:Nat) {m:Nat},(blkF ls n p d).2=some m→p≤m∧m≤max p (ls.length+d)
 | 0,p,d,m,h=>by simp[blkF] at h;omega
 | n+1,p,d,m,h=>by
  unfold blkF at h
  split at h
  ·rename_i hc
   split at h
   ·split at h
    ·cases h
    ·split at h
     ·cases h
     ·rename_i body q hq
      have h1:=blkF_le ls n (p+1) (d - 1) (by rw[hq])
      split at h
      ·rename_i hm
       split at h
       ·cases h
       ·rename_i els r hr
        have h2:=blkF_le ls n (q+1) (d - 1) (by rw[hr])
        have h3:=blkF_le ls n (r+1) d h
        omega
      ·have h3:=blkF_le ls n (q+1) d h
       omega
   ·have h1:=blkF_le ls n (p+1) d h
    omega
  ·injection h with h
   omega
def lineL (k a b:Int) (t:Fct) (i:Asn):Bs:=
 if k=1 then tnameL a++[58,61]++tnameL b
 else if k=2 then tnameL a++[58,61,91]++tnameL b++[93]
 else if k=3 then [91]++tnameL a++[93,58,61]++tnameL b
 else if k=4 then [110,101,119,32]++tnameL a
 else if k=5 then [102,114,101,101,32]++tnameL a
 else if k=6 then [105,102,32]++fmtF t
 else [119,104,105,108,101,32]++fmtF t++[32,119,105,116,104,32]++textA i
def textL:Cms→Bs
 | .nil=>[]
 | .cons k a b t i body els r=>lineL k a b t i++[10]++textL body++(if 0<els.len then [101,108,115,101,10]++textL els else [])++(if k=6∨k=7 then [101,110,100,10] else [])++textL r
def fmtP (L:Cms):Bs:=if L.prog then textL L else []
def readP (l:Bs):Cms:=(blkF (splitL 10 l) ((splitL 10 l).length+1) 0 4).1
def parsesP (l:Bs):Bool:=decide (l.length≤4000)&&(decide (fmtP (readP l)=l)&&(readP l).prog)
def parseP (l:Bs):Cms:=if parsesP l then readP l else .nil
theorem lineL_len {k a b:Int} {t:Fct} {i:Asn} (h1:i.facts.length≤12) (h2:i.atoms.length≤6):(lineL k a b t i).length≤230:=by
 have ha:=tnameL_len a
 have hb:=tnameL_len b
 have ht:=fmtF_len t
 have hi:=textA_len i
 unfold lineL
 repeat' split
 all_goals simp only[List.length_append,List.length_cons,List.length_nil];omega
theorem Asn.valid_len {i:Asn} (h:i.valid=true):i.facts.length≤12∧i.atoms.length≤6:=by
 simp only[Asn.valid,factsValid,Bool.and_eq_true,decide_eq_true_eq] at h
 exact ⟨h.1.1,h.2.1⟩
theorem fval_inv {k a b:Int} {t:Fct} {i:Asn} {body els:Cms} (h:fvalB k a b t i body els=true):i.facts.length≤12∧i.atoms.length≤6:=by
 unfold fvalB at h
 split at h
 ·simp only[Bool.and_eq_true,noAsn,decide_eq_true_eq] at h;have:=h.2.2.2;omega
 split at h
 ·simp only[Bool.and_eq_true] at h;exact Asn.valid_len h.2.2.2.1
 ·simp only[plainB,Bool.and_eq_true,noAsn,decide_eq_true_eq] at h;have:=h.1.2.1;omega
theorem textL_len:∀ {L:Cms} {d:Nat},L.shape d=true→(textL L).length≤L.sz * 250
 | .nil,_,_=>by simp[textL,Cms.sz]
 | .cons k a b t i body els r,d,h=>by
  simp only[Cms.shape,Bool.and_eq_true] at h
  have h1:=textL_len h.2.2.1
  have h2:=textL_len h.2.2.2.1
  have h3:=textL_len h.2.2.2.2
  have h4:=fval_inv h.2.1
  have h5:=lineL_len (k:=k) (a:=a) (b:=b) (t:=t) h4.1 h4.2
  have h6:(if 0<els.len then ([101,108,115,101,10]:Bs)++textL els else []).length≤5+els.sz * 250:=by
   split
   ·simp only[List.length_append,List.length_cons,List.length_nil];omega
   ·simp
  have h7:(if k=6∨k=7 then ([101,110,100,10]:Bs) else []).length≤4:=by split<;>simp
  simp only[textL,List.length_append,List.length_cons,List.length_nil,Cms.sz]
  omega
theorem prog_shape {L:Cms} (h:L.prog=true):L.shape 4=true∧L.sz≤16:=by
 unfold Cms.prog at h
 simpa only[Bool.and_eq_true,decide_eq_true_eq] using h
theorem fmtP_len (L:Cms):(fmtP L).length≤4000:=by
 unfold fmtP
 split
 ·rename_i h
  have:=prog_shape h
  have:=textL_len this.1
  omega
 ·simp
end Go.Proofs.YtjbboklnegfohaaDoor

/- Contracts: a command's first line from a text (spec). -/
namespace Go.Proofs.YtjbboklnegfohaaDoor
open Go Go.RowKit Go.Proofs
theorem sliceLH (l:Bs) (i j:Nat) (ii jj:Int) (hi:ii=i) (hj:jj=j) (hij:i≤j) (hjl:j≤l.length) (w:World):(Instr.slice 9 (sv l) (some (.int .i64 ii)) (some (.int .i64 jj)) none).run Tryd.prog w=.ok (sv ((l.drop i).take (j - i))) w:=by
 subst hi hj
 rw[run_slice_string w 9 _ .i64 .i64 _ _ Tryd.underlying9 (by omega) (by omega) (by simp[ByteArray.size];omega)]
 simp only[Int.toNat_natCast,bext]
theorem sliceH (l:Bs) (j:Nat) (jj:Int) (hj:jj=j) (hjl:j≤l.length) (w:World):(Instr.slice 9 (sv l) none (some (.int .i64 jj)) none).run Tryd.prog w=.ok (sv (l.take j)) w:=by
 subst hj
 rw[run_slice_string_h w 9 _ Tryd.underlying9 .i64 _ (by omega) (by simp[ByteArray.size];omega)]
 simp only[Int.toNat_natCast,bext,List.drop_zero,Nat.sub_zero]
theorem sliceL (l:Bs) (i:Nat) (ii:Int) (hi:ii=i) (hil:i≤l.length) (w:World):(Instr.slice 9 (sv l) (some (.int .i64 ii)) none none).run Tryd.prog w=.ok (sv (l.drop i)) w:=by
 subst hi
 rw[run_slice_string_l w 9 _ Tryd.underlying9 .i64 _ (by omega) (by simp[ByteArray.size];omega)]
 simp only[Int.toNat_natCast,bext]
 rw[List.take_of_length_le (by simp[ByteArray.size])]
set_option maxRecDepth 100000 in
set_option maxHeartbeats 3200000 in
theorem c_l8Split (l m:Bs) (w:World) (hl:l.length≤2000000) (hm:m.length≤100):Calls Tryd.prog 108 #[sv l,sv m] w fun e w'=>e=.returned (.tuple #[sv (splitM l m).1,sv (splitM l m).2.1,.bool (splitM l m).2.2])∧Below w.heap.size w w':=by
 go_enter Tryd.func108,Tryd.ntmps108
 go_wp2_with fail
 go_loopw [7] (fun i wr=>∃ k:Nat,k≤l.length+1∧i=.int .i64 k∧Hid (∀ j:Nat,j<k→isMark l m j=false)∧wr=w) (fun i _=>l.length+2 - (intOf i).toNat)
 case atStart=>exact ⟨0,by omega,rfl,Lib.hid fun j h=>by omega,rfl⟩
 case round=>
  obtain ⟨k,hk,rfl,HN,rfl⟩:=hrel
  by_cases hle:k+m.length≤l.length
  ·have hki:(k:Int)+(m.length:Int)≤(l.length:Int):=by omega
   cases he:isMark l m k
   ·obtain ⟨z,hz⟩:∃ z,z=(l.drop k).take m.length:=⟨_,rfl⟩
    have hsl:=fun W:World=>sliceLH l k (k+m.length) (k:Int) ((k:Int)+(m.length:Int)) rfl (by omega) (by omega) hle W
    rw[Nat.add_sub_cancel_left,←hz] at hsl
    have hzm:(z == m)=false:=by
     unfold isMark at he
     rw[bytes_eq,hz];exact he
    have HM:Hid (∀ j:Nat,j<k+1→isMark l m j=false):=Lib.hid fun j hj=>by
     by_cases e:j=k
     ·subst e;exact he
     ·exact HN.out j (by omega)
    clear he hz
    go_wp2_with fail
    go_round
    case rel=>exact ⟨k+1,by omega,by go_num,HM,by first|rfl|trivial⟩
    case measure=>simp[intOf];omega
   ·have hsl:=fun W:World=>sliceLH l k (k+m.length) (k:Int) ((k:Int)+(m.length:Int)) rfl (by omega) (by omega) hle W
    rw[Nat.add_sub_cancel_left,show (l.drop k).take m.length=m from of_decide_eq_true he] at hsl
    have hs2:=fun W:World=>sliceH l k (k:Int) rfl (by omega) W
    have hs3:=fun W:World=>sliceL l (k+m.length) ((k:Int)+(m.length:Int)) (by omega) (by omega) W
    have HR:=Lib.hid (findM_some hle he HN.out)
    have hS:Hid (splitM l m=(l.take k,l.drop (k+m.length),true)):=Lib.hid (by unfold splitM;rw[HR.out])
    clear he HR
    go_wp2_with fail
    go_quiet (fail)
    go_wp2_with fail
    refine bodyPost_ret (v:=.tuple #[sv (l.take k),sv (l.drop (k+m.length)),.bool true]) (by simp[results,Tryd.results108,go_sem]) rfl ⟨by rw[hS.out],bel⟩
  ·have hki:¬(k:Int)+(m.length:Int)≤(l.length:Int):=by omega
   have hS:Hid (splitM l m=(l,[],false)):=Lib.hid (by unfold splitM;rw[findM_none (fun j hj=>HN.out j (by omega))])
   go_wp2_with fail
   refine bodyPost_ret (v:=.tuple #[sv l,sv [],.bool false]) (by simp[results,Tryd.results108,go_sem]) rfl ⟨by rw[hS.out],bel⟩
theorem bare_no {l:Bs} (h:l.length<2∨l.head?≠some 91∨l.getLast?≠some 93):bareL l=(l,false):=by unfold bareL;rw[if_pos h]
theorem bare_yes {l:Bs} (h:2≤l.length) (h1:l[0]'(by omega)=91) (h2:l[l.length - 1]'(by omega)=93):bareL l=((l.drop 1).take (l.length - 2),true):=by
 unfold bareL
 rw[if_neg]
 rintro (h3|h3|h3)
 ·omega
 ·exact h3 (by rw[List.head?_eq_getElem?,List.getElem?_eq_getElem (by omega),h1])
 ·exact h3 (by rw[List.getLast?_eq_getElem?,List.getElem?_eq_getElem (by omega),h2])
set_option maxRecDepth 100000 in
set_option maxHeartbeats 3200000 in
theorem c_l8Bare (l:Bs) (w:World) (hl:l.length≤2000000):Calls Tryd.prog 124 #[sv l] w fun e w'=>e=.returned (.tuple #[sv (bareL l).1,.bool (bareL l).2])∧Below w.heap.size w w':=by
 by_cases h2:l.length<2
 ·have h2i:(l.length:Int)<2:=by omega
  have hR:=Lib.hid (bare_no (Or.inl h2))
  clear h2
  go_enter Tryd.func124,Tryd.ntmps124
  go_wp2_with fail
  refine bodyPost_ret (v:=.tuple #[sv l,.bool false]) (by simp[results,Tryd.results124,go_sem]) rfl ⟨by rw[hR.out],bel⟩
 ·have h2i:¬(l.length:Int)<2:=by omega
  have h0i:(0:Int)<(l.length:Int):=by omega
  obtain ⟨n,hn⟩:∃ n,n+1=l.length:=⟨l.length - 1,by omega⟩
  have hni:(l.length:Int) - 1=(n:Int):=by omega
  have hnl:(n:Int)<(l.length:Int):=by omega
  have hx:=bidx l 0 (by omega)
  have hy:=bidx l n (by omega)
  by_cases ha:l[0]'(by omega)=91
  ·by_cases hb:l[n]'(by omega)=93
   ·have hR:=Lib.hid (bare_yes (by omega) ha (by simpa[←hn] using hb))
    rw[ha] at hx
    rw[hb] at hy
    have h1n:(1:Int)≤(n:Int):=by omega
    have hnn:(n:Int)≤(l.length:Int):=by omega
    have hsl:=fun W:World=>sliceLH l 1 n 1 (n:Int) rfl rfl (by omega) (by omega) W
    rw[show n - 1=l.length - 2 by omega] at hsl
    clear ha hb
    go_enter Tryd.func124,Tryd.ntmps124
    go_wp2_with fail
    refine bodyPost_ret (v:=.tuple #[sv ((l.drop 1).take (l.length - 2)),.bool true]) (by simp[results,Tryd.results124,go_sem]) rfl ⟨by rw[hR.out],bel⟩
   ·have hR:=Lib.hid (bare_no (l:=l) (Or.inr (Or.inr (by rw[List.getLast?_eq_getElem?,←hn,Nat.add_sub_cancel,List.getElem?_eq_getElem (by omega)];simpa using hb))))
    rw[ha] at hx
    obtain ⟨c,hc⟩:∃ c,c=l[n]'(by omega):=⟨_,rfl⟩
    rw[←hc] at hy hb
    have hb1:((c.toNat:Int) == 93)=false:=by rw[show (93:Int)=((93:Nat):Int) from rfl,u8_eq c 93 (by decide)];simpa using hb
    have hb2:¬((c.toNat:Int)=93):=by simpa using hb1
    clear hc hb ha
    go_enter Tryd.func124,Tryd.ntmps124
    go_wp2_with fail
    refine bodyPost_ret (v:=.tuple #[sv l,.bool false]) (by simp[results,Tryd.results124,go_sem]) rfl ⟨by rw[hR.out],bel⟩
  ·have hR:=Lib.hid (bare_no (l:=l) (Or.inr (Or.inl (by rw[List.head?_eq_getElem?,List.getElem?_eq_getElem (by omega)];simpa using ha))))
   obtain ⟨c,hc⟩:∃ c,c=l[0]'(by omega):=⟨_,rfl⟩
   rw[←hc] at hx ha
   have hb1:((c.toNat:Int) == 91)=false:=by rw[show (91:Int)=((91:Nat):Int) from rfl,u8_eq c 91 (by decide)];simpa using ha
   have hb2:¬((c.toNat:Int)=91):=by simpa using hb1
   clear hc ha
   go_enter Tryd.func124,Tryd.ntmps124
   go_wp2_with fail
   refine bodyPost_ret (v:=.tuple #[sv l,.bool false]) (by simp[results,Tryd.results124,go_sem]) rfl ⟨by rw[hR.out],bel⟩
end Go.Proofs.YtjbboklnegfohaaDoor

/- Words for the exact laws over programs. -/
namespace Go.Proofs.YtjbboklnegfohaaDoor
open Go Go.RowKit Go.Proofs
def CmsW (w:World) (lo hi:Nat) (A:Option Addr) (L:Cms):Prop:=CmsV w lo hi A L∧L.len+L.cost≤1048576
section
variable {w w':World} {lo hi lo' hi' a b:Nat} {v:Value} {A:Option Addr} {L:Cms}
theorem CmsW.below (h:CmsW w lo hi A L) (hb:Below w.heap.size w w'):CmsW w' lo hi A L:=⟨h.1.below hb,h.2⟩
theorem CmsW.mono (h:CmsW w lo hi A L) (e1:lo'≤lo) (e2:hi≤hi'):CmsW w lo' hi' A L:=⟨h.1.mono e1 e2,h.2⟩
theorem CmsW.len (h:CmsW w lo hi A L):L.len≤1049600:=by have:=h.2;omega
theorem CmsW.small (h:CmsW w lo hi A L):L.small 1049600:=Cms.cost_small (by have:=h.2;omega)
theorem CmsW.sz (h:CmsW w lo hi A L):L.sz≤1049600:=by have:=h.2;have:=Cms.sz_cost L;omega
end
section
variable {w w':World} {lo hi lo' hi' a b:Nat} {v:Value} {A:Option Addr} {L:Cms}
end
theorem t_cmds {lo hi lo' hi':Nat} (A A':Option Addr) (c c':Nat) (x:Cms) (w:World) (h:CmsW w lo hi A x) (h':CmsW w lo' hi' A' x):Calls Tryd.prog 17 #[.slice A x.len c,.slice A' x.len c'] w fun e w'=>e=.returned (.bool true)∧Below w.heap.size w w':=by
 refine (eqCmdS_go _ x x (Nat.lt_succ_self _) A A' c c' w lo hi lo' hi' h.1 h'.1 h.len h'.len h.small h'.small).mono ?_
 rintro e w' ⟨rfl,hB⟩
 exact ⟨by simp,hB⟩
end Go.Proofs.YtjbboklnegfohaaDoor

/- Programs of our own, grown by append: rows of commands no two parts of which share a block. -/
namespace Go.Proofs.YtjbboklnegfohaaDoor
open Go Go.RowKit Go.Proofs
theorem own_kp {w w':World} {base size n:Nat} {t:TypeId} {v:Value} {cs:List Value} (h:w.ownsRow base t size v n cs) (hk:∀ g,v.ownBlock=some g→g<w.heap.size→w'.heap[g]? = w.heap[g]?):w'.ownsRow base t size v n cs:=by
 obtain ⟨hl,h2⟩:=h
 refine ⟨hl,?_⟩
 rcases h2 with ⟨rfl,hn⟩|⟨g,cap,cur,rfl,hb,hg,hn,hm,hs,ht⟩
 ·exact Or.inl ⟨rfl,hn⟩
 ·have e:=hk g (by simp[Value.ownBlock]) (Blk.lt hg)
  exact Or.inr ⟨g,cap,cur,rfl,hb,e.trans hg,hn,hm,hs,ht⟩
theorem AsnI.kp {w w':World} {lo hi:Nat} {v:Value} {x:Asn} (h:AsnI w lo hi v x) (hk:∀ g,lo≤g→g<hi→g<w.heap.size→w'.heap[g]? = w.heap[g]?):AsnI w' lo hi v x:=by
 obtain ⟨fv,av,e,h1,h2⟩:=h
 exact ⟨fv,av,e,⟨⟨own_kp h1.1.1 fun g hg hl=>hk g (h1.1.1.lt g hg).1 (h1.2 g hg) hl,h1.1.2⟩,h1.2⟩,⟨⟨own_kp h2.1.1 fun g hg hl=>hk g (h2.1.1.lt g hg).1 (h2.2 g hg) hl,h2.1.2⟩,h2.2⟩⟩
def QT (w:World):Cms→List Value→Nat→Nat→Nat→Prop
 | .nil,cs,_,lo,hi=>cs=[]∧lo≤hi
 | .cons k a b t i body els r,cs,g,lo,hi=>∃ l0 vF vA vB vE m1 m2 m3 rest csB csE,cs=tenL k a b t vF vA vB vE++rest∧(lo≤l0∧l0≤m1∧m1≤m2∧m2≤m3∧(g<l0∨m3≤g))∧
   AsnI w l0 m1 (.agg #[vF,vA]) i∧
   (w.ownsRow m1 tC 10 vB body.len csB∧Und vB m2∧body.len≤1049600∧QT w body csB (vB.ownBlock.getD 0) m1 m2)∧
   (w.ownsRow m2 tC 10 vE els.len csE∧Und vE m3∧els.len≤1049600∧QT w els csE (vE.ownBlock.getD 0) m2 m3)∧
   QT w r rest g m3 hi
def QR (w:World) (lo hi:Nat) (v:Value) (L:Cms):Prop:=∃ cs,w.ownsRow lo tC 10 v L.len cs∧Und v hi∧L.len≤1049600∧QT w L cs (v.ownBlock.getD 0) lo hi
section
variable {w w':World} {lo hi lo' hi' g g':Nat} {cs ds:List Value} {v:Value}
theorem QT.le:∀ {L:Cms} {cs:List Value} {lo:Nat},QT w L cs g lo hi→lo≤hi
 | .nil,_,_,h=>h.2
 | .cons ..,_,_,h=>by
  obtain ⟨l0,vF,vA,vB,vE,m1,m2,m3,rest,csB,csE,-,o,-,-,-,hr⟩:=h
  have:=QT.le hr
  omega
theorem QT.keep:∀ {L:Cms} {cs:List Value} {g lo hi:Nat},(∀ b,lo≤b→b<hi→b≠g→b<w.heap.size→w'.heap[b]? = w.heap[b]?)→QT w L cs g lo hi→QT w' L cs g lo hi
 | .nil,_,_,_,_,_,h=>h
 | .cons k a b t i body els r,cs,g,lo,hi,hk,h=>by
  obtain ⟨l0,vF,vA,vB,vE,m1,m2,m3,rest,csB,csE,e,o,h1,⟨b1,b2,b3,b4⟩,⟨e1,e2,e3,e4⟩,hr⟩:=h
  have hle:=hr.le
  refine ⟨l0,vF,vA,vB,vE,m1,m2,m3,rest,csB,csE,e,o,h1.kp fun x x1 x2 x3=>hk x (by omega) (by omega) (by omega) x3,⟨own_kp b1 fun x hx hl=>?_,b2,b3,QT.keep (fun x x1 x2 _ x3=>hk x (by omega) (by omega) (by omega) x3) b4⟩,⟨own_kp e1 fun x hx hl=>?_,e2,e3,QT.keep (fun x x1 x2 _ x3=>hk x (by omega) (by omega) (by omega) x3) e4⟩,QT.keep (fun x x1 x2 x4 x3=>hk x (by omega) x2 x4 x3) hr⟩
  ·have p1:=(b1.lt x hx).1
   have p2:=b2 x hx
   exact hk x (by omega) (by omega) (by omega) hl
  ·have p1:=(e1.lt x hx).1
   have p2:=e2 x hx
   exact hk x (by omega) (by omega) (by omega) hl
theorem QT.mono:∀ {L:Cms} {cs:List Value} {lo:Nat},QT w L cs g lo hi→hi≤hi'→QT w L cs g lo hi'
 | .nil,_,_,h,e=>⟨h.1,by have:=h.2;omega⟩
 | .cons k a b t i body els r,cs,lo,h,e=>by
  obtain ⟨l0,vF,vA,vB,vE,m1,m2,m3,rest,csB,csE,e1,o,h1,h2,h3,hr⟩:=h
  exact ⟨l0,vF,vA,vB,vE,m1,m2,m3,rest,csB,csE,e1,o,h1,h2,h3,QT.mono hr e⟩
theorem QT.low:∀ {L:Cms} {cs:List Value},QT w L cs g lo hi→lo'≤lo→QT w L cs g lo' hi
 | .nil,_,h,e=>⟨h.1,by have:=h.2;omega⟩
 | .cons k a b t i body els r,cs,h,e=>by
  obtain ⟨l0,vF,vA,vB,vE,m1,m2,m3,rest,csB,csE,e1,o,h1,h2,h3,hr⟩:=h
  exact ⟨l0,vF,vA,vB,vE,m1,m2,m3,rest,csB,csE,e1,by omega,h1,h2,h3,hr⟩
theorem QT.reg:∀ {L:Cms} {cs:List Value} {lo:Nat},QT w L cs g lo hi→hi≤g'→QT w L cs g' lo hi
 | .nil,_,_,h,_=>h
 | .cons k a b t i body els r,cs,lo,h,e=>by
  obtain ⟨l0,vF,vA,vB,vE,m1,m2,m3,rest,csB,csE,e1,o,h1,h2,h3,hr⟩:=h
  have:=hr.le
  exact ⟨l0,vF,vA,vB,vE,m1,m2,m3,rest,csB,csE,e1,by omega,h1,h2,h3,QT.reg hr e⟩
theorem QT.app:∀ {A B:Cms} {cs ds:List Value} {lo m:Nat},QT w A cs g lo m→QT w B ds g m hi→QT w (A.app B) (cs++ds) g lo hi
 | .nil,B,cs,ds,lo,m,h,h'=>by
  obtain ⟨rfl,h2⟩:=h
  exact h'.low h2
 | .cons k a b t i body els r,B,cs,ds,lo,m,h,h'=>by
  obtain ⟨l0,vF,vA,vB,vE,m1,m2,m3,rest,csB,csE,rfl,o,h1,h2,h3,hr⟩:=h
  exact ⟨l0,vF,vA,vB,vE,m1,m2,m3,rest++ds,csB,csE,List.append_assoc ..,o,h1,h2,h3,QT.app hr h'⟩
theorem QT.len:∀ {L:Cms} {cs:List Value} {lo:Nat},QT w L cs g lo hi→cs.length=L.len * 10
 | .nil,cs,_,h=>by rw[h.1];simp[Cms.len]
 | .cons k a b t i body els r,cs,_,h=>by
  obtain ⟨l0,vF,vA,vB,vE,m1,m2,m3,rest,csB,csE,rfl,-,-,-,-,hr⟩:=h
  simp only[List.length_append,tenL,List.length_cons,List.length_nil,QT.len hr,Cms.len];omega
theorem QT.t:∀ {L:Cms} {cs:List Value} {g lo hi lo1 hi1:Nat},lo1≤lo→hi≤hi1→QT w L cs g lo hi→CmsT w (fun b=>lo1≤b∧b<hi1) L cs
 | .nil,cs,_,_,_,_,_,_,_,h=>h.1
 | .cons k a b t i body els r,cs,g,lo,hi,lo1,hi1,e1,e2,h=>by
  obtain ⟨l0,vF,vA,vB,vE,m1,m2,m3,rest,csB,csE,rfl,o,h1,⟨b1,b2,b3,b4⟩,⟨d1,d2,d3,d4⟩,hr⟩:=h
  have hle:=hr.le
  obtain ⟨fv,av,ef,xF,xA⟩:=h1
  injection ef with ef;injection ef with ef;injection ef with ef ea;injection ea with ea
  subst ef ea
  have part:∀ {M:Cms} {u:Value} {es:List Value} {p q:Nat},lo1≤p→q≤hi1→w.ownsRow p tC 10 u M.len es→Und u q→CmsT w (fun b=>lo1≤b∧b<hi1) M es→∃ A c,u=.slice A M.len c∧PartX w (fun b=>lo1≤b∧b<hi1) A M:=by
   intro M u es p q hp hq ho hu ht
   obtain ⟨hl,h2⟩:=ho
   rcases h2 with ⟨rfl,hn⟩|⟨g1,cap,cur,rfl,hb,hg,hn,hm,hs,htk⟩
   ·exact ⟨none,0,by rw[hn],fun hx=>by omega⟩
   ·have hgq:=hu g1 (by simp[Value.ownBlock])
    refine ⟨_,_,rfl,fun _=>⟨g1,0,rfl,⟨by omega,by omega⟩,CmsT.x ht fun j u hu=>?_⟩⟩
    rw[Nat.zero_add,cell_of_row w g1 j cur tC (0,0) hg]
    rw[←htk,List.getElem?_take] at hu
    split at hu
    ·simpa using hu
    ·cases hu
  obtain ⟨AF,cF,rfl,rF⟩:=own_reads xF.1.1 xF.1.2
  obtain ⟨AA,cA,rfl,rA⟩:=own_reads xA.1.1 xA.1.2
  obtain ⟨AB,cB,rfl,pB⟩:=part (by omega) (by omega) b1 b2 (QT.t (by omega) (by omega) b4)
  obtain ⟨AE,cE,rfl,pE⟩:=part (by omega) (by omega) d1 d2 (QT.t (by omega) (by omega) d4)
  have hx:∀ {size n:Nat} {A:Option Addr} {c:Nat} {xs:List Value} {e:TypeId},w.ownsRow l0 e size (.slice A n c) n xs→Und (.slice A n c) m1→Rw w l0 w.heap.size size A n xs→RwX w (fun b=>lo1≤b∧b<hi1) size A n xs:=by
   intro size n A c xs e ho hu hr
   refine ⟨hr.1,fun hn=>?_⟩
   obtain ⟨b,o,rfl,p1,p2,p3⟩:=hr.2 hn
   have hz:=hu b (by
    obtain ⟨-,h2⟩:=ho
    rcases h2 with ⟨hv,hn0⟩|⟨g1,cap,cur,hv,_⟩
    ·simp at hv
    ·injection hv with e1 e2 e3
     injection e1 with e1
     injection e1 with e1 e2
     subst e1
     rfl)
   exact ⟨b,o,rfl,⟨by omega,by omega⟩,p3⟩
  exact ⟨AF,cF,AA,cA,AB,cB,AE,cE,rest,rfl,hx xF.1.1 xF.2 rF.raw,hx xA.1.1 xA.2 rA.raw,pB,pE,QT.t (by omega) e2 hr⟩
theorem QR.keep {L:Cms} (hk:∀ b,lo≤b→b<hi→b<w.heap.size→w'.heap[b]? = w.heap[b]?) (h:QR w lo hi v L):QR w' lo hi v L:=by
 obtain ⟨cs,h1,h2,h3,h4⟩:=h
 exact ⟨cs,own_kp h1 fun g hg hl=>hk g (h1.lt g hg).1 (h2 g hg) hl,h2,h3,QT.keep (fun b e1 e2 _ e3=>hk b e1 e2 e3) h4⟩
theorem QR.below {L:Cms} (h:QR w lo hi v L) (hb:Below w.heap.size w w'):QR w' lo hi v L:=h.keep fun b _ _ h=>hb.block b h
theorem QR.mk {L:Cms} {a b:Nat} (h:QR w lo hi v L) (hb:Mk (fun g=>a≤g∧g<b) w w') (hd:hi≤a∨b≤lo):QR w' lo hi v L:=h.keep fun x e1 e2 e3=>hb.block x e3 (by omega)
theorem QR.le {L:Cms} (h:QR w lo hi v L):lo≤hi:=by obtain ⟨_,_,_,_,h⟩:=h;exact h.le
theorem QR.nil (w:World) (h:lo≤hi):QR w lo hi (.slice none 0 0) .nil:=⟨[],World.ownsRow_nil _ _ _ _,(fun g h=>by cases h),by simp[Cms.len],rfl,h⟩
theorem QR.lim {L:Cms} (h:QR w lo hi v L):L.len≤1049600:=by obtain ⟨_,_,_,h,_⟩:=h;exact h
theorem QR.mono {L:Cms} (h:QR w lo hi v L) (h1:lo'≤lo) (h2:hi≤hi'):QR w lo' hi' v L:=by
 obtain ⟨cs,p1,p2,p3,p4⟩:=h
 exact ⟨cs,own_lower p1 h1,fun g hg=>by have:=p2 g hg;omega,p3,(p4.mono h2).low h1⟩
theorem QR.reads {L:Cms} (h:QR w lo hi v L):∃ A c,v=.slice A L.len c∧CmsV w lo w.heap.size A L:=by
 obtain ⟨cs,⟨hl,h2⟩,h3,h4,h5⟩:=h
 rcases h2 with ⟨rfl,hn⟩|⟨g,cap,cur,rfl,hb,hg,hn,hm,hs,ht⟩
 ·exact ⟨none,0,by rw[hn],fun hp=>by omega⟩
 ·refine ⟨_,_,rfl,fun hp=>⟨g,0,rfl,hb,Blk.lt hg,CmsX.at_ (fun b hx=>hx.1) (CmsT.x (h5.t (Nat.le_refl _) (Nat.le_refl _)) fun j u hu=>?_)⟩⟩
  rw[Nat.zero_add,cell_of_row w g j cur tC (0,0) hg]
  rw[←ht,List.getElem?_take] at hu
  split at hu
  ·simpa using hu
  ·cases hu
end
end Go.Proofs.YtjbboklnegfohaaDoor

/- Programs of our own, grown by append: their marks. -/
namespace Go.Proofs.YtjbboklnegfohaaDoor
open Go Go.RowKit Go.Proofs
def mkQ:Int→Cms→Cms
 | _,.nil=>.nil
 | k,.cons _ _ _ _ i body els r=>.cons k (k+1) (k+1+1) ⟨(k+1+1+1) % 3 == 0,k+1+1+1+1,k+1+1+1+1+1⟩ (markAs (k+6) i) (mkQ (k+6+3 * i.facts.length+3 * i.atoms.length) body) (mkQ (k+6+3 * i.facts.length+3 * i.atoms.length+body.marks) els) (mkQ (k+6+3 * i.facts.length+3 * i.atoms.length+body.marks+els.marks) r)
theorem mkQ_len:∀ (k:Int) (L:Cms),(mkQ k L).len=L.len
 | _,.nil=>rfl
 | k,.cons _ _ _ _ i body els r=>by simp only[mkQ,Cms.len,mkQ_len _ r]
theorem Cms.app_nil:∀ L:Cms,L.app .nil=L
 | .nil=>rfl
 | .cons k a b t i body els r=>by simp only[Cms.app,Cms.app_nil r]
theorem Cms.app_assoc:∀ A B C:Cms,(A.app B).app C=A.app (B.app C)
 | .nil,_,_=>rfl
 | .cons k a b t i body els r,B,C=>by simp only[Cms.app,Cms.app_assoc r B C]
theorem sixQ {w:World} {g o m:Nat} {cur:Array Value} {done tl:List Value} {x0 x1 x2 x3 x4 x5:Value} (h:Blk w g tC cur) (hp:Pre cur (done++(x0 :: x1 :: x2 :: x3 :: x4 :: x5 :: tl)) m) (ho:done.length=o) (hm:m≤cur.size) (hl:(done++(x0 :: x1 :: x2 :: x3 :: x4 :: x5 :: tl)).length=m) (u0 u1 u2 u3 u4 u5:Value) :
  Mk (fun x=>g≤x∧x<g+1) w (set6 w g o u0 u1 u2 u3 u4 u5)∧∃ cs',Blk (set6 w g o u0 u1 u2 u3 u4 u5) g tC cs'∧cs'.size=cur.size∧Pre cs' (done++(u0 :: u1 :: u2 :: u3 :: u4 :: u5 :: tl)) m:=by
 refine ⟨Mk.set (Mk.set (Mk.set (Mk.set (Mk.set (Mk.set (Mk.refl _ _) ⟨by simp,by simp⟩ _) ⟨by simp,by simp⟩ _) ⟨by simp,by simp⟩ _) ⟨by simp,by simp⟩ _) ⟨by simp,by simp⟩ _) ⟨by simp,by simp⟩ _,_,(((((h.set_ o u0).set_ (o+1) u1).set_ (o+2) u2).set_ (o+3) u3).set_ (o+3+1) u4).set_ (o+3+2) u5,by simp,?_⟩
 have e:done++(u0 :: u1 :: u2 :: u3 :: u4 :: u5 :: tl)=((((((done++(x0 :: x1 :: x2 :: x3 :: x4 :: x5 :: tl)).set o u0).set (o+1) u1).set (o+2) u2).set (o+3) u3).set (o+3+1) u4).set (o+3+2) u5:=by
  subst ho
  iterate 6 rw[List.set_append_right _ _ (by omega)]
  simp[show done.length+1 - done.length=1 by omega,show done.length+2 - done.length=2 by omega,show done.length+3 - done.length=3 by omega,show done.length+3+1 - done.length=4 by omega,show done.length+3+2 - done.length=5 by omega]
 rw[e]
 refine Pre.setL (Pre.setL (Pre.setL (Pre.setL (Pre.setL (Pre.setL hp o u0 hm (by omega)) _ u1 ?_ ?_) _ u2 ?_ ?_) _ u3 ?_ ?_) _ u4 ?_ ?_) _ u5 ?_ ?_<;>simp only[Array.size_setIfInBounds,List.length_set]<;>omega
set_option maxRecDepth 100000 in
set_option maxHeartbeats 12800000 in
theorem markQ_go:∀ (N:Nat) (L:Cms),L.sz<N→∀ (lo hi:Nat) (v:Value) (k0:Int) (w:World),QR w lo hi v L→0≤k0→k0+L.marks≤549755813888→
  Calls Tryd.prog 18 #[v,.int .i64 k0] w fun e w'=>e=.returned (.int .i64 (k0+L.marks))∧QR w' lo hi v (mkQ k0 L)∧Mk (fun g=>lo≤g∧g<hi) w w':=by
 intro N
 induction N with
 | zero=>intro L h;omega
 | succ N IH=>
  intro L hsz lo hi v k0 w hO h0 h1
  replace IH:=Lib.hid IH
  replace hsz:=Lib.hid hsz
  obtain ⟨cs0,⟨hl,hrow⟩,hU,hlim,hQ⟩:=hO
  rcases hrow with ⟨rfl,hn⟩|⟨g,cap,cur0,rfl,hlo,hg,hcap,hmax,hs0,ht⟩
  ·have hLn:L=.nil:=by cases L with
    | nil=>rfl
    | cons=>simp[Cms.len] at hn
   subst hLn
   have hle:=hQ.le
   clear hQ hU hl hlim IH hsz
   go_enter Tryd.func18,Tryd.ntmps18
   go_wp2_with fail
   go_loopw [1,5] (fun x i wr=>i=.int .i64 0∧x=.int .i64 k0∧wr=w) (fun _ i _=>0)
   case atStart=>exact ⟨rfl,rfl,rfl⟩
   case round=>
    obtain ⟨rfl,rfl,rfl⟩:=hrel
    go_wp2_with fail
    go_ret
    exact ⟨by simp[Cms.marks],QR.nil _ hle,Mk.refl _ _⟩
  ·have hghi:g<hi:=hU g (by simp[Value.ownBlock])
   have hKQ:(Value.slice (some ⟨g,0,none⟩) L.len cap).ownBlock.getD 0=g:=by simp[Value.ownBlock]
   rw[hKQ] at hQ
   obtain ⟨n,hn⟩:∃ n,n=L.len:=⟨_,rfl⟩
   obtain ⟨tot,htot⟩:∃ tot,tot=L.marks:=⟨_,rfl⟩
   obtain ⟨P,hP⟩:∃ P,P=mkQ k0 L:=⟨_,rfl⟩
   rw[←hn] at hcap hlim hl ht ⊢
   rw[←htot] at h1 ⊢
   rw[←hP]
   have hK0:Blk w g tC cur0:=hg
   have hP0:Pre cur0 cs0 (n * 10):=by
    intro j hj
    rw[←ht,List.getElem?_take,if_pos hj];simp
   have hsn:n * 10≤cur0.size:=by rw[hs0];exact Nat.mul_le_mul hcap (Nat.le_refl _)
   replace hn:=Lib.hid hn
   replace htot:=Lib.hid htot
   replace hP:=Lib.hid hP
   replace hQ:=Lib.hid hQ
   replace hP0:=Lib.hid hP0
   replace hs0:=Lib.hid hs0
   replace hl:=Lib.hid hl
   clear ht hg hKQ hU
   go_enter Tryd.func18,Tryd.ntmps18
   go_wp2_with fail
   go_loopw [1,5] (fun x i wr=>∃ (j m mid:Nat) (A:Cms) (done todo:List Value) (cs:Array Value),j≤n∧i=.int .i64 j∧x=.int .i64 (k0+m)∧Hid (m+(L.drop j).marks=tot)∧m≤tot∧cs.size=cur0.size∧Blk wr g tC cs∧Hid (Pre cs (done++todo) (n * 10))∧A.len=j∧Hid (A.app (mkQ (k0+m) (L.drop j))=P)∧Hid (QT wr A done g lo mid)∧Hid (QT wr (L.drop j) todo g mid hi)∧Mk (fun g=>lo≤g∧g<hi) w wr) (fun _ i _=>n - (intOf i).toNat)
   case atStart=>exact ⟨0,0,lo,.nil,[],cs0,cur0,Nat.zero_le _,rfl,by simp,Lib.hid (by rw[htot.out];simp[Cms.drop]),Nat.zero_le _,rfl,hK0,Lib.hid (by simpa using hP0.out),rfl,Lib.hid (by rw[hP.out];simp[Cms.drop,Cms.app]),Lib.hid ⟨rfl,Nat.le_refl _⟩,Lib.hid (by simpa[Cms.drop] using hQ.out),Mk.refl _ _⟩
   case round=>
    obtain ⟨j,m,mid,A,done,todo,cs,hj,rfl,rfl,hM,hmt,HS,hK,hPre,hA,hAp,hD,hT,hMk⟩:=hrel
    clear hK0
    by_cases hlt:j<n
    ·have hpos:0<(L.drop j).len:=by rw[Cms.drop_len,←hn.out];omega
     obtain ⟨k,a,b,t,i,body,els,r,eL⟩:=Cms.cons_of_len hpos
     have hT':=hT.out
     have hZ:=Cms.sz_drop j L
     have hDs:=Cms.drop_succ j L eL
     have hM':=hM.out
     have hAp':=hAp.out
     have hdl:=hD.out.len
     have hlm:=hD.out.le
     rw[eL] at hT' hZ hM' hAp'
     obtain ⟨l0,vF,vA,vB,vE,m1,m2,m3,rest,csB,csE,rfl,ho,⟨fv,av,ef,xF,xA⟩,xB,xE,xr⟩:=hT'
     injection ef with ef;injection ef with ef;injection ef with ef ea;injection ea with ea
     subst ef ea
     have hd:=xF.1.ne_atoms xA.1
     obtain ⟨AF,cF,rfl⟩:=xF.form
     obtain ⟨AA,cA,rfl⟩:=xA.form
     have lF:i.facts.length≤1049600:=xF.1.2
     have lA:i.atoms.length≤1049600:=xA.1.2
     have xB:QR wr m1 m2 vB body:=⟨csB,xB⟩
     have xE:QR wr m2 m3 vE els:=⟨csE,xE⟩
     obtain ⟨AB,cB,rfl,-⟩:=xB.reads
     obtain ⟨AE,cE,rfl,-⟩:=xE.reads
     obtain ⟨o1,o2,o3,o4,o5⟩:=ho
     have i3:m3≤hi:=xr.le
     simp only[Cms.sz] at hZ
     have hbs:body.sz<N:=by have:=hsz.out;omega
     have hes:els.sz<N:=by have:=hsz.out;omega
     simp only[Cms.marks] at hM'
     have hrl:=xr.len
     have hlen:(done++(tenL k a b t (.slice AF i.facts.length cF) (.slice AA i.atoms.length cA) (.slice AB body.len cB) (.slice AE els.len cE)++rest)).length=n * 10:=by
      have e1:=Cms.drop_len j L
      rw[eL,←hn.out] at e1
      simp only[Cms.len] at e1
      simp only[List.length_append,tenL,List.length_cons,List.length_nil,hdl,hrl,hA]
      omega
     have hc:∀ x u,(tenL k a b t (.slice AF i.facts.length cF) (.slice AA i.atoms.length cA) (.slice AB body.len cB) (.slice AE els.len cE))[x]? = some u→wr.cell? ⟨g,j * 10+x,none⟩=some u:=by
      intro x u hx
      have hx10:x<10:=by
       have:=(List.getElem?_eq_some_iff.mp hx).1
       simpa[tenL] using this
      rw[hK.cell,hPre.out _ (by omega),List.getElem?_append_right (by omega),show j * 10+x - done.length=x by omega,List.getElem?_append_left (by simpa[tenL] using hx10)]
      exact hx
     have c0:wr.cell? ⟨g,j * 10,none⟩=some (.int .i64 k):=hc 0 _ rfl
     have c1:wr.cell? ⟨g,j * 10+1,none⟩=some (.int .i64 a):=hc 1 _ rfl
     have c2:wr.cell? ⟨g,j * 10+2,none⟩=some (.int .i64 b):=hc 2 _ rfl
     have c3:wr.cell? ⟨g,j * 10+3,none⟩=some (.bool t.eq):=hc 3 _ rfl
     have c4:wr.cell? ⟨g,j * 10+4,none⟩=some (.int .i64 t.a):=hc 4 _ rfl
     have c5:wr.cell? ⟨g,j * 10+5,none⟩=some (.int .i64 t.b):=hc 5 _ rfl
     have c6:wr.cell? ⟨g,j * 10+6,none⟩=some (.slice AF i.facts.length cF):=hc 6 _ rfl
     have c7:wr.cell? ⟨g,j * 10+7,none⟩=some (.slice AA i.atoms.length cA):=hc 7 _ rfl
     have c8:wr.cell? ⟨g,j * 10+8,none⟩=some (.slice AB body.len cB):=hc 8 _ rfl
     have c9:wr.cell? ⟨g,j * 10+9,none⟩=some (.slice AE els.len cE):=hc 9 _ rfl
     have r2:=hK.frozen
     have hsix:=sixQ (o:=j * 10) hK hPre.out (by omega) (by omega) hlen (.int .i64 (k0+m)) (.int .i64 (k0+m+1)) (.int .i64 (k0+m+1+1)) (.bool ((k0+m+1+1+1) % 3 == 0)) (.int .i64 (k0+m+1+1+1+1)) (.int .i64 (k0+m+1+1+1+1+1))
     replace hsix:=Lib.hid hsix
     replace hlen:=Lib.hid hlen
     replace hAp':=Lib.hid hAp'
     replace hbs:=Lib.hid hbs
     replace hes:=Lib.hid hes
     replace hd:=Lib.hid hd
     replace xF:=Lib.hid xF
     replace xA:=Lib.hid xA
     replace xB:=Lib.hid xB
     replace xE:=Lib.hid xE
     replace xr:=Lib.hid xr
     replace hDs:=Lib.hid hDs
     replace hM':=Lib.hid hM'
     clear hZ hpos eL hM hT hc hPre hAp
     have q1:k0+m+6≤549755813888:=by have:=hM'.out;omega
     go_wp2_with fail
     change Calls _ _ _ (set6 wr g (j * 10) (.int .i64 (k0+m)) (.int .i64 (k0+m+1)) (.int .i64 (k0+m+1+1)) (.bool ((k0+m+1+1+1) % 3 == 0)) (.int .i64 (k0+m+1+1+1+1)) (.int .i64 (k0+m+1+1+1+1+1))) _
     replace hsix:=hsix.out
     generalize set6 wr g (j * 10) (.int .i64 (k0+m)) (.int .i64 (k0+m+1)) (.int .i64 (k0+m+1+1)) (.bool ((k0+m+1+1+1) % 3 == 0)) (.int .i64 (k0+m+1+1+1+1)) (.int .i64 (k0+m+1+1+1+1+1))=V at hsix ⊢
     obtain ⟨M6,cs',hKV,hsz',hP'⟩:=hsix
     replace hP':=Lib.hid hP'
     replace hsz':=Lib.hid hsz'
     have hfar:∀ x u,[Value.slice AF i.facts.length cF,.slice AA i.atoms.length cA,.slice AB body.len cB,.slice AE els.len cE][x]? = some u→cs'[j * 10+6+x]? = some u:=by
      intro x u hx
      have hx10:x<4:=by
       have:=(List.getElem?_eq_some_iff.mp hx).1
       simpa using this
      rw[hP'.out _ (by have:=hlen.out;simp only[List.length_append,tenL,List.length_cons,List.length_nil] at this;omega),List.getElem?_append_right (by omega),show j * 10+6+x - done.length=x+1+1+1+1+1+1 by omega]
      simp only[List.getElem?_cons_succ]
      exact (List.getElem?_append_left (l₂:=rest) (by simpa using hx10)).trans hx
     replace hfar:=Lib.hid hfar
     clear c0 c1 c2 c3 c4 c5 c6 c7 c8 c9 r2 hK
     have b1:=hM'.out
     have oF:=(xF.out.mk M6 (by omega)).1
     refine (c_markFactS _ i.facts _ l0 V oF (by omega) (by omega)).mono ?_
     rintro e w1 ⟨rfl,oF1,hM1⟩
     have hM1':Mk (fun x=>l0≤x∧x<m1) V w1:=hM1.mono fun x e=>⟨(oF.1.lt x e).1,xF.out.2 x e⟩
     have hK1:=hM1'.blk hKV (by omega)
     have oA:=((xA.out.mk M6 (by omega)).1.mk hM1 (fun x e1 e2=>hd.out x e2 e1))
     clear hM1 hKV oF
     replace oA:=Lib.hid oA
     replace oF1:=Lib.hid oF1
     have c7:w1.cell? ⟨g,j * 10+7,none⟩=some (.slice AA i.atoms.length cA):=by rw[hK1.cell];exact hfar.out 1 _ rfl
     go_wp2_with fail
     have b1:=hM'.out
     refine (c_markAtomS _ i.atoms _ l0 w1 oA.out (by omega) (by omega)).mono ?_
     rintro e w2 ⟨rfl,oA2,hM2⟩
     have hM2':Mk (fun x=>l0≤x∧x<m1) w1 w2:=hM2.mono fun x e=>⟨(oA.out.1.lt x e).1,xA.out.2 x e⟩
     have hK2:=hM2'.blk hK1 (by omega)
     have oF2:=oF1.out.mk hM2 (fun x e1 e2=>hd.out x e1 e2)
     have nB:=((xB.out.mk M6 (by omega)).mk hM1' (by omega)).mk hM2' (by omega)
     have nE:=((xE.out.mk M6 (by omega)).mk hM1' (by omega)).mk hM2' (by omega)
     have nI:AsnI w2 l0 m1 (.agg #[.slice AF i.facts.length cF,.slice AA i.atoms.length cA]) (markAs (k0+m+6) i):=by
      refine ⟨_,_,rfl,⟨?_,xF.out.2⟩,⟨?_,xA.out.2⟩⟩
      ·rw[show k0+(m:Int)+6=k0+m+1+1+1+1+1+1 by omega];exact oF2
      ·rw[show k0+(m:Int)+6=k0+m+1+1+1+1+1+1 by omega];exact oA2
     have MB:Mk (fun x=>x=g∨(l0≤x∧x<m3)) wr w2:=(M6.mono fun x hx=>Or.inl (by omega)).trans ((hM1'.mono fun x hx=>Or.inr (by omega)).trans (hM2'.mono fun x hx=>Or.inr (by omega)))
     clear hM2 hM2' hM1' c7 oA oF1 oF2 oA2 hK1 M6
     replace MB:=Lib.hid MB
     replace nB:=Lib.hid nB
     replace nE:=Lib.hid nE
     replace nI:=Lib.hid nI
     have c8:w2.cell? ⟨g,j * 10+8,none⟩=some (.slice AB body.len cB):=by rw[hK2.cell];exact hfar.out 2 _ rfl
     go_wp2_with fail
     have b1:=hM'.out
     refine (IH.out body hbs.out m1 m2 _ _ w2 nB.out (by omega) (by omega)).mono ?_
     rintro e w3 ⟨rfl,nB3,hM3⟩
     have hK3:=hM3.blk hK2 (by omega)
     have MC:Mk (fun x=>x=g∨(l0≤x∧x<m3)) wr w3:=MB.out.trans (hM3.mono fun x hx=>Or.inr (by omega))
     have nE3:=nE.out.mk hM3 (by omega)
     have nI3:=nI.out.mk hM3 (by omega)
     clear hM3 c8 nE nI nB MB hK2
     replace MC:=Lib.hid MC
     replace nB3:=Lib.hid nB3
     replace nE3:=Lib.hid nE3
     replace nI3:=Lib.hid nI3
     have c9:w3.cell? ⟨g,j * 10+9,none⟩=some (.slice AE els.len cE):=by rw[hK3.cell];exact hfar.out 3 _ rfl
     go_wp2_with fail
     have b1:=hM'.out
     refine (IH.out els hes.out m2 m3 _ _ w3 nE3.out (by omega) (by omega)).mono ?_
     rintro e w4 ⟨rfl,nE4,hM4⟩
     have hK4:=hM4.blk hK3 (by omega)
     have MD:Mk (fun x=>x=g∨(l0≤x∧x<m3)) wr w4:=MC.out.trans (hM4.mono fun x hx=>Or.inr (by omega))
     have nB4:=nB3.out.mk hM4 (by omega)
     have nI4:=nI3.out.mk hM4 (by omega)
     have hD4:QT w4 A done g lo mid:=hD.out.keep fun x e1 e2 e3 e4=>MD.block x e4 (by omega)
     have hr4:QT w4 r rest g m3 hi:=xr.out.keep fun x e1 e2 e3 e4=>MD.block x e4 (by omega)
     clear hM4 c9 nB3 nI3 nE3 MC hK3
     replace MD:=Lib.hid MD
     replace nB4:=Lib.hid nB4
     replace nE4:=Lib.hid nE4
     replace nI4:=Lib.hid nI4
     replace hD4:=Lib.hid hD4
     replace hr4:=Lib.hid hr4
     clear xF xA xB xE xr hD
     go_wp2_with fail
     have b1:=hM'.out
     go_round
     case rel=>
      have ek:k0+(m:Int)+1+1+1+1+1+1=k0+m+6:=by omega
      have nB5:=nB4.out
      have nE5:=nE4.out
      rw[ek] at nB5 nE5
      obtain ⟨csB',nB5⟩:=nB5
      obtain ⟨csE',nE5⟩:=nE5
      rw[mkQ_len] at nB5 nE5
      have one:QT w4 (.cons (k0+m) (k0+m+1) (k0+m+1+1) ⟨(k0+m+1+1+1) % 3 == 0,k0+m+1+1+1+1,k0+m+1+1+1+1+1⟩ (markAs (k0+m+6) i) (mkQ (k0+m+6+3 * i.facts.length+3 * i.atoms.length) body) (mkQ (k0+m+6+3 * i.facts.length+3 * i.atoms.length+body.marks) els) .nil) (tenL (k0+m) (k0+m+1) (k0+m+1+1) ⟨(k0+m+1+1+1) % 3 == 0,k0+m+1+1+1+1,k0+m+1+1+1+1+1⟩ (.slice AF i.facts.length cF) (.slice AA i.atoms.length cA) (.slice AB body.len cB) (.slice AE els.len cE)++[]) g mid m3:=by
       refine ⟨l0,_,_,_,_,m1,m2,m3,[],csB',csE',rfl,⟨o1,o2,o3,o4,o5⟩,nI4.out,?_,?_,rfl,Nat.le_refl _⟩
       ·rw[mkQ_len];exact nB5
       ·rw[mkQ_len];exact nE5
      refine ⟨j+1,m+6+3 * i.facts.length+3 * i.atoms.length+body.marks+els.marks,m3,A.app (.cons (k0+m) (k0+m+1) (k0+m+1+1) ⟨(k0+m+1+1+1) % 3 == 0,k0+m+1+1+1+1,k0+m+1+1+1+1+1⟩ (markAs (k0+m+6) i) (mkQ (k0+m+6+3 * i.facts.length+3 * i.atoms.length) body) (mkQ (k0+m+6+3 * i.facts.length+3 * i.atoms.length+body.marks) els) .nil),_,rest,cs',by omega,by go_num,by push_cast;congr 1;omega,Lib.hid (by rw[hDs.out];omega),by omega,hsz'.out.trans HS,hK4,Lib.hid ?_,by rw[Cms.len_app,hA];rfl,Lib.hid ?_,Lib.hid (hD4.out.app one),Lib.hid (by rw[hDs.out];exact hr4.out),hMk.trans (MD.out.mono fun x hx=>by omega)⟩
      ·rw[List.append_assoc,List.append_nil];exact hP'.out
      ·have en:k0+((m+6+3 * i.facts.length+3 * i.atoms.length+body.marks+els.marks:Nat):Int)=k0+m+6+3 * i.facts.length+3 * i.atoms.length+body.marks+els.marks:=by push_cast;omega
       rw[hDs.out,Cms.app_assoc,←hAp'.out,en]
       rfl
     case measure=>simp[intOf];omega
    ·go_wp2_with fail
     go_ret
     obtain rfl:j=n:=by omega
     have e1:L.drop j=.nil:=by rw[hn.out];exact Cms.drop_all L
     have h2:=hM.out
     have h3:=hAp.out
     have h4:=hT.out
     rw[e1] at h2 h3 h4
     simp only[Cms.marks,Nat.add_zero] at h2
     subst h2
     obtain ⟨rfl,h5⟩:=h4
     simp only[mkQ,Cms.app_nil] at h3
     subst h3
     rw[List.append_nil] at hPre
     refine ⟨rfl,⟨done,?_,fun x hx=>?_,by omega,?_⟩,hMk⟩
     ·rw[hA]
      exact own_of_blk hK hlo (by rw[hD.out.len,hA]) hPre.out hcap hmax (by rw[HS,hs0.out])
     ·simp[Value.ownBlock] at hx;omega
     ·simp only[Value.ownBlock,if_true,Option.getD_some];exact hD.out.mono h5
end Go.Proofs.YtjbboklnegfohaaDoor

/- Programs of our own, grown by append: their marks are held. -/
namespace Go.Proofs.YtjbboklnegfohaaDoor
open Go Go.RowKit Go.Proofs
set_option maxRecDepth 100000 in
set_option maxHeartbeats 12800000 in
theorem heldQ_go:∀ (N:Nat) (L:Cms),L.sz<N→∀ (lo hi:Nat) (B:Option Addr) (c:Nat) (k0:Int) (w:World),CmsV w lo hi B (mkQ k0 L)→L.cost≤1049600→0≤k0→k0+L.marks≤549755813888→
  Calls Tryd.prog 19 #[.slice B L.len c,.int .i64 k0] w fun e w'=>e=.returned (.int .i64 (k0+L.marks))∧w=w':=by
 intro N
 induction N with
 | zero=>intro L h;omega
 | succ N IH=>
  intro L hsz lo hi B c k0 w hV hco h0 h1
  replace IH:=Lib.hid IH
  replace hsz:=Lib.hid hsz
  obtain ⟨n,hn⟩:∃ n,n=L.len:=⟨_,rfl⟩
  obtain ⟨tot,htot⟩:∃ tot,tot=L.marks:=⟨_,rfl⟩
  have hn1:n≤tot:=by
   rw[hn,htot]
   clear hV hco h0 h1 hsz hn htot
   induction L with
   | nil=>simp[Cms.len]
   | cons k a b t i body els r _ _ ih=>simp only[Cms.len,Cms.marks];omega
  rw[←hn]
  rw[←htot] at h1 ⊢
  obtain ⟨g,o,hB⟩:∃ g o,0<n→B=some ⟨g,o,none⟩∧CmsAt w lo hi (mkQ k0 L) g o:=by
   by_cases hp:0<n
   ·obtain ⟨g,o,e,-,-,h⟩:=hV (by rw[mkQ_len];omega)
    exact ⟨g,o,fun _=>⟨e,h⟩⟩
   ·exact ⟨0,0,fun h=>absurd h hp⟩
  replace hn:=Lib.hid hn
  replace htot:=Lib.hid htot
  replace hB:=Lib.hid hB
  replace hV:=Lib.hid hV
  go_enter Tryd.func19,Tryd.ntmps19
  go_wp2_with fail
  go_loopw [1,5] (fun x i wr=>∃ (j m:Nat),j≤n∧i=.int .i64 j∧x=.int .i64 (k0+m)∧Hid (m+(L.drop j).marks=tot)∧m≤tot∧Hid (0<n→CmsAt w lo hi (mkQ (k0+m) (L.drop j)) g (o+j * 10))∧w=wr) (fun _ i _=>n - (intOf i).toNat)
  case atStart=>exact ⟨0,0,Nat.zero_le _,rfl,by simp,Lib.hid (by rw[htot.out];simp[Cms.drop]),Nat.zero_le _,Lib.hid (fun hp=>by simpa[Cms.drop] using (hB.out hp).2),rfl⟩
  case round=>
   obtain ⟨j,m,hj,rfl,rfl,hM,hmt,hC,rfl⟩:=hrel
   by_cases hlt:j<n
   ·have hpos:0<(L.drop j).len:=by rw[Cms.drop_len,←hn.out];omega
    obtain ⟨k,a,b,t,i,body,els,r,eL⟩:=Cms.cons_of_len hpos
    have hT:=hC.out (by omega)
    have hZ:=Cms.sz_drop j L
    have hW:=Cms.cost_drop j L
    have hDs:=Cms.drop_succ j L eL
    have hM':=hM.out
    obtain ⟨rfl,-⟩:=hB.out (by omega)
    rw[eL] at hT hZ hM' hW
    simp only[mkQ] at hT
    obtain ⟨⟨c0,c1,c2,c3,c4,c5⟩,⟨AF,cF,c6,rF⟩,⟨AA,cA,c7,rA⟩,⟨AB,cB,c8,pB⟩,⟨AE,cE,c9,pE⟩,hr⟩:=hT
    simp only[Cms.sz] at hZ
    simp only[Cms.cost] at hW
    simp only[Cms.marks] at hM'
    have ek:k0+(m:Int)+6=k0+m+1+1+1+1+1+1:=by omega
    rw[ek] at c6 c7 rF rA pB pE
    simp only[markAs,markF_length,markA_length,mkQ_len] at c6 c7 c8 c9 rF rA pB pE
    have hbs:body.sz<N:=by have:=hsz.out;omega
    have hes:els.sz<N:=by have:=hsz.out;omega
    have xF:FactsV w lo hi AF (markF (k0+m+1+1+1+1+1+1) i.facts.length):=⟨by rw[markF_length];exact rF,by rw[markF_length];show i.facts.length≤_;omega⟩
    have xA:AtomsV w lo hi AA (markA (k0+m+1+1+1+1+1+1+3 * i.facts.length) i.atoms.length):=⟨by rw[markA_length];exact rA,by rw[markA_length];show i.atoms.length≤_;omega⟩
    have xB:CmsV w lo hi AB (mkQ (k0+m+1+1+1+1+1+1+3 * i.facts.length+3 * i.atoms.length) body):=fun h=>pB (by rw[mkQ_len] at h;exact h)
    have xE:CmsV w lo hi AE (mkQ (k0+m+1+1+1+1+1+1+3 * i.facts.length+3 * i.atoms.length+body.marks) els):=fun h=>pE (by rw[mkQ_len] at h;exact h)
    have hbc:body.cost≤1049600:=by omega
    have hec:els.cost≤1049600:=by omega
    replace xF:=Lib.hid xF
    replace xA:=Lib.hid xA
    replace xB:=Lib.hid xB
    replace xE:=Lib.hid xE
    replace hbs:=Lib.hid hbs
    replace hes:=Lib.hid hes
    replace hr:=Lib.hid hr
    replace hDs:=Lib.hid hDs
    replace hM':=Lib.hid hM'
    replace hbc:=Lib.hid hbc
    replace hec:=Lib.hid hec
    clear hZ hW hpos eL hM hC rF rA pB pE ek hV
    have q1:k0+m+6≤549755813888:=by have:=hM'.out;omega
    go_wp2_with fail
    have b1:=hM'.out
    refine (c_heldFactS _ i.facts.length _ _ w xF.out (by omega) (by omega)).mono ?_
    rintro e w1 ⟨rfl,rfl⟩
    go_wp2_with fail
    have b1:=hM'.out
    refine (c_heldAtomS _ i.atoms.length _ _ w xA.out (by omega) (by omega)).mono ?_
    rintro e w1 ⟨rfl,rfl⟩
    go_wp2_with fail
    have b1:=hM'.out
    refine (IH.out body hbs.out lo hi _ _ _ w xB.out hbc.out (by omega) (by omega)).mono ?_
    rintro e w1 ⟨rfl,rfl⟩
    go_wp2_with fail
    have b1:=hM'.out
    refine (IH.out els hes.out lo hi _ _ _ w xE.out hec.out (by omega) (by omega)).mono ?_
    rintro e w1 ⟨rfl,rfl⟩
    go_wp2_with fail
    have b1:=hM'.out
    go_round
    case rel=>
     refine ⟨j+1,m+6+3 * i.facts.length+3 * i.atoms.length+body.marks+els.marks,by omega,by go_num,by push_cast;congr 1;omega,Lib.hid (by rw[hDs.out];omega),by omega,Lib.hid fun _=>?_,trivial⟩
     have:=hr.out
     have en:k0+((m+6+3 * i.facts.length+3 * i.atoms.length+body.marks+els.marks:Nat):Int)=k0+m+6+3 * i.facts.length+3 * i.atoms.length+body.marks+els.marks:=by push_cast;omega
     rw[hDs.out,show o+(j+1) * 10=o+j * 10+10 from by omega,en]
     exact this
    case measure=>simp[intOf];omega
   ·go_wp2_with fail
    go_ret
    obtain rfl:j=n:=by omega
    have e1:L.drop j=.nil:=by rw[hn.out];exact Cms.drop_all L
    have h2:=hM.out
    rw[e1] at h2
    simp only[Cms.marks,Nat.add_zero] at h2
    subst h2
    exact ⟨rfl,rfl⟩
end Go.Proofs.YtjbboklnegfohaaDoor

/- Plain: both readers of a program accept exactly the texts of the valid programs. -/
namespace Go.Proofs.YtjbboklnegfohaaDoor
open Go Go.RowKit Go.Proofs
/-! the program's reader -/
def brI (l:Bs):Bs×Bool:=if Lib.hasPrefix l [91]&&Lib.hasSuffix (Lib.trimPrefix l [91]) [93] then (Lib.trimSuffix (Lib.trimPrefix l [91]) [93],true) else (l,false)
def hd0:Hd:=⟨0,0,0,fctZ,⟨[],[]⟩⟩
def finP (k:Int):Option Nat→Option Nat→Option Hd
 | some a,some b=>if fvalB k (a:Int) (b:Int) fctZ ⟨[],[]⟩ .nil .nil then some ⟨k,(a:Int),(b:Int),fctZ,⟨[],[]⟩⟩ else none
 | _,_=>none
def finI (k:Int) (x y:Bs):Option Hd:=finP k (parseT x) (parseT y)
def asgI (x y:Bs×Bool):Option Hd:=if x.2&&y.2 then none else finI (if x.2 then 3 else if y.2 then 2 else 1) x.1 y.1
abbrev newP:Bs:=[110,101,119,32]
abbrev freeP:Bs:=[102,114,101,101,32]
abbrev ifP:Bs:=[105,102,32]
abbrev whP:Bs:=[119,104,105,108,101,32]
abbrev withP:Bs:=[32,119,105,116,104,32]
abbrev nilN:Bs:=[110,105,108]
def bscI (l:Bs):Option Hd:=if (Lib.cut l [58,61]).2.2 then asgI (brI (Lib.cut l [58,61]).1) (brI (Lib.cut l [58,61]).2.1)
 else if Lib.hasPrefix l newP then finI 4 (Lib.trimPrefix l newP) nilN else if Lib.hasPrefix l freeP then finI 5 (Lib.trimPrefix l freeP) nilN else none
def expI (s l:Bs):Option Bs:=if (Lib.cut l [10]).2.2=true∧(Lib.cut l [10]).1=s then some (Lib.cut l [10]).2.1 else none
abbrev Cr:=Hd×Cms×Cms×Bs
def endI (h:Hd) (body els:Cms) (l:Bs):Option Cr:=match expI endL l with
 | none=>none
 | some r=>some (h,body,els,r)
def elsI (sub:Bs→Option (Cms×Bs)) (h:Hd) (body:Cms) (l:Bs):Option Cr:=match expI elseL l with
 | none=>endI h body .nil l
 | some r=>match sub r with
  | none=>none
  | some (els,r2)=>if els.len=0 then none else endI h body els r2
def ifI (sub:Bs→Option (Cms×Bs)) (text rest:Bs):Option Cr:=match pFactI text with
 | none=>none
 | some f=>match sub rest with
  | none=>none
  | some (body,r)=>elsI sub ⟨6,0,0,f,⟨[],[]⟩⟩ body r
def wh2 (sub:Bs→Option (Cms×Bs)) (rest:Bs):Option Fct→Option Asn→Option Cr
 | some f,some i=>match sub rest with
  | none=>none
  | some (body,r)=>endI ⟨7,0,0,f,i⟩ body .nil r
 | _,_=>none
def whI (sub:Bs→Option (Cms×Bs)) (text rest:Bs):Option Cr:=if (Lib.cut text withP).2.2 then wh2 sub rest (pFactI (Lib.cut text withP).1) (pAI (Lib.cut text withP).2.1) else none
def cmI (sub:Bs→Option (Cms×Bs)) (line rest:Bs):Option Cr:=if Lib.hasPrefix line ifP then ifI sub (Lib.trimPrefix line ifP) rest
 else if Lib.hasPrefix line whP then whI sub (Lib.trimPrefix line whP) rest else (bscI line).map fun h=>(h,.nil,.nil,rest)
def consI (c:Hd×Cms×Cms×Bs):Option (Cms×Bs)→Option (Cms×Bs)
 | none=>none
 | some (L,r)=>some (Cms.one1 c.1 c.2.1 c.2.2.1 L,r)
def rdB:Nat→Nat→Nat→Bs→Option (Cms×Bs)
 | 0,_,_,_=>none
 | m+1,d,n,l=>
  if (Lib.cut l [10]).2.2=false∨(Lib.cut l [10]).1=elseL∨(Lib.cut l [10]).1=endL then some (.nil,l)
  else if 4<d∨n=16 then none
  else match cmI (rdB m (d+1) 0) (Lib.cut l [10]).1 (Lib.cut l [10]).2.1 with
   | none=>none
   | some c=>consI c (rdB m d (n+1) c.2.2.2)
def pPI (l:Bs):Option Cms:=match rdB (l.length+1) 1 0 l with
 | none=>none
 | some (L,r)=>if r=[]∧L.prog=true then some L else none
/-! what it accepts is the text -/
theorem expI_back {s l r:Bs} (h:expI s l=some r):l=s++[10]++r:=by
 unfold expI at h
 split at h
 ·rename_i hc
  injection h with h
  have e:=cut_true hc.1
  rw[hc.2,h] at e
  exact e
 ·cases h
theorem brI_back {l x:Bs} {b:Bool} (h:brI l=(x,b)):l=if b then [91]++x++[93] else x:=by
 unfold brI at h
 split at h
 ·rename_i hc
  simp only[Bool.and_eq_true] at hc
  injection h with h1 h2
  subst h1 h2
  rw[if_pos rfl,List.append_assoc,←suffix_back hc.2]
  exact prefix_back hc.1
 ·injection h with h1 h2
  subst h1 h2
  rfl
theorem finI_back {k:Int} {x y:Bs} {h:Hd} (e:finI k x y=some h):h.k=k∧tnameL h.a=x∧tnameL h.b=y∧h.t=fctZ∧h.i=⟨[],[]⟩∧fvalB h.k h.a h.b h.t h.i .nil .nil=true:=by
 unfold finI finP at e
 split at e
 ·rename_i a b ha hb
  split at e
  ·rename_i hv
   injection e with e
   subst e
   exact ⟨rfl,(parseT_lt ha).2,(parseT_lt hb).2,rfl,rfl,hv⟩
  ·cases e
 ·cases e
theorem bscI_back {l:Bs} {h:Hd} (e:bscI l=some h):lineL h.k h.a h.b h.t h.i=l∧h.k≠6∧h.k≠7:=by
 unfold bscI at e
 split at e
 ·rename_i hc
  have el:=cut_true hc
  obtain ⟨x,bx,hx⟩:∃ x b,brI (Lib.cut l [58,61]).1=(x,b):=⟨_,_,rfl⟩
  obtain ⟨y,by_,hy⟩:∃ x b,brI (Lib.cut l [58,61]).2.1=(x,b):=⟨_,_,rfl⟩
  rw[hx,hy] at e
  have ex:=brI_back hx
  have ey:=brI_back hy
  rw[ex,ey] at el
  unfold asgI at e
  split at e
  ·cases e
  ·rename_i hb
   simp only at e hb
   obtain ⟨h1,h2,h3,-,-,-⟩:=finI_back e
   unfold lineL
   rw[h1,h2,h3,el]
   cases bx<;>cases by_<;>simp at hb ⊢
 ·split at e
  ·rename_i hp
   obtain ⟨h1,h2,h3,-⟩:=finI_back e
   unfold lineL
   rw[h1,h2]
   simp only[show (4:Int)≠1 by decide,show (4:Int)≠2 by decide,show (4:Int)≠3 by decide,show (4:Int)≠6 by decide,show (4:Int)≠7 by decide,if_false,if_true,ne_eq,not_false_eq_true,and_true]
   exact (prefix_back hp).symm
  ·split at e
   ·rename_i hp
    obtain ⟨h1,h2,h3,-⟩:=finI_back e
    unfold lineL
    rw[h1,h2]
    simp only[show (5:Int)≠1 by decide,show (5:Int)≠2 by decide,show (5:Int)≠3 by decide,show (5:Int)≠4 by decide,show (5:Int)≠6 by decide,show (5:Int)≠7 by decide,if_false,if_true,ne_eq,not_false_eq_true,and_true]
    exact (prefix_back hp).symm
   ·cases e
def cmdT (h:Hd) (body els:Cms):Bs:=textL (.one1 h body els .nil)
theorem textL_one (h:Hd) (body els L:Cms):textL (.one1 h body els L)=cmdT h body els++textL L:=by
 simp[cmdT,Cms.one1,textL,List.append_assoc]
theorem endI_back {h:Hd} {body els:Cms} {l:Bs} {c:Cr} (e:endI h body els l=some c):c.1=h∧c.2.1=body∧c.2.2.1=els∧l=[101,110,100,10]++c.2.2.2:=by
 unfold endI at e
 split at e
 ·cases e
 ·rename_i r hr
  injection e with e
  subst e
  exact ⟨rfl,rfl,rfl,by rw[expI_back hr];simp⟩
theorem len_nil {L:Cms} (h:L.len=0):L=.nil:=by cases L with
 | nil=>rfl
 | cons=>simp[Cms.len] at h
theorem elsI_back {sub:Bs→Option (Cms×Bs)} (hs:∀ l L r,sub l=some (L,r)→l=textL L++r) {h:Hd} {body:Cms} {l:Bs} {c:Cr} (hk:h.k=6) (e:elsI sub h body l=some c) :
  c.1=h∧c.2.1=body∧l=(if 0<c.2.2.1.len then [101,108,115,101,10]++textL c.2.2.1 else [])++[101,110,100,10]++c.2.2.2:=by
 unfold elsI at e
 split at e
 ·obtain ⟨h1,h2,h3,h4⟩:=endI_back e
  refine ⟨h1,h2,?_⟩
  rw[h3,if_neg (by simp[Cms.len]),h4];simp
 ·rename_i r hr
  split at e
  ·cases e
  ·rename_i els r2 h2
   split at e
   ·cases e
   ·rename_i hl
    obtain ⟨q1,q2,q3,q4⟩:=endI_back e
    refine ⟨q1,q2,?_⟩
    rw[q3,if_pos (by omega),expI_back hr,hs _ _ _ h2,q4]
    simp[List.append_assoc]
theorem cmI_back {sub:Bs→Option (Cms×Bs)} (hs:∀ l L r,sub l=some (L,r)→l=textL L++r) {line rest:Bs} {c:Cr} (e:cmI sub line rest=some c):line++[10]++rest=cmdT c.1 c.2.1 c.2.2.1++c.2.2.2:=by
 unfold cmI at e
 split at e
 ·rename_i hp
  have el:=prefix_back hp
  unfold ifI at e
  split at e
  ·cases e
  ·rename_i f hf
   split at e
   ·cases e
   ·rename_i body r hb
    obtain ⟨h1,h2,h3⟩:=elsI_back hs rfl e
    rw[h1,h2,el,←(pFactI_back hf).1,hs _ _ _ hb,h3]
    simp[cmdT,Cms.one1,textL,lineL,List.append_assoc]
 ·split at e
  ·rename_i hp
   have el:=prefix_back hp
   unfold whI at e
   split at e
   ·rename_i hc
    have ec:=cut_true hc
    unfold wh2 at e
    split at e
    ·rename_i f i hf hi
     split at e
     ·cases e
     ·rename_i body r hb
      obtain ⟨h1,h2,h3,h4⟩:=endI_back e
      rw[h1,h2,h3,el,ec,←(pFactI_back hf).1,←(pAI_iff.1 hi).2,hs _ _ _ hb,h4]
      simp[cmdT,Cms.one1,textL,lineL,Cms.len,List.append_assoc]
    ·cases e
   ·cases e
  ·rw[Option.map_eq_some_iff] at e
   obtain ⟨h,hb,rfl⟩:=e
   obtain ⟨h1,h2,h3⟩:=bscI_back hb
   simp[cmdT,Cms.one1,textL,h1,h2,h3,Cms.len]
theorem rdB_back:∀ (m d n:Nat) (l:Bs) (L:Cms) (r:Bs),rdB m d n l=some (L,r)→l=textL L++r
 | 0,_,_,_,_,_,h=>by cases h
 | m+1,d,n,l,L,r,h=>by
  rw[rdB] at h
  split at h
  ·injection h with h
   injection h with h1 h2
   rw[←h1,←h2];rfl
  ·rename_i hs
   split at h
   ·cases h
   ·split at h
    ·cases h
    ·rename_i c hc
     have e1:=cmI_back (rdB_back m (d+1) 0) hc
     unfold consI at h
     split at h
     ·cases h
     ·rename_i L2 r2 hr
      injection h with h
      injection h with h1 h2
      have e2:=rdB_back m d (n+1) _ _ _ hr
      have e3:=cut_true (l:=l) (sep:=[10]) (by
       cases hb:(Lib.cut l [10]).2.2
       ·exact absurd (.inl hb) hs
       ·rfl)
      rw[e3,e1,←h1,textL_one,e2,←h2,List.append_assoc]
end Go.Proofs.YtjbboklnegfohaaDoor

/- The program's reader of commands: words for its walk. -/
namespace Go.Proofs.YtjbboklnegfohaaDoor
open Go Go.RowKit Go.Proofs
theorem Cms.app_asc:∀ A B C:Cms,(A.app B).app C=A.app (B.app C)
 | .nil,_,_=>rfl
 | .cons k a b t i body els r,B,C=>by simp only[Cms.app,Cms.app_asc r B C]
/-! plain: the steps of the reader -/
def preC (A:Cms):Option (Cms×Bs)→Option (Cms×Bs)
 | none=>none
 | some (L,r)=>some (A.app L,r)
theorem preC_nil (x:Option (Cms×Bs)):preC .nil x=x:=by cases x<;>rfl
theorem preC_cons (A:Cms) (h:Hd) (body els:Cms) (r:Bs) (x:Option (Cms×Bs)):preC A (consI (h,body,els,r) x)=preC (A.app (.one1 h body els .nil)) x:=by
 rcases x with _|⟨L,q⟩
 ·rfl
 ·simp only[consI,preC,Cms.app_asc]
  rfl
theorem expI_len {s l r:Bs} (h:expI s l=some r):r.length<l.length:=by rw[expI_back h];simp;omega
def SubLe (sub:Bs→Option (Cms×Bs)):Prop:=∀ l L r,sub l=some (L,r)→r.length≤l.length
theorem rdB_le (m d n:Nat):SubLe (rdB m d n):=fun l L r h=>by rw[rdB_back m d n l L r h];simp
theorem endI_len {h:Hd} {body els:Cms} {l:Bs} {c:Cr} (e:endI h body els l=some c):c.2.2.2.length≤l.length:=by
 unfold endI at e
 split at e
 ·cases e
 ·rename_i r hr
  injection e with e
  subst e
  exact Nat.le_of_lt (expI_len hr)
theorem cmI_len {sub:Bs→Option (Cms×Bs)} (hs:SubLe sub) {line rest:Bs} {c:Cr} (e:cmI sub line rest=some c):c.2.2.2.length≤rest.length:=by
 unfold cmI at e
 split at e
 ·unfold ifI at e
  split at e
  ·cases e
  ·split at e
   ·cases e
   ·rename_i body r hr
    have h1:=hs _ _ _ hr
    unfold elsI at e
    split at e
    ·exact Nat.le_trans (endI_len e) h1
    ·rename_i r1 h2
     have h2:=expI_len h2
     split at e
     ·cases e
     ·rename_i els r2 h3
      have h3:=hs _ _ _ h3
      split at e
      ·cases e
      ·have:=endI_len e
       omega
 ·split at e
  ·unfold whI at e
   split at e
   ·unfold wh2 at e
    split at e
    ·split at e
     ·cases e
     ·rename_i body r hr
      exact Nat.le_trans (endI_len e) (hs _ _ _ hr)
    ·cases e
   ·cases e
  ·cases hb:bscI line with
   | none=>rw[hb] at e;cases e
   | some h=>rw[hb] at e;injection e with e;subst e;exact Nat.le_refl _
theorem cut_lt {l s:Bs} (h:(Lib.cut l s).2.2=true) (hs:0<s.length):(Lib.cut l s).2.1.length<l.length:=by
 have:=congrArg List.length (cut_true h)
 simp only[List.length_append] at this
 omega
theorem rdB_stop {m d n:Nat} {l:Bs} (h:(Lib.cut l [10]).2.2=false∨(Lib.cut l [10]).1=elseL∨(Lib.cut l [10]).1=endL):rdB (m+1) d n l=some (.nil,l):=by
 rw[rdB,if_pos h]
theorem rdB_full {m d n:Nat} {l:Bs} (h:¬((Lib.cut l [10]).2.2=false∨(Lib.cut l [10]).1=elseL∨(Lib.cut l [10]).1=endL)) (hf:4<d∨n=16):rdB (m+1) d n l=none:=by
 rw[rdB,if_neg h,if_pos hf]
theorem rdB_next {m d n:Nat} {l:Bs} (h:¬((Lib.cut l [10]).2.2=false∨(Lib.cut l [10]).1=elseL∨(Lib.cut l [10]).1=endL)) (hf:¬(4<d∨n=16)):rdB (m+1) d n l=match cmI (rdB m (d+1) 0) (Lib.cut l [10]).1 (Lib.cut l [10]).2.1 with
  | none=>none
  | some c=>consI c (rdB m d (n+1) c.2.2.2):=by
 rw[rdB,if_neg h,if_neg hf]
 try rfl
def C1Q (w:World) (lo hi:Nat) (v:Value) (h:Hd) (body els:Cms):Prop:=∃ vF vA vB vE m1 m2,v=.agg #[.int .i64 h.k,.int .i64 h.a,.int .i64 h.b,.bool h.t.eq,.int .i64 h.t.a,.int .i64 h.t.b,vF,vA,vB,vE]∧
 (lo≤m1∧m1≤m2∧m2≤hi)∧AsnI w lo m1 (.agg #[vF,vA]) h.i∧QR w m1 m2 vB body∧QR w m2 hi vE els
section
variable {w w':World} {lo hi lo' hi' g base:Nat} {v v':Value} {cs:List Value} {L body els:Cms} {h:Hd}
theorem QT.small:∀ {L:Cms} {cs:List Value} {g lo hi:Nat},QT w L cs g lo hi→L.small 1049600
 | .nil,_,_,_,_,_=>trivial
 | .cons k a b t i body els r,cs,g,lo,hi,h=>by
  obtain ⟨l0,vF,vA,vB,vE,m1,m2,m3,rest,csB,csE,e,o,h1,⟨b1,b2,b3,b4⟩,⟨e1,e2,e3,e4⟩,hr⟩:=h
  exact ⟨h1.len.1,h1.len.2,b3,e3,QT.small b4,QT.small e4,QT.small hr⟩
theorem QR.small (h:QR w lo hi v L):L.small 1049600:=by obtain ⟨_,_,_,_,h⟩:=h;exact h.small
theorem C1Q.keep (hk:∀ b,lo≤b→b<hi→b<w.heap.size→w'.heap[b]? = w.heap[b]?) (hc:C1Q w lo hi v h body els):C1Q w' lo hi v h body els:=by
 obtain ⟨vF,vA,vB,vE,m1,m2,e,⟨o1,o2,o3⟩,h1,h2,h3⟩:=hc
 exact ⟨vF,vA,vB,vE,m1,m2,e,⟨o1,o2,o3⟩,h1.kp fun b e1 e2 e3=>hk b (by omega) (by omega) e3,h2.keep fun b e1 e2 e3=>hk b (by omega) (by omega) e3,h3.keep fun b e1 e2 e3=>hk b (by omega) (by omega) e3⟩
theorem C1Q.form (hc:C1Q w lo hi v h body els):∃ AF cF AA cA AB cB AE cE,v=.agg #[.int .i64 h.k,.int .i64 h.a,.int .i64 h.b,.bool h.t.eq,.int .i64 h.t.a,.int .i64 h.t.b,.slice AF h.i.facts.length cF,.slice AA h.i.atoms.length cA,.slice AB body.len cB,.slice AE els.len cE]:=by
 obtain ⟨vF,vA,vB,vE,m1,m2,rfl,-,h1,h2,h3⟩:=hc
 obtain ⟨A,c,B,d,e⟩:=h1.form
 injection e with e
 injection e with e
 injection e with e1 e2
 injection e2 with e2
 obtain ⟨E,ec,rfl,-⟩:=h2.reads
 obtain ⟨F,fc,rfl,-⟩:=h3.reads
 exact ⟨A,c,B,d,E,ec,F,fc,by rw[e1,e2]⟩
theorem C1Q.le (hc:C1Q w lo hi v h body els):lo≤hi:=by obtain ⟨_,_,_,_,m1,m2,_,⟨o1,o2,o3⟩,_⟩:=hc;omega
theorem QR.grow {AF AA AB AE:Option Addr} {cF cA cB cE:Nat} (hT:QT w L cs (v.ownBlock.getD 0) lo hi) (hl:L.len+1≤1049600) (hU:Und v hi) (hhi:hi≤hi'∧hi'≤w.heap.size)
  (hc:C1Q w hi hi' (.agg #[.int .i64 h.k,.int .i64 h.a,.int .i64 h.b,.bool h.t.eq,.int .i64 h.t.a,.int .i64 h.t.b,.slice AF h.i.facts.length cF,.slice AA h.i.atoms.length cA,.slice AB body.len cB,.slice AE els.len cE]) h body els)
  (ho:w'.ownsRow lo tC 10 v' (L.len+1) (cs++tenL h.k h.a h.b h.t (.slice AF h.i.facts.length cF) (.slice AA h.i.atoms.length cA) (.slice AB body.len cB) (.slice AE els.len cE)))
  (hg:w.grownBy w' v.ownBlock) (hv:v'.ownBlock=v.ownBlock∨v'.ownBlock=some w.heap.size):QR w' lo w'.heap.size v' (L.app (.one1 h body els .nil)):=by
 have hlen:(L.app (.one1 h body els .nil)).len=L.len+1:=by rw[Cms.len_app];rfl
 have hle:=hT.le
 have hk:∀ b,b≠v.ownBlock.getD 0∨hi≤b→b<w.heap.size→w'.heap[b]? = w.heap[b]?:=fun b hb hlt=>hg.block b hlt (fun e=>by
  replace e:=(Eq.symm e:v.ownBlock=some b)
  rw[e] at hb
  have:=hU b e
  simp at hb
  omega)
 obtain ⟨vF,vA,vB,vE,m1,m2,e,⟨o1,o2,o3⟩,h1,⟨csB,h2⟩,⟨csE,h3⟩⟩:=(C1Q.keep (w':=w') (fun b e1 e2 e3=>hk b (Or.inr e1) e3) hc)
 injection e with e
 injection e with e
 simp only[List.cons.injEq,and_true,true_and] at e
 obtain ⟨rfl,rfl,rfl,rfl⟩:=e
 have T1:QT w' L cs (v.ownBlock.getD 0) lo hi:=hT.keep fun b e1 e2 e3 e4=>hk b (Or.inl e3) e4
 have one:∀ g,g<hi∨hi'≤g→QT w' (.one1 h body els .nil) (tenL h.k h.a h.b h.t (.slice AF h.i.facts.length cF) (.slice AA h.i.atoms.length cA) (.slice AB body.len cB) (.slice AE els.len cE)++[]) g hi hi':=fun g hg=>⟨hi,_,_,_,_,m1,m2,hi',[],csB,csE,rfl,⟨by omega,o1,o2,o3,hg⟩,h1,h2,h3,rfl,Nat.le_refl _⟩
 have hz:=hg.size
 have hle2:=(C1Q.le hc)
 obtain ⟨g',hv'⟩:∃ g',v'.ownBlock=some g':=by
  rcases ho.2 with ⟨-,e⟩|⟨g',cap,cur,rfl,_⟩
  ·omega
  ·exact ⟨g',by simp[Value.ownBlock]⟩
 refine ⟨_,by rw[hlen];exact ho,fun g hg=>(ho.lt g hg).2,by omega,?_⟩
 rw[hv',Option.getD_some]
 rcases hv with e|e
 ·rw[hv'] at e
  have e2:=hU g' e.symm
  rw[←e,Option.getD_some] at T1
  have:=T1.app (one g' (Or.inl e2))
  rw[List.append_nil] at this
  exact this.mono (by omega)
 ·rw[hv'] at e
  injection e with e
  have:=(T1.reg (g':=g') (by omega)).app (one g' (Or.inr (by omega)))
  rw[List.append_nil] at this
  exact this.mono (by omega)
end
end Go.Proofs.YtjbboklnegfohaaDoor

/- Contracts: the reader of lines (impl): peek, skip, expect. -/
namespace Go.Proofs.YtjbboklnegfohaaDoor
open Go Go.RowKit Go.Proofs
theorem TM.fr {w w':World} {g:Nat} (h:TM w) (hf:Fr g w w') (hg:1<g):TM w':=h.nb (B:=2) ⟨hf.os,hf.tape,hf.output,hf.size,fun k hk=>hf.block k (by have:=h.2.1;omega) (by omega)⟩ (by omega)
abbrev tLR:TypeId:=85
set_option maxRecDepth 100000 in
set_option maxHeartbeats 3200000 in
theorem c_peek {rb:Nat} {l:Bs} (w:World) (hT:TM w) (h:Blk w rb tLR #[sv l]) (hl:l.length≤2000000):Calls Tryd.prog 87 #[.pointer (some ⟨rb,0,none⟩)] w fun e w'=>e=.returned (.tuple #[sv (Lib.cut l [10]).1,.bool (Lib.cut l [10]).2.2])∧Below w.heap.size w w':=by
 have C1:=Lib.hid (c_Cut l [10] w hT hl)
 have q:=h.cell
 have r:=h.frozen
 have l1:=h.lt
 clear hT hl
 go_enter Tryd.func87,Tryd.ntmps87
 go_wp2_with fail
 refine C1.out.mono ?_
 rintro e w1 ⟨rfl,hB⟩
 go_wp2_with fail
 go_ret2
 exact ⟨rfl,hB⟩
set_option maxRecDepth 100000 in
set_option maxHeartbeats 3200000 in
theorem c_skip {rb:Nat} {l:Bs} (w:World) (hT:TM w) (h:Blk w rb tLR #[sv l]) (hl:l.length≤2000000):Calls Tryd.prog 88 #[.pointer (some ⟨rb,0,none⟩)] w fun e w'=>e=.returned (.tuple #[])∧Blk w' rb tLR #[sv (Lib.cut l [10]).2.1]∧Fr rb w w':=by
 have C1:=Lib.hid (c_Cut l [10] w hT hl)
 have q:=h.cell
 have r:=h.frozen
 have l1:=h.lt
 clear hT hl
 go_enter Tryd.func88,Tryd.ntmps88
 go_wp2_with fail
 refine C1.out.mono ?_
 rintro e w1 ⟨rfl,hB⟩
 have k1:=h.next hB
 have q1:=k1.cell
 have r1:=k1.frozen
 have l2:=k1.lt
 clear C1
 go_wp2_with fail
 refine bodyPost_end (v:=.tuple #[]) (by simp[results,Tryd.results88,go_sem]) rfl ⟨rfl,k1.set_ 0 _,(Fr.ofBelow hB).set_ (p:=⟨rb,0,none⟩) (Or.inl rfl) _⟩
set_option maxRecDepth 100000 in
set_option maxHeartbeats 3200000 in
theorem c_expect {rb:Nat} {l s:Bs} (w:World) (hT:TM w) (hrb:1<rb) (h:Blk w rb tLR #[sv l]) (hl:l.length≤2000000):Calls Tryd.prog 126 #[.pointer (some ⟨rb,0,none⟩),sv s] w fun e w'=>e=.returned (.bool (expI s l).isSome)∧Blk w' rb tLR #[sv ((expI s l).getD l)]∧Fr rb w w':=by
 have C1:=Lib.hid (c_peek w hT h hl)
 obtain ⟨x,hx⟩:∃ x,x=expI s l:=⟨_,rfl⟩
 rw[←hx]
 have K2:=Lib.hid fun (W:World) (hT:TM W) (h:Blk W rb tLR #[sv l])=>c_skip W hT h hl
 unfold expI at hx
 obtain ⟨c1,hc1⟩:∃ c,c=(Lib.cut l [10]).1:=⟨_,rfl⟩
 obtain ⟨c2,hc2⟩:∃ c,c=(Lib.cut l [10]).2.1:=⟨_,rfl⟩
 obtain ⟨c3,hc3⟩:∃ c,c=(Lib.cut l [10]).2.2:=⟨_,rfl⟩
 rw[←hc1,←hc2,←hc3] at hx
 rw[←hc1,←hc3] at C1
 rw[←hc2] at K2
 replace hx:=Lib.hid hx
 have HT:=Lib.hid hT
 clear hT hl hc1 hc2 hc3
 go_enter Tryd.func126,Tryd.ntmps126
 go_wp2_with fail
 refine C1.out.mono ?_
 rintro e w1 ⟨rfl,hB⟩
 have k1:=h.next hB
 replace HT:=Lib.hid (HT.out.below hB)
 clear h C1
 cases c3
 ·have e1:x=none:=by have:=hx.out;simpa using this
  subst e1
  go_wp2_with fail
  go_ret
  exact ⟨rfl,k1,.ofBelow hB⟩
 ·by_cases he:c1=s
  ·have hb:(c1 == s)=true:=by rw[bytes_eq];simpa using he
   have e1:x=some c2:=by have:=hx.out;simpa[he] using this
   subst e1
   go_wp2_with fail
   refine (K2.out w1 HT.out k1).mono ?_
   rintro e w2 ⟨rfl,k2,hF⟩
   go_wp2_with fail
   go_ret
   exact ⟨rfl,k2,(Fr.ofBelow hB).trans hF⟩
  ·have hb:(c1 == s)=false:=by rw[bytes_eq];simpa using he
   have e1:x=none:=by have:=hx.out;simpa[he] using this
   subst e1
   go_wp2_with fail
   go_ret
   exact ⟨rfl,k1,.ofBelow hB⟩
end Go.Proofs.YtjbboklnegfohaaDoor
