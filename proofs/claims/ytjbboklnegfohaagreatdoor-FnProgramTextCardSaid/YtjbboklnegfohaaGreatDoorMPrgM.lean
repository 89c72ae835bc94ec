/- Programs: validity, plain. -/
import Derived.Test.YtjbboklnegfohaaGreatDoorCmdH
import Derived.Test.YtjbboklnegfohaaGreatDoorMFmtP
import Derived.Test.YtjbboklnegfohaaGreatDoorMAlloc
import Derived.Test.YtjbboklnegfohaaGreatDoorMRange
import Derived.Deep.DeepCutAuto
set_option linter.unusedSimpArgs false
set_option linter.unusedVariables false
namespace Go.Proofs.YtjbboklnegfohaaGreatDoor
open Go Go.RowKit Go.Proofs
def fvalB (k a b:Int) (t:Fct) (i:Asn) (body els:Cms):Bool:=
 if k=6 then decide (a=0)&&(decide (b=0)&&(t.valid&&noAsn i))
 else if k=7 then decide (a=0)&&(decide (b=0)&&(t.valid&&(i.valid&&decide (els.len=0))))
 else plainB t i body els&&fieldsB k a b
def Cms.shape:Cms→Nat→Bool
 | .nil,_=>true
 | .cons k a b t i body els r,d=>decide (0<d)&&(fvalB k a b t i body els&&(body.shape (d - 1)&&(els.shape (d - 1)&&r.shape d)))
def Cms.count:Cms→Nat→Nat
 | .nil,_=>0
 | .cons _ _ _ _ _ body els r,d=>if 0<d then body.count (d - 1)+els.count (d - 1)+1+r.count d else 0
theorem Cms.count_shape:∀ {L:Cms} {d:Nat},L.shape d=true→L.count d=L.sz
 | .nil,_,_=>rfl
 | .cons k a b t i body els r,d,h=>by
  simp only[Cms.shape,Bool.and_eq_true,decide_eq_true_eq] at h
  obtain ⟨h0,-,h1,h2,h3⟩:=h
  simp only[Cms.count,Cms.sz,if_pos h0,Cms.count_shape h1,Cms.count_shape h2,Cms.count_shape h3]
  omega
theorem Cms.count_le:∀ (L:Cms) (d:Nat),L.count d≤L.sz
 | .nil,_=>Nat.le_refl _
 | .cons k a b t i body els r,d=>by
  simp only[Cms.count,Cms.sz]
  have h1:=Cms.count_le body (d - 1)
  have h2:=Cms.count_le els (d - 1)
  have h3:=Cms.count_le r d
  split<;>omega
theorem Cms.len_sz:∀ (L:Cms),L.len≤L.sz
 | .nil=>Nat.le_refl _
 | .cons k a b t i body els r=>by simp only[Cms.len,Cms.sz];have:=Cms.len_sz r;omega
theorem Cms.sz_cost:∀ (L:Cms),L.sz≤L.len+L.cost
 | .nil=>Nat.le_refl _
 | .cons k a b t i body els r=>by
  simp only[Cms.sz,Cms.len,Cms.cost]
  have h1:=Cms.sz_cost body
  have h2:=Cms.sz_cost els
  have h3:=Cms.sz_cost r
  omega
def Cms.prog (L:Cms):Bool:=L.shape 4&&decide (L.sz≤16)
theorem fvalB_basic {k a b:Int} {t:Fct} {i:Asn} {body els:Cms} (h6:k≠6) (h7:k≠7):fvalB k a b t i body els=(plainB t i body els&&fieldsB k a b):=by
 unfold fvalB;rw[if_neg h6,if_neg h7]
theorem fieldsB_basic {k a b:Int} (h:fieldsB k a b=true):1≤k∧k≤5:=by
 unfold fieldsB at h
 split at h
 ·rename_i h1;rcases h1 with rfl|rfl<;>omega
 split at h
 ·omega
 split at h
 ·omega
 split at h
 ·omega
 ·cases h
theorem Cms.shape_drop:∀ (n:Nat) {L:Cms} {d:Nat},L.shape d=true→(L.drop n).shape d=true
 | 0,L,d,h=>h
 | n+1,.nil,d,h=>rfl
 | n+1,.cons k a b t i body els r,d,h=>by
  simp only[Cms.shape,Bool.and_eq_true] at h
  exact Cms.shape_drop n h.2.2.2.2
end Go.Proofs.YtjbboklnegfohaaGreatDoor

/- The texts of programs, plain. -/
namespace Go.Proofs.YtjbboklnegfohaaGreatDoor
open Go Go.RowKit Go.Proofs
def isMark (l m:Bs) (i:Nat):Bool:=decide ((l.drop i).take m.length=m)
def findM (l m:Bs):Option Nat:=(List.range (l.length+1 - m.length)).find? (isMark l m)
def splitM (l m:Bs):Bs×Bs×Bool:=match findM l m with
 | some i=>(l.take i,l.drop (i+m.length),true)
 | none=>(l,[],false)
theorem findM_some {l m:Bs} {k:Nat} (hk:k+m.length≤l.length) (h:isMark l m k=true) (hn:∀ j,j<k→isMark l m j=false):findM l m=some k:=by
 unfold findM
 rw[List.find?_range_eq_some]
 exact ⟨h,by simp;omega,fun j hj=>by simp[hn j hj]⟩
theorem findM_none {l m:Bs} (hn:∀ j,j+m.length≤l.length→isMark l m j=false):findM l m=none:=by
 unfold findM
 rw[List.find?_eq_none]
 intro j hj
 simp only[List.mem_range] at hj
 simp[hn j (by omega)]
theorem splitM_len (l m:Bs):(splitM l m).1.length≤l.length∧(splitM l m).2.1.length≤l.length:=by
 unfold splitM;split<;>simp<;>omega
def bareL (l:Bs):Bs×Bool:=if l.length<2∨l.head?≠some 91∨l.getLast?≠some 93 then (l,false) else ((l.drop 1).take (l.length - 2),true)
structure Hd where
 k:Int
 a:Int
 b:Int
 t:Fct
 i:Asn
def pT (l:Bs):Int:=((parseT l).getD 0:Nat)
def fctZ:Fct:=⟨false,0,0⟩
def pF (l:Bs):Fct:=(parseF l).getD fctZ
def pA (l:Bs):Asn:=(parseA l).getD ⟨[],[]⟩
def asgnPF (x y:Bs):Hd:=⟨if (bareL y).2 then 2 else if (bareL x).2 then 3 else 1,pT (bareL x).1,pT (bareL y).1,fctZ,⟨[],[]⟩⟩
def wordF (word rest:Bs):Hd:=
 if word=[110,101,119] then ⟨4,pT rest,0,fctZ,⟨[],[]⟩⟩
 else if word=[102,114,101,101] then ⟨5,pT rest,0,fctZ,⟨[],[]⟩⟩
 else if word=[105,102] then ⟨6,0,0,pF rest,⟨[],[]⟩⟩
 else ⟨7,0,0,pF (splitM rest [32,119,105,116,104,32]).1,pA (splitM rest [32,119,105,116,104,32]).2.1⟩
def headF (l:Bs):Hd:=if (splitM l [58,61]).2.2 then asgnPF (splitM l [58,61]).1 (splitM l [58,61]).2.1 else wordF (splitM l [32]).1 (splitM l [32]).2.1
abbrev endL:Bs:=[101,110,100]
abbrev elseL:Bs:=[101,108,115,101]
def Cms.one1 (h:Hd) (body els r:Cms):Cms:=.cons h.k h.a h.b h.t h.i body els r
def blkF (ls:List Bs):Nat→Nat→Nat→Cms×Option Nat
 | 0,p,_=>(.nil,some p)
 | n+1,p,d=>
  if p+1<ls.length∧ls.getD p []≠endL∧ls.getD p []≠elseL then
   if (headF (ls.getD p [])).k=6∨(headF (ls.getD p [])).k=7 then
    if d<1 then (.nil,none)
    else match blkF ls n (p+1) (d - 1) with
     | (body,none)=>(.one1 (headF (ls.getD p [])) body .nil .nil,none)
     | (body,some m)=>
      if m<ls.length∧ls.getD m []=elseL then
       match blkF ls n (m+1) (d - 1) with
       | (els,none)=>(.one1 (headF (ls.getD p [])) body els .nil,none)
       | (els,some q)=>(.one1 (headF (ls.getD p [])) body els (blkF ls n (q+1) d).1,(blkF ls n (q+1) d).2)
      else (.one1 (headF (ls.getD p [])) body .nil (blkF ls n (m+1) d).1,(blkF ls n (m+1) d).2)
   else (.one1 (headF (ls.getD p [])) .nil .nil (blkF ls n (p+1) d).1,(blkF ls n (p+1) d).2)
  else (.nil,some p)
theorem blkF_le (ls:List Bs):∀ (n p d:Nat) {m:Nat},(blkF ls n p d).2=some m→p≤m∧m≤max p (ls.length+d)
 | 0,p,d,m,h=>by simp[blkF] at h;omega
 | n+1,p,d,m,h=>by
  unfold blkF at h
  split at h
  ·rename_i hc
   split at h
   ·split at h
    ·cases h
    ·split at h
     ·cases h
     ·rename_i body q hq
      have h1:=blkF_le ls n (p+1) (d - 1) (by rw[hq])
      split at h
      ·rename_i hm
       split at h
       ·cases h
       ·rename_i els r hr
        have h2:=blkF_le ls n (q+1) (d - 1) (by rw[hr])
        have h3:=blkF_le ls n (r+1) d h
        omega
      ·have h3:=blkF_le ls n (q+1) d h
       omega
   ·have h1:=blkF_le ls n (p+1) d h
    omega
  ·injection h with h
   omega
def lineL (k a b:Int) (t:Fct) (i:Asn):Bs:=
 if k=1 then tnameL a++[58,61]++tnameL b
 else if k=2 then tnameL a++[58,61,91]++tnameL b++[93]
 else if k=3 then [91]++tnameL a++[93,58,61]++tnameL b
 else if k=4 then [110,101,119,32]++tnameL a
 else if k=5 then [102,114,101,101,32]++tnameL a
 else if k=6 then [105,102,32]++fmtF t
 else [119,104,105,108,101,32]++fmtF t++[32,119,105,116,104,32]++textA i
def textL:Cms→Bs
 | .nil=>[]
 | .cons k a b t i body els r=>lineL k a b t i++[10]++textL body++(if 0<els.len then [101,108,115,101,10]++textL els else [])++(if k=6∨k=7 then [101,110,100,10] else [])++textL r
def fmtP (L:Cms):Bs:=if L.prog then textL L else []
def readP (l:Bs):Cms:=(blkF (splitL 10 l) ((splitL 10 l).length+1) 0 4).1
def parsesP (l:Bs):Bool:=decide (l.length≤4000)&&(decide (fmtP (readP l)=l)&&(readP l).prog)
def parseP (l:Bs):Cms:=if parsesP l then readP l else .nil
theorem lineL_len {k a b:Int} {t:Fct} {i:Asn} (h1:i.facts.length≤12) (h2:i.atoms.length≤6):(lineL k a b t i).length≤230:=by
 have ha:=tnameL_len a
 have hb:=tnameL_len b
 have ht:=fmtF_len t
 have hi:=textA_len i
 unfold lineL
 repeat' split
 all_goals simp only[List.length_append,List.length_cons,List.length_nil];omega
theorem Asn.valid_len {i:Asn} (h:i.valid=true):i.facts.length≤12∧i.atoms.length≤6:=by
 simp only[Asn.valid,factsValid,Bool.and_eq_true,decide_eq_true_eq] at h
 exact ⟨h.1.1,h.2.1⟩
theorem fval_inv {k a b:Int} {t:Fct} {i:Asn} {body els:Cms} (h:fvalB k a b t i body els=true):i.facts.length≤12∧i.atoms.length≤6:=by
 unfold fvalB at h
 split at h
 ·simp only[Bool.and_eq_true,noAsn,decide_eq_true_eq] at h;have:=h.2.2.2;omega
 split at h
 ·simp only[Bool.and_eq_true] at h;exact Asn.valid_len h.2.2.2.1
 ·simp only[plainB,Bool.and_eq_true,noAsn,decide_eq_true_eq] at h;have:=h.1.2.1;omega
theorem textL_len:∀ {L:Cms} {d:Nat},L.shape d=true→(textL L).length≤L.sz * 250
 | .nil,_,_=>by simp[textL,Cms.sz]
 | .cons k a b t i body els r,d,h=>by
  simp only[Cms.shape,Bool.and_eq_true] at h
  have h1:=textL_len h.2.2.1
  have h2:=textL_len h.2.2.2.1
  have h3:=textL_len h.2.2.2.2
  have h4:=fval_inv h.2.1
  have h5:=lineL_len (k:=k) (a:=a) (b:=b) (t:=t) h4.1 h4.2
  have h6:(if 0<els.len then ([101,108,115,101,10]:Bs)++textL els else []).length≤5+els.sz * 250:=by
   split
   ·simp only[List.length_append,List.length_cons,List.length_nil];omega
   ·simp
  have h7:(if k=6∨k=7 then ([101,110,100,10]:Bs) else []).length≤4:=by split<;>simp
  simp only[textL,List.length_append,List.length_cons,List.length_nil,Cms.sz]
  omega
theorem prog_shape {L:Cms} (h:L.prog=true):L.shape 4=true∧L.sz≤16:=by
 unfold Cms.prog at h
 simpa only[Bool.and_eq_true,decide_eq_true_eq] using h
theorem fmtP_len (L:Cms):(fmtP L).length≤4000:=by
 unfold fmtP
 split
 ·rename_i h
  have:=prog_shape h
  have:=textL_len this.1
  omega
 ·simp
end Go.Proofs.YtjbboklnegfohaaGreatDoor

/- Contracts: the text of a command without blocks (impl.formatBasic). -/
namespace Go.Proofs.YtjbboklnegfohaaGreatDoor
open Go Go.RowKit Go.Proofs
set_option maxRecDepth 100000 in
set_option maxHeartbeats 6400000 in
theorem c_iFB (k a b:Int) (t:Fct) (i:Asn) (A6 A7 A8 A9:Option Addr) (n6 c6 n7 c7 n8 c8 n9 c9:Nat) (w:World) (hT:TN w) (hk:1≤k∧k≤5) :
  Calls Tryz.prog 30 #[.agg #[.int .i64 k,.int .i64 a,.int .i64 b,.bool t.eq,.int .i64 t.a,.int .i64 t.b,.slice A6 n6 c6,.slice A7 n7 c7,.slice A8 n8 c8,.slice A9 n9 c9]] w fun e w'=>e=.returned (sv (lineL k a b t i))∧Below w.heap.size w w':=by
 have HT:=Lib.hid hT
 have la:=tnameL_len a
 have lb:=tnameL_len b
 clear hT
 go_enter Tryz.func30,Tryz.ntmps30
 go_upto_region 1 with fail
 refine bx1 (w:=w) (F:=Code.wp _ _ _ _) ?_
 rintro W k0 hB -
 replace HT:=Lib.hid (HT.out.below hB)
 have HB:=Lib.hid hB
 clear hB
 refine wp_region_noPanic ?_
 refine wp_region_held_drew (S:=(fun w'=>∀ q:Nat,w'.cell? ⟨w.heap.size,q,none⟩=#[.int .i64 k,.int .i64 a,.int .i64 b,.bool t.eq,.int .i64 t.a,.int .i64 t.b,.slice A6 n6 c6,.slice A7 n7 c7,.slice A8 n8 c8,.slice A9 n9 c9][q]?)) (by kernel_rfl) (k0.drew.cell) (fun hHeld=>?_)
 refine tk 0 ?_ rfl (fun w hSw=>?_) hHeld ?_
 rotate_left
 ·((try dsimp only at hSw);go_split_ands;go_simp;(try with_reducible rfl))
 try simp only[Act.put,zA,zB,zC,zD,zE,zF]
 refine tk 1 ?_ rfl (fun w hSw=>?_) hHeld ?_
 rotate_left
 ·((try dsimp only at hSw);go_split_ands;go_simp;(try with_reducible rfl))
 try simp only[Act.put,zA,zB,zC,zD,zE,zF]
 refine tk 3 ?_ rfl (fun w hSw=>?_) hHeld ?_
 rotate_left
 ·((try dsimp only at hSw);go_split_ands;go_simp;(try with_reducible rfl))
 try simp only[Act.put,zA,zB,zC,zD,zE,zF]
 refine tk 4 ?_ rfl (fun w hSw=>?_) hHeld ?_
 rotate_left
 ·((try dsimp only at hSw);go_split_ands;go_simp;(try with_reducible rfl))
 try simp only[Act.put,zA,zB,zC,zD,zE,zF]
 refine rdc 2 rfl fun K hK=>?_
 try simp only[zA,zB,zC]
 (go_simp;refine (c_iTN a _ (HT.out.below (Below.refl _ _).drew)).mono ?_;rintro e w1 ⟨rfl,rfl⟩)
 refine hK.out _ _ (k0.drew.cell) ?_
 clear hHeld hK K
 intro hHeld
 try simp only[Act.put,zA,zB,zC,zD,zE,zF]
 refine rdc 5 rfl fun K hK=>?_
 try simp only[zA,zB,zC]
 (go_simp;refine (c_iTN b _ (HT.out.below (Below.refl _ _).drew)).mono ?_;rintro e w1 ⟨rfl,rfl⟩)
 refine hK.out _ _ (k0.drew.cell) ?_
 clear hHeld hK K
 intro hHeld
 try simp only[Act.put,zA,zB,zC,zD,zE,zF]
 refine tk 6 ?_ rfl (fun w hSw=>?_) hHeld ?_
 rotate_left
 ·((try dsimp only at hSw);go_split_ands;go_simp;(try with_reducible rfl))
 try simp only[Act.put,zA,zB,zC,zD,zE,zF]
 refine tk 7 ?_ rfl (fun w hSw=>?_) hHeld ?_
 rotate_left
 ·((try dsimp only at hSw);go_split_ands;go_simp;(try with_reducible rfl))
 try simp only[Act.put,zA,zB,zC,zD,zE,zF]
 refine wpAnyH_done (by kernel_rfl) ?_ _
 refine NoPanic.normal ?_
 have k1:=k0.drew
 have HB1:=Lib.hid HB.out.drew
 generalize W.drew=V at k1 HB1 ⊢
 have q1:=k1.cell
 have hcase:k=1∨k=2∨k=3∨k=4∨k=5:=by omega
 obtain ⟨X,hX⟩:∃ X,X=tnameL a:=⟨_,rfl⟩
 obtain ⟨Y,hY⟩:∃ X,X=tnameL b:=⟨_,rfl⟩
 rw[←hX] at la ⊢
 rw[←hY] at lb ⊢
 replace hX:=Lib.hid hX
 replace hY:=Lib.hid hY
 clear hk k0 HT HB
 have s1:=addS (P:=Tryz.prog) X [58,61] (by simp;omega) V
 have s2:=addS (P:=Tryz.prog) (X++[58,61]) Y (by simp;omega) V
 have s3:=addS (P:=Tryz.prog) X [58,61,91] (by simp;omega) V
 have s4:=addS (P:=Tryz.prog) (X++[58,61,91]) Y (by simp;omega) V
 have s5:=addS (P:=Tryz.prog) (X++[58,61,91]++Y) [93] (by simp;omega) V
 have s6:=addS (P:=Tryz.prog) [91] X (by simp;omega) V
 have s7:=addS (P:=Tryz.prog) ([91]++X) [93,58,61] (by simp;omega) V
 have s8:=addS (P:=Tryz.prog) ([91]++X++[93,58,61]) Y (by simp;omega) V
 have s9:=addS (P:=Tryz.prog) [110,101,119,32] X (by simp;omega) V
 have s10:=addS (P:=Tryz.prog) [102,114,101,101,32] X (by simp;omega) V
 rcases hcase with rfl|rfl|rfl|rfl|rfl
 ·go_wp2_with fail
  go_ret
  exact ⟨ret_str (by unfold lineL;rw[←hX.out,←hY.out];simp),HB1.out⟩
 ·go_wp2_with fail
  go_ret
  exact ⟨ret_str (by unfold lineL;rw[←hX.out,←hY.out];simp),HB1.out⟩
 ·go_wp2_with fail
  go_ret
  exact ⟨ret_str (by unfold lineL;rw[←hX.out,←hY.out];simp),HB1.out⟩
 ·go_wp2_with fail
  go_ret
  exact ⟨ret_str (by unfold lineL;rw[←hX.out,←hY.out];simp),HB1.out⟩
 ·go_wp2_with fail
  go_ret
  exact ⟨ret_str (by unfold lineL;rw[←hX.out,←hY.out];simp),HB1.out⟩
end Go.Proofs.YtjbboklnegfohaaGreatDoor

/- Words for the exact laws over programs. -/
namespace Go.Proofs.YtjbboklnegfohaaGreatDoor
open Go Go.RowKit Go.Proofs
section
variable {w w':World} {lo hi lo' hi' a b:Nat} {v:Value} {A:Option Addr} {L:Cms}
end
section
variable {w w':World} {lo hi lo' hi' a b:Nat} {v:Value} {A:Option Addr} {L:Cms}
end
end Go.Proofs.YtjbboklnegfohaaGreatDoor

/- Programs of our own, grown by append: rows of commands no two parts of which share a block. -/
namespace Go.Proofs.YtjbboklnegfohaaGreatDoor
open Go Go.RowKit Go.Proofs
theorem own_kp {w w':World} {base size n:Nat} {t:TypeId} {v:Value} {cs:List Value} (h:w.ownsRow base t size v n cs) (hk:∀ g,v.ownBlock=some g→g<w.heap.size→w'.heap[g]? = w.heap[g]?):w'.ownsRow base t size v n cs:=by
 obtain ⟨hl,h2⟩:=h
 refine ⟨hl,?_⟩
 rcases h2 with ⟨rfl,hn⟩|⟨g,cap,cur,rfl,hb,hg,hn,hm,hs,ht⟩
 ·exact Or.inl ⟨rfl,hn⟩
 ·have e:=hk g (by simp[Value.ownBlock]) (Blk.lt hg)
  exact Or.inr ⟨g,cap,cur,rfl,hb,e.trans hg,hn,hm,hs,ht⟩
theorem AsnI.kp {w w':World} {lo hi:Nat} {v:Value} {x:Asn} (h:AsnI w lo hi v x) (hk:∀ g,lo≤g→g<hi→g<w.heap.size→w'.heap[g]? = w.heap[g]?):AsnI w' lo hi v x:=by
 obtain ⟨fv,av,e,h1,h2⟩:=h
 exact ⟨fv,av,e,⟨⟨own_kp h1.1.1 fun g hg hl=>hk g (h1.1.1.lt g hg).1 (h1.2 g hg) hl,h1.1.2⟩,h1.2⟩,⟨⟨own_kp h2.1.1 fun g hg hl=>hk g (h2.1.1.lt g hg).1 (h2.2 g hg) hl,h2.1.2⟩,h2.2⟩⟩
def QT (w:World):Cms→List Value→Nat→Nat→Nat→Prop
 | .nil,cs,_,lo,hi=>cs=[]∧lo≤hi
 | .cons k a b t i body els r,cs,g,lo,hi=>∃ l0 vF vA vB vE m1 m2 m3 rest csB csE,cs=tenL k a b t vF vA vB vE++rest∧(lo≤l0∧l0≤m1∧m1≤m2∧m2≤m3∧(g<l0∨m3≤g))∧
   AsnI w l0 m1 (.agg #[vF,vA]) i∧
   (w.ownsRow m1 tC 10 vB body.len csB∧Und vB m2∧body.len≤1049600∧QT w body csB (vB.ownBlock.getD 0) m1 m2)∧
   (w.ownsRow m2 tC 10 vE els.len csE∧Und vE m3∧els.len≤1049600∧QT w els csE (vE.ownBlock.getD 0) m2 m3)∧
   QT w r rest g m3 hi
def QR (w:World) (lo hi:Nat) (v:Value) (L:Cms):Prop:=∃ cs,w.ownsRow lo tC 10 v L.len cs∧Und v hi∧L.len≤1049600∧QT w L cs (v.ownBlock.getD 0) lo hi
section
variable {w w':World} {lo hi lo' hi' g g':Nat} {cs ds:List Value} {v:Value}
theorem QT.le:∀ {L:Cms} {cs:List Value} {lo:Nat},QT w L cs g lo hi→lo≤hi
 | .nil,_,_,h=>h.2
 | .cons ..,_,_,h=>by
  obtain ⟨l0,vF,vA,vB,vE,m1,m2,m3,rest,csB,csE,-,o,-,-,-,hr⟩:=h
  have:=QT.le hr
  omega
theorem QT.keep:∀ {L:Cms} {cs:List Value} {g lo hi:Nat},(∀ b,lo≤b→b<hi→b≠g→b<w.heap.size→w'.heap[b]? = w.heap[b]?)→QT w L cs g lo hi→QT w' L cs g lo hi
 | .nil,_,_,_,_,_,h=>h
 | .cons k a b t i body els r,cs,g,lo,hi,hk,h=>by
  obtain ⟨l0,vF,vA,vB,vE,m1,m2,m3,rest,csB,csE,e,o,h1,⟨b1,b2,b3,b4⟩,⟨e1,e2,e3,e4⟩,hr⟩:=h
  have hle:=hr.le
  refine ⟨l0,vF,vA,vB,vE,m1,m2,m3,rest,csB,csE,e,o,h1.kp fun x x1 x2 x3=>hk x (by omega) (by omega) (by omega) x3,⟨own_kp b1 fun x hx hl=>?_,b2,b3,QT.keep (fun x x1 x2 _ x3=>hk x (by omega) (by omega) (by omega) x3) b4⟩,⟨own_kp e1 fun x hx hl=>?_,e2,e3,QT.keep (fun x x1 x2 _ x3=>hk x (by omega) (by omega) (by omega) x3) e4⟩,QT.keep (fun x x1 x2 x4 x3=>hk x (by omega) x2 x4 x3) hr⟩
  ·have p1:=(b1.lt x hx).1
   have p2:=b2 x hx
   exact hk x (by omega) (by omega) (by omega) hl
  ·have p1:=(e1.lt x hx).1
   have p2:=e2 x hx
   exact hk x (by omega) (by omega) (by omega) hl
theorem QT.mono:∀ {L:Cms} {cs:List Value} {lo:Nat},QT w L cs g lo hi→hi≤hi'→QT w L cs g lo hi'
 | .nil,_,_,h,e=>⟨h.1,by have:=h.2;omega⟩
 | .cons k a b t i body els r,cs,lo,h,e=>by
  obtain ⟨l0,vF,vA,vB,vE,m1,m2,m3,rest,csB,csE,e1,o,h1,h2,h3,hr⟩:=h
  exact ⟨l0,vF,vA,vB,vE,m1,m2,m3,rest,csB,csE,e1,o,h1,h2,h3,QT.mono hr e⟩
theorem QT.low:∀ {L:Cms} {cs:List Value},QT w L cs g lo hi→lo'≤lo→QT w L cs g lo' hi
 | .nil,_,h,e=>⟨h.1,by have:=h.2;omega⟩
 | .cons k a b t i body els r,cs,h,e=>by
  obtain ⟨l0,vF,vA,vB,vE,m1,m2,m3,rest,csB,csE,e1,o,h1,h2,h3,hr⟩:=h
  exact ⟨l0,vF,vA,vB,vE,m1,m2,m3,rest,csB,csE,e1,by omega,h1,h2,h3,hr⟩
theorem QT.reg:∀ {L:Cms} {cs:List Value} {lo:Nat},QT w L cs g lo hi→hi≤g'→QT w L cs g' lo hi
 | .nil,_,_,h,_=>h
 | .cons k a b t i body els r,cs,lo,h,e=>by
  obtain ⟨l0,vF,vA,vB,vE,m1,m2,m3,rest,csB,csE,e1,o,h1,h2,h3,hr⟩:=h
  have:=hr.le
  exact ⟨l0,vF,vA,vB,vE,m1,m2,m3,rest,csB,csE,e1,by omega,h1,h2,h3,QT.reg hr e⟩
theorem QT.app:∀ {A B:Cms} {cs ds:List Value} {lo m:Nat},QT w A cs g lo m→QT w B ds g m hi→QT w (A.app B) (cs++ds) g lo hi
 | .nil,B,cs,ds,lo,m,h,h'=>by
  obtain ⟨rfl,h2⟩:=h
  exact h'.low h2
 | .cons k a b t i body els r,B,cs,ds,lo,m,h,h'=>by
  obtain ⟨l0,vF,vA,vB,vE,m1,m2,m3,rest,csB,csE,rfl,o,h1,h2,h3,hr⟩:=h
  exact ⟨l0,vF,vA,vB,vE,m1,m2,m3,rest++ds,csB,csE,List.append_assoc ..,o,h1,h2,h3,QT.app hr h'⟩
theorem QT.len:∀ {L:Cms} {cs:List Value} {lo:Nat},QT w L cs g lo hi→cs.length=L.len * 10
 | .nil,cs,_,h=>by rw[h.1];simp[Cms.len]
 | .cons k a b t i body els r,cs,_,h=>by
  obtain ⟨l0,vF,vA,vB,vE,m1,m2,m3,rest,csB,csE,rfl,-,-,-,-,hr⟩:=h
  simp only[List.length_append,tenL,List.length_cons,List.length_nil,QT.len hr,Cms.len];omega
theorem QT.t:∀ {L:Cms} {cs:List Value} {g lo hi lo1 hi1:Nat},lo1≤lo→hi≤hi1→QT w L cs g lo hi→CmsT w (fun b=>lo1≤b∧b<hi1) L cs
 | .nil,cs,_,_,_,_,_,_,_,h=>h.1
 | .cons k a b t i body els r,cs,g,lo,hi,lo1,hi1,e1,e2,h=>by
  obtain ⟨l0,vF,vA,vB,vE,m1,m2,m3,rest,csB,csE,rfl,o,h1,⟨b1,b2,b3,b4⟩,⟨d1,d2,d3,d4⟩,hr⟩:=h
  have hle:=hr.le
  obtain ⟨fv,av,ef,xF,xA⟩:=h1
  injection ef with ef;injection ef with ef;injection ef with ef ea;injection ea with ea
  subst ef ea
  have part:∀ {M:Cms} {u:Value} {es:List Value} {p q:Nat},lo1≤p→q≤hi1→w.ownsRow p tC 10 u M.len es→Und u q→CmsT w (fun b=>lo1≤b∧b<hi1) M es→∃ A c,u=.slice A M.len c∧PartX w (fun b=>lo1≤b∧b<hi1) A M:=by
   intro M u es p q hp hq ho hu ht
   obtain ⟨hl,h2⟩:=ho
   rcases h2 with ⟨rfl,hn⟩|⟨g1,cap,cur,rfl,hb,hg,hn,hm,hs,htk⟩
   ·exact ⟨none,0,by rw[hn],fun hx=>by omega⟩
   ·have hgq:=hu g1 (by simp[Value.ownBlock])
    refine ⟨_,_,rfl,fun _=>⟨g1,0,rfl,⟨by omega,by omega⟩,CmsT.x ht fun j u hu=>?_⟩⟩
    rw[Nat.zero_add,cell_of_row w g1 j cur tC (0,0) hg]
    rw[←htk,List.getElem?_take] at hu
    split at hu
    ·simpa using hu
    ·cases hu
  obtain ⟨AF,cF,rfl,rF⟩:=own_reads xF.1.1 xF.1.2
  obtain ⟨AA,cA,rfl,rA⟩:=own_reads xA.1.1 xA.1.2
  obtain ⟨AB,cB,rfl,pB⟩:=part (by omega) (by omega) b1 b2 (QT.t (by omega) (by omega) b4)
  obtain ⟨AE,cE,rfl,pE⟩:=part (by omega) (by omega) d1 d2 (QT.t (by omega) (by omega) d4)
  have hx:∀ {size n:Nat} {A:Option Addr} {c:Nat} {xs:List Value} {e:TypeId},w.ownsRow l0 e size (.slice A n c) n xs→Und (.slice A n c) m1→Rw w l0 w.heap.size size A n xs→RwX w (fun b=>lo1≤b∧b<hi1) size A n xs:=by
   intro size n A c xs e ho hu hr
   refine ⟨hr.1,fun hn=>?_⟩
   obtain ⟨b,o,rfl,p1,p2,p3⟩:=hr.2 hn
   have hz:=hu b (by
    obtain ⟨-,h2⟩:=ho
    rcases h2 with ⟨hv,hn0⟩|⟨g1,cap,cur,hv,_⟩
    ·simp at hv
    ·injection hv with e1 e2 e3
     injection e1 with e1
     injection e1 with e1 e2
     subst e1
     rfl)
   exact ⟨b,o,rfl,⟨by omega,by omega⟩,p3⟩
  exact ⟨AF,cF,AA,cA,AB,cB,AE,cE,rest,rfl,hx xF.1.1 xF.2 rF.raw,hx xA.1.1 xA.2 rA.raw,pB,pE,QT.t (by omega) e2 hr⟩
theorem QR.keep {L:Cms} (hk:∀ b,lo≤b→b<hi→b<w.heap.size→w'.heap[b]? = w.heap[b]?) (h:QR w lo hi v L):QR w' lo hi v L:=by
 obtain ⟨cs,h1,h2,h3,h4⟩:=h
 exact ⟨cs,own_kp h1 fun g hg hl=>hk g (h1.lt g hg).1 (h2 g hg) hl,h2,h3,QT.keep (fun b e1 e2 _ e3=>hk b e1 e2 e3) h4⟩
theorem QR.below {L:Cms} (h:QR w lo hi v L) (hb:Below w.heap.size w w'):QR w' lo hi v L:=h.keep fun b _ _ h=>hb.block b h
theorem QR.mk {L:Cms} {a b:Nat} (h:QR w lo hi v L) (hb:Mk (fun g=>a≤g∧g<b) w w') (hd:hi≤a∨b≤lo):QR w' lo hi v L:=h.keep fun x e1 e2 e3=>hb.block x e3 (by omega)
theorem QR.le {L:Cms} (h:QR w lo hi v L):lo≤hi:=by obtain ⟨_,_,_,_,h⟩:=h;exact h.le
theorem QR.nil (w:World) (h:lo≤hi):QR w lo hi (.slice none 0 0) .nil:=⟨[],World.ownsRow_nil _ _ _ _,(fun g h=>by cases h),by simp[Cms.len],rfl,h⟩
theorem QR.lim {L:Cms} (h:QR w lo hi v L):L.len≤1049600:=by obtain ⟨_,_,_,h,_⟩:=h;exact h
theorem QR.mono {L:Cms} (h:QR w lo hi v L) (h1:lo'≤lo) (h2:hi≤hi'):QR w lo' hi' v L:=by
 obtain ⟨cs,p1,p2,p3,p4⟩:=h
 exact ⟨cs,own_lower p1 h1,fun g hg=>by have:=p2 g hg;omega,p3,(p4.mono h2).low h1⟩
theorem QR.reads {L:Cms} (h:QR w lo hi v L):∃ A c,v=.slice A L.len c∧CmsV w lo w.heap.size A L:=by
 obtain ⟨cs,⟨hl,h2⟩,h3,h4,h5⟩:=h
 rcases h2 with ⟨rfl,hn⟩|⟨g,cap,cur,rfl,hb,hg,hn,hm,hs,ht⟩
 ·exact ⟨none,0,by rw[hn],fun hp=>by omega⟩
 ·refine ⟨_,_,rfl,fun hp=>⟨g,0,rfl,hb,Blk.lt hg,CmsX.at_ (fun b hx=>hx.1) (CmsT.x (h5.t (Nat.le_refl _) (Nat.le_refl _)) fun j u hu=>?_)⟩⟩
  rw[Nat.zero_add,cell_of_row w g j cur tC (0,0) hg]
  rw[←ht,List.getElem?_take] at hu
  split at hu
  ·simpa using hu
  ·cases hu
end
end Go.Proofs.YtjbboklnegfohaaGreatDoor

/- Programs of our own, grown by append: their marks. -/
namespace Go.Proofs.YtjbboklnegfohaaGreatDoor
open Go Go.RowKit Go.Proofs
theorem Cms.app_nil:∀ L:Cms,L.app .nil=L
 | .nil=>rfl
 | .cons k a b t i body els r=>by simp only[Cms.app,Cms.app_nil r]
theorem Cms.app_assoc:∀ A B C:Cms,(A.app B).app C=A.app (B.app C)
 | .nil,_,_=>rfl
 | .cons k a b t i body els r,B,C=>by simp only[Cms.app,Cms.app_assoc r B C]
end Go.Proofs.YtjbboklnegfohaaGreatDoor
