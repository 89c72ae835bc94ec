/- Plain: both readers of a contract accept exactly the texts of the valid contracts. -/
import Derived.Test.YtjaohekkmlkinaaDoorPrsP
import Derived.Test.YtjaohekkmlkinaaDoorFmtC
set_option linter.unusedSimpArgs false
set_option linter.unusedVariables false
namespace Go.Proofs.YtjaohekkmlkinaaDoor
open Go Go.RowKit Go.Proofs
def rdI:List Bs→List Int→Option (List Int)
 | [],acc=>some acc
 | x :: r,acc=>match parseT x with
  | none=>none
  | some n=>if acc.length=4 then none else rdI r (acc++[(n:Int)])
def rdIs (l:Bs):Option (List Int):=if l=[] then some [] else if Lib.hasPrefix l [32] then rdI (Lib.split (Lib.trimPrefix l [32]) [32]) [] else none
def three:Option Asn→Option Asn→Option (List Int)→Option Ctr
 | some p,some q,some cs=>if (⟨p,q,cs⟩:Ctr).valid then some ⟨p,q,cs⟩ else none
 | _,_,_=>none
def pC3 (a b c:Bs):Option Ctr:=
 if Lib.hasPrefix a [112,114,101,32]&&Lib.hasPrefix b [112,111,115,116,32]&&Lib.hasPrefix c [99,104,97,110,103,101,115] then
  three (pAI (Lib.trimPrefix a [112,114,101,32])) (pAI (Lib.trimPrefix b [112,111,115,116,32])) (rdIs (Lib.trimPrefix c [99,104,97,110,103,101,115])) else none
def pCL (ls:List Bs):Option Ctr:=if ls.length=4∧ls.getD 3 []=[] then pC3 (ls.getD 0 []) (ls.getD 1 []) (ls.getD 2 []) else none
def pCI (l:Bs):Option Ctr:=pCL (Lib.splitN l [10] 4)
def chgS (c:Bs):List Int:=(wordsL c).tail.map fun x=>(((parseT x).getD 0:Nat):Int)
def two (l:Bs) (cs:List Int):Option Asn→Option Asn→Option Ctr
 | some p,some q=>if fmtC ⟨p,q,cs⟩=l then some ⟨p,q,cs⟩ else none
 | _,_=>none
def pS3 (l a b c:Bs):Option Ctr:=two l (chgS c) (parseA (a.drop 4)) (parseA (b.drop 5))
def pSL (l:Bs) (ls:List Bs):Option Ctr:=if ls.length=4∧4≤(ls.getD 0 []).length∧5≤(ls.getD 1 []).length then pS3 l (ls.getD 0 []) (ls.getD 1 []) (ls.getD 2 []) else none
def pCS (l:Bs):Option Ctr:=pSL l (splitL 10 l)
/-! changes -/
theorem chg_lt:∀ {xs:List Int} {last:Int},0≤last→last≤4→changesFrom last xs=true→last+xs.length≤4
 | [],last,_,h4,_=>by simpa using h4
 | x :: r,last,h0,h4,h=>by
  simp only[changesFrom,Bool.and_eq_true,decide_eq_true_eq,isProgB] at h
  have:=chg_lt (xs:=r) (last:=x) (by omega) (by omega) h.2
  simp only[List.length_cons]
  omega
theorem chg_prog:∀ {xs:List Int} {last:Int},changesFrom last xs=true→∀ x∈xs,isProgB x=true
 | [],_,_,x,hx=>by cases hx
 | y :: r,last,h,x,hx=>by
  simp only[changesFrom,Bool.and_eq_true] at h
  rcases List.mem_cons.1 hx with rfl|hx
  ·exact h.1.1
  ·exact chg_prog h.2 x hx
theorem prog_all (P:Int→Prop) (h:∀ n:Nat,n<4→P ((n+1:Nat):Int)) {x:Int} (hv:isProgB x=true):P x:=by
 simp only[isProgB,decide_eq_true_eq] at hv
 obtain ⟨n,rfl⟩:∃ n:Nat,x=((n+1:Nat):Int):=⟨(x - 1).toNat,by omega⟩
 exact h n (by omega)
theorem parseT_prog {x:Int} (hv:isProgB x=true):(parseT (tnameL x)).map (fun n:Nat=>(n:Int))=some x:=prog_all (fun x=>(parseT (tnameL x)).map (fun n:Nat=>(n:Int))=some x) (by decide) hv
theorem tname_ne {x:Int} (hv:isProgB x=true):tnameL x≠[]:=prog_all (fun x=>tnameL x≠[]) (by decide) hv
theorem changesT_join:∀ {xs:List Int},xs≠[]→changesT xs=[32]++Lib.join (xs.map tnameL) [32]
 | [],h=>absurd rfl h
 | [x],_=>by simp[changesT,Lib.join_one]
 | x :: y :: r,_=>by
  have ih:=changesT_join (xs:=y :: r) (by simp)
  rw[List.map_cons,List.map_cons,join_cc,←List.map_cons]
  unfold changesT at ih ⊢
  rw[List.map_cons,List.flatten_cons,ih]
  simp
theorem rdI_back:∀ {xs:List Bs} {acc fs:List Int},rdI xs acc=some fs→∃ gs,fs=acc++gs∧xs=gs.map tnameL
 | [],acc,fs,h=>by
  rw[rdI] at h
  injection h with h
  exact ⟨[],by simp[h],rfl⟩
 | x :: r,acc,fs,h=>by
  rw[rdI] at h
  cases hp:parseT x with
  | none=>rw[hp] at h;cases h
  | some n=>
   rw[hp] at h
   simp only at h
   split at h
   ·cases h
   ·obtain ⟨gs,e1,e2⟩:=rdI_back h
    exact ⟨(n:Int) :: gs,by rw[e1];simp,by rw[List.map_cons,←e2,(parseT_lt hp).2]⟩
theorem rdI_fmt:∀ {gs acc:List Int},(∀ g∈gs,isProgB g=true)→acc.length+gs.length≤4→rdI (gs.map tnameL) acc=some (acc++gs)
 | [],acc,_,_=>by simp[rdI]
 | g :: r,acc,h,hl=>by
  simp only[List.length_cons] at hl
  have hg:=parseT_prog (h g (by simp))
  rw[Option.map_eq_some_iff] at hg
  obtain ⟨n,hn,rfl⟩:=hg
  rw[List.map_cons,rdI,hn]
  simp only
  rw[if_neg (by omega),rdI_fmt (fun x hx=>h x (by simp[hx])) (by simp;omega)]
  simp
theorem prefix_back {a p:Bs} (h:Lib.hasPrefix a p=true):a=p++Lib.trimPrefix a p:=by
 have h':=h
 unfold Lib.hasPrefix at h
 obtain ⟨t,ht⟩:=List.isPrefixOf_iff_prefix.1 h
 unfold Lib.trimPrefix
 rw[if_pos h',←ht]
 simp
theorem prefix_of (p t:Bs):Lib.hasPrefix (p++t) p=true:=by
 unfold Lib.hasPrefix;exact List.isPrefixOf_iff_prefix.2 ⟨t,rfl⟩
theorem trim_of (p t:Bs):Lib.trimPrefix (p++t) p=t:=by
 unfold Lib.trimPrefix;rw[if_pos (prefix_of p t)];simp
theorem rdIs_back {l:Bs} {cs:List Int} (h:rdIs l=some cs):changesT cs=l:=by
 unfold rdIs at h
 split at h
 ·rename_i hl
  injection h with h
  rw[hl,←h]
  rfl
 ·split at h
  ·rename_i hp
   obtain ⟨gs,e1,e2⟩:=rdI_back h
   rw[List.nil_append] at e1
   subst e1
   have hj:=splitK_join [32] (Lib.count (Lib.trimPrefix l [32]) [32]) (Lib.trimPrefix l [32])
   have hn:=splitK_ne [32] (Lib.count (Lib.trimPrefix l [32]) [32]) (Lib.trimPrefix l [32])
   change Lib.split (Lib.trimPrefix l [32]) [32]≠[] at hn
   change Lib.join (Lib.split (Lib.trimPrefix l [32]) [32]) [32]=_ at hj
   rw[e2] at hj hn
   rw[changesT_join (by rintro rfl;exact hn rfl),hj]
   exact (prefix_back hp).symm
  ·cases h
theorem rdIs_fmt {cs:List Int} (h:changesFrom 0 cs=true):rdIs (changesT cs)=some cs:=by
 cases cs with
 | nil=>rfl
 | cons x r=>
  have hl:=chg_lt (Int.le_refl 0) (by decide) h
  have hp:=chg_prog h
  rw[changesT_join (by simp)]
  unfold rdIs
  rw[if_neg (by simp),if_pos (prefix_of _ _),trim_of,List.map_cons,split_join (by simp),←List.map_cons,rdI_fmt hp (by simp at hl ⊢;omega)]
  ·rfl
  ·intro q hq
   rw[←List.map_cons] at hq
   obtain ⟨g,-,rfl⟩:=List.mem_map.1 hq
   exact free1 (tname_free g).1
theorem changesT_free (cs:List Int):(10:UInt8)∉changesT cs:=by
 unfold changesT
 intro h
 obtain ⟨p,hp,hc⟩:=List.mem_flatten.1 h
 obtain ⟨x,-,rfl⟩:=List.mem_map.1 hp
 have:=(tname_free x).2.2.2.2.2.2
 simp[this] at hc
theorem chgS_fmt {cs:List Int} (h:∀ x∈cs,isProgB x=true):chgS ([99,104,97,110,103,101,115]++changesT cs)=cs:=by
 unfold chgS
 have hw:∀ (cs:List Int) (p:Bs),(32:UInt8)∉p→p≠[]→(∀ x∈cs,isProgB x=true)→wordsL (p++changesT cs)=p :: cs.map tnameL:=by
  intro cs
  induction cs with
  | nil=>intro p h1 h2 _;simp[changesT,wordsL_free h1 h2]
  | cons x r ih=>
   intro p h1 h2 h3
   have e:p++changesT (x :: r)=p++32 :: (tnameL x++changesT r):=by simp[changesT]
   rw[e,wordsL_mid _ h1 h2,ih _ (tname_free x).1 (tname_ne (h3 x (by simp))) fun y hy=>h3 y (by simp[hy])]
   rfl
 rw[hw cs _ (by decide) (by simp) h,List.tail_cons,List.map_map]
 conv=>rhs;rw[←List.map_id cs]
 refine List.map_congr_left fun x hx=>?_
 have hg:=parseT_prog (h x hx)
 rw[Option.map_eq_some_iff] at hg
 obtain ⟨n,hn,he⟩:=hg
 simp only[Function.comp,hn,Option.getD_some,id]
 exact he
/-! contracts -/
def L1 (k:Ctr):Bs:=[112,114,101,32]++textA k.pre
def L2 (k:Ctr):Bs:=[112,111,115,116,32]++textA k.post
def L3 (k:Ctr):Bs:=[99,104,97,110,103,101,115]++changesT k.changes
theorem fmtC_join {k:Ctr} (hv:k.valid=true):fmtC k=Lib.join [L1 k,L2 k,L3 k,[]] [10]:=by
 unfold fmtC
 rw[if_pos hv,join_cc,join_cc,join_cc,Lib.join_one]
 simp[headT,L1,L2,L3,List.append_assoc]
theorem ctr_free (k:Ctr):(10:UInt8)∉L1 k∧(10:UInt8)∉L2 k∧(10:UInt8)∉L3 k:=by
 have h1:=textA_free k.pre
 have h2:=textA_free k.post
 have h3:=changesT_free k.changes
 simp[L1,L2,L3,h1,h2,h3]
theorem four_of {ls:List Bs} (h:ls.length=4):ls=[ls.getD 0 [],ls.getD 1 [],ls.getD 2 [],ls.getD 3 []]:=by
 match ls,h with
 | [a,b,c,d],_=>rfl
theorem three_back {p q:Option Asn} {cs:Option (List Int)} {k:Ctr} (h:three p q cs=some k):k.valid=true∧p=some k.pre∧q=some k.post∧cs=some k.changes:=by
 unfold three at h
 split at h
 ·split at h
  ·rename_i hv
   injection h with h
   subst h
   exact ⟨hv,rfl,rfl,rfl⟩
  ·cases h
 ·cases h
theorem pCI_iff {l:Bs} {k:Ctr}:pCI l=some k↔k.valid=true∧fmtC k=l:=by
 constructor
 ·intro h
  unfold pCI pCL at h
  split at h
  ·rename_i hl
   have e:=four_of hl.1
   have hj:Lib.join (Lib.splitN l [10] 4) [10]=l:=splitK_join _ _ _
   rw[e,hl.2] at hj
   unfold pC3 at h
   split at h
   ·rename_i hp
    simp only[Bool.and_eq_true] at hp
    obtain ⟨hv,h1,h2,h3⟩:=three_back h
    refine ⟨hv,?_⟩
    rw[fmtC_join hv]
    rw[prefix_back hp.1.1,prefix_back hp.1.2,prefix_back hp.2,←(pAI_iff.1 h1).2,←(pAI_iff.1 h2).2,←rdIs_back h3] at hj
    exact hj
   ·cases h
  ·cases h
 ·rintro ⟨hv,rfl⟩
  obtain ⟨f1,f2,f3⟩:=ctr_free k
  have hs:Lib.splitN (fmtC k) [10] 4=[L1 k,L2 k,L3 k,[]]:=by
   have hlen:3≤(fmtC k).length:=by rw[fmtC_join hv,join_cc];simp[L1]
   unfold Lib.splitN
   rw[show min 4 ((fmtC k).length+1) - 1=3 by omega,fmtC_join hv]
   refine splitK_of _ _ _ (by simp) ?_
   intro q hq
   simp at hq
   rcases hq with rfl|rfl|rfl|rfl
   ·exact free1 f1
   ·exact free1 f2
   ·exact free1 f3
   ·exact free1 (by simp)
  unfold pCI pCL
  rw[hs,if_pos ⟨rfl,rfl⟩]
  have hv':=hv
  simp only[Ctr.valid,Bool.and_eq_true] at hv'
  simp only[List.getD_cons_zero,List.getD_cons_succ]
  unfold pC3 L1 L2 L3
  rw[prefix_of,prefix_of,prefix_of,trim_of,trim_of,trim_of,if_pos (by decide),pAI_iff.2 ⟨hv'.1.1,rfl⟩,pAI_iff.2 ⟨hv'.1.2,rfl⟩,rdIs_fmt hv'.2]
  exact if_pos hv
theorem pCS_iff {l:Bs} {k:Ctr}:pCS l=some k↔k.valid=true∧fmtC k=l:=by
 constructor
 ·intro h
  unfold pCS pSL at h
  split at h
  ·rename_i hl
   unfold pS3 two at h
   split at h
   ·split at h
    ·rename_i hf
     injection h with h
     rw[h] at hf
     refine ⟨?_,hf⟩
     cases hv:k.valid
     ·exfalso
      unfold fmtC at hf
      rw[hv] at hf
      rw[←hf] at hl
      simp[splitL,splitA] at hl
     ·rfl
    ·cases h
   ·cases h
  ·cases h
 ·rintro ⟨hv,rfl⟩
  obtain ⟨f1,f2,f3⟩:=ctr_free k
  have hv':=hv
  simp only[Ctr.valid,Bool.and_eq_true] at hv'
  have hs:splitL 10 (fmtC k)=[L1 k,L2 k,L3 k,[]]:=by
   rw[fmtC_join hv,join_cc,join_cc,join_cc,Lib.join_one,List.append_assoc,List.singleton_append,splitL_mid _ f1,List.append_assoc,List.singleton_append,splitL_mid _ f2,List.append_assoc,List.singleton_append,splitL_mid _ f3]
   rfl
  unfold pCS pSL
  rw[hs,if_pos ⟨rfl,by simp[L1],by simp[L2]⟩]
  simp only[List.getD_cons_zero,List.getD_cons_succ]
  unfold pS3
  rw[show (L1 k).drop 4=textA k.pre from rfl,show (L2 k).drop 5=textA k.post from rfl,parseA_iff.2 ⟨hv'.1.1,rfl⟩,parseA_iff.2 ⟨hv'.1.2,rfl⟩]
  unfold L3
  rw[chgS_fmt (chg_prog hv'.2)]
  exact if_pos rfl
theorem pCI_eq (l:Bs):pCI l=pCS l:=Option.ext fun a=>by
 have h1:=pCI_iff (l:=l) (k:=a)
 have h2:=pCS_iff (l:=l) (k:=a)
 rw[h1,h2]
end Go.Proofs.YtjaohekkmlkinaaDoor
