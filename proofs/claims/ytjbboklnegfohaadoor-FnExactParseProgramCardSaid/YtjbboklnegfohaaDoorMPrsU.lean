/- Plain: both readers of a program read the text of a valid program back. -/
import Derived.Test.YtjbboklnegfohaaDoorMPgA
set_option linter.unusedSimpArgs false
set_option linter.unusedVariables false
namespace Go.Proofs.YtjbboklnegfohaaDoor
open Go Go.RowKit Go.Proofs
/-! lines -/
theorem tname_free2 (t:Int):(58:UInt8)∉tnameL t∧(91:UInt8)∉tnameL t∧(93:UInt8)∉tnameL t:=by
 unfold tnameL
 repeat' split
 all_goals decide
theorem fmtF_free2 (f:Fct):(58:UInt8)∉fmtF f:=by
 have h1:=(tname_free2 f.a).1
 have h2:=(tname_free2 f.b).1
 unfold fmtF
 split<;>simp[h1,h2]
theorem fmtX_free2 (x:Atm):(58:UInt8)∉fmtX x:=by
 have h1:=(tname_free2 x.a).1
 have h2:=(tname_free2 x.b).1
 unfold fmtX signX
 split<;>simp[h1,h2]
theorem textA_free2 (a:Asn):(58:UInt8)∉textA a:=by
 have h1:(58:UInt8)∉factsT a.facts:=by
  rcases Nat.eq_zero_or_pos a.facts.length with h|h
  ·unfold factsT;rw[if_pos h];decide
  ·rw[factsT_join h]
   refine mem_join (by decide) ?_
   intro p hp;obtain ⟨f,-,rfl⟩:=List.mem_map.1 hp;exact fmtF_free2 f
 have h2:(58:UInt8)∉atomsT a.atoms:=by
  unfold atomsT
  split
  ·decide
  ·refine mem_join (by decide) ?_
   intro p hp;obtain ⟨f,-,rfl⟩:=List.mem_map.1 hp;exact fmtX_free2 f
 rw[textA_join]
 simp[h1,h2]
theorem lineL_free (k a b:Int) (t:Fct) (i:Asn):(10:UInt8)∉lineL k a b t i:=by
 have h1:=(tname_free a).2.2.2.2.2.2
 have h2:=(tname_free b).2.2.2.2.2.2
 have h3:=(fmtF_free t).2.2.2
 have h4:=textA_free i
 unfold lineL
 repeat' split
 all_goals simp[h1,h2,h3,h4]
theorem lineL_in (k a b:Int) (t:Fct) (i:Asn):(58:UInt8)∈lineL k a b t i∨(32:UInt8)∈lineL k a b t i:=by
 unfold lineL
 repeat' split
 all_goals simp
theorem lineL_ne (k a b:Int) (t:Fct) (i:Asn):lineL k a b t i≠elseL∧lineL k a b t i≠endL:=by
 have h:=lineL_in k a b t i
 constructor<;>(intro e;rw[e] at h;revert h;decide)
/-! the fields of a valid command -/
theorem plain_inv {t:Fct} {i:Asn} {body els:Cms} (h:plainB t i body els=true):t=fctZ∧i=⟨[],[]⟩∧body=.nil∧els=.nil:=by
 simp only[plainB,noFct,noAsn,Bool.and_eq_true,decide_eq_true_eq] at h
 obtain ⟨h1,⟨h2,h3⟩,h4,h5⟩:=h
 obtain ⟨fs,xs⟩:=i
 have e1:fs=[]:=List.length_eq_zero_iff.1 h2
 have e2:xs=[]:=List.length_eq_zero_iff.1 h3
 exact ⟨h1,by rw[e1,e2],len_nil h4,len_nil h5⟩
theorem noAsn_inv {i:Asn} (h:noAsn i=true):i=⟨[],[]⟩:=by
 simp only[noAsn,Bool.and_eq_true,decide_eq_true_eq] at h
 obtain ⟨fs,xs⟩:=i
 have e1:fs=[]:=List.length_eq_zero_iff.1 h.1
 have e2:xs=[]:=List.length_eq_zero_iff.1 h.2
 rw[e1,e2]
theorem fields_all (P:Int→Int→Int→Prop) (h:∀ k:Nat,k<5→∀ a:Nat,a<9→∀ b:Nat,b<9→fieldsB ((k+1:Nat):Int) (a:Int) (b:Int)=true→P ((k+1:Nat):Int) (a:Int) (b:Int)) {k a b:Int} (hv:fieldsB k a b=true):P k a b:=by
 have hk:=fieldsB_basic hv
 have hab:isTermB a=true∧isTermB b=true:=by
  have hp:∀ x,isProgB x=true→isTermB x=true:=fun x hx=>by
   simp only[isProgB,isTermB,decide_eq_true_eq] at hx ⊢;omega
  have hz:∀ x:Int,decide (x=0)=true→isTermB x=true:=fun x hx=>by
   simp only[isTermB,decide_eq_true_eq] at hx ⊢;omega
  have hv':=hv
  unfold fieldsB at hv'
  split at hv'
  ·simp only[Bool.and_eq_true] at hv';exact ⟨hp _ hv'.1,hv'.2⟩
  split at hv'
  ·simp only[Bool.and_eq_true] at hv';exact hv'
  split at hv'
  ·simp only[Bool.and_eq_true] at hv';exact ⟨hp _ hv'.1,hz _ hv'.2⟩
  split at hv'
  ·simp only[Bool.and_eq_true] at hv';exact ⟨hv'.1,hz _ hv'.2⟩
  ·cases hv'
 have h1:=isTermB_iff.1 hab.1
 have h2:=isTermB_iff.1 hab.2
 obtain ⟨k',rfl⟩:∃ n:Nat,k=((n+1:Nat):Int):=⟨(k - 1).toNat,by omega⟩
 obtain ⟨a',rfl⟩:∃ n:Nat,a=n:=⟨a.toNat,by omega⟩
 obtain ⟨b',rfl⟩:∃ n:Nat,b=n:=⟨b.toNat,by omega⟩
 exact h k' (by omega) a' (by omega) b' (by omega) hv
def isHd (o:Option Hd) (k a b:Int) (t:Fct):Bool:=match o with
 | none=>false
 | some h=>decide (h.k=k)&&(decide (h.a=a)&&(decide (h.b=b)&&(decide (h.t=t)&&noAsn h.i)))
theorem isHd_eq {o:Option Hd} {k a b:Int} {t:Fct} (h:isHd o k a b t=true):o=some ⟨k,a,b,t,⟨[],[]⟩⟩:=by
 unfold isHd at h
 split at h
 ·cases h
 ·rename_i x
  simp only[Bool.and_eq_true,decide_eq_true_eq] at h
  obtain ⟨h1,h2,h3,h4,h5⟩:=h
  obtain ⟨k',a',b',t',i'⟩:=x
  have:=noAsn_inv h5
  simp only at h1 h2 h3 h4 this
  rw[h1,h2,h3,h4,this]
def lineOk (k a b:Int):Bool:=!Lib.hasPrefix (lineL k a b fctZ ⟨[],[]⟩) ifP&&(!Lib.hasPrefix (lineL k a b fctZ ⟨[],[]⟩) whP&&(isHd (bscI (lineL k a b fctZ ⟨[],[]⟩)) k a b fctZ&&isHd (some (headF (lineL k a b fctZ ⟨[],[]⟩))) k a b fctZ))
set_option maxRecDepth 100000 in
theorem lineOk_all {k a b:Int} (hv:fieldsB k a b=true):lineOk k a b=true:=fields_all (fun k a b=>lineOk k a b=true) (by decide) hv
theorem bscI_fmt {k a b:Int} (hv:fieldsB k a b=true):Lib.hasPrefix (lineL k a b fctZ ⟨[],[]⟩) ifP=false∧Lib.hasPrefix (lineL k a b fctZ ⟨[],[]⟩) whP=false∧bscI (lineL k a b fctZ ⟨[],[]⟩)=some ⟨k,a,b,fctZ,⟨[],[]⟩⟩:=by
 have h:=lineOk_all hv
 simp only[lineOk,Bool.and_eq_true,Bool.not_eq_true'] at h
 exact ⟨h.1,h.2.1,isHd_eq h.2.2.1⟩
theorem headF_fmt {k a b:Int} (hv:fieldsB k a b=true):headF (lineL k a b fctZ ⟨[],[]⟩)=⟨k,a,b,fctZ,⟨[],[]⟩⟩:=by
 have h:=lineOk_all hv
 simp only[lineOk,Bool.and_eq_true] at h
 exact Option.some.inj (isHd_eq h.2.2.2)
set_option maxRecDepth 100000 in
theorem headF_if {t:Fct} (hv:t.valid=true):headF (lineL 6 0 0 t ⟨[],[]⟩)=⟨6,0,0,t,⟨[],[]⟩⟩:=Option.some.inj (isHd_eq (fct_all (fun t=>isHd (some (headF (lineL 6 0 0 t ⟨[],[]⟩))) 6 0 0 t=true) (by decide) hv))
theorem findM_of {p m r:Bs} (h:∀ j,j<p.length→isMark (p++m++r) m j=false):findM (p++m++r) m=some p.length:=
 findM_some (by simp) (by unfold isMark;rw[List.append_assoc,List.drop_left,List.take_left];simp) h
theorem splitM_of {p m r:Bs} (h:∀ j,j<p.length→isMark (p++m++r) m j=false):splitM (p++m++r) m=(p,r,true):=by
 unfold splitM
 rw[findM_of h]
 simp only
 rw[take_sep,drop_sep]
theorem isMark_head {l m:Bs} {c:UInt8} {j:Nat} (h:isMark l (c :: m) j=true):l[j]? = some c:=by
 unfold isMark at h
 simp only[decide_eq_true_eq] at h
 have:((l.drop j).take (c :: m).length)[0]? = some c:=by rw[h];rfl
 simpa using this
theorem splitM_head {p m r:Bs} {c:UInt8} (h:c∉p):splitM (p++(c :: m)++r) (c :: m)=(p,r,true):=by
 refine splitM_of fun j hj=>?_
 cases e:isMark (p++(c :: m)++r) (c :: m) j
 ·rfl
 ·have:=isMark_head e
  rw[List.append_assoc,List.getElem?_append_left hj] at this
  exact absurd (List.mem_of_getElem? this) h
theorem splitM_no {l m:Bs} {c:UInt8} (h:c∉l):splitM l (c :: m)=(l,[],false):=by
 unfold splitM
 rw[findM_none fun j hj=>by
  cases e:isMark l (c :: m) j
  ·rfl
  ·exact absurd (List.mem_of_getElem? (isMark_head e)) h]
theorem headF_wh {t:Fct} {i:Asn} (hv:t.valid=true) (hi:i.valid=true):headF (lineL 7 0 0 t i)=⟨7,0,0,t,i⟩:=by
 have e:lineL 7 0 0 t i=[119,104,105,108,101]++[32]++(fmtF t++[32,119,105,116,104,32]++textA i):=by simp[lineL]
 have h1:=fmtF_free2 t
 have h2:=textA_free2 i
 have hn:(58:UInt8)∉lineL 7 0 0 t i:=by rw[e];simp[h1,h2]
 unfold headF
 rw[splitM_no hn]
 simp only[Bool.false_eq_true,if_false]
 rw[e,splitM_head (by decide)]
 simp only
 unfold wordF
 rw[if_neg (by decide),if_neg (by decide),if_neg (by decide),splitM_head (fmtF_free t).1]
 simp only
 unfold pF pA
 rw[parseF_fmt hv,parseA_text hi]
 rfl
/-! the program's reader -/
def stopT (r:Bs):Prop:=(Lib.cut r [10]).2.2=false∨(Lib.cut r [10]).1=elseL∨(Lib.cut r [10]).1=endL
theorem cut_line {p:Bs} (r:Bs) (h:(10:UInt8)∉p):Lib.cut (p++10 :: r) [10]=(p,r,true):=by
 have:=(free1 h).cut r
 rwa [List.append_assoc] at this
theorem cut_end (r:Bs):Lib.cut (101 :: 110 :: 100 :: 10 :: r) [10]=(endL,r,true):=cut_line (p:=endL) r (by decide)
theorem cut_else (r:Bs):Lib.cut (101 :: 108 :: 115 :: 101 :: 10 :: r) [10]=(elseL,r,true):=cut_line (p:=elseL) r (by decide)
theorem expI_end (r:Bs):expI endL (101 :: 110 :: 100 :: 10 :: r)=some r:=by
 unfold expI;rw[cut_end];exact if_pos ⟨rfl,rfl⟩
theorem expI_else (r:Bs):expI elseL (101 :: 108 :: 115 :: 101 :: 10 :: r)=some r:=by
 unfold expI;rw[cut_else];exact if_pos ⟨rfl,rfl⟩
theorem expI_not (r:Bs):expI elseL (101 :: 110 :: 100 :: 10 :: r)=none:=by
 unfold expI;rw[cut_end];exact if_neg fun h=>by have e:endL=elseL:=h.2;revert e;decide
theorem stop_end (r:Bs):stopT (101 :: 110 :: 100 :: 10 :: r):=.inr (.inr (by rw[cut_end]))
theorem stop_else (r:Bs):stopT (101 :: 108 :: 115 :: 101 :: 10 :: r):=.inr (.inl (by rw[cut_else]))
theorem rdB_line {m d n:Nat} {line r:Bs} (hf:(10:UInt8)∉line) (h1:line≠elseL) (h2:line≠endL) (hd:d≤4) (hn:n<16):rdB (m+1) d n (line++10 :: r)=match cmI (rdB m (d+1) 0) line r with
  | none=>none
  | some c=>consI c (rdB m d (n+1) c.2.2.2):=by
 rw[rdB,cut_line r hf]
 simp only
 rw[if_neg (by simp[h1,h2]),if_neg (by omega)]
 rfl
theorem rdB_text:∀ (L:Cms) (m d n:Nat) (r:Bs),L.shape (5 - d)=true→d≤5→n+L.sz≤16→stopT r→(textL L++r).length<m→rdB m d n (textL L++r)=some (L,r)
 | .nil,m,d,n,r,_,_,_,hst,hm=>by
  obtain ⟨m,rfl⟩:∃ k,m=k+1:=⟨m - 1,by omega⟩
  rw[rdB]
  exact if_pos hst
 | .cons k a b t i body els L,m,d,n,r,hs,hd5,hz,hst,hm=>by
  obtain ⟨m,rfl⟩:∃ k,m=k+1:=⟨m - 1,by omega⟩
  simp only[Cms.shape,Bool.and_eq_true,decide_eq_true_eq] at hs
  obtain ⟨h0,hf,hsb,hse,hsL⟩:=hs
  simp only[Cms.sz] at hz
  have hd:d≤4:=by omega
  obtain ⟨hn1,hn2⟩:=lineL_ne k a b t i
  have e5:5 - d - 1=5 - (d+1):=by omega
  rw[e5] at hsb hse
  have hL:∀ r',(textL L++r').length<m→stopT r'→rdB m d (n+1) (textL L++r')=some (L,r'):=fun r' h1 h2=>rdB_text L m d (n+1) r' hsL hd5 (by omega) h2 h1
  have hB:∀ r',(textL body++r').length<m→stopT r'→rdB m (d+1) 0 (textL body++r')=some (body,r'):=fun r' h1 h2=>rdB_text body m (d+1) 0 r' hsb (by omega) (by omega) h2 h1
  have hE:∀ r',(textL els++r').length<m→stopT r'→rdB m (d+1) 0 (textL els++r')=some (els,r'):=fun r' h1 h2=>rdB_text els m (d+1) 0 r' hse (by omega) (by omega) h2 h1
  have et:textL (.cons k a b t i body els L)++r=lineL k a b t i++10 :: (textL body++((if 0<els.len then [101,108,115,101,10]++textL els else [])++((if k=6∨k=7 then [101,110,100,10] else [])++(textL L++r)))):=by
   simp[textL,List.append_assoc]
  rw[et] at hm ⊢
  rw[rdB_line (lineL_free k a b t i) hn1 hn2 hd (by omega)]
  simp only[List.length_append,List.length_cons] at hm
  unfold fvalB at hf
  by_cases hk6:k=6
  ·subst hk6
   simp only[if_true,Bool.and_eq_true,decide_eq_true_eq] at hf
   obtain ⟨rfl,rfl,ht,hi⟩:=hf
   obtain rfl:=noAsn_inv hi
   have e6:(if (6:Int)=6∨(6:Int)=7 then ([101,110,100,10]:Bs) else [])=[101,110,100,10]:=if_pos (.inl rfl)
   rw[e6] at hm
   have hc:cmI (rdB m (d+1) 0) (lineL 6 0 0 t ⟨[],[]⟩) (textL body++((if 0<els.len then [101,108,115,101,10]++textL els else [])++((if (6:Int)=6∨(6:Int)=7 then [101,110,100,10] else [])++(textL L++r))))=some (⟨6,0,0,t,⟨[],[]⟩⟩,body,els,textL L++r):=by
    have el:lineL 6 0 0 t ⟨[],[]⟩=ifP++fmtF t:=by simp[lineL]
    unfold cmI
    rw[el,if_pos (prefix_of _ _),trim_of]
    unfold ifI
    rw[pFactI_fmt ht]
    simp only[true_or,if_true]
    by_cases hl:0<els.len
    ·rw[if_pos hl] at hm ⊢
     simp only[List.cons_append,List.nil_append,List.length_append,List.length_cons] at hm ⊢
     rw[hB _ (by simp only[List.length_append,List.length_cons];omega) (stop_else _)]
     simp only
     unfold elsI
     rw[expI_else]
     simp only
     rw[hE _ (by simp only[List.length_append,List.length_cons];omega) (stop_end _)]
     simp only
     rw[if_neg (by omega)]
     unfold endI
     rw[expI_end]
    ·obtain rfl:=len_nil (L:=els) (by omega)
     rw[if_neg hl] at hm ⊢
     simp only[List.length_append,List.length_cons,List.length_nil] at hm
     simp only[List.cons_append,List.nil_append]
     rw[hB _ (by simp only[List.length_append,List.length_cons];omega) (stop_end _)]
     simp only
     unfold elsI
     rw[expI_not]
     simp only
     unfold endI
     rw[expI_end]
   rw[hc]
   simp only
   rw[hL r (by simp only[List.length_append];omega) hst]
   rfl
  ·rw[if_neg hk6] at hf
   by_cases hk7:k=7
   ·subst hk7
    simp only[if_true,Bool.and_eq_true,decide_eq_true_eq] at hf
    obtain ⟨rfl,rfl,ht,hi,hl⟩:=hf
    obtain rfl:=len_nil hl
    have hc:cmI (rdB m (d+1) 0) (lineL 7 0 0 t i) (textL body++((if 0<Cms.nil.len then [101,108,115,101,10]++textL .nil else [])++((if (7:Int)=6∨(7:Int)=7 then [101,110,100,10] else [])++(textL L++r))))=some (⟨7,0,0,t,i⟩,body,.nil,textL L++r):=by
     have el:lineL 7 0 0 t i=whP++(fmtF t++withP++textA i):=by simp[lineL]
     have hif:Lib.hasPrefix (whP++(fmtF t++withP++textA i)) ifP=false:=rfl
     have hcut:Lib.cut (fmtF t++withP++textA i) withP=(fmtF t,textA i,true):=by
      refine Free.cut ⟨fun r j hj=>?_,fun j _=>?_⟩ _
      ·cases e:Lib.occAt (fmtF t++withP++r) withP j
       ·rfl
       ·have:=Lib.occAt_head rfl e
        rw[List.append_assoc,List.getElem?_append_left hj] at this
        exact absurd (List.mem_of_getElem? this) (fmtF_free t).1
      ·cases e:Lib.occAt (fmtF t) withP j
       ·rfl
       ·exact absurd (List.mem_of_getElem? (Lib.occAt_head rfl e)) (fmtF_free t).1
     unfold cmI
     rw[el,if_neg (by rw[hif];decide),if_pos (prefix_of _ _),trim_of]
     unfold whI
     rw[hcut]
     simp only[if_true]
     rw[pFactI_fmt ht,pAI_iff.2 ⟨hi,rfl⟩]
     unfold wh2
     simp only[Cms.len,Nat.lt_irrefl,if_false,or_true,if_true,List.nil_append,List.cons_append]
     simp only[Cms.len,Nat.lt_irrefl,if_false,or_true,if_true,List.length_cons,List.length_nil] at hm
     rw[hB _ (by simp only[List.length_append,List.length_cons];omega) (stop_end _)]
     simp only
     unfold endI
     rw[expI_end]
    rw[hc]
    simp only
    rw[hL r (by simp only[List.length_append];omega) hst]
    rfl
   ·rw[if_neg hk7] at hf
    simp only[Bool.and_eq_true] at hf
    obtain ⟨rfl,rfl,rfl,rfl⟩:=plain_inv hf.1
    obtain ⟨q1,q2,q3⟩:=bscI_fmt hf.2
    have hc:∀ rest,cmI (rdB m (d+1) 0) (lineL k a b fctZ ⟨[],[]⟩) rest=some (⟨k,a,b,fctZ,⟨[],[]⟩⟩,.nil,.nil,rest):=fun rest=>by
     unfold cmI
     rw[if_neg (by rw[q1];decide),if_neg (by rw[q2];decide),q3]
     rfl
    rw[hc]
    simp only[textL,Cms.len,Nat.lt_irrefl,hk6,hk7,or_self,if_false,List.nil_append]
    rw[hL r (by simp only[List.length_append];omega) hst]
    rfl
theorem pPI_iff {l:Bs} {L:Cms}:pPI l=some L↔L.prog=true∧textL L=l:=by
 constructor
 ·intro h
  unfold pPI at h
  split at h
  ·cases h
  ·rename_i L2 r hr
   split at h
   ·rename_i hc
    injection h with h
    subst h
    have:=rdB_back _ _ _ _ _ _ hr
    rw[hc.1,List.append_nil] at this
    exact ⟨hc.2,this.symm⟩
   ·cases h
 ·rintro ⟨hp,rfl⟩
  obtain ⟨h1,h2⟩:=prog_shape hp
  have:=rdB_text L ((textL L).length+1) 1 0 [] h1 (by omega) (by omega) (.inl (by decide)) (by simp)
  rw[List.append_nil] at this
  unfold pPI
  rw[this]
  exact if_pos ⟨rfl,hp⟩
end Go.Proofs.YtjbboklnegfohaaDoor

/- Plain: the reference's reader of a program reads texts back; both readers agree. -/
namespace Go.Proofs.YtjbboklnegfohaaDoor
open Go Go.RowKit Go.Proofs
def lns:Cms→List Bs
 | .nil=>[]
 | .cons k a b t i body els r=>lineL k a b t i :: (lns body++((if 0<els.len then elseL :: lns els else [])++((if k=6∨k=7 then [endL] else [])++lns r)))
def glue (ls:List Bs):Bs:=ls.flatMap fun x=>x++[10]
theorem glue_app (a b:List Bs):glue (a++b)=glue a++glue b:=by simp[glue]
theorem textL_glue:∀ (L:Cms),textL L=glue (lns L)
 | .nil=>rfl
 | .cons k a b t i body els r=>by
  have h1:=textL_glue body
  have h2:=textL_glue els
  have h3:=textL_glue r
  have e1:(if 0<els.len then [101,108,115,101,10]++textL els else [])=glue (if 0<els.len then elseL :: lns els else []):=by
   split
   ·rw[h2];simp[glue]
   ·rfl
  have e2:(if k=6∨k=7 then ([101,110,100,10]:Bs) else [])=glue (if k=6∨k=7 then [endL] else []):=by
   split<;>rfl
  rw[textL,e1,e2,h1,h3,lns,show ∀ x (l:List Bs),glue (x :: l)=x++[10]++glue l from fun x l=>by simp[glue],glue_app,glue_app,glue_app]
  simp[List.append_assoc]
theorem lns_free:∀ (L:Cms),∀ x∈lns L,(10:UInt8)∉x
 | .nil,x,h=>by cases h
 | .cons k a b t i body els r,x,h=>by
  simp only[lns,List.mem_cons,List.mem_append] at h
  rcases h with rfl|h|h|h|h
  ·exact lineL_free _ _ _ _ _
  ·exact lns_free body x h
  ·split at h
   ·rcases List.mem_cons.1 h with rfl|h
    ·decide
    ·exact lns_free els x h
   ·cases h
  ·split at h
   ·rcases List.mem_cons.1 h with rfl|h
    ·decide
    ·cases h
   ·cases h
  ·exact lns_free r x h
theorem splitL_glue:∀ {ls:List Bs},(∀ x∈ls,(10:UInt8)∉x)→splitL 10 (glue ls)=ls++[[]]
 | [],_=>rfl
 | x :: r,h=>by
  have e:glue (x :: r)=x++10 :: glue r:=by simp[glue]
  rw[e,splitL_mid _ (h x (by simp)),splitL_glue fun y hy=>h y (by simp[hy])]
  rfl
def stopS (post:List Bs):Prop:=post.length=1∨∃ x r,post=x :: r∧(x=endL∨x=elseL)
theorem getD_of_drop {ls:List Bs} {p:Nat} {x:Bs} {r:List Bs} (h:ls.drop p=x :: r):ls.getD p []=x∧p<ls.length∧ls.drop (p+1)=r:=by
 have h0:p<ls.length:=by
  rcases Nat.lt_or_ge p ls.length with h1|h1
  ·exact h1
  ·rw[List.drop_eq_nil_of_le h1] at h;cases h
 rw[List.drop_eq_getElem_cons h0] at h
 injection h with h1 h2
 exact ⟨by rw[List.getD_eq_getElem?_getD,List.getElem?_eq_getElem h0];exact h1,h0,h2⟩
theorem drop_add_app {ls A B:List Bs} {p:Nat} (h:ls.drop p=A++B):ls.drop (p+A.length)=B:=by
 rw[←List.drop_drop,h,List.drop_left]
theorem blkF_stop {ls post:List Bs} {n p d:Nat} (h:ls.drop p=post) (hs:stopS post):blkF ls (n+1) p d=(.nil,some p):=by
 rw[blkF]
 rcases hs with h1|⟨x,r,rfl,h2⟩
 ·refine if_neg fun hc=>?_
  have:=congrArg List.length h
  rw[List.length_drop,h1] at this
  omega
 ·refine if_neg fun hc=>?_
  rw[(getD_of_drop h).1] at hc
  rcases h2 with h2|h2
  ·exact hc.2.1 h2
  ·exact hc.2.2 h2
theorem blkF_text (ls:List Bs):∀ (L:Cms) (n p d:Nat) (post:List Bs),L.shape d=true→ls.drop p=lns L++post→post≠[]→stopS post→(lns L).length<n→blkF ls n p d=(L,some (p+(lns L).length))
 | .nil,n,p,d,post,_,hd,_,hst,hn=>by
  obtain ⟨n,rfl⟩:∃ k,n=k+1:=⟨n - 1,by omega⟩
  exact blkF_stop hd hst
 | .cons k a b t i body els L,n,p,d,post,hs,hd,hpn,hst,hn=>by
  obtain ⟨n,rfl⟩:∃ k,n=k+1:=⟨n - 1,by omega⟩
  simp only[Cms.shape,Bool.and_eq_true,decide_eq_true_eq] at hs
  obtain ⟨h0,hf,hsb,hse,hsL⟩:=hs
  simp only[lns,List.length_cons,List.length_append] at hn ⊢
  simp only[lns,List.cons_append,List.append_assoc] at hd
  obtain ⟨g1,g2,g3⟩:=getD_of_drop hd
  have hlt:p+1<ls.length:=by
   have:=congrArg List.length g3
   rw[List.length_drop] at this
   have hp1:0<post.length:=List.length_pos_iff.2 hpn
   simp only[List.length_append] at this
   omega
  obtain ⟨hn1,hn2⟩:=lineL_ne k a b t i
  rw[blkF,if_pos ⟨hlt,by rw[g1];exact hn2,by rw[g1];exact hn1⟩,g1]
  unfold fvalB at hf
  by_cases hk6:k=6
  ·subst hk6
   simp only[if_true,Bool.and_eq_true,decide_eq_true_eq] at hf
   obtain ⟨rfl,rfl,ht,hi⟩:=hf
   obtain rfl:=noAsn_inv hi
   have e6:(if (6:Int)=6∨(6:Int)=7 then [endL] else [])=[endL]:=if_pos (.inl rfl)
   rw[e6] at g3 hn ⊢
   rw[headF_if ht,if_pos (.inl rfl),if_neg (by omega)]
   by_cases hl:0<els.len
   ·rw[if_pos hl] at g3 hn ⊢
    simp only[List.length_cons,List.length_nil] at hn ⊢
    rw[blkF_text ls body n (p+1) (d - 1) _ hsb g3 (by simp) (.inr ⟨_,_,rfl,.inr rfl⟩) (by omega)]
    simp only
    have g4:=drop_add_app g3
    obtain ⟨g5,g6,g7⟩:=getD_of_drop (by simpa using g4:ls.drop (p+1+(lns body).length)=elseL :: (lns els++(endL :: (lns L++post))))
    rw[if_pos ⟨g6,g5⟩,blkF_text ls els n _ (d - 1) _ hse g7 (by simp) (.inr ⟨_,_,rfl,.inl rfl⟩) (by omega)]
    simp only
    have g8:=(getD_of_drop (drop_add_app g7)).2.2
    rw[blkF_text ls L n _ d post hsL g8 hpn hst (by omega)]
    simp only[Cms.one1,Prod.mk.injEq,Option.some.injEq,true_and]
    omega
   ·obtain rfl:=len_nil (L:=els) (by omega)
    rw[if_neg hl] at g3 hn ⊢
    simp only[List.length_cons,List.length_nil,List.nil_append] at hn g3 ⊢
    rw[blkF_text ls body n (p+1) (d - 1) _ hsb g3 (by simp) (.inr ⟨_,_,rfl,.inl rfl⟩) (by omega)]
    simp only
    have g4:=drop_add_app g3
    obtain ⟨g5,g6,g7⟩:=getD_of_drop (by simpa using g4:ls.drop (p+1+(lns body).length)=endL :: (lns L++post))
    rw[if_neg (by rw[g5];intro h;have e:endL=elseL:=h.2;revert e;decide),blkF_text ls L n _ d post hsL g7 hpn hst (by omega)]
    simp only[Cms.one1,Prod.mk.injEq,Option.some.injEq,true_and]
    omega
  ·rw[if_neg hk6] at hf
   by_cases hk7:k=7
   ·subst hk7
    simp only[if_true,Bool.and_eq_true,decide_eq_true_eq] at hf
    obtain ⟨rfl,rfl,ht,hi,hl⟩:=hf
    obtain rfl:=len_nil hl
    have e6:(if (7:Int)=6∨(7:Int)=7 then [endL] else [])=[endL]:=if_pos (.inr rfl)
    have e7:(if 0<Cms.nil.len then elseL :: lns .nil else [])=[]:=if_neg (by simp[Cms.len])
    rw[e6,e7] at g3 hn ⊢
    rw[headF_wh ht hi,if_pos (.inr rfl),if_neg (by omega)]
    simp only[List.length_cons,List.length_nil,List.nil_append] at hn g3 ⊢
    rw[blkF_text ls body n (p+1) (d - 1) _ hsb g3 (by simp) (.inr ⟨_,_,rfl,.inl rfl⟩) (by omega)]
    simp only
    have g4:=drop_add_app g3
    obtain ⟨g5,g6,g7⟩:=getD_of_drop (by simpa using g4:ls.drop (p+1+(lns body).length)=endL :: (lns L++post))
    rw[if_neg (by rw[g5];intro h;have e:endL=elseL:=h.2;revert e;decide),blkF_text ls L n _ d post hsL g7 hpn hst (by omega)]
    simp only[Cms.one1,Prod.mk.injEq,Option.some.injEq,true_and]
    omega
   ·rw[if_neg hk7] at hf
    simp only[Bool.and_eq_true] at hf
    obtain ⟨rfl,rfl,rfl,rfl⟩:=plain_inv hf.1
    rw[headF_fmt hf.2,if_neg (by simp[hk6,hk7])]
    have e6:(if k=6∨k=7 then [endL] else [])=[]:=if_neg (by simp[hk6,hk7])
    have e7:(if 0<Cms.nil.len then elseL :: lns .nil else [])=[]:=if_neg (by simp[Cms.len])
    rw[e6,e7] at g3 hn ⊢
    simp only[lns,List.length_nil,List.nil_append] at hn g3 ⊢
    rw[blkF_text ls L n _ d post hsL g3 hpn hst (by omega)]
    simp only[Cms.one1,Prod.mk.injEq,Option.some.injEq,true_and]
    omega
theorem readP_text {L:Cms} (hp:L.prog=true):readP (textL L)=L:=by
 obtain ⟨h1,h2⟩:=prog_shape hp
 unfold readP
 have e:splitL 10 (textL L)=lns L++[[]]:=by rw[textL_glue,splitL_glue (lns_free L)]
 rw[e,blkF_text (lns L++[[]]) L _ 0 4 [[]] h1 (by simp) (by simp) (.inl rfl) (by simp;omega)]
theorem parsesP_iff {l:Bs} {L:Cms}:(parsesP l=true∧readP l=L)↔L.prog=true∧textL L=l:=by
 constructor
 ·rintro ⟨h1,rfl⟩
  simp only[parsesP,Bool.and_eq_true,decide_eq_true_eq] at h1
  refine ⟨h1.2.2,?_⟩
  have:=h1.2.1
  unfold fmtP at this
  rwa [if_pos h1.2.2] at this
 ·rintro ⟨hp,rfl⟩
  have e:=readP_text hp
  refine ⟨?_,e⟩
  have hl:=fmtP_len L
  have hf:fmtP L=textL L:=if_pos hp
  rw[hf] at hl
  simp only[parsesP,Bool.and_eq_true,decide_eq_true_eq,e]
  exact ⟨hl,hf,hp⟩
theorem pPI_parses (l:Bs):(pPI l).isSome=parsesP l∧(pPI l).getD .nil=parseP l:=by
 cases h:pPI l with
 | some L=>
  obtain ⟨h1,h2⟩:=parsesP_iff.2 (pPI_iff.1 h)
  refine ⟨h1.symm,?_⟩
  unfold parseP
  rw[if_pos h1,h2]
  rfl
 | none=>
  have h1:parsesP l=false:=by
   cases hp:parsesP l
   ·rfl
   ·have:=pPI_iff.2 (parsesP_iff.1 ⟨hp,rfl⟩)
    rw[h] at this
    cases this
  refine ⟨h1.symm,?_⟩
  unfold parseP
  rw[h1]
  rfl
end Go.Proofs.YtjbboklnegfohaaDoor
