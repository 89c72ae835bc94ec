/- Plain: both readers of a program accept exactly the texts of the valid programs. -/
import Derived.Test.YtjbboklnegfohaaGreatDoorMPrsQ
import Derived.Test.YtjbboklnegfohaaGreatDoorMPrgM
import Derived.Test.YtjbboklnegfohaaGreatDoorMPsM
import Derived.Test.YtjbboklnegfohaaGreatDoorMFmtP
import Derived.Test.YtjbboklnegfohaaGreatDoorMAlloc
import Derived.Test.YtjbboklnegfohaaGreatDoorDraw
import Derived.Test.YtjbboklnegfohaaGreatDoorMPrgB
import Derived.Laws.CopyOwn
set_option linter.unusedSimpArgs false
set_option linter.unusedVariables false
namespace Go.Proofs.YtjbboklnegfohaaGreatDoor
open Go Go.RowKit Go.Proofs
/-! the program's reader -/
def brI (l:Bs):Bs×Bool:=if Lib.hasPrefix l [91]&&Lib.hasSuffix (Lib.trimPrefix l [91]) [93] then (Lib.trimSuffix (Lib.trimPrefix l [91]) [93],true) else (l,false)
def hd0:Hd:=⟨0,0,0,fctZ,⟨[],[]⟩⟩
def finP (k:Int):Option Nat→Option Nat→Option Hd
 | some a,some b=>if fvalB k (a:Int) (b:Int) fctZ ⟨[],[]⟩ .nil .nil then some ⟨k,(a:Int),(b:Int),fctZ,⟨[],[]⟩⟩ else none
 | _,_=>none
def finI (k:Int) (x y:Bs):Option Hd:=finP k (parseT x) (parseT y)
def asgI (x y:Bs×Bool):Option Hd:=if x.2&&y.2 then none else finI (if x.2 then 3 else if y.2 then 2 else 1) x.1 y.1
abbrev newP:Bs:=[110,101,119,32]
abbrev freeP:Bs:=[102,114,101,101,32]
abbrev ifP:Bs:=[105,102,32]
abbrev whP:Bs:=[119,104,105,108,101,32]
abbrev withP:Bs:=[32,119,105,116,104,32]
abbrev nilN:Bs:=[110,105,108]
def bscI (l:Bs):Option Hd:=if (Lib.cut l [58,61]).2.2 then asgI (brI (Lib.cut l [58,61]).1) (brI (Lib.cut l [58,61]).2.1)
 else if Lib.hasPrefix l newP then finI 4 (Lib.trimPrefix l newP) nilN else if Lib.hasPrefix l freeP then finI 5 (Lib.trimPrefix l freeP) nilN else none
def expI (s l:Bs):Option Bs:=if (Lib.cut l [10]).2.2=true∧(Lib.cut l [10]).1=s then some (Lib.cut l [10]).2.1 else none
abbrev Cr:=Hd×Cms×Cms×Bs
def endI (h:Hd) (body els:Cms) (l:Bs):Option Cr:=match expI endL l with
 | none=>none
 | some r=>some (h,body,els,r)
def elsI (sub:Bs→Option (Cms×Bs)) (h:Hd) (body:Cms) (l:Bs):Option Cr:=match expI elseL l with
 | none=>endI h body .nil l
 | some r=>match sub r with
  | none=>none
  | some (els,r2)=>if els.len=0 then none else endI h body els r2
def ifI (sub:Bs→Option (Cms×Bs)) (text rest:Bs):Option Cr:=match pFactI text with
 | none=>none
 | some f=>match sub rest with
  | none=>none
  | some (body,r)=>elsI sub ⟨6,0,0,f,⟨[],[]⟩⟩ body r
def wh2 (sub:Bs→Option (Cms×Bs)) (rest:Bs):Option Fct→Option Asn→Option Cr
 | some f,some i=>match sub rest with
  | none=>none
  | some (body,r)=>endI ⟨7,0,0,f,i⟩ body .nil r
 | _,_=>none
def whI (sub:Bs→Option (Cms×Bs)) (text rest:Bs):Option Cr:=if (Lib.cut text withP).2.2 then wh2 sub rest (pFactI (Lib.cut text withP).1) (pAI (Lib.cut text withP).2.1) else none
def cmI (sub:Bs→Option (Cms×Bs)) (line rest:Bs):Option Cr:=if Lib.hasPrefix line ifP then ifI sub (Lib.trimPrefix line ifP) rest
 else if Lib.hasPrefix line whP then whI sub (Lib.trimPrefix line whP) rest else (bscI line).map fun h=>(h,.nil,.nil,rest)
def consI (c:Hd×Cms×Cms×Bs):Option (Cms×Bs)→Option (Cms×Bs)
 | none=>none
 | some (L,r)=>some (Cms.one1 c.1 c.2.1 c.2.2.1 L,r)
def rdB:Nat→Nat→Nat→Bs→Option (Cms×Bs)
 | 0,_,_,_=>none
 | m+1,d,n,l=>
  if (Lib.cut l [10]).2.2=false∨(Lib.cut l [10]).1=elseL∨(Lib.cut l [10]).1=endL then some (.nil,l)
  else if 4<d∨n=16 then none
  else match cmI (rdB m (d+1) 0) (Lib.cut l [10]).1 (Lib.cut l [10]).2.1 with
   | none=>none
   | some c=>consI c (rdB m d (n+1) c.2.2.2)
def pPI (l:Bs):Option Cms:=match rdB (l.length+1) 1 0 l with
 | none=>none
 | some (L,r)=>if r=[]∧L.prog=true then some L else none
/-! what it accepts is the text -/
theorem expI_back {s l r:Bs} (h:expI s l=some r):l=s++[10]++r:=by
 unfold expI at h
 split at h
 ·rename_i hc
  injection h with h
  have e:=cut_true hc.1
  rw[hc.2,h] at e
  exact e
 ·cases h
theorem brI_back {l x:Bs} {b:Bool} (h:brI l=(x,b)):l=if b then [91]++x++[93] else x:=by
 unfold brI at h
 split at h
 ·rename_i hc
  simp only[Bool.and_eq_true] at hc
  injection h with h1 h2
  subst h1 h2
  rw[if_pos rfl,List.append_assoc,←suffix_back hc.2]
  exact prefix_back hc.1
 ·injection h with h1 h2
  subst h1 h2
  rfl
theorem finI_back {k:Int} {x y:Bs} {h:Hd} (e:finI k x y=some h):h.k=k∧tnameL h.a=x∧tnameL h.b=y∧h.t=fctZ∧h.i=⟨[],[]⟩∧fvalB h.k h.a h.b h.t h.i .nil .nil=true:=by
 unfold finI finP at e
 split at e
 ·rename_i a b ha hb
  split at e
  ·rename_i hv
   injection e with e
   subst e
   exact ⟨rfl,(parseT_lt ha).2,(parseT_lt hb).2,rfl,rfl,hv⟩
  ·cases e
 ·cases e
theorem bscI_back {l:Bs} {h:Hd} (e:bscI l=some h):lineL h.k h.a h.b h.t h.i=l∧h.k≠6∧h.k≠7:=by
 unfold bscI at e
 split at e
 ·rename_i hc
  have el:=cut_true hc
  obtain ⟨x,bx,hx⟩:∃ x b,brI (Lib.cut l [58,61]).1=(x,b):=⟨_,_,rfl⟩
  obtain ⟨y,by_,hy⟩:∃ x b,brI (Lib.cut l [58,61]).2.1=(x,b):=⟨_,_,rfl⟩
  rw[hx,hy] at e
  have ex:=brI_back hx
  have ey:=brI_back hy
  rw[ex,ey] at el
  unfold asgI at e
  split at e
  ·cases e
  ·rename_i hb
   simp only at e hb
   obtain ⟨h1,h2,h3,-,-,-⟩:=finI_back e
   unfold lineL
   rw[h1,h2,h3,el]
   cases bx<;>cases by_<;>simp at hb ⊢
 ·split at e
  ·rename_i hp
   obtain ⟨h1,h2,h3,-⟩:=finI_back e
   unfold lineL
   rw[h1,h2]
   simp only[show (4:Int)≠1 by decide,show (4:Int)≠2 by decide,show (4:Int)≠3 by decide,show (4:Int)≠6 by decide,show (4:Int)≠7 by decide,if_false,if_true,ne_eq,not_false_eq_true,and_true]
   exact (prefix_back hp).symm
  ·split at e
   ·rename_i hp
    obtain ⟨h1,h2,h3,-⟩:=finI_back e
    unfold lineL
    rw[h1,h2]
    simp only[show (5:Int)≠1 by decide,show (5:Int)≠2 by decide,show (5:Int)≠3 by decide,show (5:Int)≠4 by decide,show (5:Int)≠6 by decide,show (5:Int)≠7 by decide,if_false,if_true,ne_eq,not_false_eq_true,and_true]
    exact (prefix_back hp).symm
   ·cases e
def cmdT (h:Hd) (body els:Cms):Bs:=textL (.one1 h body els .nil)
theorem textL_one (h:Hd) (body els L:Cms):textL (.one1 h body els L)=cmdT h body els++textL L:=by
 simp[cmdT,Cms.one1,textL,List.append_assoc]
theorem endI_back {h:Hd} {body els:Cms} {l:Bs} {c:Cr} (e:endI h body els l=some c):c.1=h∧c.2.1=body∧c.2.2.1=els∧l=[101,110,100,10]++c.2.2.2:=by
 unfold endI at e
 split at e
 ·cases e
 ·rename_i r hr
  injection e with e
  subst e
  exact ⟨rfl,rfl,rfl,by rw[expI_back hr];simp⟩
theorem len_nil {L:Cms} (h:L.len=0):L=.nil:=by cases L with
 | nil=>rfl
 | cons=>simp[Cms.len] at h
theorem elsI_back {sub:Bs→Option (Cms×Bs)} (hs:∀ l L r,sub l=some (L,r)→l=textL L++r) {h:Hd} {body:Cms} {l:Bs} {c:Cr} (hk:h.k=6) (e:elsI sub h body l=some c) :
  c.1=h∧c.2.1=body∧l=(if 0<c.2.2.1.len then [101,108,115,101,10]++textL c.2.2.1 else [])++[101,110,100,10]++c.2.2.2:=by
 unfold elsI at e
 split at e
 ·obtain ⟨h1,h2,h3,h4⟩:=endI_back e
  refine ⟨h1,h2,?_⟩
  rw[h3,if_neg (by simp[Cms.len]),h4];simp
 ·rename_i r hr
  split at e
  ·cases e
  ·rename_i els r2 h2
   split at e
   ·cases e
   ·rename_i hl
    obtain ⟨q1,q2,q3,q4⟩:=endI_back e
    refine ⟨q1,q2,?_⟩
    rw[q3,if_pos (by omega),expI_back hr,hs _ _ _ h2,q4]
    simp[List.append_assoc]
theorem cmI_back {sub:Bs→Option (Cms×Bs)} (hs:∀ l L r,sub l=some (L,r)→l=textL L++r) {line rest:Bs} {c:Cr} (e:cmI sub line rest=some c):line++[10]++rest=cmdT c.1 c.2.1 c.2.2.1++c.2.2.2:=by
 unfold cmI at e
 split at e
 ·rename_i hp
  have el:=prefix_back hp
  unfold ifI at e
  split at e
  ·cases e
  ·rename_i f hf
   split at e
   ·cases e
   ·rename_i body r hb
    obtain ⟨h1,h2,h3⟩:=elsI_back hs rfl e
    rw[h1,h2,el,←(pFactI_back hf).1,hs _ _ _ hb,h3]
    simp[cmdT,Cms.one1,textL,lineL,List.append_assoc]
 ·split at e
  ·rename_i hp
   have el:=prefix_back hp
   unfold whI at e
   split at e
   ·rename_i hc
    have ec:=cut_true hc
    unfold wh2 at e
    split at e
    ·rename_i f i hf hi
     split at e
     ·cases e
     ·rename_i body r hb
      obtain ⟨h1,h2,h3,h4⟩:=endI_back e
      rw[h1,h2,h3,el,ec,←(pFactI_back hf).1,←(pAI_iff.1 hi).2,hs _ _ _ hb,h4]
      simp[cmdT,Cms.one1,textL,lineL,Cms.len,List.append_assoc]
    ·cases e
   ·cases e
  ·rw[Option.map_eq_some_iff] at e
   obtain ⟨h,hb,rfl⟩:=e
   obtain ⟨h1,h2,h3⟩:=bscI_back hb
   simp[cmdT,Cms.one1,textL,h1,h2,h3,Cms.len]
theorem rdB_back:∀ (m d n:Nat) (l:Bs) (L:Cms) (r:Bs),rdB m d n l=some (L,r)→l=textL L++r
 | 0,_,_,_,_,_,h=>by cases h
 | m+1,d,n,l,L,r,h=>by
  rw[rdB] at h
  split at h
  ·injection h with h
   injection h with h1 h2
   rw[←h1,←h2];rfl
  ·rename_i hs
   split at h
   ·cases h
   ·split at h
    ·cases h
    ·rename_i c hc
     have e1:=cmI_back (rdB_back m (d+1) 0) hc
     unfold consI at h
     split at h
     ·cases h
     ·rename_i L2 r2 hr
      injection h with h
      injection h with h1 h2
      have e2:=rdB_back m d (n+1) _ _ _ hr
      have e3:=cut_true (l:=l) (sep:=[10]) (by
       cases hb:(Lib.cut l [10]).2.2
       ·exact absurd (.inl hb) hs
       ·rfl)
      rw[e3,e1,←h1,textL_one,e2,←h2,List.append_assoc]
end Go.Proofs.YtjbboklnegfohaaGreatDoor

/- The program's reader of commands: words for its walk. -/
namespace Go.Proofs.YtjbboklnegfohaaGreatDoor
open Go Go.RowKit Go.Proofs
theorem Cms.app_asc:∀ A B C:Cms,(A.app B).app C=A.app (B.app C)
 | .nil,_,_=>rfl
 | .cons k a b t i body els r,B,C=>by simp only[Cms.app,Cms.app_asc r B C]
/-! plain: the steps of the reader -/
def preC (A:Cms):Option (Cms×Bs)→Option (Cms×Bs)
 | none=>none
 | some (L,r)=>some (A.app L,r)
theorem preC_nil (x:Option (Cms×Bs)):preC .nil x=x:=by cases x<;>rfl
theorem preC_cons (A:Cms) (h:Hd) (body els:Cms) (r:Bs) (x:Option (Cms×Bs)):preC A (consI (h,body,els,r) x)=preC (A.app (.one1 h body els .nil)) x:=by
 rcases x with _|⟨L,q⟩
 ·rfl
 ·simp only[consI,preC,Cms.app_asc]
  rfl
theorem expI_len {s l r:Bs} (h:expI s l=some r):r.length<l.length:=by rw[expI_back h];simp;omega
def SubLe (sub:Bs→Option (Cms×Bs)):Prop:=∀ l L r,sub l=some (L,r)→r.length≤l.length
theorem rdB_le (m d n:Nat):SubLe (rdB m d n):=fun l L r h=>by rw[rdB_back m d n l L r h];simp
theorem endI_len {h:Hd} {body els:Cms} {l:Bs} {c:Cr} (e:endI h body els l=some c):c.2.2.2.length≤l.length:=by
 unfold endI at e
 split at e
 ·cases e
 ·rename_i r hr
  injection e with e
  subst e
  exact Nat.le_of_lt (expI_len hr)
theorem cmI_len {sub:Bs→Option (Cms×Bs)} (hs:SubLe sub) {line rest:Bs} {c:Cr} (e:cmI sub line rest=some c):c.2.2.2.length≤rest.length:=by
 unfold cmI at e
 split at e
 ·unfold ifI at e
  split at e
  ·cases e
  ·split at e
   ·cases e
   ·rename_i body r hr
    have h1:=hs _ _ _ hr
    unfold elsI at e
    split at e
    ·exact Nat.le_trans (endI_len e) h1
    ·rename_i r1 h2
     have h2:=expI_len h2
     split at e
     ·cases e
     ·rename_i els r2 h3
      have h3:=hs _ _ _ h3
      split at e
      ·cases e
      ·have:=endI_len e
       omega
 ·split at e
  ·unfold whI at e
   split at e
   ·unfold wh2 at e
    split at e
    ·split at e
     ·cases e
     ·rename_i body r hr
      exact Nat.le_trans (endI_len e) (hs _ _ _ hr)
    ·cases e
   ·cases e
  ·cases hb:bscI line with
   | none=>rw[hb] at e;cases e
   | some h=>rw[hb] at e;injection e with e;subst e;exact Nat.le_refl _
theorem cut_lt {l s:Bs} (h:(Lib.cut l s).2.2=true) (hs:0<s.length):(Lib.cut l s).2.1.length<l.length:=by
 have:=congrArg List.length (cut_true h)
 simp only[List.length_append] at this
 omega
theorem rdB_stop {m d n:Nat} {l:Bs} (h:(Lib.cut l [10]).2.2=false∨(Lib.cut l [10]).1=elseL∨(Lib.cut l [10]).1=endL):rdB (m+1) d n l=some (.nil,l):=by
 rw[rdB,if_pos h]
theorem rdB_full {m d n:Nat} {l:Bs} (h:¬((Lib.cut l [10]).2.2=false∨(Lib.cut l [10]).1=elseL∨(Lib.cut l [10]).1=endL)) (hf:4<d∨n=16):rdB (m+1) d n l=none:=by
 rw[rdB,if_neg h,if_pos hf]
theorem rdB_next {m d n:Nat} {l:Bs} (h:¬((Lib.cut l [10]).2.2=false∨(Lib.cut l [10]).1=elseL∨(Lib.cut l [10]).1=endL)) (hf:¬(4<d∨n=16)):rdB (m+1) d n l=match cmI (rdB m (d+1) 0) (Lib.cut l [10]).1 (Lib.cut l [10]).2.1 with
  | none=>none
  | some c=>consI c (rdB m d (n+1) c.2.2.2):=by
 rw[rdB,if_neg h,if_neg hf]
 try rfl
def C1Q (w:World) (lo hi:Nat) (v:Value) (h:Hd) (body els:Cms):Prop:=∃ vF vA vB vE m1 m2,v=.agg #[.int .i64 h.k,.int .i64 h.a,.int .i64 h.b,.bool h.t.eq,.int .i64 h.t.a,.int .i64 h.t.b,vF,vA,vB,vE]∧
 (lo≤m1∧m1≤m2∧m2≤hi)∧AsnI w lo m1 (.agg #[vF,vA]) h.i∧QR w m1 m2 vB body∧QR w m2 hi vE els
section
variable {w w':World} {lo hi lo' hi' g base:Nat} {v v':Value} {cs:List Value} {L body els:Cms} {h:Hd}
theorem QT.small:∀ {L:Cms} {cs:List Value} {g lo hi:Nat},QT w L cs g lo hi→L.small 1049600
 | .nil,_,_,_,_,_=>trivial
 | .cons k a b t i body els r,cs,g,lo,hi,h=>by
  obtain ⟨l0,vF,vA,vB,vE,m1,m2,m3,rest,csB,csE,e,o,h1,⟨b1,b2,b3,b4⟩,⟨e1,e2,e3,e4⟩,hr⟩:=h
  exact ⟨h1.len.1,h1.len.2,b3,e3,QT.small b4,QT.small e4,QT.small hr⟩
theorem QR.small (h:QR w lo hi v L):L.small 1049600:=by obtain ⟨_,_,_,_,h⟩:=h;exact h.small
theorem C1Q.keep (hk:∀ b,lo≤b→b<hi→b<w.heap.size→w'.heap[b]? = w.heap[b]?) (hc:C1Q w lo hi v h body els):C1Q w' lo hi v h body els:=by
 obtain ⟨vF,vA,vB,vE,m1,m2,e,⟨o1,o2,o3⟩,h1,h2,h3⟩:=hc
 exact ⟨vF,vA,vB,vE,m1,m2,e,⟨o1,o2,o3⟩,h1.kp fun b e1 e2 e3=>hk b (by omega) (by omega) e3,h2.keep fun b e1 e2 e3=>hk b (by omega) (by omega) e3,h3.keep fun b e1 e2 e3=>hk b (by omega) (by omega) e3⟩
theorem C1Q.form (hc:C1Q w lo hi v h body els):∃ AF cF AA cA AB cB AE cE,v=.agg #[.int .i64 h.k,.int .i64 h.a,.int .i64 h.b,.bool h.t.eq,.int .i64 h.t.a,.int .i64 h.t.b,.slice AF h.i.facts.length cF,.slice AA h.i.atoms.length cA,.slice AB body.len cB,.slice AE els.len cE]:=by
 obtain ⟨vF,vA,vB,vE,m1,m2,rfl,-,h1,h2,h3⟩:=hc
 obtain ⟨A,c,B,d,e⟩:=h1.form
 injection e with e
 injection e with e
 injection e with e1 e2
 injection e2 with e2
 obtain ⟨E,ec,rfl,-⟩:=h2.reads
 obtain ⟨F,fc,rfl,-⟩:=h3.reads
 exact ⟨A,c,B,d,E,ec,F,fc,by rw[e1,e2]⟩
theorem C1Q.le (hc:C1Q w lo hi v h body els):lo≤hi:=by obtain ⟨_,_,_,_,m1,m2,_,⟨o1,o2,o3⟩,_⟩:=hc;omega
theorem QR.grow {AF AA AB AE:Option Addr} {cF cA cB cE:Nat} (hT:QT w L cs (v.ownBlock.getD 0) lo hi) (hl:L.len+1≤1049600) (hU:Und v hi) (hhi:hi≤hi'∧hi'≤w.heap.size)
  (hc:C1Q w hi hi' (.agg #[.int .i64 h.k,.int .i64 h.a,.int .i64 h.b,.bool h.t.eq,.int .i64 h.t.a,.int .i64 h.t.b,.slice AF h.i.facts.length cF,.slice AA h.i.atoms.length cA,.slice AB body.len cB,.slice AE els.len cE]) h body els)
  (ho:w'.ownsRow lo tC 10 v' (L.len+1) (cs++tenL h.k h.a h.b h.t (.slice AF h.i.facts.length cF) (.slice AA h.i.atoms.length cA) (.slice AB body.len cB) (.slice AE els.len cE)))
  (hg:w.grownBy w' v.ownBlock) (hv:v'.ownBlock=v.ownBlock∨v'.ownBlock=some w.heap.size):QR w' lo w'.heap.size v' (L.app (.one1 h body els .nil)):=by
 have hlen:(L.app (.one1 h body els .nil)).len=L.len+1:=by rw[Cms.len_app];rfl
 have hle:=hT.le
 have hk:∀ b,b≠v.ownBlock.getD 0∨hi≤b→b<w.heap.size→w'.heap[b]? = w.heap[b]?:=fun b hb hlt=>hg.block b hlt (fun e=>by
  replace e:=(Eq.symm e:v.ownBlock=some b)
  rw[e] at hb
  have:=hU b e
  simp at hb
  omega)
 obtain ⟨vF,vA,vB,vE,m1,m2,e,⟨o1,o2,o3⟩,h1,⟨csB,h2⟩,⟨csE,h3⟩⟩:=(C1Q.keep (w':=w') (fun b e1 e2 e3=>hk b (Or.inr e1) e3) hc)
 injection e with e
 injection e with e
 simp only[List.cons.injEq,and_true,true_and] at e
 obtain ⟨rfl,rfl,rfl,rfl⟩:=e
 have T1:QT w' L cs (v.ownBlock.getD 0) lo hi:=hT.keep fun b e1 e2 e3 e4=>hk b (Or.inl e3) e4
 have one:∀ g,g<hi∨hi'≤g→QT w' (.one1 h body els .nil) (tenL h.k h.a h.b h.t (.slice AF h.i.facts.length cF) (.slice AA h.i.atoms.length cA) (.slice AB body.len cB) (.slice AE els.len cE)++[]) g hi hi':=fun g hg=>⟨hi,_,_,_,_,m1,m2,hi',[],csB,csE,rfl,⟨by omega,o1,o2,o3,hg⟩,h1,h2,h3,rfl,Nat.le_refl _⟩
 have hz:=hg.size
 have hle2:=(C1Q.le hc)
 obtain ⟨g',hv'⟩:∃ g',v'.ownBlock=some g':=by
  rcases ho.2 with ⟨-,e⟩|⟨g',cap,cur,rfl,_⟩
  ·omega
  ·exact ⟨g',by simp[Value.ownBlock]⟩
 refine ⟨_,by rw[hlen];exact ho,fun g hg=>(ho.lt g hg).2,by omega,?_⟩
 rw[hv',Option.getD_some]
 rcases hv with e|e
 ·rw[hv'] at e
  have e2:=hU g' e.symm
  rw[←e,Option.getD_some] at T1
  have:=T1.app (one g' (Or.inl e2))
  rw[List.append_nil] at this
  exact this.mono (by omega)
 ·rw[hv'] at e
  injection e with e
  have:=(T1.reg (g':=g') (by omega)).app (one g' (Or.inr (by omega)))
  rw[List.append_nil] at this
  exact this.mono (by omega)
end
end Go.Proofs.YtjbboklnegfohaaGreatDoor

/- Contracts: assertions from texts (impl). -/
namespace Go.Proofs.YtjbboklnegfohaaGreatDoor
open Go Go.RowKit Go.Proofs
theorem split_len {sep:Bs} (hs:sep≠[]):∀ (k:Nat) (l:Bs),Lib.count l sep=k→(Lib.splitK sep 0 k l).length=k+1
 | 0,l,_=>rfl
 | k+1,l,h=>by
  rcases Lib.index_spec l sep with ⟨h1,_⟩|⟨i,h1,h2,h3,_⟩
  ·rw[Lib.count_miss h1] at h;cases h
  ·have hc:=Lib.count_hit hs h1
   unfold Lib.splitK
   rw[h1,if_neg (by simp),Int.toNat_natCast,List.length_cons,split_len hs k _ (by omega)]
theorem strs_map (bs:List ByteArray):bs.map Value.string=encS (bs.map (·.data.toList)):=by
 unfold encS
 rw[List.map_map]
 exact List.map_congr_left fun b _=>by simp[sv]
theorem TM.nb {w w':World} {B:Nat} (h:TM w) (hb:Below B w w') (hg:1<B):TM w':=⟨h.1.nb hb (by omega),Nat.lt_of_lt_of_le h.2.1 hb.size,by
 obtain ⟨m,hm⟩:=h.2.2
 exact ⟨m,by rw[show w'.cell? ⟨1,0,none⟩=w.cell? ⟨1,0,none⟩ by simp only[World.cell?,hb.block 1 hg]];exact hm⟩⟩
theorem c_Split (l sep:Bs) (w:World) (h:TM w) (hl:l.length≤1049000) (hs:1≤sep.length):Calls Tryz.prog 103 #[sv l,sv sep] w fun e w'=>∃ r,e=.returned r∧StrsO w' w.heap.size r (Lib.split l sep)∧Below w.heap.size w w':=by
 obtain ⟨m,hm⟩:=h.2.2
 refine (shg_strings_Split ⟨l.toArray⟩ ⟨sep.toArray⟩ m w (by simp only[ByteArray.size,List.size_toArray];omega) hm (by simp only[ByteArray.size,List.size_toArray];omega)).mono ?_
 rintro e w' ⟨rfl,rfl⟩
 have hne:sep≠[]:=by rintro rfl;simp at hs
 have hcl:Lib.countB ⟨l.toArray⟩ ⟨sep.toArray⟩=Lib.count l sep:=by simp[Lib.countB]
 have hle:=Lib.count_le l sep
 have hd:(Lib.splitB ⟨sep.toArray⟩ 0 (Lib.count l sep) ⟨l.toArray⟩).map (·.data.toList)=Lib.split l sep:=by rw[Lib.splitB_data];rfl
 have hlen:(Lib.split l sep).length=Lib.count l sep+1:=split_len hne _ _ rfl
 refine ⟨_,rfl,?_,(Below.refl _ _).alloc (Nat.le_refl _) _⟩
 rw[hcl,strs_map,hd,←hlen]
 have hen:(encS (Lib.split l sep)).length=(Lib.split l sep).length:=by simp[encS]
 refine ⟨own_of_blk (Blk.newE rfl) (Nat.le_refl _) (by rw[hen];omega) ?_ (Nat.le_refl _) ?_ (by simp[encS]),?_⟩
 ·intro j hj
  simp
 ·rw[hlen];exact Nat.le_trans (show Lib.count l sep+1≤1049600 by omega) (by decide)
 ·unfold Lim;omega
theorem parts_len {l sep x:Bs} (h:x∈Lib.split l sep):x.length≤l.length:=by
 have:∀ k s,x∈Lib.splitK sep 0 k s→x.length≤s.length:=by
  intro k
  induction k with
  | zero=>intro s h;simp[Lib.splitK] at h;subst h;exact Nat.le_refl _
  | succ k ih=>
   intro s h
   unfold Lib.splitK at h
   split at h
   ·simp at h;subst h;exact Nat.le_refl _
   ·rcases List.mem_cons.1 h with rfl|h
    ·simp;omega
    ·have:=ih _ h
     simp at this;omega
 exact this _ _ h
theorem both_n1 (x:Option (List Atm)):both none x=none:=rfl
theorem both_n2 (x:Option (List Fct)):both x none=none:=by cases x<;>rfl
theorem rdF_no {ps:List Bs} {k:Nat} {acc:List Fct} (hk:k<ps.length) (h:pFactI ps[k]=none∨acc.length=12):rdF (ps.drop k) acc=none:=by
 rw[List.drop_eq_getElem_cons hk,rdF]
 rcases h with h|h
 ·rw[h]
 ·cases pFactI ps[k] with
  | none=>rfl
  | some f=>exact if_pos h
theorem rdF_yes {ps:List Bs} {k:Nat} {acc:List Fct} {f:Fct} (hk:k<ps.length) (h:pFactI ps[k]=some f) (hl:acc.length≠12):rdF (ps.drop k) acc=rdF (ps.drop (k+1)) (acc++[f]):=by
 conv=>lhs;rw[List.drop_eq_getElem_cons hk,rdF,h]
 exact if_neg hl
theorem rdX_no {ps:List Bs} {k:Nat} {acc:List Atm} (hk:k<ps.length) (h:pAtomI ps[k]=none∨acc.length=6):rdX (ps.drop k) acc=none:=by
 rw[List.drop_eq_getElem_cons hk,rdX]
 rcases h with h|h
 ·rw[h]
 ·cases pAtomI ps[k] with
  | none=>rfl
  | some f=>exact if_pos h
theorem rdX_yes {ps:List Bs} {k:Nat} {acc:List Atm} {f:Atm} (hk:k<ps.length) (h:pAtomI ps[k]=some f) (hl:acc.length≠6):rdX (ps.drop k) acc=rdX (ps.drop (k+1)) (acc++[f]):=by
 conv=>lhs;rw[List.drop_eq_getElem_cons hk,rdX,h]
 exact if_neg hl
set_option maxRecDepth 100000 in
set_option maxHeartbeats 12800000 in
theorem c_iPA (l:Bs) (w:World) (h:TM w) (hl:l.length≤1049000):Calls Tryz.prog 90 #[sv l] w fun e w'=>∃ r,e=.returned (.tuple #[r,.bool (pAI l).isSome])∧AsnO w' w.heap.size r ((pAI l).getD ⟨[],[]⟩)∧Below w.heap.size w w':=by
 have HT:=Lib.hid h
 have hw1:=h.2.1
 have HT0:=HT
 obtain ⟨P,hP⟩:∃ P,P=pAI l:=⟨_,rfl⟩
 rw[←hP]
 unfold pAI at hP
 have hcl:=cut_len l [32,124,32]
 obtain ⟨LF,hLF⟩:∃ a,a=(Lib.cut l [32,124,32]).1:=⟨_,rfl⟩
 obtain ⟨LX,hLX⟩:∃ b,b=(Lib.cut l [32,124,32]).2.1:=⟨_,rfl⟩
 obtain ⟨fd,hfd⟩:∃ fd,fd=(Lib.cut l [32,124,32]).2.2:=⟨_,rfl⟩
 have CC:=Lib.hid fun W (h:TM W)=>c_Cut l [32,124,32] W h (by omega)
 rw[←hLF,←hLX,←hfd] at CC hP
 rw[←hLF,←hLX] at hcl
 have hlF:LF.length≤1049000:=by omega
 have hlX:LX.length≤1049000:=by omega
 clear hLF hLX hfd h hl hcl
 replace hP:=Lib.hid hP
 go_enter Tryz.func90,Tryz.ntmps90
 go_upto_region 1 with fail
 refine bx1 (w:=w) (F:=Code.wp _ _ _ _) ?_
 rintro W k0 hB -
 replace HT:=Lib.hid (HT.out.below hB)
 go_wp2_with fail
 refine (CC.out _ HT.out).mono ?_
 rintro e w1 ⟨rfl,hq⟩
 have HB:=Lib.hid (bgo hB hq)
 replace HT:=Lib.hid (HT.out.below hq)
 replace k0:=k0.next hq
 clear CC hB hq
 cases fd
 ·(replace qk0:=k0.cell;replace rk0:=k0.frozen;replace lk0:=k0.lt)
  go_wp2_with fail
  have z0:=(k0.set_ 0 (.slice none 0 0)).set_ 1 (.slice none 0 0)
  refine bodyPost_ret (v:=.tuple #[.agg #[.slice none 0 0,.slice none 0 0],.bool false]) (by simp[results,Tryz.results90,go_sem,z0.cell]) rfl ⟨_,by rw[hP.out];rfl,?_,?_⟩
  ·rw[hP.out];exact ⟨_,_,rfl,FactsO.nil _ _,AtomsO.nil _ _⟩
  ·exact (HB.out.setCell (p:=⟨w.heap.size,0,none⟩) (by simp only;omega) _).setCell (p:=⟨w.heap.size,1,none⟩) (by simp only;omega) _
 replace hP:Hid (P=both (rdFs LF) (rdXs LX)):=Lib.hid (by have:=hP.out;simpa using this)
 have lk0:=k0.lt
 go_upto_region 5 with fail
 have k1:=Blk.new w1 49 #[.slice none 0 0,.slice none 0 0]
 have hbx:=bbox (Below.refl _ w1) (.cells #[.slice none 0 0,.slice none 0 0] 49)
 replace k0:=k0.next hbx
 replace HT:=Lib.hid (HT.out.below hbx)
 replace HB:=Lib.hid (bgo HB.out hbx)
 obtain ⟨y,hy⟩:∃ y,y=w1.heap.size:=⟨_,rfl⟩
 have hyw:w.heap.size<y:=by rw[hy];exact lk0
 have hyV:y+1≤(w1.alloc (.cells #[.slice none 0 0,.slice none 0 0] 49)).heap.size:=by rw[hy];simp
 clear hbx
 generalize (w1.alloc (.cells #[.slice none 0 0,.slice none 0 0] _))=V at *
 rw[←hy] at k1 ⊢
 clear hy lk0
 by_cases hT:LF=[116,114,117,101]
 case' pos=>
  subst hT
  go_upto_region 14 with fail
  have HP2:Hid (rdFs [116,114,117,101]=some []):=Lib.hid rfl
  obtain ⟨U,rfl⟩:∃ z,z=V:=⟨_,rfl⟩
  obtain ⟨A,hA⟩:∃ A:Option Addr,A=none:=⟨_,rfl⟩
  obtain ⟨c,hc⟩:∃ c:Nat,c=0:=⟨_,rfl⟩
  obtain ⟨fs,hfs⟩:∃ fs:List Fct,fs=[]:=⟨_,rfl⟩
  have HO:=Lib.hid (FactsO.nil U (y+1))
  rw[show (#[Value.slice none 0 0,.slice none 0 0]:Array Value)=#[.slice A fs.length c,.slice none 0 0] by rw[hA,hc,hfs];rfl] at k1
  have e0:(Value.slice none 0 0)=.slice A fs.length c:=by rw[hA,hc,hfs];rfl
  rw[e0] at HO
  rw[←hfs] at HO HP2
  clear e0 hA hc hfs
 case' neg=>
  have hTb:(LF == [116,114,117,101])=false:=by rw[bytes_eq];simpa using hT
  have hne:Hid (rdFs LF=rdF (Lib.split LF [32,38,32]) []):=Lib.hid (by unfold rdFs;exact if_neg hT)
  have hpl:Hid (∀ x∈Lib.split LF [32,38,32],x.length≤1049000):=Lib.hid fun x hx=>Nat.le_trans (parts_len hx) hlF
  have CS:=Lib.hid (c_Split LF [32,38,32] V HT.out hlF (by decide))
  obtain ⟨ps,hps⟩:∃ ps,ps=Lib.split LF [32,38,32]:=⟨_,rfl⟩
  rw[←hps] at CS hne hpl
  clear hps hT
  go_wp2_with fail
  refine CS.out.mono ?_
  rintro e w2 ⟨r2,rfl,o2,hq⟩
  obtain ⟨AS,cS,rfl,v2⟩:=o2.reads
  have hzq:=hq.size
  have hpsl:ps.length≤1049600:=v2.le
  have HS:=Lib.hid (StrsV.mono (lo':=y+1) v2 hyV (Nat.le_refl _))
  have HB2:=Lib.hid (bgo HB.out hq)
  have HT2:=Lib.hid (HT.out.below hq)
  replace k0:=k0.next hq
  replace k1:=k1.next hq
  clear CS o2 v2 hq
  obtain ⟨B,hBe⟩:∃ B,B=w2.heap.size:=⟨_,rfl⟩
  rw[←hBe] at HS
  have hBy:y+1≤B:=by omega
  go_wp2_with fail
  go_loopw [30] (fun i wr=>∃ (k:Nat) (fs:List Fct) (A:Option Addr) (c:Nat),i=.int .i64 k∧k≤ps.length∧fs.length≤12∧FactsO wr B (.slice A fs.length c) fs∧StrsV wr (y+1) B AS ps∧Hid (rdF (ps.drop k) fs=rdF ps [])∧
   Blk wr y 49 #[.slice A fs.length c,.slice none 0 0]∧Blk wr w.heap.size 49 #[.slice none 0 0,.slice none 0 0]∧Hid (Below w.heap.size w wr)∧B≤wr.heap.size) (fun i _=>ps.length - (intOf i).toNat)
  case atStart=>exact ⟨0,[],none,0,rfl,Nat.zero_le _,by simp,FactsO.nil _ _,HS.out,Lib.hid (by rw[List.drop_zero]),k1,k0,HB2,by omega⟩
  case' round=>
   clear HS k0 k1 HB2
   obtain ⟨k,fs,A,c,rfl,hk,hfl,hO,hS,hR,k1,k0,HB2,hBr⟩:=hrel
   have HO:=Lib.hid hO
   have HS:=Lib.hid hS
   have HT2:=Lib.hid ((HT0.out).nb HB2.out hw1)
   clear hO hS
   (replace qk0:=k0.cell;replace rk0:=k0.frozen;replace lk0:=k0.lt;replace qk1:=k1.cell;replace rk1:=k1.frozen;replace lk1:=k1.lt)
   by_cases hlt:k<ps.length
   case pos=>
    have hki:(k:Int)<(ps.length:Int):=by omega
    obtain ⟨bw,ow,rfl,hc⟩:=HS.out.at hlt
    have HN:=Lib.hid (fun h=>rdF_no (acc:=fs) hlt h)
    have HY:=Lib.hid (fun f h=>rdF_yes (acc:=fs) (f:=f) hlt h)
    have hxl:=hpl.out _ (List.getElem_mem hlt)
    obtain ⟨x,hxx⟩:∃ x,x=ps[k]:=⟨_,rfl⟩
    rw[←hxx] at hc HN HY hxl
    clear hxx
    have CP:=Lib.hid (c_iPF x wr HT2.out (by omega))
    cases hp:pFactI x with
    | none=>
     have HNo:Hid (P=none):=Lib.hid (by rw[hP.out,show rdFs LF=none by rw[hne.out,←hR.out];exact HN.out (.inl hp),both_n1])
     rw[hp] at CP
     go_wp2_with fail
     refine CP.out.mono ?_
     rintro e w3 ⟨rfl,hq⟩
     have HB3:=Lib.hid (bgo HB2.out hq)
     replace k0:=k0.next hq
     clear hq CP qk0 rk0 lk0 hc
     (replace qk0:=k0.cell;replace rk0:=k0.frozen;replace lk0:=k0.lt)
     simp only[Option.getD_none,Option.isSome_none,fct0,Fct.val]
     go_wp2_with fail
     have z0:=((k0.set_ 0 (.slice none 0 0)).set_ 1 (.slice none 0 0)).alloc (.cells #[.bool false,.int .i64 0,.int .i64 0] tF)
     refine bodyPost_ret (v:=.tuple #[.agg #[.slice none 0 0,.slice none 0 0],.bool false]) (by simp[results,Tryz.results90,go_sem,z0.cell]) rfl ⟨_,by rw[HNo.out];rfl,?_,?_⟩
     ·rw[HNo.out];exact ⟨_,_,rfl,FactsO.nil _ _,AtomsO.nil _ _⟩
     ·have hb:=HB3.out;have:=k0.lt;exact bel
    | some f=>
     obtain ⟨fe,fa,fb⟩:=f
     rw[hp] at CP
     have hpS:=Lib.hid hp
     clear hp
     go_wp2_with fail
     refine CP.out.mono ?_
     rintro e w3 ⟨rfl,hq⟩
     have HB3:=Lib.hid (bgo HB2.out hq)
     have HO3:=Lib.hid (HO.out.below hq)
     have HS3:=Lib.hid (HS.out.below hq)
     replace k0:=k0.next hq
     replace k1:=k1.next hq
     have hB3:=Nat.le_trans hBr hq.size
     clear hq CP qk0 rk0 lk0 qk1 rk1 lk1 hc
     (replace qk0:=k0.cell;replace rk0:=k0.frozen;replace lk0:=k0.lt;replace qk1:=k1.cell;replace rk1:=k1.frozen;replace lk1:=k1.lt)
     simp only[Option.getD_some,Option.isSome_some,Fct.val]
     by_cases h12:fs.length=12
     ·have h12b:((fs.length:Int) == 12)=true:=by simp;omega
      have HNo:Hid (P=none):=Lib.hid (by rw[hP.out,show rdFs LF=none by rw[hne.out,←hR.out];exact HN.out (.inr h12),both_n1])
      go_wp2_with fail
      have z0:=((k0.set_ 0 (.slice none 0 0)).set_ 1 (.slice none 0 0)).alloc (.cells #[.bool fe,.int .i64 fa,.int .i64 fb] tF)
      refine bodyPost_ret (v:=.tuple #[.agg #[.slice none 0 0,.slice none 0 0],.bool false]) (by simp[results,Tryz.results90,go_sem,z0.cell]) rfl ⟨_,by rw[HNo.out];rfl,?_,?_⟩
      ·rw[HNo.out];exact ⟨_,_,rfl,FactsO.nil _ _,AtomsO.nil _ _⟩
      ·have hb:=HB3.out;have:=k0.lt;exact bel
     ·have h12b:((fs.length:Int) == 12)=false:=by simp;omega
      go_wp2_with (at_builtin;refine appFL rfl _ _ rfl (base:=B) (xs:=fs) rfl (HO3.out.below bel) rfl (FactsV.one (f:=⟨fe,fa,fb⟩) (Blk.newE (by simp))) (by simp;omega) (by simp;omega) ?_;intro A' c' w4 of4 hg4 hB4;have z0:=Blk.grownO (g:=w.heap.size) (hg:=hg4) blks (FactsO.below (w:=w3) HO3.out bel).1 (by decide);have z1b:=Blk.grownO (g:=y) (hg:=hg4) blks (FactsO.below (w:=w3) HO3.out bel).1 (by decide);have z1c:=z1b.cell;have z1f:=z1b.frozen;have hB34:Below B w3 w4:=(((Below.refl _ w3).alloc hB3 _).alloc (by simp;omega) _).trans hB4;have hl4:=z1b.lt;have hz4:=hB4.size;clear hg4 hB4)
      have hz5:=hB34.size
      go_round
      case rel=>exact ⟨k+1,fs++[⟨fe,fa,fb⟩],A',c',by go_num,by omega,by simp;omega,of4.setT z1b (by decide) 0 _,Rd.setb (Rd.keepB HS3.out hB34 (Nat.le_refl _)) (.inl (Nat.lt_succ_self y)) _,Lib.hid ((HY.out _ hpS.out h12).symm.trans hR.out),(by have h:=z1b.set_ 0 (.slice A' (fs.length+1) c');simpa using h),z0.far (by simp only[];omega) _,Lib.hid ((HB3.out.trans (hB34.mono (by omega))).setCell (by simp only;omega) _),by simp;omega⟩
      case measure=>simp[intOf];omega
   case' neg=>
    have hki:¬(k:Int)<(ps.length:Int):=by omega
    have HP2:Hid (rdFs LF=some fs):=Lib.hid (by rw[hne.out,←hR.out,List.drop_eq_nil_of_le (by omega)];rfl)
    replace HO:=Lib.hid (HO.out.lower hBy)
    go_upto_region 14 with fail
    replace HB:=HB2
    replace HT:=HT2
    skip
    clear hne hpl HS HB2 HT2 hR hki hk hfl hBr hlt hBe hBy hTb
    obtain ⟨U,rfl⟩:∃ z,z=wr:=⟨_,rfl⟩
 all_goals
  obtain ⟨AF,rfl⟩:∃ z,z=A:=⟨_,rfl⟩
  obtain ⟨cF,rfl⟩:∃ z,z=c:=⟨_,rfl⟩
  obtain ⟨fl,rfl⟩:∃ z,z=fs:=⟨_,rfl⟩
  have HPF:=HP2
  have HF:=HO
  clear HP2 HO
  have lk1:=k1.lt
  have hyV:y+1≤U.heap.size:=lk1
  (replace qk0:=k0.cell;replace rk0:=k0.frozen;replace lk0:=k0.lt;replace qk1:=k1.cell;replace rk1:=k1.frozen;replace lk1:=k1.lt)
  by_cases hT:LX=[101,109,112]
  case' pos=>
   subst hT
   go_upto_region 23 with fail
   have HP2:Hid (rdXs [101,109,112]=some []):=Lib.hid rfl
   obtain ⟨Y,rfl⟩:∃ z,z=U:=⟨_,rfl⟩
   obtain ⟨A,hA⟩:∃ A:Option Addr,A=none:=⟨_,rfl⟩
   obtain ⟨c,hc⟩:∃ c:Nat,c=0:=⟨_,rfl⟩
   obtain ⟨fs,hfs⟩:∃ fs:List Atm,fs=[]:=⟨_,rfl⟩
   have HO:=Lib.hid (AtomsO.nil Y (y+1))
   rw[show (#[Value.slice AF fl.length cF,.slice none 0 0]:Array Value)=#[.slice AF fl.length cF,.slice A fs.length c] by rw[hA,hc,hfs];rfl] at k1
   have e0:(Value.slice none 0 0)=.slice A fs.length c:=by rw[hA,hc,hfs];rfl
   rw[e0] at HO
   rw[←hfs] at HO HP2
   clear e0 hA hc hfs
  case' neg=>
   have hTb:(LX == [101,109,112])=false:=by rw[bytes_eq];simpa using hT
   have hne:Hid (rdXs LX=rdX (Lib.split LX [32,42,32]) []):=Lib.hid (by unfold rdXs;exact if_neg hT)
   have hpl:Hid (∀ x∈Lib.split LX [32,42,32],x.length≤1049000):=Lib.hid fun x hx=>Nat.le_trans (parts_len hx) hlX
   have CS:=Lib.hid (c_Split LX [32,42,32] U HT.out hlX (by decide))
   obtain ⟨ps,hps⟩:∃ ps,ps=Lib.split LX [32,42,32]:=⟨_,rfl⟩
   rw[←hps] at CS hne hpl
   clear hps hT
   go_wp2_with fail
   refine CS.out.mono ?_
   rintro e w2 ⟨r2,rfl,o2,hq⟩
   obtain ⟨AS,cS,rfl,v2⟩:=o2.reads
   have hzq:=hq.size
   have hpsl:ps.length≤1049600:=v2.le
   have HS:=Lib.hid (StrsV.mono (lo':=y+1) v2 hyV (Nat.le_refl _))
   have HB2:=Lib.hid (bgo HB.out hq)
   have HT2:=Lib.hid (HT.out.below hq)
   have HFl:=Lib.hid (HF.out.below hq)
   replace k0:=k0.next hq
   replace k1:=k1.next hq
   clear CS o2 v2 hq qk0 rk0 lk0 qk1 rk1 lk1
   obtain ⟨B,hBe⟩:∃ B,B=w2.heap.size:=⟨_,rfl⟩
   rw[←hBe] at HS
   have hBy:y+1≤B:=by omega
   go_wp2_with fail
   go_loopw [60] (fun i wr=>∃ (k:Nat) (fs:List Atm) (A:Option Addr) (c:Nat),i=.int .i64 k∧k≤ps.length∧fs.length≤6∧AtomsO wr B (.slice A fs.length c) fs∧StrsV wr (y+1) B AS ps∧Hid (rdX (ps.drop k) fs=rdX ps [])∧
    Blk wr y 49 #[.slice AF fl.length cF,.slice A fs.length c]∧Blk wr w.heap.size 49 #[.slice none 0 0,.slice none 0 0]∧Hid (Below w.heap.size w wr)∧B≤wr.heap.size∧FactsO wr (y+1) (.slice AF fl.length cF) fl) (fun i _=>ps.length - (intOf i).toNat)
   case atStart=>exact ⟨0,[],none,0,rfl,Nat.zero_le _,by simp,AtomsO.nil _ _,HS.out,Lib.hid (by rw[List.drop_zero]),k1,k0,HB2,by omega,HFl.out⟩
   case' round=>
    clear HS k0 k1 HB2 HFl
    obtain ⟨k,fs,A,c,rfl,hk,hfl,hO,hS,hR,k1,k0,HB2,hBr,hFl⟩:=hrel
    have HO:=Lib.hid hO
    have HS:=Lib.hid hS
    have HFl:=Lib.hid hFl
    have HT2:=Lib.hid ((HT0.out).nb HB2.out hw1)
    clear hO hS hFl
    (replace qk0:=k0.cell;replace rk0:=k0.frozen;replace lk0:=k0.lt;replace qk1:=k1.cell;replace rk1:=k1.frozen;replace lk1:=k1.lt)
    by_cases hlt:k<ps.length
    case pos=>
     have hki:(k:Int)<(ps.length:Int):=by omega
     obtain ⟨bw,ow,rfl,hc⟩:=HS.out.at hlt
     have HN:=Lib.hid (fun h=>rdX_no (acc:=fs) hlt h)
     have HY:=Lib.hid (fun f h=>rdX_yes (acc:=fs) (f:=f) hlt h)
     have hxl:=hpl.out _ (List.getElem_mem hlt)
     obtain ⟨x,hxx⟩:∃ x,x=ps[k]:=⟨_,rfl⟩
     rw[←hxx] at hc HN HY hxl
     clear hxx
     have CP:=Lib.hid (c_iPX x wr HT2.out (by omega))
     cases hp:pAtomI x with
     | none=>
      have HNo:Hid (P=none):=Lib.hid (by rw[hP.out,HPF.out,show rdXs LX=none by rw[hne.out,←hR.out];exact HN.out (.inl hp),both_n2])
      rw[hp] at CP
      go_wp2_with fail
      refine CP.out.mono ?_
      rintro e w3 ⟨rfl,hq⟩
      have HB3:=Lib.hid (bgo HB2.out hq)
      replace k0:=k0.next hq
      clear hq CP qk0 rk0 lk0 hc
      (replace qk0:=k0.cell;replace rk0:=k0.frozen;replace lk0:=k0.lt)
      simp only[Option.getD_none,Option.isSome_none,Atm.val]
      go_wp2_with fail
      have z0:=((k0.set_ 0 (.slice none 0 0)).set_ 1 (.slice none 0 0)).alloc (.cells #[.int .i64 0,.int .i64 0,.int .i64 0] tA)
      refine bodyPost_ret (v:=.tuple #[.agg #[.slice none 0 0,.slice none 0 0],.bool false]) (by simp[results,Tryz.results90,go_sem,z0.cell]) rfl ⟨_,by rw[HNo.out];rfl,?_,?_⟩
      ·rw[HNo.out];exact ⟨_,_,rfl,FactsO.nil _ _,AtomsO.nil _ _⟩
      ·have hb:=HB3.out;have:=k0.lt;exact bel
     | some f=>
      obtain ⟨fe,fa,fb⟩:=f
      rw[hp] at CP
      have hpS:=Lib.hid hp
      clear hp
      go_wp2_with fail
      refine CP.out.mono ?_
      rintro e w3 ⟨rfl,hq⟩
      have HB3:=Lib.hid (bgo HB2.out hq)
      have HO3:=Lib.hid (HO.out.below hq)
      have HS3:=Lib.hid (HS.out.below hq)
      have HFl3:=Lib.hid (HFl.out.below hq)
      replace k0:=k0.next hq
      replace k1:=k1.next hq
      have hB3:=Nat.le_trans hBr hq.size
      clear hq CP qk0 rk0 lk0 qk1 rk1 lk1 hc
      (replace qk0:=k0.cell;replace rk0:=k0.frozen;replace lk0:=k0.lt;replace qk1:=k1.cell;replace rk1:=k1.frozen;replace lk1:=k1.lt)
      simp only[Option.getD_some,Option.isSome_some,Atm.val]
      by_cases h12:fs.length=6
      ·have h12b:((fs.length:Int) == 6)=true:=by simp;omega
       have HNo:Hid (P=none):=Lib.hid (by rw[hP.out,HPF.out,show rdXs LX=none by rw[hne.out,←hR.out];exact HN.out (.inr h12),both_n2])
       go_wp2_with fail
       have z0:=((k0.set_ 0 (.slice none 0 0)).set_ 1 (.slice none 0 0)).alloc (.cells #[.int .i64 fe,.int .i64 fa,.int .i64 fb] tA)
       refine bodyPost_ret (v:=.tuple #[.agg #[.slice none 0 0,.slice none 0 0],.bool false]) (by simp[results,Tryz.results90,go_sem,z0.cell]) rfl ⟨_,by rw[HNo.out];rfl,?_,?_⟩
       ·rw[HNo.out];exact ⟨_,_,rfl,FactsO.nil _ _,AtomsO.nil _ _⟩
       ·have hb:=HB3.out;have:=k0.lt;exact bel
      ·have h12b:((fs.length:Int) == 6)=false:=by simp;omega
       go_wp2_with (at_builtin;refine appAL rfl _ _ rfl (base:=B) (xs:=fs) rfl (HO3.out.below bel) rfl (AtomsV.one (f:=⟨fe,fa,fb⟩) (Blk.newE (by simp))) (by simp;omega) (by simp;omega) ?_;intro A' c' w4 of4 hg4 hB4;have z0:=Blk.grownO (g:=w.heap.size) (hg:=hg4) blks (AtomsO.below (w:=w3) HO3.out bel).1 (by decide);have z1b:=Blk.grownO (g:=y) (hg:=hg4) blks (AtomsO.below (w:=w3) HO3.out bel).1 (by decide);have z1c:=z1b.cell;have z1f:=z1b.frozen;have hB34:Below B w3 w4:=(((Below.refl _ w3).alloc hB3 _).alloc (by simp;omega) _).trans hB4;have hl4:=z1b.lt;have ox4:=FactsO.grownA (FactsO.below (w:=w3) HFl3.out bel) (AtomsO.below (w:=w3) HO3.out bel) hg4;have hz4:=hB4.size;clear hg4 hB4)
       have hz5:=hB34.size
       go_round
       case rel=>exact ⟨k+1,fs++[⟨fe,fa,fb⟩],A',c',by go_num,by omega,by simp;omega,of4.setT z1b (by decide) 1 _,Rd.setb (Rd.keepB HS3.out hB34 (Nat.le_refl _)) (.inl (Nat.lt_succ_self y)) _,Lib.hid ((HY.out _ hpS.out h12).symm.trans hR.out),(by have h:=z1b.set_ 1 (.slice A' (fs.length+1) c');simpa using h),z0.far (by simp only[];omega) _,Lib.hid ((HB3.out.trans (hB34.mono (by omega))).setCell (by simp only;omega) _),by simp;omega,ox4.setT z1b (by decide) 1 _⟩
       case measure=>simp[intOf];omega
    case' neg=>
     have hki:¬(k:Int)<(ps.length:Int):=by omega
     have HP2:Hid (rdXs LX=some fs):=Lib.hid (by rw[hne.out,←hR.out,List.drop_eq_nil_of_le (by omega)];rfl)
     replace HO:=Lib.hid (HO.out.lower hBy)
     go_upto_region 23 with fail
     replace HB:=HB2
     replace HT:=HT2
     replace HF:=HFl
     clear hne hpl HS HB2 HT2 hR hki hk hfl hBr hlt hBe hBy hTb
     obtain ⟨Y,rfl⟩:∃ z,z=wr:=⟨_,rfl⟩
  all_goals
   have HYes:Hid (P=some ⟨fl,fs⟩):=Lib.hid (by rw[hP.out,HPF.out,HP2.out];rfl)
   (replace qk0:=k0.cell;replace rk0:=k0.frozen;replace lk0:=k0.lt;replace qk1:=k1.cell;replace rk1:=k1.frozen;replace lk1:=k1.lt)
   go_wp2_with fail
   have z0:=(k0.set_ 0 (.slice AF fl.length cF)).set_ 1 (.slice A fs.length c)
   refine bodyPost_ret (v:=.tuple #[.agg #[.slice AF fl.length cF,.slice A fs.length c],.bool true]) (by simp[results,Tryz.results90,go_sem,z0.cell]) rfl ⟨_,by rw[HYes.out];rfl,?_,?_⟩
   ·rw[HYes.out]
    exact ⟨_,_,rfl,((HF.out.setT k0 (by decide) 0 _).setT (k0.set_ _ _) (by decide) 1 _).lower (by omega),((HO.out.setT k0 (by decide) 0 _).setT (k0.set_ _ _) (by decide) 1 _).lower (by omega)⟩
   ·have hb:=HB.out;have:=k0.lt;exact bel
end Go.Proofs.YtjbboklnegfohaaGreatDoor

/- Contracts: the reader of lines (impl): peek, skip, expect. -/
namespace Go.Proofs.YtjbboklnegfohaaGreatDoor
open Go Go.RowKit Go.Proofs
theorem TM.fr {w w':World} {g:Nat} (h:TM w) (hf:Fr g w w') (hg:1<g):TM w':=h.nb (B:=2) ⟨hf.os,hf.tape,hf.output,hf.size,fun k hk=>hf.block k (by have:=h.2.1;omega) (by omega)⟩ (by omega)
abbrev tLR:TypeId:=33
set_option maxRecDepth 100000 in
set_option maxHeartbeats 3200000 in
theorem c_peek {rb:Nat} {l:Bs} (w:World) (hT:TM w) (h:Blk w rb tLR #[sv l]) (hl:l.length≤2000000):Calls Tryz.prog 32 #[.pointer (some ⟨rb,0,none⟩)] w fun e w'=>e=.returned (.tuple #[sv (Lib.cut l [10]).1,.bool (Lib.cut l [10]).2.2])∧Below w.heap.size w w':=by
 have C1:=Lib.hid (c_Cut l [10] w hT hl)
 have q:=h.cell
 have r:=h.frozen
 have l1:=h.lt
 clear hT hl
 go_enter Tryz.func32,Tryz.ntmps32
 go_wp2_with fail
 refine C1.out.mono ?_
 rintro e w1 ⟨rfl,hB⟩
 go_wp2_with fail
 go_ret2
 exact ⟨rfl,hB⟩
set_option maxRecDepth 100000 in
set_option maxHeartbeats 3200000 in
theorem c_skip {rb:Nat} {l:Bs} (w:World) (hT:TM w) (h:Blk w rb tLR #[sv l]) (hl:l.length≤2000000):Calls Tryz.prog 33 #[.pointer (some ⟨rb,0,none⟩)] w fun e w'=>e=.returned (.tuple #[])∧Blk w' rb tLR #[sv (Lib.cut l [10]).2.1]∧Fr rb w w':=by
 have C1:=Lib.hid (c_Cut l [10] w hT hl)
 have q:=h.cell
 have r:=h.frozen
 have l1:=h.lt
 clear hT hl
 go_enter Tryz.func33,Tryz.ntmps33
 go_wp2_with fail
 refine C1.out.mono ?_
 rintro e w1 ⟨rfl,hB⟩
 have k1:=h.next hB
 have q1:=k1.cell
 have r1:=k1.frozen
 have l2:=k1.lt
 clear C1
 go_wp2_with fail
 refine bodyPost_end (v:=.tuple #[]) (by simp[results,Tryz.results33,go_sem]) rfl ⟨rfl,k1.set_ 0 _,(Fr.ofBelow hB).set_ (p:=⟨rb,0,none⟩) (Or.inl rfl) _⟩
set_option maxRecDepth 100000 in
set_option maxHeartbeats 3200000 in
theorem c_expect {rb:Nat} {l s:Bs} (w:World) (hT:TM w) (hrb:1<rb) (h:Blk w rb tLR #[sv l]) (hl:l.length≤2000000):Calls Tryz.prog 89 #[.pointer (some ⟨rb,0,none⟩),sv s] w fun e w'=>e=.returned (.bool (expI s l).isSome)∧Blk w' rb tLR #[sv ((expI s l).getD l)]∧Fr rb w w':=by
 have C1:=Lib.hid (c_peek w hT h hl)
 obtain ⟨x,hx⟩:∃ x,x=expI s l:=⟨_,rfl⟩
 rw[←hx]
 have K2:=Lib.hid fun (W:World) (hT:TM W) (h:Blk W rb tLR #[sv l])=>c_skip W hT h hl
 unfold expI at hx
 obtain ⟨c1,hc1⟩:∃ c,c=(Lib.cut l [10]).1:=⟨_,rfl⟩
 obtain ⟨c2,hc2⟩:∃ c,c=(Lib.cut l [10]).2.1:=⟨_,rfl⟩
 obtain ⟨c3,hc3⟩:∃ c,c=(Lib.cut l [10]).2.2:=⟨_,rfl⟩
 rw[←hc1,←hc2,←hc3] at hx
 rw[←hc1,←hc3] at C1
 rw[←hc2] at K2
 replace hx:=Lib.hid hx
 have HT:=Lib.hid hT
 clear hT hl hc1 hc2 hc3
 go_enter Tryz.func89,Tryz.ntmps89
 go_wp2_with fail
 refine C1.out.mono ?_
 rintro e w1 ⟨rfl,hB⟩
 have k1:=h.next hB
 replace HT:=Lib.hid (HT.out.below hB)
 clear h C1
 cases c3
 ·have e1:x=none:=by have:=hx.out;simpa using this
  subst e1
  go_wp2_with fail
  go_ret
  exact ⟨rfl,k1,.ofBelow hB⟩
 ·by_cases he:c1=s
  ·have hb:(c1 == s)=true:=by rw[bytes_eq];simpa using he
   have e1:x=some c2:=by have:=hx.out;simpa[he] using this
   subst e1
   go_wp2_with fail
   refine (K2.out w1 HT.out k1).mono ?_
   rintro e w2 ⟨rfl,k2,hF⟩
   go_wp2_with fail
   go_ret
   exact ⟨rfl,k2,(Fr.ofBelow hB).trans hF⟩
  ·have hb:(c1 == s)=false:=by rw[bytes_eq];simpa using he
   have e1:x=none:=by have:=hx.out;simpa[he] using this
   subst e1
   go_wp2_with fail
   go_ret
   exact ⟨rfl,k1,.ofBelow hB⟩
end Go.Proofs.YtjbboklnegfohaaGreatDoor

/- Contracts: contracts from texts (impl). -/
namespace Go.Proofs.YtjbboklnegfohaaGreatDoor
open Go Go.RowKit Go.Proofs
theorem trimP_len (a p:Bs):(Lib.trimPrefix a p).length≤a.length:=by
 unfold Lib.trimPrefix;split<;>simp
theorem c_CutPre (l p:Bs) (w:World):Calls Tryz.prog 55 #[sv l,sv p] w fun e w'=>e=.returned (.tuple #[sv (Lib.trimPrefix l p),.bool (Lib.hasPrefix l p)])∧w=w':=by
 refine (shg_strings_CutPrefix ⟨l.toArray⟩ ⟨p.toArray⟩ w).mono ?_
 rintro e w' ⟨rfl,rfl⟩
 exact ⟨by simp,rfl⟩
end Go.Proofs.YtjbboklnegfohaaGreatDoor

/- Plain: both readers of a program read the text of a valid program back. -/
namespace Go.Proofs.YtjbboklnegfohaaGreatDoor
open Go Go.RowKit Go.Proofs
/-! lines -/
theorem tname_free2 (t:Int):(58:UInt8)∉tnameL t∧(91:UInt8)∉tnameL t∧(93:UInt8)∉tnameL t:=by
 unfold tnameL
 repeat' split
 all_goals decide
theorem fmtF_free2 (f:Fct):(58:UInt8)∉fmtF f:=by
 have h1:=(tname_free2 f.a).1
 have h2:=(tname_free2 f.b).1
 unfold fmtF
 split<;>simp[h1,h2]
theorem fmtX_free2 (x:Atm):(58:UInt8)∉fmtX x:=by
 have h1:=(tname_free2 x.a).1
 have h2:=(tname_free2 x.b).1
 unfold fmtX signX
 split<;>simp[h1,h2]
theorem textA_free2 (a:Asn):(58:UInt8)∉textA a:=by
 have h1:(58:UInt8)∉factsT a.facts:=by
  rcases Nat.eq_zero_or_pos a.facts.length with h|h
  ·unfold factsT;rw[if_pos h];decide
  ·rw[factsT_join h]
   refine mem_join (by decide) ?_
   intro p hp;obtain ⟨f,-,rfl⟩:=List.mem_map.1 hp;exact fmtF_free2 f
 have h2:(58:UInt8)∉atomsT a.atoms:=by
  unfold atomsT
  split
  ·decide
  ·refine mem_join (by decide) ?_
   intro p hp;obtain ⟨f,-,rfl⟩:=List.mem_map.1 hp;exact fmtX_free2 f
 rw[textA_join]
 simp[h1,h2]
theorem lineL_free (k a b:Int) (t:Fct) (i:Asn):(10:UInt8)∉lineL k a b t i:=by
 have h1:=(tname_free a).2.2.2.2.2.2
 have h2:=(tname_free b).2.2.2.2.2.2
 have h3:=(fmtF_free t).2.2.2
 have h4:=textA_free i
 unfold lineL
 repeat' split
 all_goals simp[h1,h2,h3,h4]
theorem lineL_in (k a b:Int) (t:Fct) (i:Asn):(58:UInt8)∈lineL k a b t i∨(32:UInt8)∈lineL k a b t i:=by
 unfold lineL
 repeat' split
 all_goals simp
theorem lineL_ne (k a b:Int) (t:Fct) (i:Asn):lineL k a b t i≠elseL∧lineL k a b t i≠endL:=by
 have h:=lineL_in k a b t i
 constructor<;>(intro e;rw[e] at h;revert h;decide)
/-! the fields of a valid command -/
theorem plain_inv {t:Fct} {i:Asn} {body els:Cms} (h:plainB t i body els=true):t=fctZ∧i=⟨[],[]⟩∧body=.nil∧els=.nil:=by
 simp only[plainB,noFct,noAsn,Bool.and_eq_true,decide_eq_true_eq] at h
 obtain ⟨h1,⟨h2,h3⟩,h4,h5⟩:=h
 obtain ⟨fs,xs⟩:=i
 have e1:fs=[]:=List.length_eq_zero_iff.1 h2
 have e2:xs=[]:=List.length_eq_zero_iff.1 h3
 exact ⟨h1,by rw[e1,e2],len_nil h4,len_nil h5⟩
theorem noAsn_inv {i:Asn} (h:noAsn i=true):i=⟨[],[]⟩:=by
 simp only[noAsn,Bool.and_eq_true,decide_eq_true_eq] at h
 obtain ⟨fs,xs⟩:=i
 have e1:fs=[]:=List.length_eq_zero_iff.1 h.1
 have e2:xs=[]:=List.length_eq_zero_iff.1 h.2
 rw[e1,e2]
theorem fields_all (P:Int→Int→Int→Prop) (h:∀ k:Nat,k<5→∀ a:Nat,a<9→∀ b:Nat,b<9→fieldsB ((k+1:Nat):Int) (a:Int) (b:Int)=true→P ((k+1:Nat):Int) (a:Int) (b:Int)) {k a b:Int} (hv:fieldsB k a b=true):P k a b:=by
 have hk:=fieldsB_basic hv
 have hab:isTermB a=true∧isTermB b=true:=by
  have hp:∀ x,isProgB x=true→isTermB x=true:=fun x hx=>by
   simp only[isProgB,isTermB,decide_eq_true_eq] at hx ⊢;omega
  have hz:∀ x:Int,decide (x=0)=true→isTermB x=true:=fun x hx=>by
   simp only[isTermB,decide_eq_true_eq] at hx ⊢;omega
  have hv':=hv
  unfold fieldsB at hv'
  split at hv'
  ·simp only[Bool.and_eq_true] at hv';exact ⟨hp _ hv'.1,hv'.2⟩
  split at hv'
  ·simp only[Bool.and_eq_true] at hv';exact hv'
  split at hv'
  ·simp only[Bool.and_eq_true] at hv';exact ⟨hp _ hv'.1,hz _ hv'.2⟩
  split at hv'
  ·simp only[Bool.and_eq_true] at hv';exact ⟨hv'.1,hz _ hv'.2⟩
  ·cases hv'
 have h1:=isTermB_iff.1 hab.1
 have h2:=isTermB_iff.1 hab.2
 obtain ⟨k',rfl⟩:∃ n:Nat,k=((n+1:Nat):Int):=⟨(k - 1).toNat,by omega⟩
 obtain ⟨a',rfl⟩:∃ n:Nat,a=n:=⟨a.toNat,by omega⟩
 obtain ⟨b',rfl⟩:∃ n:Nat,b=n:=⟨b.toNat,by omega⟩
 exact h k' (by omega) a' (by omega) b' (by omega) hv
def isHd (o:Option Hd) (k a b:Int) (t:Fct):Bool:=match o with
 | none=>false
 | some h=>decide (h.k=k)&&(decide (h.a=a)&&(decide (h.b=b)&&(decide (h.t=t)&&noAsn h.i)))
theorem isHd_eq {o:Option Hd} {k a b:Int} {t:Fct} (h:isHd o k a b t=true):o=some ⟨k,a,b,t,⟨[],[]⟩⟩:=by
 unfold isHd at h
 split at h
 ·cases h
 ·rename_i x
  simp only[Bool.and_eq_true,decide_eq_true_eq] at h
  obtain ⟨h1,h2,h3,h4,h5⟩:=h
  obtain ⟨k',a',b',t',i'⟩:=x
  have:=noAsn_inv h5
  simp only at h1 h2 h3 h4 this
  rw[h1,h2,h3,h4,this]
def lineOk (k a b:Int):Bool:=!Lib.hasPrefix (lineL k a b fctZ ⟨[],[]⟩) ifP&&(!Lib.hasPrefix (lineL k a b fctZ ⟨[],[]⟩) whP&&(isHd (bscI (lineL k a b fctZ ⟨[],[]⟩)) k a b fctZ&&isHd (some (headF (lineL k a b fctZ ⟨[],[]⟩))) k a b fctZ))
set_option maxRecDepth 100000 in
theorem lineOk_all {k a b:Int} (hv:fieldsB k a b=true):lineOk k a b=true:=fields_all (fun k a b=>lineOk k a b=true) (by decide) hv
theorem bscI_fmt {k a b:Int} (hv:fieldsB k a b=true):Lib.hasPrefix (lineL k a b fctZ ⟨[],[]⟩) ifP=false∧Lib.hasPrefix (lineL k a b fctZ ⟨[],[]⟩) whP=false∧bscI (lineL k a b fctZ ⟨[],[]⟩)=some ⟨k,a,b,fctZ,⟨[],[]⟩⟩:=by
 have h:=lineOk_all hv
 simp only[lineOk,Bool.and_eq_true,Bool.not_eq_true'] at h
 exact ⟨h.1,h.2.1,isHd_eq h.2.2.1⟩
theorem headF_fmt {k a b:Int} (hv:fieldsB k a b=true):headF (lineL k a b fctZ ⟨[],[]⟩)=⟨k,a,b,fctZ,⟨[],[]⟩⟩:=by
 have h:=lineOk_all hv
 simp only[lineOk,Bool.and_eq_true] at h
 exact Option.some.inj (isHd_eq h.2.2.2)
set_option maxRecDepth 100000 in
theorem headF_if {t:Fct} (hv:t.valid=true):headF (lineL 6 0 0 t ⟨[],[]⟩)=⟨6,0,0,t,⟨[],[]⟩⟩:=Option.some.inj (isHd_eq (fct_all (fun t=>isHd (some (headF (lineL 6 0 0 t ⟨[],[]⟩))) 6 0 0 t=true) (by decide) hv))
theorem findM_of {p m r:Bs} (h:∀ j,j<p.length→isMark (p++m++r) m j=false):findM (p++m++r) m=some p.length:=
 findM_some (by simp) (by unfold isMark;rw[List.append_assoc,List.drop_left,List.take_left];simp) h
theorem splitM_of {p m r:Bs} (h:∀ j,j<p.length→isMark (p++m++r) m j=false):splitM (p++m++r) m=(p,r,true):=by
 unfold splitM
 rw[findM_of h]
 simp only
 rw[take_sep,drop_sep]
theorem isMark_head {l m:Bs} {c:UInt8} {j:Nat} (h:isMark l (c :: m) j=true):l[j]? = some c:=by
 unfold isMark at h
 simp only[decide_eq_true_eq] at h
 have:((l.drop j).take (c :: m).length)[0]? = some c:=by rw[h];rfl
 simpa using this
theorem splitM_head {p m r:Bs} {c:UInt8} (h:c∉p):splitM (p++(c :: m)++r) (c :: m)=(p,r,true):=by
 refine splitM_of fun j hj=>?_
 cases e:isMark (p++(c :: m)++r) (c :: m) j
 ·rfl
 ·have:=isMark_head e
  rw[List.append_assoc,List.getElem?_append_left hj] at this
  exact absurd (List.mem_of_getElem? this) h
theorem splitM_no {l m:Bs} {c:UInt8} (h:c∉l):splitM l (c :: m)=(l,[],false):=by
 unfold splitM
 rw[findM_none fun j hj=>by
  cases e:isMark l (c :: m) j
  ·rfl
  ·exact absurd (List.mem_of_getElem? (isMark_head e)) h]
theorem headF_wh {t:Fct} {i:Asn} (hv:t.valid=true) (hi:i.valid=true):headF (lineL 7 0 0 t i)=⟨7,0,0,t,i⟩:=by
 have e:lineL 7 0 0 t i=[119,104,105,108,101]++[32]++(fmtF t++[32,119,105,116,104,32]++textA i):=by simp[lineL]
 have h1:=fmtF_free2 t
 have h2:=textA_free2 i
 have hn:(58:UInt8)∉lineL 7 0 0 t i:=by rw[e];simp[h1,h2]
 unfold headF
 rw[splitM_no hn]
 simp only[Bool.false_eq_true,if_false]
 rw[e,splitM_head (by decide)]
 simp only
 unfold wordF
 rw[if_neg (by decide),if_neg (by decide),if_neg (by decide),splitM_head (fmtF_free t).1]
 simp only
 unfold pF pA
 rw[parseF_fmt hv,parseA_text hi]
 rfl
/-! the program's reader -/
def stopT (r:Bs):Prop:=(Lib.cut r [10]).2.2=false∨(Lib.cut r [10]).1=elseL∨(Lib.cut r [10]).1=endL
theorem cut_line {p:Bs} (r:Bs) (h:(10:UInt8)∉p):Lib.cut (p++10 :: r) [10]=(p,r,true):=by
 have:=(free1 h).cut r
 rwa [List.append_assoc] at this
theorem cut_end (r:Bs):Lib.cut (101 :: 110 :: 100 :: 10 :: r) [10]=(endL,r,true):=cut_line (p:=endL) r (by decide)
theorem cut_else (r:Bs):Lib.cut (101 :: 108 :: 115 :: 101 :: 10 :: r) [10]=(elseL,r,true):=cut_line (p:=elseL) r (by decide)
theorem expI_end (r:Bs):expI endL (101 :: 110 :: 100 :: 10 :: r)=some r:=by
 unfold expI;rw[cut_end];exact if_pos ⟨rfl,rfl⟩
theorem expI_else (r:Bs):expI elseL (101 :: 108 :: 115 :: 101 :: 10 :: r)=some r:=by
 unfold expI;rw[cut_else];exact if_pos ⟨rfl,rfl⟩
theorem expI_not (r:Bs):expI elseL (101 :: 110 :: 100 :: 10 :: r)=none:=by
 unfold expI;rw[cut_end];exact if_neg fun h=>by have e:endL=elseL:=h.2;revert e;decide
theorem stop_end (r:Bs):stopT (101 :: 110 :: 100 :: 10 :: r):=.inr (.inr (by rw[cut_end]))
theorem stop_else (r:Bs):stopT (101 :: 108 :: 115 :: 101 :: 10 :: r):=.inr (.inl (by rw[cut_else]))
theorem rdB_line {m d n:Nat} {line r:Bs} (hf:(10:UInt8)∉line) (h1:line≠elseL) (h2:line≠endL) (hd:d≤4) (hn:n<16):rdB (m+1) d n (line++10 :: r)=match cmI (rdB m (d+1) 0) line r with
  | none=>none
  | some c=>consI c (rdB m d (n+1) c.2.2.2):=by
 rw[rdB,cut_line r hf]
 simp only
 rw[if_neg (by simp[h1,h2]),if_neg (by omega)]
 try rfl
theorem rdB_text:∀ (L:Cms) (m d n:Nat) (r:Bs),L.shape (5 - d)=true→d≤5→n+L.sz≤16→stopT r→(textL L++r).length<m→rdB m d n (textL L++r)=some (L,r)
 | .nil,m,d,n,r,_,_,_,hst,hm=>by
  obtain ⟨m,rfl⟩:∃ k,m=k+1:=⟨m - 1,by omega⟩
  rw[rdB]
  exact if_pos hst
 | .cons k a b t i body els L,m,d,n,r,hs,hd5,hz,hst,hm=>by
  obtain ⟨m,rfl⟩:∃ k,m=k+1:=⟨m - 1,by omega⟩
  simp only[Cms.shape,Bool.and_eq_true,decide_eq_true_eq] at hs
  obtain ⟨h0,hf,hsb,hse,hsL⟩:=hs
  simp only[Cms.sz] at hz
  have hd:d≤4:=by omega
  obtain ⟨hn1,hn2⟩:=lineL_ne k a b t i
  have e5:5 - d - 1=5 - (d+1):=by omega
  rw[e5] at hsb hse
  have hL:∀ r',(textL L++r').length<m→stopT r'→rdB m d (n+1) (textL L++r')=some (L,r'):=fun r' h1 h2=>rdB_text L m d (n+1) r' hsL hd5 (by omega) h2 h1
  have hB:∀ r',(textL body++r').length<m→stopT r'→rdB m (d+1) 0 (textL body++r')=some (body,r'):=fun r' h1 h2=>rdB_text body m (d+1) 0 r' hsb (by omega) (by omega) h2 h1
  have hE:∀ r',(textL els++r').length<m→stopT r'→rdB m (d+1) 0 (textL els++r')=some (els,r'):=fun r' h1 h2=>rdB_text els m (d+1) 0 r' hse (by omega) (by omega) h2 h1
  have et:textL (.cons k a b t i body els L)++r=lineL k a b t i++10 :: (textL body++((if 0<els.len then [101,108,115,101,10]++textL els else [])++((if k=6∨k=7 then [101,110,100,10] else [])++(textL L++r)))):=by
   simp[textL,List.append_assoc]
  rw[et] at hm ⊢
  rw[rdB_line (lineL_free k a b t i) hn1 hn2 hd (by omega)]
  simp only[List.length_append,List.length_cons] at hm
  unfold fvalB at hf
  by_cases hk6:k=6
  ·subst hk6
   simp only[if_true,Bool.and_eq_true,decide_eq_true_eq] at hf
   obtain ⟨rfl,rfl,ht,hi⟩:=hf
   obtain rfl:=noAsn_inv hi
   have e6:(if (6:Int)=6∨(6:Int)=7 then ([101,110,100,10]:Bs) else [])=[101,110,100,10]:=if_pos (.inl rfl)
   rw[e6] at hm
   have hc:cmI (rdB m (d+1) 0) (lineL 6 0 0 t ⟨[],[]⟩) (textL body++((if 0<els.len then [101,108,115,101,10]++textL els else [])++((if (6:Int)=6∨(6:Int)=7 then [101,110,100,10] else [])++(textL L++r))))=some (⟨6,0,0,t,⟨[],[]⟩⟩,body,els,textL L++r):=by
    have el:lineL 6 0 0 t ⟨[],[]⟩=ifP++fmtF t:=by simp[lineL]
    unfold cmI
    rw[el,if_pos (prefix_of _ _),trim_of]
    unfold ifI
    rw[pFactI_fmt ht]
    simp only[true_or,if_true]
    by_cases hl:0<els.len
    ·rw[if_pos hl] at hm ⊢
     simp only[List.cons_append,List.nil_append,List.length_append,List.length_cons] at hm ⊢
     rw[hB _ (by simp only[List.length_append,List.length_cons];omega) (stop_else _)]
     simp only
     unfold elsI
     rw[expI_else]
     simp only
     rw[hE _ (by simp only[List.length_append,List.length_cons];omega) (stop_end _)]
     simp only
     rw[if_neg (by omega)]
     unfold endI
     rw[expI_end]
    ·obtain rfl:=len_nil (L:=els) (by omega)
     rw[if_neg hl] at hm ⊢
     simp only[List.length_append,List.length_cons,List.length_nil] at hm
     simp only[List.cons_append,List.nil_append]
     rw[hB _ (by simp only[List.length_append,List.length_cons];omega) (stop_end _)]
     simp only
     unfold elsI
     rw[expI_not]
     simp only
     unfold endI
     rw[expI_end]
   rw[hc]
   simp only
   rw[hL r (by simp only[List.length_append];omega) hst]
   rfl
  ·rw[if_neg hk6] at hf
   by_cases hk7:k=7
   ·subst hk7
    simp only[if_true,Bool.and_eq_true,decide_eq_true_eq] at hf
    obtain ⟨rfl,rfl,ht,hi,hl⟩:=hf
    obtain rfl:=len_nil hl
    have hc:cmI (rdB m (d+1) 0) (lineL 7 0 0 t i) (textL body++((if 0<Cms.nil.len then [101,108,115,101,10]++textL .nil else [])++((if (7:Int)=6∨(7:Int)=7 then [101,110,100,10] else [])++(textL L++r))))=some (⟨7,0,0,t,i⟩,body,.nil,textL L++r):=by
     have el:lineL 7 0 0 t i=whP++(fmtF t++withP++textA i):=by simp[lineL]
     have hif:Lib.hasPrefix (whP++(fmtF t++withP++textA i)) ifP=false:=rfl
     have hcut:Lib.cut (fmtF t++withP++textA i) withP=(fmtF t,textA i,true):=by
      refine Free.cut ⟨fun r j hj=>?_,fun j _=>?_⟩ _
      ·cases e:Lib.occAt (fmtF t++withP++r) withP j
       ·rfl
       ·have:=Lib.occAt_head rfl e
        rw[List.append_assoc,List.getElem?_append_left hj] at this
        exact absurd (List.mem_of_getElem? this) (fmtF_free t).1
      ·cases e:Lib.occAt (fmtF t) withP j
       ·rfl
       ·exact absurd (List.mem_of_getElem? (Lib.occAt_head rfl e)) (fmtF_free t).1
     unfold cmI
     rw[el,if_neg (by rw[hif];decide),if_pos (prefix_of _ _),trim_of]
     unfold whI
     rw[hcut]
     simp only[if_true]
     rw[pFactI_fmt ht,pAI_iff.2 ⟨hi,rfl⟩]
     unfold wh2
     simp only[Cms.len,Nat.lt_irrefl,if_false,or_true,if_true,List.nil_append,List.cons_append]
     simp only[Cms.len,Nat.lt_irrefl,if_false,or_true,if_true,List.length_cons,List.length_nil] at hm
     rw[hB _ (by simp only[List.length_append,List.length_cons];omega) (stop_end _)]
     simp only
     unfold endI
     rw[expI_end]
    rw[hc]
    simp only
    rw[hL r (by simp only[List.length_append];omega) hst]
    rfl
   ·rw[if_neg hk7] at hf
    simp only[Bool.and_eq_true] at hf
    obtain ⟨rfl,rfl,rfl,rfl⟩:=plain_inv hf.1
    obtain ⟨q1,q2,q3⟩:=bscI_fmt hf.2
    have hc:∀ rest,cmI (rdB m (d+1) 0) (lineL k a b fctZ ⟨[],[]⟩) rest=some (⟨k,a,b,fctZ,⟨[],[]⟩⟩,.nil,.nil,rest):=fun rest=>by
     unfold cmI
     rw[if_neg (by rw[q1];decide),if_neg (by rw[q2];decide),q3]
     rfl
    rw[hc]
    simp only[textL,Cms.len,Nat.lt_irrefl,hk6,hk7,or_self,if_false,List.nil_append]
    rw[hL r (by simp only[List.length_append];omega) hst]
    rfl
theorem pPI_iff {l:Bs} {L:Cms}:pPI l=some L↔L.prog=true∧textL L=l:=by
 constructor
 ·intro h
  unfold pPI at h
  split at h
  ·cases h
  ·rename_i L2 r hr
   split at h
   ·rename_i hc
    injection h with h
    subst h
    have:=rdB_back _ _ _ _ _ _ hr
    rw[hc.1,List.append_nil] at this
    exact ⟨hc.2,this.symm⟩
   ·cases h
 ·rintro ⟨hp,rfl⟩
  obtain ⟨h1,h2⟩:=prog_shape hp
  have:=rdB_text L ((textL L).length+1) 1 0 [] h1 (by omega) (by omega) (.inl (by decide)) (by simp)
  rw[List.append_nil] at this
  unfold pPI
  rw[this]
  exact if_pos ⟨rfl,hp⟩
end Go.Proofs.YtjbboklnegfohaaGreatDoor

/- Plain: the reference's reader of a program reads texts back; both readers agree. -/
namespace Go.Proofs.YtjbboklnegfohaaGreatDoor
open Go Go.RowKit Go.Proofs
def lns:Cms→List Bs
 | .nil=>[]
 | .cons k a b t i body els r=>lineL k a b t i :: (lns body++((if 0<els.len then elseL :: lns els else [])++((if k=6∨k=7 then [endL] else [])++lns r)))
def glue (ls:List Bs):Bs:=ls.flatMap fun x=>x++[10]
theorem glue_app (a b:List Bs):glue (a++b)=glue a++glue b:=by simp[glue]
theorem textL_glue:∀ (L:Cms),textL L=glue (lns L)
 | .nil=>rfl
 | .cons k a b t i body els r=>by
  have h1:=textL_glue body
  have h2:=textL_glue els
  have h3:=textL_glue r
  have e1:(if 0<els.len then [101,108,115,101,10]++textL els else [])=glue (if 0<els.len then elseL :: lns els else []):=by
   split
   ·rw[h2];simp[glue]
   ·rfl
  have e2:(if k=6∨k=7 then ([101,110,100,10]:Bs) else [])=glue (if k=6∨k=7 then [endL] else []):=by
   split<;>rfl
  rw[textL,e1,e2,h1,h3,lns,show ∀ x (l:List Bs),glue (x :: l)=x++[10]++glue l from fun x l=>by simp[glue],glue_app,glue_app,glue_app]
  simp[List.append_assoc]
theorem lns_free:∀ (L:Cms),∀ x∈lns L,(10:UInt8)∉x
 | .nil,x,h=>by cases h
 | .cons k a b t i body els r,x,h=>by
  simp only[lns,List.mem_cons,List.mem_append] at h
  rcases h with rfl|h|h|h|h
  ·exact lineL_free _ _ _ _ _
  ·exact lns_free body x h
  ·split at h
   ·rcases List.mem_cons.1 h with rfl|h
    ·decide
    ·exact lns_free els x h
   ·cases h
  ·split at h
   ·rcases List.mem_cons.1 h with rfl|h
    ·decide
    ·cases h
   ·cases h
  ·exact lns_free r x h
theorem splitL_glue:∀ {ls:List Bs},(∀ x∈ls,(10:UInt8)∉x)→splitL 10 (glue ls)=ls++[[]]
 | [],_=>rfl
 | x :: r,h=>by
  have e:glue (x :: r)=x++10 :: glue r:=by simp[glue]
  rw[e,splitL_mid _ (h x (by simp)),splitL_glue fun y hy=>h y (by simp[hy])]
  rfl
def stopS (post:List Bs):Prop:=post.length=1∨∃ x r,post=x :: r∧(x=endL∨x=elseL)
theorem getD_of_drop {ls:List Bs} {p:Nat} {x:Bs} {r:List Bs} (h:ls.drop p=x :: r):ls.getD p []=x∧p<ls.length∧ls.drop (p+1)=r:=by
 have h0:p<ls.length:=by
  rcases Nat.lt_or_ge p ls.length with h1|h1
  ·exact h1
  ·rw[List.drop_eq_nil_of_le h1] at h;cases h
 rw[List.drop_eq_getElem_cons h0] at h
 injection h with h1 h2
 exact ⟨by rw[List.getD_eq_getElem?_getD,List.getElem?_eq_getElem h0];exact h1,h0,h2⟩
theorem drop_add_app {ls A B:List Bs} {p:Nat} (h:ls.drop p=A++B):ls.drop (p+A.length)=B:=by
 rw[←List.drop_drop,h,List.drop_left]
theorem blkF_stop {ls post:List Bs} {n p d:Nat} (h:ls.drop p=post) (hs:stopS post):blkF ls (n+1) p d=(.nil,some p):=by
 rw[blkF]
 rcases hs with h1|⟨x,r,rfl,h2⟩
 ·refine if_neg fun hc=>?_
  have:=congrArg List.length h
  rw[List.length_drop,h1] at this
  omega
 ·refine if_neg fun hc=>?_
  rw[(getD_of_drop h).1] at hc
  rcases h2 with h2|h2
  ·exact hc.2.1 h2
  ·exact hc.2.2 h2
theorem blkF_text (ls:List Bs):∀ (L:Cms) (n p d:Nat) (post:List Bs),L.shape d=true→ls.drop p=lns L++post→post≠[]→stopS post→(lns L).length<n→blkF ls n p d=(L,some (p+(lns L).length))
 | .nil,n,p,d,post,_,hd,_,hst,hn=>by
  obtain ⟨n,rfl⟩:∃ k,n=k+1:=⟨n - 1,by omega⟩
  exact blkF_stop hd hst
 | .cons k a b t i body els L,n,p,d,post,hs,hd,hpn,hst,hn=>by
  obtain ⟨n,rfl⟩:∃ k,n=k+1:=⟨n - 1,by omega⟩
  simp only[Cms.shape,Bool.and_eq_true,decide_eq_true_eq] at hs
  obtain ⟨h0,hf,hsb,hse,hsL⟩:=hs
  simp only[lns,List.length_cons,List.length_append] at hn ⊢
  simp only[lns,List.cons_append,List.append_assoc] at hd
  obtain ⟨g1,g2,g3⟩:=getD_of_drop hd
  have hlt:p+1<ls.length:=by
   have:=congrArg List.length g3
   rw[List.length_drop] at this
   have hp1:0<post.length:=List.length_pos_iff.2 hpn
   simp only[List.length_append] at this
   omega
  obtain ⟨hn1,hn2⟩:=lineL_ne k a b t i
  rw[blkF,if_pos ⟨hlt,by rw[g1];exact hn2,by rw[g1];exact hn1⟩,g1]
  unfold fvalB at hf
  by_cases hk6:k=6
  ·subst hk6
   simp only[if_true,Bool.and_eq_true,decide_eq_true_eq] at hf
   obtain ⟨rfl,rfl,ht,hi⟩:=hf
   obtain rfl:=noAsn_inv hi
   have e6:(if (6:Int)=6∨(6:Int)=7 then [endL] else [])=[endL]:=if_pos (.inl rfl)
   rw[e6] at g3 hn ⊢
   rw[headF_if ht,if_pos (.inl rfl),if_neg (by omega)]
   by_cases hl:0<els.len
   ·rw[if_pos hl] at g3 hn ⊢
    simp only[List.length_cons,List.length_nil] at hn ⊢
    rw[blkF_text ls body n (p+1) (d - 1) _ hsb g3 (by simp) (.inr ⟨_,_,rfl,.inr rfl⟩) (by omega)]
    simp only
    have g4:=drop_add_app g3
    obtain ⟨g5,g6,g7⟩:=getD_of_drop (by simpa using g4:ls.drop (p+1+(lns body).length)=elseL :: (lns els++(endL :: (lns L++post))))
    rw[if_pos ⟨g6,g5⟩,blkF_text ls els n _ (d - 1) _ hse g7 (by simp) (.inr ⟨_,_,rfl,.inl rfl⟩) (by omega)]
    simp only
    have g8:=(getD_of_drop (drop_add_app g7)).2.2
    rw[blkF_text ls L n _ d post hsL g8 hpn hst (by omega)]
    simp only[Cms.one1,Prod.mk.injEq,Option.some.injEq,true_and]
    omega
   ·obtain rfl:=len_nil (L:=els) (by omega)
    rw[if_neg hl] at g3 hn ⊢
    simp only[List.length_cons,List.length_nil,List.nil_append] at hn g3 ⊢
    rw[blkF_text ls body n (p+1) (d - 1) _ hsb g3 (by simp) (.inr ⟨_,_,rfl,.inl rfl⟩) (by omega)]
    simp only
    have g4:=drop_add_app g3
    obtain ⟨g5,g6,g7⟩:=getD_of_drop (by simpa using g4:ls.drop (p+1+(lns body).length)=endL :: (lns L++post))
    rw[if_neg (by rw[g5];intro h;have e:endL=elseL:=h.2;revert e;decide),blkF_text ls L n _ d post hsL g7 hpn hst (by omega)]
    simp only[Cms.one1,Prod.mk.injEq,Option.some.injEq,true_and]
    omega
  ·rw[if_neg hk6] at hf
   by_cases hk7:k=7
   ·subst hk7
    simp only[if_true,Bool.and_eq_true,decide_eq_true_eq] at hf
    obtain ⟨rfl,rfl,ht,hi,hl⟩:=hf
    obtain rfl:=len_nil hl
    have e6:(if (7:Int)=6∨(7:Int)=7 then [endL] else [])=[endL]:=if_pos (.inr rfl)
    have e7:(if 0<Cms.nil.len then elseL :: lns .nil else [])=[]:=if_neg (by simp[Cms.len])
    rw[e6,e7] at g3 hn ⊢
    rw[headF_wh ht hi,if_pos (.inr rfl),if_neg (by omega)]
    simp only[List.length_cons,List.length_nil,List.nil_append] at hn g3 ⊢
    rw[blkF_text ls body n (p+1) (d - 1) _ hsb g3 (by simp) (.inr ⟨_,_,rfl,.inl rfl⟩) (by omega)]
    simp only
    have g4:=drop_add_app g3
    obtain ⟨g5,g6,g7⟩:=getD_of_drop (by simpa using g4:ls.drop (p+1+(lns body).length)=endL :: (lns L++post))
    rw[if_neg (by rw[g5];intro h;have e:endL=elseL:=h.2;revert e;decide),blkF_text ls L n _ d post hsL g7 hpn hst (by omega)]
    simp only[Cms.one1,Prod.mk.injEq,Option.some.injEq,true_and]
    omega
   ·rw[if_neg hk7] at hf
    simp only[Bool.and_eq_true] at hf
    obtain ⟨rfl,rfl,rfl,rfl⟩:=plain_inv hf.1
    rw[headF_fmt hf.2,if_neg (by simp[hk6,hk7])]
    have e6:(if k=6∨k=7 then [endL] else [])=[]:=if_neg (by simp[hk6,hk7])
    have e7:(if 0<Cms.nil.len then elseL :: lns .nil else [])=[]:=if_neg (by simp[Cms.len])
    rw[e6,e7] at g3 hn ⊢
    simp only[lns,List.length_nil,List.nil_append] at hn g3 ⊢
    rw[blkF_text ls L n _ d post hsL g3 hpn hst (by omega)]
    simp only[Cms.one1,Prod.mk.injEq,Option.some.injEq,true_and]
    omega
theorem readP_text {L:Cms} (hp:L.prog=true):readP (textL L)=L:=by
 obtain ⟨h1,h2⟩:=prog_shape hp
 unfold readP
 have e:splitL 10 (textL L)=lns L++[[]]:=by rw[textL_glue,splitL_glue (lns_free L)]
 rw[e,blkF_text (lns L++[[]]) L _ 0 4 [[]] h1 (by simp) (by simp) (.inl rfl) (by simp;omega)]
theorem parsesP_iff {l:Bs} {L:Cms}:(parsesP l=true∧readP l=L)↔L.prog=true∧textL L=l:=by
 constructor
 ·rintro ⟨h1,rfl⟩
  simp only[parsesP,Bool.and_eq_true,decide_eq_true_eq] at h1
  refine ⟨h1.2.2,?_⟩
  have:=h1.2.1
  unfold fmtP at this
  rwa [if_pos h1.2.2] at this
 ·rintro ⟨hp,rfl⟩
  have e:=readP_text hp
  refine ⟨?_,e⟩
  have hl:=fmtP_len L
  have hf:fmtP L=textL L:=if_pos hp
  rw[hf] at hl
  simp only[parsesP,Bool.and_eq_true,decide_eq_true_eq,e]
  exact ⟨hl,hf,hp⟩
theorem pPI_parses (l:Bs):(pPI l).isSome=parsesP l∧(pPI l).getD .nil=parseP l:=by
 cases h:pPI l with
 | some L=>
  obtain ⟨h1,h2⟩:=parsesP_iff.2 (pPI_iff.1 h)
  refine ⟨h1.symm,?_⟩
  unfold parseP
  rw[if_pos h1,h2]
  rfl
 | none=>
  have h1:parsesP l=false:=by
   cases hp:parsesP l
   ·rfl
   ·have:=pPI_iff.2 (parsesP_iff.1 ⟨hp,rfl⟩)
    rw[h] at this
    cases this
  refine ⟨h1.symm,?_⟩
  unfold parseP
  rw[h1]
  rfl
end Go.Proofs.YtjbboklnegfohaaGreatDoor

/- Contracts: framed contracts: copies, disjoint sets. -/
namespace Go.Proofs.YtjbboklnegfohaaGreatDoor
open Go Go.RowKit Go.Proofs
attribute [local go_sem ↓] Go.wp_at_zero Go.wp_at_succ
end Go.Proofs.YtjbboklnegfohaaGreatDoor
