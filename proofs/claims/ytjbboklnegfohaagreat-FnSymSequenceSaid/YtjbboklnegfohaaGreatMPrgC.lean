/- Strings: lists of bytes; lists of strings. -/
import Derived.BigQuiet
import Derived.Deep.RegionHeld3
import Derived.Deep.QuietTactic
import Derived.Deep.DeepCutAuto
import Derived.Test.YtjbboklnegfohaaGreatMSymSeq
set_option linter.unusedSimpArgs false
set_option linter.unusedVariables false
set_option maxRecDepth 100000
set_option maxHeartbeats 25600000
namespace Go.Proofs.YtjbboklnegfohaaGreat
open List (drop_eq_getElem_cons drop_eq_nil_of_le drop_zero getD length_append length_cons length_nil range take_of_length_le)
section
open Go Go.RowKit Go.Proofs
abbrev Bs:Type:=List UInt8
abbrev sv(l:Bs):Value:=.string ⟨l.toArray⟩
def encS(ss:List Bs):List Value:=ss.map sv
@[simp] theorem Rj (ss:List Bs):(encS ss).length=ss.length:=by simp[encS]
theorem bP(a b:Bs):(a == b)=decide (a=b):=by
 by_cases h:a=b
 ·rw[decide_eq_true h,h];exact beq_self_eq_true b
 ·rw[decide_eq_false h];exact beq_eq_false_iff_ne.2 h
theorem fH{x y:Bs}(h:x=y):Ending.returned (Value.string ⟨x.toArray⟩)=.returned (sv y):=by rw[h]
theorem NU{P:Program}(x y:Bs)(h:x.length+y.length<=9223372036854775807)(w:World):(Op.stringOp .add ⟨x.toArray⟩ ⟨y.toArray⟩).run P w=.ok (.string ⟨(x++y).toArray⟩) w:=by
 rw[run_string_add_sum w _ _ (by simp[ByteArray.size];omega),ByteArray.mk_append_mk]
theorem LC(l:Bs)(k:Nat)(hk:k<l.length):∀h,(ByteArray.mk l.toArray)[k]'h=l[k]'hk:=fun _=>rfl
theorem NV(l:Bs)(i j:Nat):(ByteArray.mk l.toArray).extract i j=⟨((l.drop i).take (j - i)).toArray⟩:=ByteArray.extract_mk l i j
theorem iK{P:Program}(x y:Bs)(h:x.length+y.length<=9223372036854775807):∃z,aJ (z=x++y)/\∀w:World,(Op.stringOp .add ⟨x.toArray⟩ ⟨y.toArray⟩).run P w=.ok (.string ⟨z.toArray⟩) w:=
 ⟨x++y,ax rfl,fun w=>NU x y h w⟩
abbrev tS:Nat:=9
theorem Wz:(Tryz.prog.info? tS).map (fun i=>(i.zero,i.size,i.bytes))=some (some (.string ⟨#[]⟩),1,16):=by kernel_rfl
def fM(w:World)(base:Nat)(v:Value)(xs:List Bs):Prop:=w.ownsRow base tS 1 v xs.length (encS xs)/\il xs.length
def lM(w:World)(lo hi:Nat)(A:Option Addr)(xs:List Bs):Prop:=Rd w lo hi 1 A xs.length (encS xs)
section
variable{w w':World}{base base' lo hi:Nat}{v:Value}{fs:List Bs}{A:Option Addr}
theorem fM.bz(h:fM w base v fs)(hb:Below w.heap.size w w'):fM w' base v fs:=⟨own_below h.1 hb,h.2⟩
theorem fM.kM(h:fM w base v fs){a:Addr}(ha:a.block<base)(u:Value):fM (w.setCell a u) base v fs:=⟨ownsRow_setCell_below h.1 ha u,h.2⟩
theorem fM.GR{lo:Nat}(h:fM w base v fs)(hb:uK lo w w')(hl:lo<=base):fM w' base v fs:=⟨uL h.1 hb hl,h.2⟩
theorem fM.bq(h:fM w base v fs)(hb:base'<=base:=by omega):fM w base' v fs:=⟨fu h.1 hb,h.2⟩
theorem fM.rj(h:fM w base v fs):∃A c,v=.slice A fs.length c/\lM w base w.heap.size A fs:=bZ h.1 h.2
theorem lM.at(h:lM w lo hi A fs){k:Nat}(hk:k<fs.length):∃b o,A=some ⟨b,o,none⟩/\w.cell? ⟨b,o+k,none⟩=some (sv fs[k]):=by
 obtain⟨b,o,e,_,hb,hc⟩:=h.raw.2 (by omega);exact⟨b,o,e,hc _ _ (by simp[encS,List.getElem?_eq_getElem hk])⟩
theorem lM.bz(h:lM w lo hi A fs)(hb:Below w.heap.size w w'):lM w' lo hi A fs:=Rd.bz h hb
theorem lM.mono{bJ hi':Nat}(h:lM w lo hi A fs)(e1:bJ<=lo)(e2:hi<=hi'):lM w bJ hi' A fs:=Rd.mono h e1 e2
theorem lM.le(h:lM w lo hi A fs):il fs.length:=h.lim
theorem fM.empty(w:World){g:Nat}(hg:g=w.heap.size):fM (w.alloc (.cells #[] tS)) g (.slice (some ⟨g,0,none⟩) 0 0) []:=by
 subst hg;exact⟨kP w _ _,by simp[il]⟩
end
section
variable{ops:Array Oper}{rest:List Oper}{o:Oper}{a:Act}{Q:Exit->Act->World->Prop}{w:World}
theorem Tm(hgd:o.guard=none)(s x:Operand)(ho:o.op=.call { callee:=.builtin .append,args:=#[s,x],argTypes:=#[76,76] })
  {base:Nat} {v:Value} {xs:List Bs} (hs:a.eval s=v) (hown:fM w base v xs) (g0:Nat) (n:Bs) (hx:a.eval x=.slice (some ⟨g0,0,none⟩) 1 1) (hc:w.cell? ⟨g0,0,none⟩=some (sv n))
  (hn:xs.length+1<=1049600) (hb:base<=w.heap.size)
  (h:∀g c w',fM w' base (.slice (some ⟨g,0,none⟩) (xs.length+1) c) (xs++[n])->w.grownBy w' v.ownBlock->Below base w w'->wpList Tryz.prog ops Q rest (a.put o.dst (.slice (some ⟨g,0,none⟩) (xs.length+1) c)) w'):wpList Tryz.prog ops Q (o :: rest) a w:=by
 refine yZ hgd s x 76 ho Tryz.underlying76 Wz rfl (by decide) (by decide) hs hown.1 ⟨g0,0,none⟩ [sv n] hx rfl ?_ (by simp[Value.oneCell']) hn hb ?_
 ·intro j u hu
  match j,hu with
  | 0,hu=>simp at hu;subst hu;exact hc
 ·intro g c w' h1 h2 h3;exact h g c w' ⟨by simpa[encS] using h1,by simp[il];omega⟩ h2 h3
end
def bA(t:Int):Bs:=
 if t=0 then [110,105,108] else if t=1 then [97] else if t=2 then [98] else if t=3 then [99] else if t=4 then [100] else
 if t=5 then [112] else if t=6 then [113] else if t=7 then [114] else if t=8 then [115] else []
theorem dx(t:Int):(bA t).length<=3:=by
 unfold bA
 repeat' split
 all_goals decide
theorem I7{t:Int}(h:jq t=false):bA t=[]:=by
 have h':¬(0<=t/\t<=8):=fun e=>by rw[qU.2 e] at h;cases h
 unfold bA
 repeat rw[if_neg (by omega)]
def dU(l:Bs):Option Nat:=(range 9).find? fun n=>decide (bA n=l)
theorem Gg{l:Bs}{k:Nat}(hk:k<9)(h:bA k=l)(hn:∀j,j<k->bA j≠l):dU l=some k:=by
 unfold dU;rw[List.find?_range_eq_some];exact⟨by simpa using h,by simpa using hk,fun j hj=>by simpa using hn j hj⟩
theorem Gh{l:Bs}(hn:∀j:Nat,j<9->bA j≠l):dU l=none:=by
 unfold dU;rw[List.find?_eq_none];intro j hj;simpa using hn j (by simpa using hj)
def AQ(f:aF):Bs:=if f.eq then bA f.a++[61]++bA f.b else bA f.a++[33,61]++bA f.b
theorem vQ(f:aF):(AQ f).length<=8:=by
 have h1:=dx f.a;have h2:=dx f.b;unfold AQ;split<;>simp<;>omega
def cutAt(c:UInt8):Bs->Option (Bs×Bs)
 | []=>none
 | x :: r=>if x=c then some ([],r) else (cutAt c r).map fun p=>(x :: p.1,p.2)
theorem Gi{c:UInt8}:∀ {l:Bs} {i:Nat} (h:i<l.length),l[i]=c->(∀j (hj:j<i),l[j]≠c)->cutAt c l=some (l.take i,l.drop (i+1))
 | x :: r,0,_,h,_=>by simp only[List.getElem_cons_zero] at h;simp[cutAt,h]
 | x :: r,i+1,hi,h,hn=>by
  have hx:x≠c:=hn 0 (by omega);have:=Gi (l:=r) (i:=i) (by simpa using hi) (by simpa using h) fun j hj=>hn (j+1) (by omega);simp[cutAt,hx,this]
theorem Gj{c:UInt8}:∀ {l:Bs},(∀j (hj:j<l.length),l[j]≠c)->cutAt c l=none
 | [],_=>rfl
 | x :: r,h=>by
  have hx:x≠c:=h 0 (by simp);have:=Gj (l:=r) fun j hj=>h (j+1) (by simp;omega);simp[cutAt,hx,this]
def Ka(eq:Bool):Option Nat->Option Nat->Option aF
 | some x,some y=>some ⟨eq,(x:Int),(y:Int)⟩
 | _,_=>none
def Kb(eq:Bool)(a b:Bs):Option aF:=Ka eq (dU a) (dU b)
def bV(l:Bs):Option aF:=if 9<l.length then none else match cutAt 61 l with
 | none=>none
 | some (a,b)=>if a.getLast? = some 33 then Kb false a.dropLast b else Kb true a b
def nS(x:UInt8):Bool:=x == 62 || x == 126
def I8:Bs->Option (Bs×UInt8×Bs)
 | []=>none
 | x :: r=>if nS x then some ([],x,r) else (I8 r).map fun p=>(x :: p.1,p.2)
theorem Kc:∀ {l:Bs} {i:Nat} (h:i<l.length),nS l[i]=true->(∀j (hj:j<i),nS l[j]=false)->I8 l=some (l.take i,l[i],l.drop (i+1))
 | x :: r,0,_,h,_=>by simp only[List.getElem_cons_zero] at h;simp[I8,h]
 | x :: r,i+1,hi,h,hn=>by
  have hx:nS x=false:=hn 0 (by omega);have:=Kc (l:=r) (i:=i) (by simpa using hi) (by simpa using h) fun j hj=>hn (j+1) (by omega);simp[I8,hx,this]
theorem Ke:∀ {l:Bs},(∀j (hj:j<l.length),nS l[j]=false)->I8 l=none
 | [],_=>rfl
 | x :: r,h=>by
  have hx:nS x=false:=h 0 (by simp);have:=Ke (l:=r) fun j hj=>h (j+1) (by simp;omega);simp[I8,hx,this]
def CV(kd:Int):Option Nat->Option Nat->Option aL
 | some m,some n=>some ⟨kd,(m:Int),(n:Int)⟩
 | _,_=>none
def eX(l:Bs):Option aL:=if 7<l.length then none else match I8 l with
 | none=>none
 | some (a,x,b)=>CV (if x=126 then 2 else 1) (dU a) (dU b)
def kY(c:UInt8)(acc:Bs):Bs->List Bs
 | []=>[acc]
 | x :: r=>if x=c then acc :: kY c [] r else kY c (acc++[x]) r
def eY(c:UInt8)(l:Bs):List Bs:=kY c [] l
theorem kZ(c:UInt8):∀(l acc:Bs),(kY c acc l).length<=l.length+1
 | [],acc=>by simp[kY]
 | x :: r,acc=>by
  have h1:=kZ c r [];have h2:=kZ c r (acc++[x]);unfold kY
  split
  ·simp only[length_cons];omega
  ·simp only[length_cons];omega
def uI(l:Bs):List Bs:=(eY 32 l).filter fun x=>decide (x≠[])
theorem I9(l:Bs):(uI l).length<=l.length+1:=Nat.le_trans (List.length_filter_le _ _) (kZ 32 l [])
def BP(fs:List aF):Nat->Bs
 | 0=>[]
 | k+1=>(if 0<k then BP fs k++[32,38,32] else BP fs k)++AQ (fs.getD k default)
def sw(x:aL):Bs:=if x.kind=2 then [126] else [62]
def lN(o:Bs)(xs:List aL):Nat->Bs
 | 0=>o
 | k+1=>(if k=0 then lN o xs k++[32,124,32] else lN o xs k++[32,42,32])++bA (xs.getD k default).a++sw (xs.getD k default)++bA (xs.getD k default).b
def lh(fs:List aF):Bs:=if fs.length=0 then [116,114,117,101] else BP fs fs.length
def AR(a:au):Bs:=if a.atoms.length=0 then lh a.facts++[32,124,32,101,109,112] else lN (lh a.facts) a.atoms a.atoms.length
def Gl(a:au):Bs:=if a.valid then AR a else []
theorem AU(fs:List aF):∀(k:Nat),(BP fs k).length<=k * 11
 | 0=>by simp[BP]
 | k+1=>by
  have h1:=AU fs k;have h2:=vQ (fs.getD k default);unfold BP;split<;>simp only[length_append,length_cons,length_nil]<;>omega
theorem vR(o:Bs)(xs:List aL):∀(k:Nat),(lN o xs k).length<=o.length+k * 10
 | 0=>by simp[lN]
 | k+1=>by
  have h1:=vR o xs k;have h2:=dx (xs.getD k default).a;have h3:=dx (xs.getD k default).b;have h4:(sw (xs.getD k default)).length=1:=by unfold sw;split<;>rfl
  unfold lN;split<;>simp only[length_append,length_cons,length_nil,h4]<;>omega
theorem AV(fs:List aF):(lh fs).length<=4+fs.length * 11:=by
 have h:=AU fs fs.length;unfold lh;split
 ·simp
 ·omega
theorem CW(a:au):(AR a).length<=10+a.facts.length * 11+a.atoms.length * 10:=by
 have h1:=AV a.facts;have h2:=vR (lh a.facts) a.atoms a.atoms.length;unfold AR;split
 ·simp only[length_append,length_cons,length_nil];omega
 ·omega
def kJ(st:List aF×List aL×Bool)(x:Bs):Option (List aF×List aL):=
 match (if st.2.2 then none else bV x),(if st.2.2 then eX x else none) with
 | some f,_=>some (st.1++[f],st.2.1)
 | none,some y=>some (st.1,st.2.1++[y])
 | none,none=>if x≠[116,114,117,101]/\x≠[101,109,112] then none else some (st.1,st.2.1)
def mr:List Bs->List aF×List aL×Bool->Option au
 | [],st=>some ⟨st.1,st.2.1⟩
 | [x],st=>(kJ st x).map fun p=>⟨p.1,p.2⟩
 | x :: y :: r,st=>match kJ st x with
  | none=>none
  | some p=>mr r (p.1,p.2,st.2.2 || decide (y=[124]))
def eF(l:Bs):Option au:=if 300<l.length then none else match mr (uI l) ([],[],false) with
 | none=>none
 | some a=>if Gl a=l/\l≠[] then some a else none
theorem vS{l:Bs}{a:au}(h:eF l=some a):a.valid=true/\Gl a=l:=by
 unfold eF at h
 split at h
 ·cases h
 split at h
 ·cases h
 split at h
 ·rename_i b hb hx;injection h with h;subst h;refine⟨?_,hx.1⟩;cases hv:b.valid
  ·exfalso
   have:=hx.1;unfold Gl at this;rw[hv] at this;exact hx.2 this.symm
  ·rfl
 ·cases h
theorem gm(t:Int)(w:World):Calls Tryz.prog 116 #[.int .i64 t] w fun e w'=>e=.returned (sv (bA t))/\w=w':=by
 cases ht:jq t
 ·(go_enter Tryz.func116,Tryz.ntmps116);(go_wp2_with (go_at_call 54;refine(dC _ _).mono ?_;rintro e w' ⟨rfl,rfl⟩;rw[ht]));go_ret;exact⟨by rw[I7 ht];rfl,rfl⟩
 ·have hh:=qU.1 ht;have h9:t=0\/t=1\/t=2\/t=3\/t=4\/t=5\/t=6\/t=7\/t=8:=by omega
  clear hh;rcases h9 with rfl|rfl|rfl|rfl|rfl|rfl|rfl|rfl|rfl
  all_goals
   (go_enter Tryz.func116,Tryz.ntmps116);(go_wp2_with (go_at_call 54;refine(dC _ _).mono ?_;rintro e w' ⟨rfl,rfl⟩;rw[ht]));go_ret;exact⟨rfl,rfl⟩
theorem nT(l:Bs)(w:World):Calls Tryz.prog 84 #[sv l] w fun e w'=>e=.returned (.tuple #[.int .i64 ((dU l).getD 0:Nat),.bool (dU l).isSome])/\w=w':=by
 (go_enter Tryz.func84,Tryz.ntmps84);(go_wp2_with fail)
 go_loopw [4] (fun i wr=>∃k:Nat,k<=9/\i=.int .i64 k/\aJ (∀j:Nat,j<k->bA j≠l)/\wr=w) (fun i _=>9 - (intOf i).toNat)
 case atStart=>exact⟨0,by omega,rfl,ax fun j h=>by omega,rfl⟩
 case round=>
  obtain⟨k,hk,rfl,HN,rfl⟩:=hrel;by_cases h9:k<9
  ·have hki:(k:Int)<=8:=by omega
   by_cases he:bA k=l
   ·have hb:(bA k == l)=true:=by rw[bP];simpa using he
    have HR:=ax (Gg h9 he HN.o);clear he;(go_wp2_with (go_at_call 116;refine(gm _ _).mono ?_;rintro e w' ⟨rfl,rfl⟩));refine bodyPost_ret (v:=.tuple #[.int .i64 k,.bool true]) (by simp[results,Tryz.results84,go_sem]) rfl ⟨by rw[HR.o];rfl,rfl⟩
   ·have hb:(bA k == l)=false:=by rw[bP];simpa using he
    have HM:aJ (∀j:Nat,j<k+1->bA j≠l):=ax fun j hj=>by
     by_cases e:j=k
     ·subst e;exact he
     ·exact HN.o j (by omega)
    clear he;(go_wp2_with (go_at_call 116;refine(gm _ _).mono ?_;rintro e w' ⟨rfl,rfl⟩))
    go_round
    case rel=>exact⟨k+1,by omega,by go_num,HM,by first|rfl|trivial⟩
    case measure=>simp[intOf];omega
  ·obtain rfl:k=9:=by omega
   have HR:=ax (Gh HN.o);go_wp2;refine bodyPost_ret (v:=.tuple #[.int .i64 0,.bool false]) (by simp[results,Tryz.results84,go_sem]) rfl ⟨by rw[HR.o];rfl,rfl⟩
theorem fO(l:Bs)(i j:Nat)(w:World):Calls Tryz.prog 84 #[.string ((ByteArray.mk l.toArray).extract i j)] w fun e w'=>e=.returned (.tuple #[.int .i64 ((dU ((l.drop i).take (j - i))).getD 0:Nat),.bool (dU ((l.drop i).take (j - i))).isSome])/\w=w':=by
 rw[NV];exact nT _ w
theorem Gm(f:aF)(w:World):Calls Tryz.prog 117 #[f.val] w fun e w'=>e=.returned (sv (AQ f))/\Below w.heap.size w w':=by
 have ha:=dx f.a;have hb:=dx f.b;obtain⟨eq,a,b⟩:=f;simp only at ha hb;unfold aF.val;simp only;cases eq
 ·skip;have h1:=fun w:World=>NU (P:=Tryz.prog) (bA a) [33,61] (by simp;omega) w;have h2:=fun w:World=>NU (P:=Tryz.prog) (bA a++[33,61]) (bA b) (by simp;omega) w;(go_enter Tryz.func117,Tryz.ntmps117);(go_wp2_with fail)
  go_region_held3 (fun w'=>∀i,w'.cell? ⟨w.heap.size,i,none⟩=#[.bool false,.int .i64 a,.int .i64 b][i]?)
   (exact ae.cell az)
   (first|(go_at_call 116;refine(gm _ _).mono ?_;rintro e w' ⟨rfl,rfl⟩))
  all_goals
   go_wp2;go_ret;exact⟨fH (by simp[AQ]),aj⟩
 ·skip;have h1:=fun w:World=>NU (P:=Tryz.prog) (bA a) [61] (by simp;omega) w;have h2:=fun w:World=>NU (P:=Tryz.prog) (bA a++[61]) (bA b) (by simp;omega) w;(go_enter Tryz.func117,Tryz.ntmps117);(go_wp2_with fail)
  go_region_held3 (fun w'=>∀i,w'.cell? ⟨w.heap.size,i,none⟩=#[.bool true,.int .i64 a,.int .i64 b][i]?)
   (exact ae.cell az)
   (first|(go_at_call 116;refine(gm _ _).mono ?_;rintro e w' ⟨rfl,rfl⟩))
  all_goals
   go_wp2;go_ret;exact⟨fH (by simp[AQ]),aj⟩
theorem xK(c:UInt8)(n:Nat)(hn:n<256):((c.toNat:Int) == (n:Int))=decide (c=UInt8.ofNat n):=by
 rw[Bool.eq_iff_iff,beq_iff_eq,decide_eq_true_iff];constructor
 ·intro h;have:c.toNat=n:=by omega
  rw[<-this];simp
 ·rintro rfl;rw[UInt8.toNat_ofNat',Nat.mod_eq_of_lt (by omega)]
theorem Ja{l:Bs}{k:Nat}(hl:l.length<=9)(hk:k<l.length)(h:l[k]=61)(hn:∀j (hj:j<k),l[j]≠61) :
  bV l=if (l.take k).getLast? = some 33 then Kb false (l.take k).dropLast (l.drop (k+1)) else Kb true (l.take k) (l.drop (k+1)):=by
 unfold bV;rw[if_neg (by omega),Gi hk h hn]
theorem LD{l:Bs}(hn:∀j (hj:j<l.length),l[j]≠61):bV l=none:=by
 unfold bV;rw[Gj hn]
 split<;>rfl
def Jb:aF:=⟨false,0,0⟩
theorem sD(l:Bs)(w:World):Calls Tryz.prog 61 #[sv l] w fun e w'=>e=.returned (.tuple #[((bV l).getD Jb).val,.bool (bV l).isSome])/\Below w.heap.size w w':=by
 by_cases hl:l.length<=9
 ·have Pd:(l.length:Int)<=9:=by omega
  (go_enter Tryz.func61,Tryz.ntmps61);(go_wp2_with fail)
  go_loopw [4] (fun i wr=>∃k:Nat,k<=l.length/\i=.int .i64 k/\aJ (∀j (hj:j<k) (hj2:j<l.length),l[j]≠61)/\wr=w.alloc (.cells #[.bool false,.int .i64 0,.int .i64 0] tF)) (fun i _=>l.length - (intOf i).toNat)
  case atStart=>exact⟨0,by omega,rfl,ax fun j h=>by omega,rfl⟩
  case round=>
   obtain⟨k,hk,rfl,HN,rfl⟩:=hrel;by_cases hlt:k<l.length
   ·have hki:(k:Int)<(l.length:Int):=by omega
    have hx:=LC l k hlt;by_cases hc:l[k]=61
    ·have HP:=ax (Ja hl hlt hc fun j hj=>HN.o j hj (by omega));obtain⟨c,hcc⟩:∃c,c=l[k]:=⟨_,rfl⟩;rw[<-hcc] at hx hc;have hb:((c.toNat:Int) == 61)=true:=by rw[show (61:Int)=((61:Nat):Int) from rfl,xK c 61 (by decide)];simpa using hc
     clear hcc hc;by_cases hk0:0<k
     ·obtain⟨m,hm⟩:∃m,m+1=k:=⟨k - 1,by omega⟩;have hk0i:(0:Int)<(k:Int):=by omega
      have UH:(k:Int) - 1=(m:Int):=by omega
      have QR:(m:Int)<(l.length:Int):=by omega
      have hx2:=LC l m (by omega)
      have hL0:(l.take k).getLast? = some (l[m]'(by omega)):=by
       subst hm;rw[List.getLast?_eq_getElem?,List.length_take,Nat.min_eq_left (by omega),Nat.add_sub_cancel,List.getElem?_take,if_pos (by omega),List.getElem?_eq_getElem (by omega)]
      have hdrop:(l.take k).dropLast=l.take m:=by
       subst hm;rw[List.dropLast_take (by omega),Nat.add_sub_cancel]
      obtain⟨d,hdd⟩:∃d,d=l[m]'(by omega):=⟨_,rfl⟩;rw[<-hdd] at hx2 hL0;clear hdd;by_cases hd:d=33
      ·have hb2:((d.toNat:Int) == 33)=true:=by rw[show (33:Int)=((33:Nat):Int) from rfl,xK d 33 (by decide)];simpa using hd
       have hlast:(l.take k).getLast? = some 33:=by rw[hL0,hd]
       clear hL0 hd hm;obtain⟨pa,wR⟩:∃x,x=dU ((l.drop 0).take (m - 0)):=⟨_,rfl⟩;have ca:=fun w=>fO l 0 m w;rw[<-wR] at ca;replace ca:=ax ca;obtain⟨pb,hpb⟩:∃x,x=dU ((l.drop (k+1)).take (l.length - (k+1))):=⟨_,rfl⟩;have cb:=fun w=>fO l (k+1) l.length w;rw[<-hpb] at cb;replace cb:=ax cb
       have hE:aJ (bV l=Ka false pa pb):=ax (by
        rw[HP.o,wR,hpb,drop_zero,Nat.sub_zero,take_of_length_le (l:=l.drop (k+1)) (by simp)]
        rw[if_pos hlast,hdrop];rfl)
       clear wR hpb HP
       cases pa with
       | none=>
        have hR:aJ (bV l=none):=ax hE.o;clear hE;(go_wp2_with fail);refine(ca.o _).mono ?_;rintro e w2 ⟨rfl,rfl⟩;(go_wp2_with fail);refine(cb.o _).mono ?_;rintro e w2 ⟨rfl,rfl⟩;go_wp2;refine bodyPost_ret (v:=.tuple #[.agg #[.bool false,.int .i64 0,.int .i64 0],.bool false]) (by simp[results,Tryz.results61,go_sem]) rfl ⟨by rw[hR.o];rfl,aj⟩
       | some a=>
        cases pb with
        | none=>
         have hR:aJ (bV l=none):=ax hE.o;clear hE;(go_wp2_with fail);refine(ca.o _).mono ?_;rintro e w2 ⟨rfl,rfl⟩;(go_wp2_with fail);refine(cb.o _).mono ?_;rintro e w2 ⟨rfl,rfl⟩;go_wp2;refine bodyPost_ret (v:=.tuple #[.agg #[.bool false,.int .i64 0,.int .i64 0],.bool false]) (by simp[results,Tryz.results61,go_sem]) rfl ⟨by rw[hR.o];rfl,aj⟩
        | some b=>
         have hR:aJ (bV l=some ⟨false,(a:Int),(b:Int)⟩):=ax hE.o;clear hE;(go_wp2_with fail);refine(ca.o _).mono ?_;rintro e w2 ⟨rfl,rfl⟩;(go_wp2_with fail);refine(cb.o _).mono ?_;rintro e w2 ⟨rfl,rfl⟩;go_wp2;refine bodyPost_ret (v:=.tuple #[.agg #[.bool false,.int .i64 a,.int .i64 b],.bool true]) (by simp[results,Tryz.results61,go_sem]) rfl ⟨by rw[hR.o];rfl,aj⟩
      ·have hb2:((d.toNat:Int) == 33)=false:=by rw[show (33:Int)=((33:Nat):Int) from rfl,xK d 33 (by decide)];simpa using hd
       have hlast:¬(l.take k).getLast? = some 33:=by rw[hL0];simpa using hd
       clear hL0 hd hm;obtain⟨pa,wR⟩:∃x,x=dU ((l.drop 0).take (k - 0)):=⟨_,rfl⟩;have ca:=fun w=>fO l 0 k w;rw[<-wR] at ca;replace ca:=ax ca;obtain⟨pb,hpb⟩:∃x,x=dU ((l.drop (k+1)).take (l.length - (k+1))):=⟨_,rfl⟩;have cb:=fun w=>fO l (k+1) l.length w;rw[<-hpb] at cb;replace cb:=ax cb
       have hE:aJ (bV l=Ka true pa pb):=ax (by
        rw[HP.o,wR,hpb,drop_zero,Nat.sub_zero,take_of_length_le (l:=l.drop (k+1)) (by simp)]
        rw[if_neg hlast];rfl)
       clear wR hpb HP
       cases pa with
       | none=>
        have hR:aJ (bV l=none):=ax hE.o;clear hE;(go_wp2_with fail);refine(ca.o _).mono ?_;rintro e w2 ⟨rfl,rfl⟩;(go_wp2_with fail);refine(cb.o _).mono ?_;rintro e w2 ⟨rfl,rfl⟩;go_wp2;refine bodyPost_ret (v:=.tuple #[.agg #[.bool false,.int .i64 0,.int .i64 0],.bool false]) (by simp[results,Tryz.results61,go_sem]) rfl ⟨by rw[hR.o];rfl,aj⟩
       | some a=>
        cases pb with
        | none=>
         have hR:aJ (bV l=none):=ax hE.o;clear hE;(go_wp2_with fail);refine(ca.o _).mono ?_;rintro e w2 ⟨rfl,rfl⟩;(go_wp2_with fail);refine(cb.o _).mono ?_;rintro e w2 ⟨rfl,rfl⟩;go_wp2;refine bodyPost_ret (v:=.tuple #[.agg #[.bool false,.int .i64 0,.int .i64 0],.bool false]) (by simp[results,Tryz.results61,go_sem]) rfl ⟨by rw[hR.o];rfl,aj⟩
        | some b=>
         have hR:aJ (bV l=some ⟨true,(a:Int),(b:Int)⟩):=ax hE.o;clear hE;(go_wp2_with fail);refine(ca.o _).mono ?_;rintro e w2 ⟨rfl,rfl⟩;(go_wp2_with fail);refine(cb.o _).mono ?_;rintro e w2 ⟨rfl,rfl⟩;go_wp2;refine bodyPost_ret (v:=.tuple #[.agg #[.bool true,.int .i64 a,.int .i64 b],.bool true]) (by simp[results,Tryz.results61,go_sem]) rfl ⟨by rw[hR.o];rfl,aj⟩
     ·have hk0i:¬(0:Int)<(k:Int):=by omega
      have hlast:¬(l.take k).getLast? = some 33:=by
       obtain rfl:k=0:=by omega
       simp
      clear hk0;obtain⟨pa,wR⟩:∃x,x=dU ((l.drop 0).take (k - 0)):=⟨_,rfl⟩;have ca:=fun w=>fO l 0 k w;rw[<-wR] at ca;replace ca:=ax ca;obtain⟨pb,hpb⟩:∃x,x=dU ((l.drop (k+1)).take (l.length - (k+1))):=⟨_,rfl⟩;have cb:=fun w=>fO l (k+1) l.length w;rw[<-hpb] at cb;replace cb:=ax cb
      have hE:aJ (bV l=Ka true pa pb):=ax (by
       rw[HP.o,wR,hpb,drop_zero,Nat.sub_zero,take_of_length_le (l:=l.drop (k+1)) (by simp)]
       rw[if_neg hlast];rfl)
      clear wR hpb HP
      cases pa with
      | none=>
       have hR:aJ (bV l=none):=ax hE.o;clear hE;(go_wp2_with fail);refine(ca.o _).mono ?_;rintro e w2 ⟨rfl,rfl⟩;(go_wp2_with fail);refine(cb.o _).mono ?_;rintro e w2 ⟨rfl,rfl⟩;go_wp2;refine bodyPost_ret (v:=.tuple #[.agg #[.bool false,.int .i64 0,.int .i64 0],.bool false]) (by simp[results,Tryz.results61,go_sem]) rfl ⟨by rw[hR.o];rfl,aj⟩
      | some a=>
       cases pb with
       | none=>
        have hR:aJ (bV l=none):=ax hE.o;clear hE;(go_wp2_with fail);refine(ca.o _).mono ?_;rintro e w2 ⟨rfl,rfl⟩;(go_wp2_with fail);refine(cb.o _).mono ?_;rintro e w2 ⟨rfl,rfl⟩;go_wp2;refine bodyPost_ret (v:=.tuple #[.agg #[.bool false,.int .i64 0,.int .i64 0],.bool false]) (by simp[results,Tryz.results61,go_sem]) rfl ⟨by rw[hR.o];rfl,aj⟩
       | some b=>
        have hR:aJ (bV l=some ⟨true,(a:Int),(b:Int)⟩):=ax hE.o;clear hE;(go_wp2_with fail);refine(ca.o _).mono ?_;rintro e w2 ⟨rfl,rfl⟩;(go_wp2_with fail);refine(cb.o _).mono ?_;rintro e w2 ⟨rfl,rfl⟩;go_wp2;refine bodyPost_ret (v:=.tuple #[.agg #[.bool true,.int .i64 a,.int .i64 b],.bool true]) (by simp[results,Tryz.results61,go_sem]) rfl ⟨by rw[hR.o];rfl,aj⟩
    ·obtain⟨c,hcc⟩:∃c,c=l[k]:=⟨_,rfl⟩;rw[<-hcc] at hx hc;have hb:((c.toNat:Int) == 61)=false:=by rw[show (61:Int)=((61:Nat):Int) from rfl,xK c 61 (by decide)];simpa using hc
     have HM:aJ (∀j (hj:j<k+1) (hj2:j<l.length),l[j]≠61):=ax fun j hj hj2=>by
      by_cases e:j=k
      ·subst e;rw[<-hcc];exact hc
      ·exact HN.o j (by omega) hj2
     clear hcc hc;(go_wp2_with fail)
     go_round
     case rel=>exact⟨k+1,by omega,by go_num,HM,by first|rfl|trivial⟩
     case measure=>simp[intOf];omega
   ·obtain rfl:k=l.length:=by omega
    have HP:=ax (LD fun j hj=>HN.o j hj hj);go_wp2;refine bodyPost_ret (v:=.tuple #[.agg #[.bool false,.int .i64 0,.int .i64 0],.bool false]) (by simp[results,Tryz.results61,go_sem]) rfl ⟨by rw[HP.o];rfl,aj⟩
 ·have Pd:¬(l.length:Int)<=9:=by omega
  have hl0:(0:Int)<(l.length:Int):=by omega
  have HP:=ax (show bV l=none by unfold bV;rw[if_pos (by omega)]);clear hl;(go_enter Tryz.func61,Tryz.ntmps61);(go_wp2_with fail)
  go_loopw [4] (fun i wr=>i=.int .i64 0/\wr=w.alloc (.cells #[.bool false,.int .i64 0,.int .i64 0] tF)) (fun _ _=>0)
  case atStart=>exact⟨rfl,rfl⟩
  case round=>
   obtain⟨rfl,rfl⟩:=hrel;go_wp2;refine bodyPost_ret (v:=.tuple #[.agg #[.bool false,.int .i64 0,.int .i64 0],.bool false]) (by simp[results,Tryz.results61,go_sem]) rfl ⟨by rw[HP.o];rfl,aj⟩
theorem Jc{l:Bs}{k:Nat}(hl:l.length<=7)(hk:k<l.length)(h:nS l[k]=true)(hn:∀j (hj:j<k),nS l[j]=false) :
  eX l=CV (if l[k]=126 then 2 else 1) (dU (l.take k)) (dU (l.drop (k+1))):=by
 unfold eX;rw[if_neg (by omega),Kc hk h hn]
theorem LF{l:Bs}(hn:∀j (hj:j<l.length),nS l[j]=false):eX l=none:=by
 unfold eX;rw[Ke hn]
 split<;>rfl
theorem vT(kd:Int)(a:Nat)(pb:Option Nat):(CV kd (some a) pb).isSome=pb.isSome:=by cases pb<;>rfl
theorem Gn(l:Bs)(w:World):Calls Tryz.prog 62 #[sv l] w fun e w'=>∃y:aL,e=.returned (.tuple #[.agg #[.int .i64 y.kind,.int .i64 y.a,.int .i64 y.b],.bool (eX l).isSome])/\(∀z,eX l=some z->y=z)/\Below w.heap.size w w':=by
 by_cases hl:l.length<=7
 ·have Pd:(l.length:Int)<=7:=by omega
  (go_enter Tryz.func62,Tryz.ntmps62);(go_wp2_with fail)
  go_loopw [4] (fun i wr=>∃k:Nat,k<=l.length/\i=.int .i64 k/\aJ (∀j (hj:j<k) (hj2:j<l.length),nS l[j]=false)/\wr=w.alloc (.cells #[.int .i64 0,.int .i64 0,.int .i64 0] tA)) (fun i _=>l.length - (intOf i).toNat)
  case atStart=>exact⟨0,by omega,rfl,ax fun j h=>by omega,rfl⟩
  case round=>
   obtain⟨k,hk,rfl,HN,rfl⟩:=hrel;by_cases hlt:k<l.length
   ·have hki:(k:Int)<(l.length:Int):=by omega
    have hx:=LC l k hlt;cases hc:nS l[k]
    ·obtain⟨c,hcc⟩:∃c,c=l[k]:=⟨_,rfl⟩
     have HM:aJ (∀j (hj:j<k+1) (hj2:j<l.length),nS l[j]=false):=ax fun j hj hj2=>by
      by_cases e:j=k
      ·subst e;exact hc
      ·exact HN.o j (by omega) hj2
     rw[<-hcc] at hx hc;have h2:¬c=62/\¬c=126:=by unfold nS at hc;simpa using hc
     have hb1:((c.toNat:Int) == 62)=false:=by rw[show (62:Int)=((62:Nat):Int) from rfl,xK c 62 (by decide)];simpa using h2.1
     have hb1x:¬((c.toNat:Int)=62):=by simpa using hb1
     have hb1y:((c.toNat:Int) != 62)=true:=by simpa using hb1
     have hb2:((c.toNat:Int) == 126)=false:=by rw[show (126:Int)=((126:Nat):Int) from rfl,xK c 126 (by decide)];simpa using h2.2
     have hb2x:¬((c.toNat:Int)=126):=by simpa using hb2
     have hb2y:((c.toNat:Int) != 126)=true:=by simpa using hb2
     clear hcc hc h2;(go_wp2_with fail)
     go_round
     case rel=>exact⟨k+1,by omega,by go_num,HM,by first|rfl|trivial⟩
     case measure=>simp[intOf];omega
    ·have HP:=ax (Jc hl hlt hc fun j hj=>HN.o j hj (by omega));obtain⟨c,hcc⟩:∃c,c=l[k]:=⟨_,rfl⟩;rw[<-hcc] at hx hc HP;have h2:c=62\/c=126:=by unfold nS at hc;simpa using hc
     clear hcc hc;obtain⟨pa,wR⟩:∃x,x=dU ((l.drop 0).take (k - 0)):=⟨_,rfl⟩;have ca:=fun w=>fO l 0 k w;rw[<-wR] at ca;replace ca:=ax ca;obtain⟨pb,hpb⟩:∃x,x=dU ((l.drop (k+1)).take (l.length - (k+1))):=⟨_,rfl⟩;have cb:=fun w=>fO l (k+1) l.length w;rw[<-hpb] at cb;replace cb:=ax cb
     have hE:aJ (eX l=CV (if c=126 then 2 else 1) pa pb):=ax (by
      rw[HP.o,wR,hpb,drop_zero,Nat.sub_zero,take_of_length_le (l:=l.drop (k+1)) (by simp)])
     clear wR hpb HP;rcases h2 with h2|h2
     ·replace hE:aJ (eX l=CV 1 pa pb):=ax (by rw[hE.o,h2];rfl);subst h2
      cases pa with
      | none=>
       have hR:aJ (eX l=none):=ax hE.o;clear hE;(go_wp2_with fail);refine(ca.o _).mono ?_;rintro e w2 ⟨rfl,rfl⟩;(go_wp2_with fail);refine(cb.o _).mono ?_;rintro e w2 ⟨rfl,rfl⟩;obtain⟨nb,hnb⟩:∃nb:Nat,nb=pb.getD 0:=⟨_,rfl⟩;rw[<-hnb];clear hnb;go_wp2;refine bodyPost_ret (v:=.tuple #[.agg #[.int .i64 1,.int .i64 0,.int .i64 nb],.bool false]) (by simp[results,Tryz.results62,go_sem]) rfl ⟨⟨1,0,nb⟩,by rw[hR.o];rfl,(by rw[hR.o];intro z h;cases h),aj⟩
      | some a=>
       have hS:aJ ((eX l).isSome=pb.isSome):=ax (by rw[hE.o,vT]);obtain⟨nb,hnb⟩:∃nb:Nat,nb=pb.getD 0:=⟨_,rfl⟩
       have hZ:aJ (∀z,eX l=some z->(⟨1,(a:Int),(nb:Int)⟩:aL)=z):=ax (by
        intro z hz;rw[hE.o,hnb] at*
        cases pb with
        | none=>cases hz
        | some b=>injection hz)
       clear hE;(go_wp2_with fail);refine(ca.o _).mono ?_;rintro e w2 ⟨rfl,rfl⟩;(go_wp2_with fail);refine(cb.o _).mono ?_;rintro e w2 ⟨rfl,rfl⟩;obtain⟨sb,hsb⟩:∃sb:Bool,sb=pb.isSome:=⟨_,rfl⟩;rw[<-hsb] at hS⊢;rw[<-hnb];clear hnb hsb;go_wp2;refine bodyPost_ret (v:=.tuple #[.agg #[.int .i64 1,.int .i64 a,.int .i64 nb],.bool sb]) (by simp[results,Tryz.results62,go_sem]) rfl ⟨⟨1,a,nb⟩,by rw[hS.o],hZ.o,aj⟩
     ·replace hE:aJ (eX l=CV 2 pa pb):=ax (by rw[hE.o,h2];rfl);subst h2
      cases pa with
      | none=>
       have hR:aJ (eX l=none):=ax hE.o;clear hE;(go_wp2_with fail);refine(ca.o _).mono ?_;rintro e w2 ⟨rfl,rfl⟩;(go_wp2_with fail);refine(cb.o _).mono ?_;rintro e w2 ⟨rfl,rfl⟩;obtain⟨nb,hnb⟩:∃nb:Nat,nb=pb.getD 0:=⟨_,rfl⟩;rw[<-hnb];clear hnb;go_wp2;refine bodyPost_ret (v:=.tuple #[.agg #[.int .i64 2,.int .i64 0,.int .i64 nb],.bool false]) (by simp[results,Tryz.results62,go_sem]) rfl ⟨⟨2,0,nb⟩,by rw[hR.o];rfl,(by rw[hR.o];intro z h;cases h),aj⟩
      | some a=>
       have hS:aJ ((eX l).isSome=pb.isSome):=ax (by rw[hE.o,vT]);obtain⟨nb,hnb⟩:∃nb:Nat,nb=pb.getD 0:=⟨_,rfl⟩
       have hZ:aJ (∀z,eX l=some z->(⟨2,(a:Int),(nb:Int)⟩:aL)=z):=ax (by
        intro z hz;rw[hE.o,hnb] at*
        cases pb with
        | none=>cases hz
        | some b=>injection hz)
       clear hE;(go_wp2_with fail);refine(ca.o _).mono ?_;rintro e w2 ⟨rfl,rfl⟩;(go_wp2_with fail);refine(cb.o _).mono ?_;rintro e w2 ⟨rfl,rfl⟩;obtain⟨sb,hsb⟩:∃sb:Bool,sb=pb.isSome:=⟨_,rfl⟩;rw[<-hsb] at hS⊢;rw[<-hnb];clear hnb hsb;go_wp2;refine bodyPost_ret (v:=.tuple #[.agg #[.int .i64 2,.int .i64 a,.int .i64 nb],.bool sb]) (by simp[results,Tryz.results62,go_sem]) rfl ⟨⟨2,a,nb⟩,by rw[hS.o],hZ.o,aj⟩
   ·obtain rfl:k=l.length:=by omega
    have HP:=ax (LF fun j hj=>HN.o j hj hj);go_wp2;refine bodyPost_ret (v:=.tuple #[.agg #[.int .i64 0,.int .i64 0,.int .i64 0],.bool false]) (by simp[results,Tryz.results62,go_sem]) rfl ⟨⟨0,0,0⟩,by rw[HP.o];rfl,(by rw[HP.o];intro z h;cases h),aj⟩
 ·have Pd:¬(l.length:Int)<=7:=by omega
  have hl0:(0:Int)<(l.length:Int):=by omega
  have HP:=ax (show eX l=none by unfold eX;rw[if_pos (by omega)]);clear hl;(go_enter Tryz.func62,Tryz.ntmps62);(go_wp2_with fail)
  go_loopw [4] (fun i wr=>i=.int .i64 0/\wr=w.alloc (.cells #[.int .i64 0,.int .i64 0,.int .i64 0] tA)) (fun _ _=>0)
  case atStart=>exact⟨rfl,rfl⟩
  case round=>
   obtain⟨rfl,rfl⟩:=hrel;go_wp2;refine bodyPost_ret (v:=.tuple #[.agg #[.int .i64 0,.int .i64 0,.int .i64 0],.bool false]) (by simp[results,Tryz.results62,go_sem]) rfl ⟨⟨0,0,0⟩,by rw[HP.o];rfl,(by rw[HP.o];intro z h;cases h),aj⟩
theorem NW(x c:UInt8):((x.toNat:Int) == (c.toNat:Int))=decide (x=c):=by
 rw[Bool.eq_iff_iff,beq_iff_eq,decide_eq_true_iff];constructor
 ·intro h;exact UInt8.toNat_inj.1 (by omega)
 ·rintro rfl;rfl
def pJ(c:UInt8)(l:Bs)(i fr:Nat)(xs:List Bs):Prop:=
 fr<=i/\xs.length<=i/\(i<=l.length->eY c l=xs++kY c ((l.drop fr).take (i - fr)) (l.drop i))/\(l.length<i->eY c l=xs)
theorem pJ.start(c:UInt8)(l:Bs):pJ c l 0 0 []:=⟨bn,bn,fun _=>by simp[eY],fun h=>by omega⟩
theorem pJ.hit{c:UInt8}{l:Bs}{i fr:Nat}{xs:List Bs}(h:pJ c l i fr xs)(hi:i<l.length)(hc:l[i]=c):pJ c l (i+1) (i+1) (xs++[(l.drop fr).take (i - fr)]):=by
 obtain⟨h1,h2,h3,h4⟩:=h;refine⟨bn,by simpa using h2,fun _=>?_,fun h=>by omega⟩;rw[h3 (by omega),drop_eq_getElem_cons hi,kY,if_pos hc];simp
theorem pJ.miss{c:UInt8}{l:Bs}{i fr:Nat}{xs:List Bs}(h:pJ c l i fr xs)(hi:i<l.length)(hc:l[i]≠c):pJ c l (i+1) fr xs:=by
 obtain⟨h1,h2,h3,h4⟩:=h;refine⟨by omega,by omega,fun _=>?_,fun h=>by omega⟩;rw[h3 (by omega),drop_eq_getElem_cons hi,kY,if_neg hc]
 congr 2
 rw[show i+1 - fr=(i - fr)+1 by omega,List.take_add_one,List.getElem?_drop,show fr+(i - fr)=i by omega,List.getElem?_eq_getElem hi];rfl
theorem pJ.last{c:UInt8}{l:Bs}{i fr:Nat}{xs:List Bs}(h:pJ c l i fr xs)(hi:i=l.length):pJ c l (i+1) (i+1) (xs++[(l.drop fr).take (i - fr)]):=by
 obtain⟨h1,h2,h3,h4⟩:=h;refine⟨bn,by simpa using h2,fun h=>by omega,fun _=>?_⟩;rw[h3 (by omega),hi,List.drop_length,kY]
theorem Kg(w:World)(l:Bs)(i j:Nat)(t:TypeId):(w.alloc (.cells #[.string ((ByteArray.mk l.toArray).extract i j)] t)).cell? ⟨w.heap.size,0,none⟩=some (sv ((l.drop i).take (j - i))):=by
 rw[NV];exact jR w _ t
theorem Gp(l:Bs)(c:UInt8)(w:World)(hl:l.length<=1049000):Calls Tryz.prog 65 #[sv l,.int .u8 (c.toNat:Nat)] w fun e w'=>∃r,e=.returned r/\fM w' w.heap.size r (eY c l)/\Below w.heap.size w w':=by
 (go_enter Tryz.func65,Tryz.ntmps65);have hO:fM (w.alloc (.cells #[] tS)) w.heap.size (.slice (some ⟨w.heap.size,0,none⟩) 0 0) []:=fM.empty _ rfl;have hB:Below w.heap.size w (w.alloc (.cells #[] tS)):=aj;(go_wp2_with fail)
 go_loopw [5,6,7] (fun u fr i wr=>∃(k f:Nat) (A:Option Addr) (d:Nat) (xs:List Bs),k<=l.length+1/\i=.int .i64 k/\fr=.int .i64 f/\u=.slice A xs.length d/\fM wr w.heap.size (.slice A xs.length d) xs/\aJ (pJ c l k f xs)/\aJ (Below w.heap.size w wr)) (fun _ _ i _=>l.length+1 - (intOf i).toNat)
 case atStart=>exact⟨0,0,_,0,[],by omega,rfl,rfl,rfl,hO,ax (pJ.start c l),hB⟩
 case round=>
  clear hO hB;obtain⟨k,f,A,d,xs,hk,rfl,rfl,rfl,hO,hC,HB⟩:=hrel;have HO:=ax hO;have hf:=hC.o.1;have hx:=hC.o.2.1;have hz:=HB.o.size;clear hO;by_cases hle:k<=l.length
  ·have hkl:(k:Int)<=(l.length:Int):=by omega
   by_cases hlt:k<l.length
   ·have hki:(k:Int)<(l.length:Int):=by omega
    have hke:((k:Int) == (l.length:Int))=false:=by simp;omega
    have hb:=LC l k hlt;by_cases hc:l[k]=c
    ·have hN:=ax (hC.o.hit hlt hc);obtain⟨x,AY⟩:∃x,x=l[k]:=⟨_,rfl⟩;rw[<-AY] at hb hc;have hbc:((x.toNat:Int) == (c.toNat:Int))=true:=by rw[NW];simpa using hc
     clear hc AY;(go_wp2_with (at_builtin;refine Tm rfl _ _ rfl (v:=.slice A xs.length d) rfl (fM.bz (w:=wr) HO.o aj) wr.heap.size ((l.drop f).take (k - f)) rfl (Kg wr l f k _) (by omega) (by simp;omega) ?_;intro g2 d2 w2 o2 hg2 hB2));have tJ:Below w.heap.size w w2:=((HB.o.alloc hz _).trans hB2)
     go_round
     case rel=>exact⟨k+1,k+1,some ⟨g2,0,none⟩,d2,xs++[(l.drop f).take (k - f)],by omega,by go_num,by go_num,by simp,by simpa using o2,hN,tJ⟩
     case measure=>simp[intOf];omega
    ·have hN:=ax (hC.o.miss hlt hc);obtain⟨x,AY⟩:∃x,x=l[k]:=⟨_,rfl⟩;rw[<-AY] at hb hc;have hbc:((x.toNat:Int) == (c.toNat:Int))=false:=by rw[NW];simpa using hc
     clear hc AY;(go_wp2_with fail)
     go_round
     case rel=>exact⟨k+1,f,A,d,xs,by omega,by go_num,rfl,rfl,HO.o,hN,HB.o⟩
     case measure=>simp[intOf];omega
   ·have hke:((k:Int) == (l.length:Int))=true:=by simp;omega
    have hN:=ax (hC.o.last (by omega));(go_wp2_with (at_builtin;refine Tm rfl _ _ rfl (v:=.slice A xs.length d) rfl (fM.bz (w:=wr) HO.o aj) wr.heap.size ((l.drop f).take (k - f)) rfl (Kg wr l f k _) (by omega) (by simp;omega) ?_;intro g2 d2 w2 o2 hg2 hB2));have tJ:Below w.heap.size w w2:=((HB.o.alloc hz _).trans hB2)
    go_round
    case rel=>exact⟨k+1,k+1,some ⟨g2,0,none⟩,d2,xs++[(l.drop f).take (k - f)],by omega,by go_num,by go_num,by simp,by simpa using o2,hN,tJ⟩
    case measure=>simp[intOf];omega
  ·have hkl:¬(k:Int)<=(l.length:Int):=by omega
   have hE:=ax (hC.o.2.2.2 (by omega));go_wp2;go_ret;exact⟨_,rfl,by rw[hE.o];exact HO.o,HB.o⟩
theorem Jd{ss:List Bs}{k:Nat}(hk:k<ss.length):(ss.take (k+1)).filter (fun x=>decide (x≠[]))=(ss.take k).filter (fun x=>decide (x≠[]))++(if ss[k]=[] then [] else [ss[k]]):=by
 rw[List.take_add_one,List.filter_append,List.getElem?_eq_getElem hk]
 congr 1
 by_cases h:ss[k]=[]<;>simp[h]
theorem Je(l:Bs)(w:World)(hl:l.length<=1049000):Calls Tryz.prog 60 #[sv l] w fun e w'=>∃r,e=.returned r/\fM w' w.heap.size r (uI l)/\Below w.heap.size w w':=by
 (go_enter Tryz.func60,Tryz.ntmps60);(go_wp2_with fail);refine(Gp l 32 _ hl).mono ?_;rintro e w1 ⟨r1,rfl,o1,hB1⟩;obtain⟨A1,d1,rfl,v1⟩:=o1.rj;have hW:=ax (show uI l=((eY 32 l).take (eY 32 l).length).filter fun x=>decide (x≠[]) by rw[List.take_length];rfl);have hn:=kZ 32 l []
 change (eY 32 l).length<=_ at hn
 obtain⟨ss,hss⟩:∃ss,ss=eY 32 l:=⟨_,rfl⟩;rw[<-hss] at v1 hW hn⊢;have HV:=ax v1;have z1:=hB1.size;have HW1:=ax hB1;have hO:fM (w1.alloc (.cells #[] tS)) w1.heap.size (.slice (some ⟨w1.heap.size,0,none⟩) 0 0) []:=fM.empty _ rfl;have hB:Below w1.heap.size w1 (w1.alloc (.cells #[] tS)):=aj;clear v1 o1 hB1 hss;(go_wp2_with fail)
 go_loopw [4,5] (fun u i wr=>∃(k:Nat) (A:Option Addr) (d:Nat) (xs:List Bs),k<=ss.length/\i=.int .i64 k/\u=.slice A xs.length d/\fM wr w1.heap.size (.slice A xs.length d) xs/\aJ (xs=(ss.take k).filter fun x=>decide (x≠[]))/\aJ (Below w1.heap.size w1 wr)) (fun _ i _=>ss.length - (intOf i).toNat)
 case atStart=>exact⟨0,_,0,[],by omega,rfl,rfl,hO,ax rfl,hB⟩
 case round=>
  clear hO hB;obtain⟨k,A,d,xs,hk,rfl,rfl,hO,hC,HB⟩:=hrel;have HO:=ax hO;have hx:xs.length<=k:=by rw[hC.o];exact Nat.le_trans (List.length_filter_le _ _) (by simp;omega)
  have hz:=HB.o.size;clear hO;by_cases hlt:k<ss.length
  ·have hki:(k:Int)<(ss.length:Int):=by omega
   have hN:=ax (Jd hlt);obtain⟨b,o,rfl,hc⟩:=(HV.o.bz HB.o).at hlt;have hbl:=block_lt_of_cell hc;obtain⟨x,AY⟩:∃x,x=ss[k]:=⟨_,rfl⟩;rw[<-AY] at hc hN;clear AY;by_cases he:x=[]
   ·subst he;have hN2:aJ (xs=(ss.take (k+1)).filter fun x=>decide (x≠[])):=ax (by rw[hN.o,hC.o];simp);clear hN;(go_wp2_with fail)
    go_round
    case rel=>exact⟨k+1,A,d,xs,by omega,by go_num,rfl,HO.o,hN2,HB.o⟩
    case measure=>simp[intOf];omega
   ·have hN2:aJ (xs++[x]=(ss.take (k+1)).filter fun x=>decide (x≠[])):=ax (by rw[hN.o,hC.o,if_neg he]);have heb:(x == [])=false:=by rw[bP];simpa using he
    clear hN;(go_wp2_with (at_builtin;refine Tm rfl _ _ rfl (v:=.slice A xs.length d) rfl (fM.bz (w:=wr) HO.o aj) wr.heap.size x rfl (jR wr _ _) (by omega) (by simp;omega) ?_;intro g2 d2 w2 o2 hg2 hB2));have tJ:Below w1.heap.size w1 w2:=((HB.o.alloc hz _).trans hB2)
    go_round
    case rel=>exact⟨k+1,some ⟨g2,0,none⟩,d2,xs++[x],by omega,by go_num,by simp,by simpa using o2,hN2,tJ⟩
    case measure=>simp[intOf];omega
  ·obtain rfl:k=ss.length:=by omega
   go_wp2;go_ret;exact⟨_,rfl,by rw[hW.o,<-hC.o];exact HO.o.bq z1,aP HW1.o HB.o⟩
theorem DZ{α:Type}[Inhabited α]{xs:List α}{k:Nat}(h:k<xs.length):xs.getD k default=xs[k]:=by simp[getD,List.getElem?_eq_getElem h]
theorem Gq{lo hi:Nat}(v:Value)(a:au)(w:World)(h:aM w lo hi v a):Calls Tryz.prog 85 #[v] w fun e w'=>e=.returned (sv (AR a))/\Below w.heap.size w w':=by
 obtain⟨A1,c1,A2,c2,rfl,h1,h2⟩:=h;have hl1:=h1.le;have hl2:=h2.le;unfold il at hl1 hl2;have hlT:=ax (AV a.facts);have Ps:=ax (show AR a=if a.atoms.length=0 then lh a.facts++[32,124,32,101,109,112] else lN (lh a.facts) a.atoms a.atoms.length from rfl);have H1:=ax h1;have H2:=ax h2;clear h1 h2;(go_enter Tryz.func85,Tryz.ntmps85);(go_wp2_with fail)
 go_loopw [3,4] (fun o i wr=>∃(k:Nat) (X:Bs),k<=a.facts.length/\i=.int .i64 k/\o=sv X/\aJ (X=BP a.facts k)/\ae wr w.heap.size 26 #[.slice A1 a.facts.length c1,.slice A2 a.atoms.length c2]/\aJ (Below w.heap.size w wr)) (fun _ i _=>a.facts.length - (intOf i).toNat)
 case atStart=>exact⟨0,[],dJ,rfl,rfl,ax rfl,az,aj⟩
 case round=>
  obtain⟨k,X,hk,rfl,rfl,hX,k0,hB⟩:=hrel;have bT:=k0.cell;have JA:=k0.frozen;have EE:=k0.lt;by_cases hlt:k<a.facts.length
  ·obtain⟨b,off,rfl,hbl⟩:=H1.o.blt hlt;obtain⟨g0,g1,g2⟩:=(H1.o.bz hB.o).cl hlt;have Tn:X.length<=k * 11:=by rw[hX.o];exact AU _ _
   have hFl:=vQ a.facts[k];have hS:=ax (show BP a.facts (k+1)=(if 0<k then BP a.facts k++[32,38,32] else BP a.facts k)++AQ (a.facts.getD k default) from rfl);have hD:=ax (DZ hlt);obtain⟨f,hf⟩:∃f,f=a.facts[k]:=⟨_,rfl⟩;rw[<-hf] at g0 g1 g2 hFl hD;obtain⟨F,hF⟩:∃F,F=AQ f:=⟨_,rfl⟩;have hc:=Gm f;rw[<-hF] at hc hFl;replace hc:=ax hc;replace hF:=ax hF;clear hf;by_cases hz:k=0
   ·have hki:¬(0:Int)<(k:Int):=by omega
    have hz0:¬0<k:=by omega
    clear hz;obtain⟨S2,e2,n2⟩:=iK (P:=Tryz.prog) X F (by omega);(go_wp2_with fail);refine(hc.o _).mono ?_;rintro e w2 ⟨rfl,hB2⟩;(go_wp2_with fail)
    go_round
    case rel=>exact⟨k+1,S2,by omega,by go_num,rfl,ax (by rw[e2.o,hS.o,hD.o,hF.o,hX.o,if_neg hz0]),k0.nz hB2,aP hB.o hB2⟩
    case measure=>simp[intOf];omega
   ·have hki:(0:Int)<(k:Int):=by omega
    obtain⟨S1,e1,n1⟩:=iK (P:=Tryz.prog) X [32,38,32] (by simp;omega);have hS1:S1.length<=k * 11+3:=by rw[e1.o];simp;omega
    obtain⟨S2,e2,n2⟩:=iK (P:=Tryz.prog) S1 F (by omega);have hz0:0<k:=by omega
    clear hS1 Tn;(go_wp2_with fail);refine(hc.o _).mono ?_;rintro e w2 ⟨rfl,hB2⟩;(go_wp2_with fail)
    go_round
    case rel=>exact⟨k+1,S2,by omega,by go_num,rfl,ax (by rw[e2.o,e1.o,hS.o,hD.o,hF.o,hX.o,if_pos hz0]),k0.nz hB2,aP hB.o hB2⟩
    case measure=>simp[intOf];omega
  ·obtain rfl:k=a.facts.length:=by omega
   by_cases hz:a.facts.length=0
   ·have hzi:((a.facts.length:Int) == 0)=true:=by simp[hz]
    have HTX:aJ (lh a.facts=[116,114,117,101]):=ax (by unfold lh;rw[if_pos hz]);clear hX hz;have WA:aJ (lh a.facts=[116,114,117,101]):=ax HTX.o;have hTl:([116,114,117,101]).length<=4+a.facts.length * 11:=by have h:=hlT.o;rw[WA.o] at h;exact h
    obtain⟨S0,e0,n0⟩:=iK (P:=Tryz.prog) [116,114,117,101] [32,124,32,101,109,112] (by first|omega|(simp;done)|(simp;omega));have NY:=ax (by have h:=Ps.o;rw[WA.o] at h;exact h);by_cases hy:a.atoms.length=0
    ·have hyi:((a.atoms.length:Int) == 0)=true:=by simp[hy]
     have E1:=ax (NY.o.trans (if_pos hy));clear hy hTl;go_wp2;go_ret;exact⟨fH (by rw[E1.o,e0.o]),hB.o⟩
    ·have hyi:((a.atoms.length:Int) == 0)=false:=by simp[hy]
     have E1:=ax (NY.o.trans (if_neg hy));clear hy n0 e0;(go_wp2_with fail)
     go_loopw [3,5,6] (fun o i s wx=>∃(k:Nat) (X:Bs),k<=a.atoms.length/\i=.int .i64 k/\o=sv X/\aJ (X=lN ([116,114,117,101]) a.atoms k)/\ae wx w.heap.size 26 #[.slice A1 a.facts.length c1,.slice A2 a.atoms.length c2]/\aJ (Below w.heap.size w wx)) (fun _ i _ _=>a.atoms.length - (intOf i).toNat)
     case atStart=>exact⟨0,[116,114,117,101],dJ,rfl,rfl,ax rfl,k0,hB⟩
     case round=>
      clear k0 bT JA EE hB;obtain⟨k,X,hk,rfl,rfl,hX,k0,hB⟩:=hrel;have bT:=k0.cell;have JA:=k0.frozen;have EE:=k0.lt;by_cases hlt:k<a.atoms.length
      ·obtain⟨b,off,rfl,hbl⟩:=H2.o.blt hlt;obtain⟨g0,g1,g2⟩:=(H2.o.bz hB.o).cl hlt;have Tn:X.length<=([116,114,117,101]).length+k * 10:=by rw[hX.o];exact vR _ _ _
       have hS:=ax (show lN ([116,114,117,101]) a.atoms (k+1)=(if k=0 then lN ([116,114,117,101]) a.atoms k++[32,124,32] else lN ([116,114,117,101]) a.atoms k++[32,42,32])++bA (a.atoms.getD k default).a++sw (a.atoms.getD k default)++bA (a.atoms.getD k default).b from rfl);have hD:=ax (DZ hlt);obtain⟨f,hf⟩:∃f,f=a.atoms[k]:=⟨_,rfl⟩;rw[<-hf] at g0 g1 g2 hD;clear hf;obtain⟨kd,ta,tb⟩:=f;simp only at g0 g1 g2;have la:=dx ta;have lb:=dx tb;have ca:=gm ta;have cb:=gm tb;obtain⟨NA,LG⟩:∃N,N=bA ta:=⟨_,rfl⟩;obtain⟨NB,LH⟩:∃N,N=bA tb:=⟨_,rfl⟩;rw[<-LG] at la ca;rw[<-LH] at lb cb;replace ca:=ax ca;replace cb:=ax cb;replace LG:=ax LG;replace LH:=ax LH;obtain⟨sep,hsep⟩:∃sep:Bs,sep=if k=0 then [32,124,32] else [32,42,32]:=⟨_,rfl⟩;have NZ:sep.length=3:=by rw[hsep];split<;>rfl
       obtain⟨S1,e1,n1⟩:=iK (P:=Tryz.prog) X sep (by omega);have l1:S1.length=X.length+3:=by rw[e1.o,length_append,NZ]
       obtain⟨S2,e2,n2⟩:=iK (P:=Tryz.prog) S1 NA (by omega);have l2:S2.length<=X.length+6:=by rw[e2.o,length_append];omega
       obtain⟨sg,hsg⟩:∃sg,sg=sw ⟨kd,ta,tb⟩:=⟨_,rfl⟩;have WB:sg.length=1:=by rw[hsg];unfold sw;split<;>rfl
       obtain⟨S3,e3,n3⟩:=iK (P:=Tryz.prog) S2 sg (by omega);have l3:S3.length<=X.length+7:=by rw[e3.o,length_append];omega
       obtain⟨S4,e4,n4⟩:=iK (P:=Tryz.prog) S3 NB (by omega)
       have Ea:aJ (S4=lN ([116,114,117,101]) a.atoms (k+1)):=ax (by
        rw[hS.o,hD.o,e4.o,e3.o,e2.o,e1.o,hX.o,LG.o,LH.o,hsg,hsep]
        split<;>rfl)
       clear l1 l2 l3 NZ Tn la lb;have hb1:aJ (Below w.heap.size w wr):=hB;have sF:True:=trivial;have sG:True:=trivial;by_cases hk2:kd=2
       ·subst hk2;have Jf:sg=[126]:=hsg;subst Jf;clear hsg WB;by_cases hz0:k=0
        ·subst hz0;have ny:sep=[32,124,32]:=hsep;subst ny;clear hsep;have h0l:(0:Int)<(a.atoms.length:Int):=by omega
         simp only[Nat.zero_mul,Nat.add_zero,Nat.zero_add] at g0 g1 g2;(go_wp2_with fail)
         go_region_held3 (fun w'=>(∀i,w'.cell? ⟨w.heap.size,i,none⟩=#[.slice A1 a.facts.length c1,.slice (some ⟨b,off,none⟩) a.atoms.length c2][i]?)/\w'.cell? ⟨b,off+1,none⟩=some (.int .i64 ta)/\w'.cell? ⟨b,off+2,none⟩=some (.int .i64 tb))
          (exact⟨bT,g1,g2⟩)
          (first
           | (have _t:=sF;clear _t sF;go_at_call 116;refine(ca.o _).mono ?_;rintro e w' ⟨rfl,rfl⟩)
           | (have _t:=sG;clear _t sG;go_at_call 116;refine(cb.o _).mono ?_;rintro e w' ⟨rfl,rfl⟩))
         all_goals
          go_wp2_with fail
          go_round
          case rel=>exact⟨0+1,S4,by omega,by go_num,rfl,Ea,k0,ax hB.o.drew⟩
          case measure=>simp[intOf];omega
        ·have hki:((k:Int) == 0)=false:=by simp;omega
         have ny:sep=[32,42,32]:=by rw[hsep,if_neg hz0]
         subst ny;clear hsep hz0;(go_wp2_with fail)
         go_region_held3 (fun w'=>(∀i,w'.cell? ⟨w.heap.size,i,none⟩=#[.slice A1 a.facts.length c1,.slice (some ⟨b,off,none⟩) a.atoms.length c2][i]?)/\w'.cell? ⟨b,off+k * 3+1,none⟩=some (.int .i64 ta)/\w'.cell? ⟨b,off+k * 3+2,none⟩=some (.int .i64 tb))
          (exact⟨bT,g1,g2⟩)
          (first
           | (have _t:=sF;clear _t sF;go_at_call 116;refine(ca.o _).mono ?_;rintro e w' ⟨rfl,rfl⟩)
           | (have _t:=sG;clear _t sG;go_at_call 116;refine(cb.o _).mono ?_;rintro e w' ⟨rfl,rfl⟩))
         all_goals
          go_wp2_with fail
          go_round
          case rel=>exact⟨k+1,S4,by omega,by go_num,rfl,Ea,k0,ax hB.o.drew⟩
          case measure=>simp[intOf];omega
       ·have hk2b:(kd == 2)=false:=by simpa using hk2
        have Jf:sg=[62]:=by rw[hsg];unfold sw;rw[if_neg hk2]
        subst Jf;clear hsg WB hk2;by_cases hz0:k=0
        ·subst hz0;have ny:sep=[32,124,32]:=hsep;subst ny;clear hsep;have h0l:(0:Int)<(a.atoms.length:Int):=by omega
         simp only[Nat.zero_mul,Nat.add_zero,Nat.zero_add] at g0 g1 g2;(go_wp2_with fail)
         go_region_held3 (fun w'=>(∀i,w'.cell? ⟨w.heap.size,i,none⟩=#[.slice A1 a.facts.length c1,.slice (some ⟨b,off,none⟩) a.atoms.length c2][i]?)/\w'.cell? ⟨b,off+1,none⟩=some (.int .i64 ta)/\w'.cell? ⟨b,off+2,none⟩=some (.int .i64 tb))
          (exact⟨bT,g1,g2⟩)
          (first
           | (have _t:=sF;clear _t sF;go_at_call 116;refine(ca.o _).mono ?_;rintro e w' ⟨rfl,rfl⟩)
           | (have _t:=sG;clear _t sG;go_at_call 116;refine(cb.o _).mono ?_;rintro e w' ⟨rfl,rfl⟩))
         all_goals
          go_wp2_with fail
          go_round
          case rel=>exact⟨0+1,S4,by omega,by go_num,rfl,Ea,k0,ax hB.o.drew⟩
          case measure=>simp[intOf];omega
        ·have hki:((k:Int) == 0)=false:=by simp;omega
         have ny:sep=[32,42,32]:=by rw[hsep,if_neg hz0]
         subst ny;clear hsep hz0;(go_wp2_with fail)
         go_region_held3 (fun w'=>(∀i,w'.cell? ⟨w.heap.size,i,none⟩=#[.slice A1 a.facts.length c1,.slice (some ⟨b,off,none⟩) a.atoms.length c2][i]?)/\w'.cell? ⟨b,off+k * 3+1,none⟩=some (.int .i64 ta)/\w'.cell? ⟨b,off+k * 3+2,none⟩=some (.int .i64 tb))
          (exact⟨bT,g1,g2⟩)
          (first
           | (have _t:=sF;clear _t sF;go_at_call 116;refine(ca.o _).mono ?_;rintro e w' ⟨rfl,rfl⟩)
           | (have _t:=sG;clear _t sG;go_at_call 116;refine(cb.o _).mono ?_;rintro e w' ⟨rfl,rfl⟩))
         all_goals
          go_wp2_with fail
          go_round
          case rel=>exact⟨k+1,S4,by omega,by go_num,rfl,Ea,k0,ax hB.o.drew⟩
          case measure=>simp[intOf];omega
      ·obtain rfl:k=a.atoms.length:=by omega
       go_wp2;go_ret;exact⟨fH (by rw[E1.o,hX.o]),hB.o⟩
   ·have hzi:((a.facts.length:Int) == 0)=false:=by simp[hz]
    have HTX:aJ (lh a.facts=X):=ax (by unfold lh;rw[if_neg hz,hX.o]);clear hX hz;obtain⟨XT,rfl⟩:∃XT,XT=X:=⟨_,rfl⟩;have WA:aJ (lh a.facts=XT):=ax HTX.o;have hTl:(XT).length<=4+a.facts.length * 11:=by have h:=hlT.o;rw[WA.o] at h;exact h
    obtain⟨S0,e0,n0⟩:=iK (P:=Tryz.prog) XT [32,124,32,101,109,112] (by first|omega|(simp;done)|(simp;omega));have NY:=ax (by have h:=Ps.o;rw[WA.o] at h;exact h);by_cases hy:a.atoms.length=0
    ·have hyi:((a.atoms.length:Int) == 0)=true:=by simp[hy]
     have E1:=ax (NY.o.trans (if_pos hy));clear hy hTl;go_wp2;go_ret;exact⟨fH (by rw[E1.o,e0.o]),hB.o⟩
    ·have hyi:((a.atoms.length:Int) == 0)=false:=by simp[hy]
     have E1:=ax (NY.o.trans (if_neg hy));clear hy n0 e0;(go_wp2_with fail)
     go_loopw [3,5,6] (fun o i s wx=>∃(k:Nat) (X:Bs),k<=a.atoms.length/\i=.int .i64 k/\o=sv X/\aJ (X=lN (XT) a.atoms k)/\ae wx w.heap.size 26 #[.slice A1 a.facts.length c1,.slice A2 a.atoms.length c2]/\aJ (Below w.heap.size w wx)) (fun _ i _ _=>a.atoms.length - (intOf i).toNat)
     case atStart=>exact⟨0,XT,dJ,rfl,rfl,ax rfl,k0,hB⟩
     case round=>
      clear k0 bT JA EE hB;obtain⟨k,X,hk,rfl,rfl,hX,k0,hB⟩:=hrel;have bT:=k0.cell;have JA:=k0.frozen;have EE:=k0.lt;by_cases hlt:k<a.atoms.length
      ·obtain⟨b,off,rfl,hbl⟩:=H2.o.blt hlt;obtain⟨g0,g1,g2⟩:=(H2.o.bz hB.o).cl hlt;have Tn:X.length<=(XT).length+k * 10:=by rw[hX.o];exact vR _ _ _
       have hS:=ax (show lN (XT) a.atoms (k+1)=(if k=0 then lN (XT) a.atoms k++[32,124,32] else lN (XT) a.atoms k++[32,42,32])++bA (a.atoms.getD k default).a++sw (a.atoms.getD k default)++bA (a.atoms.getD k default).b from rfl);have hD:=ax (DZ hlt);obtain⟨f,hf⟩:∃f,f=a.atoms[k]:=⟨_,rfl⟩;rw[<-hf] at g0 g1 g2 hD;clear hf;obtain⟨kd,ta,tb⟩:=f;simp only at g0 g1 g2;have la:=dx ta;have lb:=dx tb;have ca:=gm ta;have cb:=gm tb;obtain⟨NA,LG⟩:∃N,N=bA ta:=⟨_,rfl⟩;obtain⟨NB,LH⟩:∃N,N=bA tb:=⟨_,rfl⟩;rw[<-LG] at la ca;rw[<-LH] at lb cb;replace ca:=ax ca;replace cb:=ax cb;replace LG:=ax LG;replace LH:=ax LH;obtain⟨sep,hsep⟩:∃sep:Bs,sep=if k=0 then [32,124,32] else [32,42,32]:=⟨_,rfl⟩;have NZ:sep.length=3:=by rw[hsep];split<;>rfl
       obtain⟨S1,e1,n1⟩:=iK (P:=Tryz.prog) X sep (by omega);have l1:S1.length=X.length+3:=by rw[e1.o,length_append,NZ]
       obtain⟨S2,e2,n2⟩:=iK (P:=Tryz.prog) S1 NA (by omega);have l2:S2.length<=X.length+6:=by rw[e2.o,length_append];omega
       obtain⟨sg,hsg⟩:∃sg,sg=sw ⟨kd,ta,tb⟩:=⟨_,rfl⟩;have WB:sg.length=1:=by rw[hsg];unfold sw;split<;>rfl
       obtain⟨S3,e3,n3⟩:=iK (P:=Tryz.prog) S2 sg (by omega);have l3:S3.length<=X.length+7:=by rw[e3.o,length_append];omega
       obtain⟨S4,e4,n4⟩:=iK (P:=Tryz.prog) S3 NB (by omega)
       have Ea:aJ (S4=lN (XT) a.atoms (k+1)):=ax (by
        rw[hS.o,hD.o,e4.o,e3.o,e2.o,e1.o,hX.o,LG.o,LH.o,hsg,hsep]
        split<;>rfl)
       clear l1 l2 l3 NZ Tn la lb;have hb1:aJ (Below w.heap.size w wr):=hB;have sF:True:=trivial;have sG:True:=trivial;by_cases hk2:kd=2
       ·subst hk2;have Jf:sg=[126]:=hsg;subst Jf;clear hsg WB;by_cases hz0:k=0
        ·subst hz0;have ny:sep=[32,124,32]:=hsep;subst ny;clear hsep;have h0l:(0:Int)<(a.atoms.length:Int):=by omega
         simp only[Nat.zero_mul,Nat.add_zero,Nat.zero_add] at g0 g1 g2;(go_wp2_with fail)
         go_region_held3 (fun w'=>(∀i,w'.cell? ⟨w.heap.size,i,none⟩=#[.slice A1 a.facts.length c1,.slice (some ⟨b,off,none⟩) a.atoms.length c2][i]?)/\w'.cell? ⟨b,off+1,none⟩=some (.int .i64 ta)/\w'.cell? ⟨b,off+2,none⟩=some (.int .i64 tb))
          (exact⟨bT,g1,g2⟩)
          (first
           | (have _t:=sF;clear _t sF;go_at_call 116;refine(ca.o _).mono ?_;rintro e w' ⟨rfl,rfl⟩)
           | (have _t:=sG;clear _t sG;go_at_call 116;refine(cb.o _).mono ?_;rintro e w' ⟨rfl,rfl⟩))
         all_goals
          go_wp2_with fail
          go_round
          case rel=>exact⟨0+1,S4,by omega,by go_num,rfl,Ea,k0,ax hB.o.drew⟩
          case measure=>simp[intOf];omega
        ·have hki:((k:Int) == 0)=false:=by simp;omega
         have ny:sep=[32,42,32]:=by rw[hsep,if_neg hz0]
         subst ny;clear hsep hz0;(go_wp2_with fail)
         go_region_held3 (fun w'=>(∀i,w'.cell? ⟨w.heap.size,i,none⟩=#[.slice A1 a.facts.length c1,.slice (some ⟨b,off,none⟩) a.atoms.length c2][i]?)/\w'.cell? ⟨b,off+k * 3+1,none⟩=some (.int .i64 ta)/\w'.cell? ⟨b,off+k * 3+2,none⟩=some (.int .i64 tb))
          (exact⟨bT,g1,g2⟩)
          (first
           | (have _t:=sF;clear _t sF;go_at_call 116;refine(ca.o _).mono ?_;rintro e w' ⟨rfl,rfl⟩)
           | (have _t:=sG;clear _t sG;go_at_call 116;refine(cb.o _).mono ?_;rintro e w' ⟨rfl,rfl⟩))
         all_goals
          go_wp2_with fail
          go_round
          case rel=>exact⟨k+1,S4,by omega,by go_num,rfl,Ea,k0,ax hB.o.drew⟩
          case measure=>simp[intOf];omega
       ·have hk2b:(kd == 2)=false:=by simpa using hk2
        have Jf:sg=[62]:=by rw[hsg];unfold sw;rw[if_neg hk2]
        subst Jf;clear hsg WB hk2;by_cases hz0:k=0
        ·subst hz0;have ny:sep=[32,124,32]:=hsep;subst ny;clear hsep;have h0l:(0:Int)<(a.atoms.length:Int):=by omega
         simp only[Nat.zero_mul,Nat.add_zero,Nat.zero_add] at g0 g1 g2;(go_wp2_with fail)
         go_region_held3 (fun w'=>(∀i,w'.cell? ⟨w.heap.size,i,none⟩=#[.slice A1 a.facts.length c1,.slice (some ⟨b,off,none⟩) a.atoms.length c2][i]?)/\w'.cell? ⟨b,off+1,none⟩=some (.int .i64 ta)/\w'.cell? ⟨b,off+2,none⟩=some (.int .i64 tb))
          (exact⟨bT,g1,g2⟩)
          (first
           | (have _t:=sF;clear _t sF;go_at_call 116;refine(ca.o _).mono ?_;rintro e w' ⟨rfl,rfl⟩)
           | (have _t:=sG;clear _t sG;go_at_call 116;refine(cb.o _).mono ?_;rintro e w' ⟨rfl,rfl⟩))
         all_goals
          go_wp2_with fail
          go_round
          case rel=>exact⟨0+1,S4,by omega,by go_num,rfl,Ea,k0,ax hB.o.drew⟩
          case measure=>simp[intOf];omega
        ·have hki:((k:Int) == 0)=false:=by simp;omega
         have ny:sep=[32,42,32]:=by rw[hsep,if_neg hz0]
         subst ny;clear hsep hz0;(go_wp2_with fail)
         go_region_held3 (fun w'=>(∀i,w'.cell? ⟨w.heap.size,i,none⟩=#[.slice A1 a.facts.length c1,.slice (some ⟨b,off,none⟩) a.atoms.length c2][i]?)/\w'.cell? ⟨b,off+k * 3+1,none⟩=some (.int .i64 ta)/\w'.cell? ⟨b,off+k * 3+2,none⟩=some (.int .i64 tb))
          (exact⟨bT,g1,g2⟩)
          (first
           | (have _t:=sF;clear _t sF;go_at_call 116;refine(ca.o _).mono ?_;rintro e w' ⟨rfl,rfl⟩)
           | (have _t:=sG;clear _t sG;go_at_call 116;refine(cb.o _).mono ?_;rintro e w' ⟨rfl,rfl⟩))
         all_goals
          go_wp2_with fail
          go_round
          case rel=>exact⟨k+1,S4,by omega,by go_num,rfl,Ea,k0,ax hB.o.drew⟩
          case measure=>simp[intOf];omega
      ·obtain rfl:k=a.atoms.length:=by omega
       go_wp2;go_ret;exact⟨fH (by rw[E1.o,hX.o]),hB.o⟩
theorem vU{lo hi:Nat}(v:Value)(a:au)(w:World)(h:aM w lo hi v a):Calls Tryz.prog 63 #[v] w fun e w'=>e=.returned (sv (Gl a))/\Below w.heap.size w w':=by
 obtain⟨A1,c1,A2,c2,rfl,h1,h2⟩:=h;have HV:aJ (aM w lo hi (.agg #[.slice A1 a.facts.length c1,.slice A2 a.atoms.length c2]) a):=ax ⟨_,_,_,_,rfl,h1,h2⟩;clear h1 h2;(go_enter Tryz.func63,Tryz.ntmps63);have k0:ae (w.alloc (.cells #[.slice A1 a.facts.length c1,.slice A2 a.atoms.length c2] 26)) w.heap.size 26 #[.slice A1 a.facts.length c1,.slice A2 a.atoms.length c2]:=az;(go_wp2_with fail);refine(vz _ a _ (HV.o.bz aj)).mono ?_;rintro e w1 ⟨rfl,hB1⟩;have k1:=k0.nz hB1;have hB:Below w.heap.size w w1:=aP (w:=w) aj hB1;(replace fI:=k1.z);cases hv:a.valid
 ·go_wp2;go_ret;exact⟨fH (by unfold Gl;rw[hv];rfl),hB⟩
 ·(go_wp2_with fail);refine(Gq _ a _ (HV.o.bz hB)).mono ?_;rintro e w2 ⟨rfl,hB2⟩;go_wp2;go_ret;exact⟨fH (by unfold Gl;rw[hv];rfl),aP hB hB2⟩
def jN(ws:List Bs)(k:Nat):Bool:=decide (ws[k+1]? = some [124])
theorem Jg{ws:List Bs}{k:Nat}{fs:List aF}{xs:List aL}{sb:Bool}{p:List aF×List aL}(hk:k<ws.length)(h:kJ (fs,xs,sb) ws[k]=some p):mr (ws.drop k) (fs,xs,sb)=mr (ws.drop (k+2)) (p.1,p.2,sb || jN ws k):=by
 rw[drop_eq_getElem_cons hk];rcases Nat.lt_or_ge (k+1) ws.length with h1|h1
 ·rw[drop_eq_getElem_cons h1,mr,h];simp[jN,List.getElem?_eq_getElem h1]
 ·rw[drop_eq_nil_of_le (show ws.length<=k+1 from h1),drop_eq_nil_of_le (show ws.length<=k+2 by omega),mr,mr,h];rfl
theorem Jh{ws:List Bs}{k:Nat}{st:List aF×List aL×Bool}(hk:k<ws.length)(h:kJ st ws[k]=none):mr (ws.drop k) st=none:=by
 rw[drop_eq_getElem_cons hk];rcases Nat.lt_or_ge (k+1) ws.length with h1|h1
 ·rw[drop_eq_getElem_cons h1,mr,h]
 ·rw[drop_eq_nil_of_le (show ws.length<=k+1 from h1),mr,h];rfl
theorem LJ{ws:List Bs}{k:Nat}{fs:List aF}{xs:List aL}{sb:Bool}(hk:ws.length<=k):mr (ws.drop k) (fs,xs,sb)=some ⟨fs,xs⟩:=by
 rw[drop_eq_nil_of_le hk,mr]
theorem Eb{x:Bs}{f:aF}{fs:List aF}{xs:List aL}(h:bV x=some f):kJ (fs,xs,false) x=some (fs++[f],xs):=by
 unfold kJ;simp[h]
theorem Qs{x:Bs}{y:aL}{fs:List aF}{xs:List aL}(h:eX x=some y):kJ (fs,xs,true) x=some (fs,xs++[y]):=by
 unfold kJ;simp[h]
theorem AZ{x:Bs}{fs:List aF}{xs:List aL}(h:bV x=none):kJ (fs,xs,false) x=if x≠[116,114,117,101]/\x≠[101,109,112] then none else some (fs,xs):=by
 unfold kJ;simp[h]
theorem Ba{x:Bs}{fs:List aF}{xs:List aL}(h:eX x=none):kJ (fs,xs,true) x=if x≠[116,114,117,101]/\x≠[101,109,112] then none else some (fs,xs):=by
 unfold kJ;simp[h]
theorem Ec{l:Bs}(h:mr (uI l) ([],[],false)=none):eF l=none:=by
 unfold eF;rw[h];split<;>rfl
theorem Gr{l:Bs}{a:au}(hl:l.length<=300)(h:mr (uI l) ([],[],false)=some a):eF l=if Gl a=l/\l≠[] then some a else none:=by
 unfold eF;rw[if_neg (by omega),h]
theorem pK(l:Bs)(w:World)(hl:l.length<=1049000):Calls Tryz.prog 37 #[sv l] w fun e w'=>∃r,e=.returned (.tuple #[r,.bool (eF l).isSome])/\aI w' w.heap.size r ((eF l).getD ⟨[],[]⟩)/\Below w.heap.size w w':=by
 (go_enter Tryz.func37,Tryz.ntmps37);have k0:ae (w.alloc (.cells #[.slice none 0 0,.slice none 0 0] 26)) w.heap.size 26 #[.slice none 0 0,.slice none 0 0]:=az;(go_wp2_with fail);refine(Je l _ hl).mono ?_;rintro e w1 ⟨r1,rfl,o1,hB1⟩;obtain⟨A1,d1,rfl,v1⟩:=o1.rj;replace k0:=k0.nz hB1;have z1:w.heap.size+1<=w1.heap.size:=by simpa using hB1.size
 have HW1:aJ (Below w.heap.size w w1):=ax (aP (w:=w) aj hB1);have HP0:=ax (fun h=>Ec (l:=l) h);have HP1:=ax (fun a (h:l.length<=300)=>Gr (l:=l) (a:=a) h);have hwl:=I9 l;obtain⟨ws,hws⟩:∃ws,ws=uI l:=⟨_,rfl⟩;rw[<-hws] at v1 HP0 HP1 hwl⊢;have HV:=ax v1;clear v1 o1 hB1 hws;(replace bT:=k0.z);by_cases hl3':¬l.length<=300
 ·have Pd:(300:Int)<(l.length:Int):=by omega
  have hN:=ax (show eF l=none by unfold eF;rw[if_pos (by omega)]);(go_wp2_with fail);have kz:=(((k0.ag 0 (.slice none 0 0)).ag 1 (.slice none 0 0)).alloc (.cells #[.slice none 0 0,.slice none 0 0] 26)).cell;refine bodyPost_ret (v:=.tuple #[.agg #[.slice none 0 0,.slice none 0 0],.bool false]) (by simp[results,Tryz.results37,go_sem,kz]) rfl ⟨_,by rw[hN.o];rfl,?_,?_⟩
  ·rw[hN.o];exact⟨_,_,rfl,ah.nil _ _,af.nil _ _⟩
  ·have hb:=HW1.o;exact aj
 have hl3:l.length<=300:=by omega
 clear hl3';have Pd:¬(300:Int)<(l.length:Int):=by omega
 go_wp2_with fail
 go_loopw [6,7] (fun s i wr=>∃(k:Nat) (fs:List aF) (xs:List aL) (AF:Option Addr) (cF:Nat) (AA:Option Addr) (cA:Nat) (sb:Bool),s=.bool sb/\i=.int .i64 k/\k<=ws.length+1/\fs.length<=k/\xs.length<=k/\
  ah wr (w1.heap.size+1) (.slice AF fs.length cF) fs/\af wr (w1.heap.size+1) (.slice AA xs.length cA) xs/\aJ (mr (ws.drop k) (fs,xs,sb)=mr ws ([],[],false))/\
  ae wr w1.heap.size 26 #[.slice AF fs.length cF,.slice AA xs.length cA]/\ae wr w.heap.size 26 #[.slice none 0 0,.slice none 0 0]/\aJ (Below w1.heap.size w1 wr)) (fun _ i _=>ws.length+2 - (intOf i).toNat)
 case atStart=>exact⟨0,[],[],none,0,none,0,false,rfl,rfl,by omega,bn,bn,ah.nil _ _,af.nil _ _,ax (by rw[drop_zero]),ae.dA rfl,k0.alloc _,ax (ai aU _)⟩
 case round=>
  clear k0 bT;obtain⟨k,fs,xs,AF,cF,AA,cA,sb,rfl,rfl,hk,hfl,hxl,hF,hX,hR,k1,k0,HB⟩:=hrel;have HF:=ax hF;have HX:=ax hX;have hz:w1.heap.size+1<=wr.heap.size:=by have:=k1.lt;omega
  clear hF hX;(replace bT:=k0.z;replace fI:=k1.z);by_cases hlt:k<ws.length
  ·have hki:(k:Int)<(ws.length:Int):=by omega
   obtain⟨bw,ow,rfl,hc⟩:=(HV.o.bz HB.o).at hlt;have hbl:=block_lt_of_cell hc;have HS:=ax (fun p=>Jg (p:=p) (fs:=fs) (xs:=xs) (sb:=sb) hlt);have HN:=ax (fun st=>Jh (st:=st) hlt);obtain⟨x,AY⟩:∃x,x=ws[k]:=⟨_,rfl⟩;rw[<-AY] at hc HS HN;clear AY;(go_wp2_with fail);refine(sD x _).mono ?_;rintro e w2 ⟨rfl,hB2⟩;have HB2:=bF HB hB2;have pQ:=ax (HF.o.bz hB2);have Ow:=ax (HX.o.bz hB2);have hc2:=(kD hB2).1 bw (ow+k) hbl;rw[hc] at hc2;have WC:=block_lt_of_cell hc2;replace k0:=k0.nz hB2;replace k1:=k1.nz hB2;have hz2:=Nat.le_trans hz hB2.size;clear hB2 HF HX hc bT fI hz hbl;(replace bT:=k0.z;replace fI:=k1.z);obtain⟨fe,fa,fb,oI⟩:∃fe fa fb,((bV x).getD Jb)=⟨fe,fa,fb⟩:=⟨_,_,_,rfl⟩;have Gs:((bV x).getD Jb).val=.agg #[.bool fe,.int .i64 fa,.int .i64 fb]:=by rw[oI]
   rw[Gs];obtain⟨pf,G6⟩:∃pf,pf=(bV x).isSome:=⟨_,rfl⟩;rw[<-G6];replace oI:=ax oI;replace G6:=ax G6;clear Gs;have k2:ae (w2.alloc (.cells #[.bool fe,.int .i64 fa,.int .i64 fb] tF)) w2.heap.size tF #[.bool fe,.int .i64 fa,.int .i64 fb]:=az;(go_wp2_with fail);refine(Gn x _).mono ?_;rintro e w3 ⟨⟨yk,ya,yb⟩,rfl,OL,hB3⟩;have z3:w2.heap.size+1<=w3.heap.size:=by simpa using hB3.size
   have Ji:Below w2.heap.size w2 w3:=aP (w:=w2) aj hB3;have HB3:=bF HB2 Ji;have oz:=ax (pQ.o.bz Ji);have Jj:=ax (Ow.o.bz Ji);have hc3:=(kD Ji).1 bw (ow+k) WC;rw[hc2] at hc3;have hbl3:=block_lt_of_cell hc3;replace k0:=k0.nz Ji;replace k1:=k1.nz Ji;replace k2:=k2.nz hB3;have hz3:w1.heap.size+1<=w3.heap.size:=by omega
   clear Ji hB3 pQ Ow hc2 bT fI HB2 hz2 WC;(replace bT:=k0.z;replace fI:=k1.z;replace lZ:=k2.z);obtain⟨px,hpx⟩:∃px,px=(eX x).isSome:=⟨_,rfl⟩;rw[<-hpx];replace hpx:=ax hpx;replace OL:=ax OL;simp only
   have hbw:bw<w1.heap.size:=by
    obtain⟨b',o',e,-,h2,-⟩:=HV.o.raw.2 (by omega);injection e with e;injection e with e1;omega
   have hd4:aJ (∀(h:k+1<ws.length) W,Below w1.heap.size w1 W->W.cell? ⟨bw,ow+(k+1),none⟩=some (sv ws[k+1])):=ax fun h W hW=>by
    obtain⟨b',o',e,hd⟩:=lM.at (Rd.gp HV.o hW bn) h;injection e with e;injection e with e1 e2;subst e1 e2;exact hd
   cases sb with
   | false=>
    cases hq:bV x with
    | some f=>
     have hpF:aJ (bV x=some ⟨fe,fa,fb⟩):=ax (by have h:=oI.o;rw[hq] at h⊢;exact congrArg some h);have hpt:pf=true:=by rw[G6.o,hq];rfl
     subst hpt;clear hq;by_cases hn1:k+1<ws.length
     ·have hni:(k:Int)+1<(ws.length:Int):=by omega
      have JH:=ax (fun W=>hd4.o hn1 W);obtain⟨y,Gt⟩:∃y,y=ws[k+1]:=⟨_,rfl⟩;have hnb:jN ws k=decide (y=[124]):=by unfold jN;rw[List.getElem?_eq_getElem hn1,<-Gt,decide_eq_decide];simp
      rw[<-Gt] at JH;clear Gt;by_cases hy:y=[124]
      ·subst hy;have Gu:aJ (jN ws k=true):=ax (by rw[hnb];rfl);clear hnb;(go_wp2_with (at_builtin;refine gN rfl _ _ rfl (base:=w1.heap.size+1) (xs:=fs) rfl (oz.o.bz aj) rfl (aG.one (f:=⟨fe,fa,fb⟩) (ae.dA (by simp))) (by simp;omega) (by simp;omega) ?_;intro A' c' w4 Et hg4 hB4;have z0:=ae.zm (g:=w.heap.size) (hg:=hg4) az (ah.bz (w:=w3) oz.o aj).1 (by decide);have wY:=ae.zm (g:=w1.heap.size) (hg:=hg4) az (ah.bz (w:=w3) oz.o aj).1 (by decide);have z1c:=wY.cell;have z1f:=wY.frozen;have Tp:=af.lY (af.bz (w:=w3) Jj.o aj) (ah.bz (w:=w3) oz.o aj) hg4;have oh:Below (w1.heap.size+1) w3 w4:=(((Below.refl _ w3).alloc hz3 _).alloc (by simp;omega) _).trans hB4;have hl4:=wY.lt;clear hg4 hB4;have hdy:=JH.o w4 (HB3.o.trans (oh.mono (Nat.le_succ _)))))
       go_round
       case rel=>exact⟨k+2,fs++[⟨fe,fa,fb⟩],xs,A',c',AA,cA,true,rfl,by go_num,by omega,by simp;omega,by omega,(Et.aA wY (by decide) 0 _),(Tp.aA wY (by decide) 0 _),ax (((HS.o _ (Eb hpF.o)).symm.trans hR.o |> fun h=>by rw[Gu.o] at h;exact h)),(by have h:=wY.ag 0 (.slice A' (fs.length+1) c');simpa using h),z0.far (by simp only[];omega) _,ax ((HB3.o.trans (oh.mono (Nat.le_succ _))).setCell bn _)⟩
       case measure=>simp[intOf];omega
      ·have Gu:aJ (jN ws k=false):=ax (by rw[hnb];simpa using hy);have hyb:(y == [124])=false:=by rw[bP];simpa using hy
       clear hnb hy;(go_wp2_with (at_builtin;refine gN rfl _ _ rfl (base:=w1.heap.size+1) (xs:=fs) rfl (oz.o.bz aj) rfl (aG.one (f:=⟨fe,fa,fb⟩) (ae.dA (by simp))) (by simp;omega) (by simp;omega) ?_;intro A' c' w4 Et hg4 hB4;have z0:=ae.zm (g:=w.heap.size) (hg:=hg4) az (ah.bz (w:=w3) oz.o aj).1 (by decide);have wY:=ae.zm (g:=w1.heap.size) (hg:=hg4) az (ah.bz (w:=w3) oz.o aj).1 (by decide);have z1c:=wY.cell;have z1f:=wY.frozen;have Tp:=af.lY (af.bz (w:=w3) Jj.o aj) (ah.bz (w:=w3) oz.o aj) hg4;have oh:Below (w1.heap.size+1) w3 w4:=(((Below.refl _ w3).alloc hz3 _).alloc (by simp;omega) _).trans hB4;have hl4:=wY.lt;clear hg4 hB4;have hdy:=JH.o w4 (HB3.o.trans (oh.mono (Nat.le_succ _)))))
       go_round
       case rel=>exact⟨k+2,fs++[⟨fe,fa,fb⟩],xs,A',c',AA,cA,false,rfl,by go_num,by omega,by simp;omega,by omega,(Et.aA wY (by decide) 0 _),(Tp.aA wY (by decide) 0 _),ax (((HS.o _ (Eb hpF.o)).symm.trans hR.o |> fun h=>by rw[Gu.o] at h;exact h)),(by have h:=wY.ag 0 (.slice A' (fs.length+1) c');simpa using h),z0.far (by simp only[];omega) _,ax ((HB3.o.trans (oh.mono (Nat.le_succ _))).setCell bn _)⟩
       case measure=>simp[intOf];omega
     ·have hni:¬(k:Int)+1<(ws.length:Int):=by omega
      have Gu:aJ (jN ws k=false):=ax (by unfold jN;rw[List.getElem?_eq_none (by omega)];rfl);(go_wp2_with (at_builtin;refine gN rfl _ _ rfl (base:=w1.heap.size+1) (xs:=fs) rfl (oz.o.bz aj) rfl (aG.one (f:=⟨fe,fa,fb⟩) (ae.dA (by simp))) (by simp;omega) (by simp;omega) ?_;intro A' c' w4 Et hg4 hB4;have z0:=ae.zm (g:=w.heap.size) (hg:=hg4) az (ah.bz (w:=w3) oz.o aj).1 (by decide);have wY:=ae.zm (g:=w1.heap.size) (hg:=hg4) az (ah.bz (w:=w3) oz.o aj).1 (by decide);have z1c:=wY.cell;have z1f:=wY.frozen;have Tp:=af.lY (af.bz (w:=w3) Jj.o aj) (ah.bz (w:=w3) oz.o aj) hg4;have oh:Below (w1.heap.size+1) w3 w4:=(((Below.refl _ w3).alloc hz3 _).alloc (by simp;omega) _).trans hB4;have hl4:=wY.lt;clear hg4 hB4))
      go_round
      case rel=>exact⟨k+2,fs++[⟨fe,fa,fb⟩],xs,A',c',AA,cA,false,rfl,by go_num,by omega,by simp;omega,by omega,(Et.aA wY (by decide) 0 _),(Tp.aA wY (by decide) 0 _),ax (((HS.o _ (Eb hpF.o)).symm.trans hR.o |> fun h=>by rw[Gu.o] at h;exact h)),(by have h:=wY.ag 0 (.slice A' (fs.length+1) c');simpa using h),z0.far (by simp only[];omega) _,ax ((HB3.o.trans (oh.mono (Nat.le_succ _))).setCell bn _)⟩
      case measure=>simp[intOf];omega
    | none=>
     have LK:aJ (bV x=none):=ax hq;have hpt:pf=false:=by rw[G6.o,hq];rfl
     subst hpt;clear hq;by_cases hx1:x=[116,114,117,101]
     ·subst hx1;have hst:aJ (kJ (fs,xs,false) [116,114,117,101]=some (fs,xs)):=ax (by rw[AZ LK.o];rfl);clear LK;by_cases hn1:k+1<ws.length
      ·have hni:(k:Int)+1<(ws.length:Int):=by omega
       have JH:=ax (fun W=>hd4.o hn1 W);obtain⟨y,Gt⟩:∃y,y=ws[k+1]:=⟨_,rfl⟩;have hnb:jN ws k=decide (y=[124]):=by unfold jN;rw[List.getElem?_eq_getElem hn1,<-Gt,decide_eq_decide];simp
       rw[<-Gt] at JH;clear Gt;by_cases hy:y=[124]
       ·subst hy;have Gu:aJ (jN ws k=true):=ax (by rw[hnb];rfl);clear hnb;have hdy:=JH.o w3 HB3.o;(go_wp2_with fail)
        go_round
        case rel=>exact⟨k+2,fs,xs,AF,cF,AA,cA,true,rfl,by go_num,by omega,by omega,by omega,oz.o.bz aj,Jj.o.bz aj,ax (((HS.o _ hst.o).symm.trans hR.o |> fun h=>by rw[Gu.o] at h;exact h)),k1.alloc _,k0.alloc _,ax (HB3.o.alloc (by omega) _)⟩
        case measure=>simp[intOf];omega
       ·have Gu:aJ (jN ws k=false):=ax (by rw[hnb];simpa using hy);have hyb:(y == [124])=false:=by rw[bP];simpa using hy
        clear hnb hy;have hdy:=JH.o w3 HB3.o;(go_wp2_with fail)
        go_round
        case rel=>exact⟨k+2,fs,xs,AF,cF,AA,cA,false,rfl,by go_num,by omega,by omega,by omega,oz.o.bz aj,Jj.o.bz aj,ax (((HS.o _ hst.o).symm.trans hR.o |> fun h=>by rw[Gu.o] at h;exact h)),k1.alloc _,k0.alloc _,ax (HB3.o.alloc (by omega) _)⟩
        case measure=>simp[intOf];omega
      ·have hni:¬(k:Int)+1<(ws.length:Int):=by omega
       have Gu:aJ (jN ws k=false):=ax (by unfold jN;rw[List.getElem?_eq_none (by omega)];rfl);(go_wp2_with fail)
       go_round
       case rel=>exact⟨k+2,fs,xs,AF,cF,AA,cA,false,rfl,by go_num,by omega,by omega,by omega,oz.o.bz aj,Jj.o.bz aj,ax (((HS.o _ hst.o).symm.trans hR.o |> fun h=>by rw[Gu.o] at h;exact h)),k1.alloc _,k0.alloc _,ax (HB3.o.alloc (by omega) _)⟩
       case measure=>simp[intOf];omega
     ·have Tq:(x == [116,114,117,101])=false:=by rw[bP];simpa using hx1
      by_cases hx2:x=[101,109,112]
      ·subst hx2;have hst:aJ (kJ (fs,xs,false) [101,109,112]=some (fs,xs)):=ax (by rw[AZ LK.o];rfl);clear LK hx1 Tq;by_cases hn1:k+1<ws.length
       ·have hni:(k:Int)+1<(ws.length:Int):=by omega
        have JH:=ax (fun W=>hd4.o hn1 W);obtain⟨y,Gt⟩:∃y,y=ws[k+1]:=⟨_,rfl⟩;have hnb:jN ws k=decide (y=[124]):=by unfold jN;rw[List.getElem?_eq_getElem hn1,<-Gt,decide_eq_decide];simp
        rw[<-Gt] at JH;clear Gt;by_cases hy:y=[124]
        ·subst hy;have Gu:aJ (jN ws k=true):=ax (by rw[hnb];rfl);clear hnb;have hdy:=JH.o w3 HB3.o;(go_wp2_with fail)
         go_round
         case rel=>exact⟨k+2,fs,xs,AF,cF,AA,cA,true,rfl,by go_num,by omega,by omega,by omega,oz.o.bz aj,Jj.o.bz aj,ax (((HS.o _ hst.o).symm.trans hR.o |> fun h=>by rw[Gu.o] at h;exact h)),k1.alloc _,k0.alloc _,ax (HB3.o.alloc (by omega) _)⟩
         case measure=>simp[intOf];omega
        ·have Gu:aJ (jN ws k=false):=ax (by rw[hnb];simpa using hy);have hyb:(y == [124])=false:=by rw[bP];simpa using hy
         clear hnb hy;have hdy:=JH.o w3 HB3.o;(go_wp2_with fail)
         go_round
         case rel=>exact⟨k+2,fs,xs,AF,cF,AA,cA,false,rfl,by go_num,by omega,by omega,by omega,oz.o.bz aj,Jj.o.bz aj,ax (((HS.o _ hst.o).symm.trans hR.o |> fun h=>by rw[Gu.o] at h;exact h)),k1.alloc _,k0.alloc _,ax (HB3.o.alloc (by omega) _)⟩
         case measure=>simp[intOf];omega
       ·have hni:¬(k:Int)+1<(ws.length:Int):=by omega
        have Gu:aJ (jN ws k=false):=ax (by unfold jN;rw[List.getElem?_eq_none (by omega)];rfl);(go_wp2_with fail)
        go_round
        case rel=>exact⟨k+2,fs,xs,AF,cF,AA,cA,false,rfl,by go_num,by omega,by omega,by omega,oz.o.bz aj,Jj.o.bz aj,ax (((HS.o _ hst.o).symm.trans hR.o |> fun h=>by rw[Gu.o] at h;exact h)),k1.alloc _,k0.alloc _,ax (HB3.o.alloc (by omega) _)⟩
        case measure=>simp[intOf];omega
      ·have hx2b:(x == [101,109,112])=false:=by rw[bP];simpa using hx2
       have hst:aJ (kJ (fs,xs,false) x=none):=ax (by rw[AZ LK.o,if_pos ⟨hx1,hx2⟩]);clear LK hx1 hx2;have N5:aJ (eF l=none):=ax (HP0.o (hR.o.symm.trans (HN.o _ hst.o)));(go_wp2_with fail);have kz:=(((k0.ag 0 (.slice none 0 0)).ag 1 (.slice none 0 0)).alloc (.cells #[.int .i64 yk,.int .i64 ya,.int .i64 yb] tA)).cell;refine bodyPost_ret (v:=.tuple #[.agg #[.slice none 0 0,.slice none 0 0],.bool false]) (by simp[results,Tryz.results37,go_sem,kz]) rfl ⟨_,by rw[N5.o];rfl,?_,?_⟩
       ·rw[N5.o];exact⟨_,_,rfl,ah.nil _ _,af.nil _ _⟩
       ·have hb:=HW1.o.trans (HB3.o.mono (by omega:w.heap.size<=w1.heap.size));exact aj
   | true=>
    cases hq:eX x with
    | some f=>
     have hpX:aJ (eX x=some ⟨yk,ya,yb⟩):=ax (by rw[hq];exact congrArg some (OL.o f hq).symm);have hpt:px=true:=by rw[hpx.o,hq];rfl
     subst hpt;clear hq;(go_wp2_with (at_builtin;refine qG rfl _ _ rfl (base:=w1.heap.size+1) (xs:=xs) rfl (Jj.o.bz aj) rfl (aB.one (f:=⟨yk,ya,yb⟩) (ae.dA (by simp))) (by simp;omega) (by simp;omega) ?_;intro A' c' w4 Et hg4 hB4;have z0:=ae.zm (g:=w.heap.size) (hg:=hg4) az (af.bz (w:=w3) Jj.o aj).1 (by decide);have wY:=ae.zm (g:=w1.heap.size) (hg:=hg4) az (af.bz (w:=w3) Jj.o aj).1 (by decide);have z1c:=wY.cell;have z1f:=wY.frozen;have Tp:=ah.jF (ah.bz (w:=w3) oz.o aj) (af.bz (w:=w3) Jj.o aj) hg4;have oh:Below (w1.heap.size+1) w3 w4:=(((Below.refl _ w3).alloc hz3 _).alloc (by simp;omega) _).trans hB4;have hl4:=wY.lt;clear hg4 hB4))
     go_round
     case rel=>exact⟨k+2,fs,xs++[⟨yk,ya,yb⟩],AF,cF,A',c',true,rfl,by go_num,by omega,by omega,by simp;omega,(Tp.aA wY (by decide) 1 _),(Et.aA wY (by decide) 1 _),ax ((HS.o _ (Qs hpX.o)).symm.trans hR.o),(by have h:=wY.ag 1 (.slice A' (xs.length+1) c');simpa using h),z0.far (by simp only[];omega) _,ax ((HB3.o.trans (oh.mono (Nat.le_succ _))).setCell bn _)⟩
     case measure=>simp[intOf];omega
    | none=>
     have LK:aJ (eX x=none):=ax hq;have hpt:px=false:=by rw[hpx.o,hq];rfl
     subst hpt;clear hq;by_cases hx1:x=[116,114,117,101]
     ·subst hx1;have hst:aJ (kJ (fs,xs,true) [116,114,117,101]=some (fs,xs)):=ax (by rw[Ba LK.o];rfl);clear LK;(go_wp2_with fail)
      go_round
      case rel=>exact⟨k+2,fs,xs,AF,cF,AA,cA,true,rfl,by go_num,by omega,by omega,by omega,oz.o.bz aj,Jj.o.bz aj,ax ((HS.o _ hst.o).symm.trans hR.o),k1.alloc _,k0.alloc _,ax (HB3.o.alloc (by omega) _)⟩
      case measure=>simp[intOf];omega
     ·have Tq:(x == [116,114,117,101])=false:=by rw[bP];simpa using hx1
      by_cases hx2:x=[101,109,112]
      ·subst hx2;have hst:aJ (kJ (fs,xs,true) [101,109,112]=some (fs,xs)):=ax (by rw[Ba LK.o];rfl);clear LK hx1 Tq;(go_wp2_with fail)
       go_round
       case rel=>exact⟨k+2,fs,xs,AF,cF,AA,cA,true,rfl,by go_num,by omega,by omega,by omega,oz.o.bz aj,Jj.o.bz aj,ax ((HS.o _ hst.o).symm.trans hR.o),k1.alloc _,k0.alloc _,ax (HB3.o.alloc (by omega) _)⟩
       case measure=>simp[intOf];omega
      ·have hx2b:(x == [101,109,112])=false:=by rw[bP];simpa using hx2
       have hst:aJ (kJ (fs,xs,true) x=none):=ax (by rw[Ba LK.o,if_pos ⟨hx1,hx2⟩]);clear LK hx1 hx2;have N5:aJ (eF l=none):=ax (HP0.o (hR.o.symm.trans (HN.o _ hst.o)));(go_wp2_with fail);have kz:=(((k0.ag 0 (.slice none 0 0)).ag 1 (.slice none 0 0)).alloc (.cells #[.int .i64 yk,.int .i64 ya,.int .i64 yb] tA)).cell;refine bodyPost_ret (v:=.tuple #[.agg #[.slice none 0 0,.slice none 0 0],.bool false]) (by simp[results,Tryz.results37,go_sem,kz]) rfl ⟨_,by rw[N5.o];rfl,?_,?_⟩
       ·rw[N5.o];exact⟨_,_,rfl,ah.nil _ _,af.nil _ _⟩
       ·have hb:=HW1.o.trans (HB3.o.mono (by omega:w.heap.size<=w1.heap.size));exact aj
  ·have hki:¬(k:Int)<(ws.length:Int):=by omega
   have hE:=ax (HP1.o ⟨fs,xs⟩ hl3 (hR.o.symm.trans (LJ (by omega))));have HA:aJ (aI wr (w1.heap.size+1) (.agg #[.slice AF fs.length cF,.slice AA xs.length cA]) ⟨fs,xs⟩):=ax ⟨_,_,rfl,HF.o,HX.o⟩;(go_wp2_with fail);refine(vU _ ⟨fs,xs⟩ _ HA.o.rj).mono ?_;rintro e w5 ⟨rfl,bW⟩;have wm:=bF HB bW;replace k0:=k0.nz bW;replace k1:=k1.nz bW;have Vq:=ax (HA.o.bz bW);clear bW HA bT fI;(replace bT:=k0.z;replace fI:=k1.z);obtain⟨T,hT⟩:∃T,T=Gl ⟨fs,xs⟩:=⟨_,rfl⟩;rw[<-hT] at hE⊢;clear hT;by_cases ht:T=l
   ·subst ht;by_cases he:T=[]
    ·subst he;have N5:aJ (eF []=none):=ax (by rw[hE.o];rfl);clear hE;(go_wp2_with fail);have kz:=((k0.ag 0 (.slice none 0 0)).ag 1 (.slice none 0 0)).cell;refine bodyPost_ret (v:=.tuple #[.agg #[.slice none 0 0,.slice none 0 0],.bool false]) (by simp[results,Tryz.results37,go_sem,kz]) rfl ⟨_,by rw[N5.o];rfl,?_,?_⟩
     ·rw[N5.o];exact⟨_,_,rfl,ah.nil _ _,af.nil _ _⟩
     ·have hb:=HW1.o.trans (wm.o.mono (by omega:w.heap.size<=w1.heap.size));exact aj
    ·have heb:(T == [])=false:=by rw[bP];simpa using he
     have WE:aJ (eF T=some ⟨fs,xs⟩):=ax (by rw[hE.o,if_pos ⟨rfl,he⟩]);clear hE he;(go_wp2_with fail);have kz:=((k0.ag 0 (.slice AF fs.length cF)).ag 1 (.slice AA xs.length cA)).cell;refine bodyPost_ret (v:=.tuple #[.agg #[.slice AF fs.length cF,.slice AA xs.length cA],.bool true]) (by simp[results,Tryz.results37,go_sem,kz]) rfl ⟨_,by rw[WE.o];rfl,?_,?_⟩
     ·rw[WE.o];obtain⟨fv,av,e,h1,h2⟩:=Vq.o;injection e with e;injection e with e;injection e with e1 e2;injection e2 with e2;subst e1 e2;exact⟨_,_,rfl,((h1.aA k0 (by decide) 0 _).aA (k0.ag _ _) (by decide) 1 _).bq,((h2.aA k0 (by decide) 0 _).aA (k0.ag _ _) (by decide) 1 _).bq⟩
     ·have hb:=HW1.o.trans (wm.o.mono (by omega:w.heap.size<=w1.heap.size));exact aj
   ·have htb:(T == l)=false:=by rw[bP];simpa using ht
    have N5:aJ (eF l=none):=ax (by rw[hE.o,if_neg (fun h=>ht h.1)]);clear hE ht;(go_wp2_with fail);have kz:=((k0.ag 0 (.slice none 0 0)).ag 1 (.slice none 0 0)).cell;refine bodyPost_ret (v:=.tuple #[.agg #[.slice none 0 0,.slice none 0 0],.bool false]) (by simp[results,Tryz.results37,go_sem,kz]) rfl ⟨_,by rw[N5.o];rfl,?_,?_⟩
    ·rw[N5.o];exact⟨_,_,rfl,ah.nil _ _,af.nil _ _⟩
    ·have hb:=HW1.o.trans (wm.o.mono (by omega:w.heap.size<=w1.heap.size));exact aj
def my(w:World)(X:Nat->Prop)(size:Nat)(A:Option Addr)(n:Nat)(xs:List Value):Prop:=
 xs.length=n * size/\(0<n * size->∃b o,A=some ⟨b,o,none⟩/\X b/\∀j u,xs[j]? = some u->w.cell? ⟨b,o+j,none⟩=some u)
def iE(w:World)(X:Nat->Prop):ay->Nat->Nat->Prop
 | .nil,_,_=>True
 | .cons k a b t i body els r,bl,o=>
  (w.cell? ⟨bl,o,none⟩=some (.int .i64 k)/\w.cell? ⟨bl,o+1,none⟩=some (.int .i64 a)/\w.cell? ⟨bl,o+2,none⟩=some (.int .i64 b)/\
   w.cell? ⟨bl,o+3,none⟩=some (.bool t.eq)/\w.cell? ⟨bl,o+4,none⟩=some (.int .i64 t.a)/\w.cell? ⟨bl,o+5,none⟩=some (.int .i64 t.b))/\
  (∃A c,w.cell? ⟨bl,o+6,none⟩=some (.slice A i.facts.length c)/\my w X 3 A i.facts.length (iJ i.facts))/\
  (∃A c,w.cell? ⟨bl,o+7,none⟩=some (.slice A i.atoms.length c)/\my w X 3 A i.atoms.length (gK i.atoms))/\
  (∃A c,w.cell? ⟨bl,o+8,none⟩=some (.slice A body.len c)/\(0<body.len->∃b' o',A=some ⟨b',o',none⟩/\X b'/\iE w X body b' o'))/\
  (∃A c,w.cell? ⟨bl,o+9,none⟩=some (.slice A els.len c)/\(0<els.len->∃b' o',A=some ⟨b',o',none⟩/\X b'/\iE w X els b' o'))/\
  iE w X r bl (o+10)
def bu(w:World)(X:Nat->Prop)(A:Option Addr)(L:ay):Prop:=0<L.len->∃b o,A=some ⟨b,o,none⟩/\X b/\iE w X L b o
section
variable{w w':World}{X Y:Nat->Prop}{lo hi base:Nat}
theorem my.keep{size n:Nat}{A:Option Addr}{xs:List Value}(h:my w X size A n xs)(hk:∀b,X b->b<w.heap.size->w'.heap[b]? = w.heap[b]?):my w' X size A n xs:=
 ⟨h.1,fun hn=>by
  obtain⟨b,o,e,h1,hc⟩:=h.2 hn;have h0:=h.1;have hx:xs[0]? = some (xs[0]'(by omega)):=List.getElem?_eq_getElem (by omega);have hlt:b<w.heap.size:=block_lt_of_cell (hc 0 _ hx)
  exact⟨b,o,e,h1,fun j u hu=>(World.cell?_of_block (a:=⟨b,o+j,none⟩) (hk b h1 hlt)).trans (hc j u hu)⟩⟩
theorem my.mono{size n:Nat}{A:Option Addr}{xs:List Value}(h:my w X size A n xs)(Ez:∀b,X b->b<w.heap.size->Y b):my w Y size A n xs:=
 ⟨h.1,fun hn=>by
  obtain⟨b,o,e,h1,hc⟩:=h.2 hn;have h0:=h.1;have hx:xs[0]? = some (xs[0]'(by omega)):=List.getElem?_eq_getElem (by omega);have hlt:b<w.heap.size:=block_lt_of_cell (hc 0 _ hx)
  exact⟨b,o,e,Ez b h1 hlt,hc⟩⟩
theorem my.rw_{size n:Nat}{A:Option Addr}{xs:List Value}(h:my w X size A n xs)(hX:∀b,X b->lo<=b):Rw w lo w.heap.size size A n xs:=
 ⟨h.1,fun hn=>by
  obtain⟨b,o,e,h1,hc⟩:=h.2 hn;have h0:=h.1;have hx:xs[0]? = some (xs[0]'(by omega)):=List.getElem?_eq_getElem (by omega)
  exact⟨b,o,e,hX b h1,block_lt_of_cell (hc 0 _ hx),hc⟩⟩
theorem Rw.x{size n:Nat}{A:Option Addr}{xs:List Value}(h:Rw w lo hi size A n xs)(hX:∀b,lo<=b->b<hi->X b):my w X size A n xs:=
 ⟨h.1,fun hn=>by
  obtain⟨b,o,e,h1,h2,hc⟩:=h.2 hn
  exact⟨b,o,e,hX b h1 h2,hc⟩⟩
theorem iE.lt{k a b:Int}{t:aF}{i:au}{body els r:ay}{bl o:Nat}(h:iE w X (.cons k a b t i body els r) bl o):bl<w.heap.size:=block_lt_of_cell h.1.1
theorem iE.Qt:∀ {L:ay} {bl o:Nat},0<L.len->iE w X L bl o->bl<w.heap.size
 | .nil,_,_,h,_=>by simp[ay.len] at h
 | .cons ..,_,_,_,h=>h.lt
theorem iE.keep(hk:∀b,X b->b<w.heap.size->w'.heap[b]? = w.heap[b]?):∀ {L:ay} {bl o:Nat},w'.heap[bl]? = w.heap[bl]?->iE w X L bl o->iE w' X L bl o
 | .nil,_,_,_,_=>trivial
 | .cons k a b t i body els r,bl,o,e1,h=>by
  obtain⟨⟨h0,h1,h2,h3,h4,h5⟩,⟨A6,c6,h6,g6⟩,⟨A7,c7,h7,g7⟩,⟨A8,c8,h8,g8⟩,⟨A9,c9,h9,g9⟩,hr⟩:=h;have hc:∀j,w'.cell? ⟨bl,j,none⟩=w.cell? ⟨bl,j,none⟩:=fun j=>World.cell?_of_block (a:=⟨bl,j,none⟩) e1;refine⟨⟨(hc _).trans h0,(hc _).trans h1,(hc _).trans h2,(hc _).trans h3,(hc _).trans h4,(hc _).trans h5⟩,⟨A6,c6,(hc _).trans h6,g6.keep hk⟩,⟨A7,c7,(hc _).trans h7,g7.keep hk⟩,⟨A8,c8,(hc _).trans h8,fun hl=>?_⟩,⟨A9,c9,(hc _).trans h9,fun hl=>?_⟩,iE.keep hk e1 hr⟩
  ·obtain⟨b',o',e,p1,p3⟩:=g8 hl;exact⟨b',o',e,p1,iE.keep hk (hk b' p1 (iE.Qt hl p3)) p3⟩
  ·obtain⟨b',o',e,p1,p3⟩:=g9 hl;exact⟨b',o',e,p1,iE.keep hk (hk b' p1 (iE.Qt hl p3)) p3⟩
theorem iE.mono(Ez:∀b,X b->b<w.heap.size->Y b):∀ {L:ay} {bl o:Nat},iE w X L bl o->iE w Y L bl o
 | .nil,_,_,_=>trivial
 | .cons k a b t i body els r,bl,o,h=>by
  obtain⟨h0,⟨A6,c6,h6,g6⟩,⟨A7,c7,h7,g7⟩,⟨A8,c8,h8,g8⟩,⟨A9,c9,h9,g9⟩,hr⟩:=h;refine⟨h0,⟨A6,c6,h6,g6.mono Ez⟩,⟨A7,c7,h7,g7.mono Ez⟩,⟨A8,c8,h8,fun hl=>?_⟩,⟨A9,c9,h9,fun hl=>?_⟩,iE.mono Ez hr⟩
  ·obtain⟨b',o',e,p1,p3⟩:=g8 hl;exact⟨b',o',e,Ez b' p1 (iE.Qt hl p3),iE.mono Ez p3⟩
  ·obtain⟨b',o',e,p1,p3⟩:=g9 hl;exact⟨b',o',e,Ez b' p1 (iE.Qt hl p3),iE.mono Ez p3⟩
theorem iE.at_(hX:∀b,X b->lo<=b):∀ {L:ay} {bl o:Nat},iE w X L bl o->fF w lo w.heap.size L bl o
 | .nil,_,_,_=>trivial
 | .cons k a b t i body els r,bl,o,h=>by
  obtain⟨h0,⟨A6,c6,h6,g6⟩,⟨A7,c7,h7,g7⟩,⟨A8,c8,h8,g8⟩,⟨A9,c9,h9,g9⟩,hr⟩:=h;refine⟨h0,⟨A6,c6,h6,g6.rw_ hX⟩,⟨A7,c7,h7,g7.rw_ hX⟩,⟨A8,c8,h8,fun hl=>?_⟩,⟨A9,c9,h9,fun hl=>?_⟩,iE.at_ hX hr⟩
  ·obtain⟨b',o',e,p1,p3⟩:=g8 hl;exact⟨b',o',e,hX b' p1,iE.Qt hl p3,iE.at_ hX p3⟩
  ·obtain⟨b',o',e,p1,p3⟩:=g9 hl;exact⟨b',o',e,hX b' p1,iE.Qt hl p3,iE.at_ hX p3⟩
theorem bu.keep{A:Option Addr}{L:ay}(h:bu w X A L)(hk:∀b,X b->b<w.heap.size->w'.heap[b]? = w.heap[b]?):bu w' X A L:=fun hl=>by
 obtain⟨b,o,e,p1,p2⟩:=h hl;exact⟨b,o,e,p1,p2.keep hk (hk b p1 (iE.Qt hl p2))⟩
theorem bu.mono{A:Option Addr}{L:ay}(h:bu w X A L)(Ez:∀b,X b->b<w.heap.size->Y b):bu w Y A L:=fun hl=>by
 obtain⟨b,o,e,p1,p2⟩:=h hl;exact⟨b,o,e,Ez b p1 (iE.Qt hl p2),p2.mono Ez⟩
theorem bu.v{A:Option Addr}{L:ay}(h:bu w X A L)(hX:∀b,X b->lo<=b):bH w lo w.heap.size A L:=fun hl=>by
 obtain⟨b,o,e,p1,p2⟩:=h hl;exact⟨b,o,e,hX b p1,iE.Qt hl p2,p2.at_ hX⟩
theorem bu.nil(A:Option Addr):bu w X A .nil:=fun h=>by simp[ay.len] at h
end
def ay.app:ay->ay->ay
 | .nil,M=>M
 | .cons k a b t i body els r,M=>.cons k a b t i body els (r.app M)
theorem ay.bY:∀(L M:ay),(L.app M).len=L.len+M.len
 | .nil,M=>by simp[ay.app,ay.len]
 | .cons k a b t i body els r,M=>by simp only[ay.app,ay.len,ay.bY r M];omega
theorem ay.fP:∀(L M:ay),(L.app M).cost=L.cost+M.cost
 | .nil,M=>by simp[ay.app,ay.cost]
 | .cons k a b t i body els r,M=>by simp only[ay.app,ay.cost,ay.fP r M];omega
def dV(k a b:Int)(t:aF)(vF vA vB vE:Value):List Value:=[.int .i64 k,.int .i64 a,.int .i64 b,.bool t.eq,.int .i64 t.a,.int .i64 t.b,vF,vA,vB,vE]
def dW(w:World)(X:Nat->Prop):ay->List Value->Prop
 | .nil,cs=>cs=[]
 | .cons k a b t i body els r,cs=>∃AF cF AA cA AB cB AE cE rest,cs=dV k a b t (.slice AF i.facts.length cF) (.slice AA i.atoms.length cA) (.slice AB body.len cB) (.slice AE els.len cE)++rest/\
   my w X 3 AF i.facts.length (iJ i.facts)/\my w X 3 AA i.atoms.length (gK i.atoms)/\bu w X AB body/\bu w X AE els/\dW w X r rest
section
variable{w w':World}{X Y:Nat->Prop}{lo hi base:Nat}
theorem dW.len:∀ {L:ay} {cs:List Value},dW w X L cs->cs.length=L.len * 10
 | .nil,cs,h=>by simp[dW] at h;simp[h,ay.len]
 | .cons k a b t i body els r,cs,h=>by
  obtain⟨AF,cF,AA,cA,AB,cB,AE,cE,rest,rfl,-,-,-,-,hr⟩:=h;simp only[length_append,dV,length_cons,length_nil,dW.len hr,ay.len];omega
theorem dW.keep(hk:∀b,X b->b<w.heap.size->w'.heap[b]? = w.heap[b]?):∀ {L:ay} {cs:List Value},dW w X L cs->dW w' X L cs
 | .nil,cs,h=>h
 | .cons k a b t i body els r,cs,h=>by
  obtain⟨AF,cF,AA,cA,AB,cB,AE,cE,rest,e,h1,h2,h3,h4,hr⟩:=h;exact⟨AF,cF,AA,cA,AB,cB,AE,cE,rest,e,h1.keep hk,h2.keep hk,h3.keep hk,h4.keep hk,dW.keep hk hr⟩
theorem dW.mono(Ez:∀b,X b->b<w.heap.size->Y b):∀ {L:ay} {cs:List Value},dW w X L cs->dW w Y L cs
 | .nil,cs,h=>h
 | .cons k a b t i body els r,cs,h=>by
  obtain⟨AF,cF,AA,cA,AB,cB,AE,cE,rest,e,h1,h2,h3,h4,hr⟩:=h;exact⟨AF,cF,AA,cA,AB,cB,AE,cE,rest,e,h1.mono Ez,h2.mono Ez,h3.mono Ez,h4.mono Ez,dW.mono Ez hr⟩
theorem dW.x{g:Nat}:∀ {L:ay} {cs:List Value} {o:Nat},dW w X L cs->(∀j u,cs[j]? = some u->w.cell? ⟨g,o+j,none⟩=some u)->iE w X L g o
 | .nil,cs,_,_,_=>trivial
 | .cons k a b t i body els r,cs,o,h,hc=>by
  obtain⟨AF,cF,AA,cA,AB,cB,AE,cE,rest,rfl,h1,h2,h3,h4,hr⟩:=h;refine⟨⟨hc 0 _ rfl,hc 1 _ rfl,hc 2 _ rfl,hc 3 _ rfl,hc 4 _ rfl,hc 5 _ rfl⟩,⟨AF,cF,hc 6 _ rfl,h1⟩,⟨AA,cA,hc 7 _ rfl,h2⟩,⟨AB,cB,hc 8 _ rfl,h3⟩,⟨AE,cE,hc 9 _ rfl,h4⟩,dW.x hr fun j u hu=>?_⟩;have:=hc (10+j) u (by rw[List.getElem?_append_right (by simp[dV]),show 10+j - (dV k a b t (.slice AF i.facts.length cF) (.slice AA i.atoms.length cA) (.slice AB body.len cB) (.slice AE els.len cE)).length=j by simp[dV]];exact hu)
  rwa [show o+(10+j)=o+10+j by omega] at this
theorem dW.app:∀ {L M:ay} {cs ds:List Value},dW w X L cs->dW w X M ds->dW w X (L.app M) (cs++ds)
 | .nil,M,cs,ds,h,h'=>by simp only[dW] at h;subst h;exact h'
 | .cons k a b t i body els r,M,cs,ds,h,h'=>by
  obtain⟨AF,cF,AA,cA,AB,cB,AE,cE,rest,rfl,h1,h2,h3,h4,hr⟩:=h;exact⟨AF,cF,AA,cA,AB,cB,AE,cE,rest++ds,List.append_assoc ..,h1,h2,h3,h4,dW.app hr h'⟩
end
def dB(w:World)(base:Nat)(v:Value)(L:ay):Prop:=∃cs,w.ownsRow base tC 10 v L.len cs/\dW w (fun b=>base<=b/\v.ownBlock≠some b) L cs/\L.len<=1049600
section
variable{w w':World}{base base':Nat}{v:Value}{L:ay}
theorem dB.bz(h:dB w base v L)(hb:Below w.heap.size w w'):dB w' base v L:=by
 obtain⟨cs,h1,h2,h3⟩:=h;exact⟨cs,own_below h1 hb,h2.keep fun b _ hl=>hb.block b hl,h3⟩
theorem dB.fr{g:Nat}(h:dB w base v L)(hf:Fr g w w')(hg:g<base:=by omega):dB w' base v L:=by
 obtain⟨cs,h1,h2,h3⟩:=h;exact⟨cs,yV h1 hf hg,h2.keep fun b hb hl=>hf.block b hl (by omega),h3⟩
theorem dB.bq(h:dB w base v L)(hb:base'<=base:=by omega):dB w base' v L:=by
 obtain⟨cs,h1,h2,h3⟩:=h;exact⟨cs,fu h1 hb,h2.mono fun b hx _=>⟨by omega,hx.2⟩,h3⟩
theorem dB.rj(h:dB w base v L):∃A c,v=.slice A L.len c/\bH w base w.heap.size A L:=by
 obtain⟨cs,⟨hl,h2⟩,h3,h4⟩:=h;rcases h2 with ⟨rfl,hn⟩|⟨g,cap,cur,rfl,hb,hg,hn,hm,hs,ht⟩
 ·exact⟨none,0,by rw[hn],fun hp=>by omega⟩
 ·refine⟨_,_,rfl,fun hp=>⟨g,0,rfl,hb,ae.lt hg,iE.at_ (fun b hx=>hx.1) (dW.x h3 fun j u hu=>?_)⟩⟩;rw[Nat.zero_add,cell_of_row w g j cur tC (0,0) hg];rw[<-ht,List.getElem?_take] at hu
  split at hu
  ·simpa using hu
  ·cases hu
theorem dB.nil(w:World)(base:Nat):dB w base (.slice none 0 0) .nil:=⟨[],World.ownsRow_nil _ _ _ _,rfl,by simp[ay.len]⟩
theorem dB.empty(w:World){base:Nat}(hb:base<=w.heap.size):dB (w.alloc (.cells #[] tC)) base (.slice (some ⟨w.heap.size,0,none⟩) 0 0) .nil:=
 ⟨[],fu (kP w _ _) hb,rfl,by simp[ay.len]⟩
theorem dB.lim(h:dB w base v L):L.len<=1049600:=by obtain⟨_,_,_,h⟩:=h;exact h
end
theorem dB.grow{w w':World}{base:Nat}{v v':Value}{L:ay}{k a b:Int}{t:aF}{i:au}{body els:ay}{AF AA AB AE:Option Addr}{cF cA cB cE:Nat}{cs:List Value}
  (hT:dW w (fun b=>base<=b/\v.ownBlock≠some b) L cs) (hl:L.len+1<=1049600)
  (h1:my w (fun b=>base<=b/\v.ownBlock≠some b) 3 AF i.facts.length (iJ i.facts)) (h2:my w (fun b=>base<=b/\v.ownBlock≠some b) 3 AA i.atoms.length (gK i.atoms))
  (h3:bu w (fun b=>base<=b/\v.ownBlock≠some b) AB body) (h4:bu w (fun b=>base<=b/\v.ownBlock≠some b) AE els)
  (ho:w'.ownsRow base tC 10 v' (L.len+1) (cs++dV k a b t (.slice AF i.facts.length cF) (.slice AA i.atoms.length cA) (.slice AB body.len cB) (.slice AE els.len cE)))
  (hg:w.grownBy w' v.ownBlock) (hv:v'.ownBlock=v.ownBlock\/v'.ownBlock=some w.heap.size):dB w' base v' (L.app (.cons k a b t i body els .nil)):=by
 have hk:∀b,(base<=b/\v.ownBlock≠some b)->b<w.heap.size->w'.heap[b]? = w.heap[b]?:=fun b hb hlt=>hg.block b hlt (fun e=>hb.2 e.symm);have hlen:(L.app (.cons k a b t i body els .nil)).len=L.len+1:=by rw[ay.bY];rfl
 refine⟨cs++dV k a b t (.slice AF i.facts.length cF) (.slice AA i.atoms.length cA) (.slice AB body.len cB) (.slice AE els.len cE),by rw[hlen];exact ho,?_,by omega⟩
 have Hg:dW w (fun b=>base<=b/\v.ownBlock≠some b) (L.app (.cons k a b t i body els .nil)) (cs++dV k a b t (.slice AF i.facts.length cF) (.slice AA i.atoms.length cA) (.slice AB body.len cB) (.slice AE els.len cE)):=
  hT.app ⟨AF,cF,AA,cA,AB,cB,AE,cE,[],by rw[List.append_nil],h1,h2,h3,h4,rfl⟩
 have hT3:=(Hg.mono (Y:=fun b=>(base<=b/\v.ownBlock≠some b)/\b<w.heap.size) fun b hb hlt=>⟨hb,hlt⟩).keep (w':=w') fun b hb hlt=>hk b hb.1 hlt;refine hT3.mono fun b hb _=>⟨hb.1.1,fun e=>?_⟩;rcases hv with hv|hv
 ·exact hb.1.2 (hv.symm.trans e)
 ·rw[hv] at e;injection e with e;omega
def sH(l m:Bs)(i:Nat):Bool:=decide ((l.drop i).take m.length=m)
def Gv(l m:Bs):Option Nat:=(range (l.length+1 - m.length)).find? (sH l m)
def dH(l m:Bs):Bs×Bs×Bool:=match Gv l m with
 | some i=>(l.take i,l.drop (i+m.length),true)
 | none=>(l,[],false)
theorem Jk{l m:Bs}{k:Nat}(hk:k+m.length<=l.length)(h:sH l m k=true)(hn:∀j,j<k->sH l m j=false):Gv l m=some k:=by
 unfold Gv;rw[List.find?_range_eq_some];exact⟨h,by simp;omega,fun j hj=>by simp[hn j hj]⟩
theorem Jl{l m:Bs}(hn:∀j,j+m.length<=l.length->sH l m j=false):Gv l m=none:=by
 unfold Gv;rw[List.find?_eq_none];intro j hj;simp only[List.mem_range] at hj;simp[hn j (by omega)]
theorem uJ(l m:Bs):(dH l m).1.length<=l.length/\(dH l m).2.1.length<=l.length:=by
 unfold dH;split<;>simp<;>omega
def jg(l:Bs):Bs×Bool:=if l.length<2\/l.head?≠some 91\/l.getLast?≠some 93 then (l,false) else ((l.drop 1).take (l.length - 2),true)
structure Hd where
 k:Int
 a:Int
 b:Int
 t:aF
 i:au
def pT(l:Bs):Int:=((dU l).getD 0:Nat)
def Gw:aF:=⟨false,0,0⟩
def pF(l:Bs):aF:=(bV l).getD Gw
def pA(l:Bs):au:=(eF l).getD ⟨[],[]⟩
def nC(x y:Bs):Hd:=⟨if (jg y).2 then 2 else if (jg x).2 then 3 else 1,pT (jg x).1,pT (jg y).1,Gw,⟨[],[]⟩⟩
def Gx(word rest:Bs):Hd:=
 if word=[110,101,119] then ⟨4,pT rest,0,Gw,⟨[],[]⟩⟩
 else if word=[102,114,101,101] then ⟨5,pT rest,0,Gw,⟨[],[]⟩⟩
 else if word=[105,102] then ⟨6,0,0,pF rest,⟨[],[]⟩⟩
 else ⟨7,0,0,pF (dH rest [32,119,105,116,104,32]).1,pA (dH rest [32,119,105,116,104,32]).2.1⟩
def bS(l:Bs):Hd:=if (dH l [58,61]).2.2 then nC (dH l [58,61]).1 (dH l [58,61]).2.1 else Gx (dH l [32]).1 (dH l [32]).2.1
abbrev yl:Bs:=[101,110,100]
abbrev kK:Bs:=[101,108,115,101]
def ay.nD(h:Hd)(body els r:ay):ay:=.cons h.k h.a h.b h.t h.i body els r
def bR(ls:List Bs):Nat->Nat->Nat->ay×Option Nat
 | 0,p,_=>(.nil,some p)
 | n+1,p,d=>
  if p+1<ls.length/\ls.getD p []≠yl/\ls.getD p []≠kK then
   if (bS (ls.getD p [])).k=6\/(bS (ls.getD p [])).k=7 then
    if d<1 then (.nil,none)
    else match bR ls n (p+1) (d - 1) with
     | (body,none)=>(.nD (bS (ls.getD p [])) body .nil .nil,none)
     | (body,some m)=>
      if m<ls.length/\ls.getD m []=kK then
       match bR ls n (m+1) (d - 1) with
       | (els,none)=>(.nD (bS (ls.getD p [])) body els .nil,none)
       | (els,some q)=>(.nD (bS (ls.getD p [])) body els (bR ls n (q+1) d).1,(bR ls n (q+1) d).2)
      else (.nD (bS (ls.getD p [])) body .nil (bR ls n (m+1) d).1,(bR ls n (m+1) d).2)
   else (.nD (bS (ls.getD p [])) .nil .nil (bR ls n (p+1) d).1,(bR ls n (p+1) d).2)
  else (.nil,some p)
theorem mH(ls:List Bs):∀(n p d:Nat) {m:Nat},(bR ls n p d).2=some m->p<=m/\m<=max p (ls.length+d)
 | 0,p,d,m,h=>by simp[bR] at h;omega
 | n+1,p,d,m,h=>by
  unfold bR at h
  split at h
  ·rename_i hc
   split at h
   ·split at h
    ·cases h
    ·split at h
     ·cases h
     ·rename_i body q hq;have h1:=mH ls n (p+1) (d - 1) (by rw[hq])
      split at h
      ·rename_i hm
       split at h
       ·cases h
       ·rename_i els r hr;have h2:=mH ls n (q+1) (d - 1) (by rw[hr]);have h3:=mH ls n (r+1) d h;omega
      ·have h3:=mH ls n (q+1) d h;omega
   ·have h1:=mH ls n (p+1) d h;omega
  ·injection h with h;omega
def nU(k a b:Int)(t:aF)(i:au):Bs:=
 if k=1 then bA a++[58,61]++bA b
 else if k=2 then bA a++[58,61,91]++bA b++[93]
 else if k=3 then [91]++bA a++[93,58,61]++bA b
 else if k=4 then [110,101,119,32]++bA a
 else if k=5 then [102,114,101,101,32]++bA a
 else if k=6 then [105,102,32]++AQ t
 else [119,104,105,108,101,32]++AQ t++[32,119,105,116,104,32]++AR i
def gu:ay->Bs
 | .nil=>[]
 | .cons k a b t i body els r=>nU k a b t i++[10]++gu body++(if 0<els.len then [101,108,115,101,10]++gu els else [])++(if k=6\/k=7 then [101,110,100,10] else [])++gu r
def Gy(L:ay):Bs:=if L.prog then gu L else []
def nV(l:Bs):ay:=(bR (eY 10 l) ((eY 10 l).length+1) 0 4).1
def jb(l:Bs):Bool:=decide (l.length<=4000)&&(decide (Gy (nV l)=l)&&(nV l).prog)
def mg(l:Bs):ay:=if jb l then nV l else .nil
theorem CX{k a b:Int}{t:aF}{i:au}(h1:i.facts.length<=12)(h2:i.atoms.length<=6):(nU k a b t i).length<=230:=by
 have ha:=dx a;have hb:=dx b;have ht:=vQ t;have hi:=CW i;unfold nU
 repeat' split
 all_goals simp only[length_append,length_cons,length_nil];omega
theorem au.wE{i:au}(h:i.valid=true):i.facts.length<=12/\i.atoms.length<=6:=by
 simp only[au.valid,aS,Bool.and_eq_true,decide_eq_true_eq] at h;exact⟨h.1.1,h.2.1⟩
theorem Gz{k a b:Int}{t:aF}{i:au}{body els:ay}(h:dK k a b t i body els=true):i.facts.length<=12/\i.atoms.length<=6:=by
 unfold dK at h
 split at h
 ·simp only[Bool.and_eq_true,kI,decide_eq_true_eq] at h;have:=h.2.2.2;omega
 split at h
 ·simp only[Bool.and_eq_true] at h;exact au.wE h.2.2.2.1
 ·simp only[iC,Bool.and_eq_true,kI,decide_eq_true_eq] at h;have:=h.1.2.1;omega
theorem mO:∀ {L:ay} {d:Nat},L.shape d=true->(gu L).length<=L.sz * 250
 | .nil,_,_=>by simp[gu,ay.sz]
 | .cons k a b t i body els r,d,h=>by
  simp only[ay.shape,Bool.and_eq_true] at h;have h1:=mO h.2.2.1;have h2:=mO h.2.2.2.1;have h3:=mO h.2.2.2.2;have h4:=Gz h.2.1;have h5:=CX (k:=k) (a:=a) (b:=b) (t:=t) h4.1 h4.2
  have h6:(if 0<els.len then ([101,108,115,101,10]:Bs)++gu els else []).length<=5+els.sz * 250:=by
   split
   ·simp only[length_append,length_cons,length_nil];omega
   ·simp
  have h7:(if k=6\/k=7 then ([101,110,100,10]:Bs) else []).length<=4:=by split<;>simp
  simp only[gu,length_append,length_cons,length_nil,ay.sz];omega
theorem Bc{L:ay}(h:L.prog=true):L.shape 4=true/\L.sz<=16:=by
 unfold ay.prog at h;simpa only[Bool.and_eq_true,decide_eq_true_eq] using h
theorem Ed(l:Bs)(i j:Nat)(ii jj:Int)(hi:ii=i)(hj:jj=j)(hij:i<=j)(hjl:j<=l.length)(w:World):(Instr.slice 9 (sv l) (some (.int .i64 ii)) (some (.int .i64 jj)) none).run Tryz.prog w=.ok (sv ((l.drop i).take (j - i))) w:=by
 subst hi hj;rw[run_slice_string w 9 _ .i64 .i64 _ _ Tryz.underlying9 (by omega) (by omega) (by simp[ByteArray.size];omega)];simp only[Int.toNat_natCast,NV]
theorem Tt(l:Bs)(j:Nat)(jj:Int)(hj:jj=j)(hjl:j<=l.length)(w:World):(Instr.slice 9 (sv l) none (some (.int .i64 jj)) none).run Tryz.prog w=.ok (sv (l.take j)) w:=by
 subst hj;rw[run_slice_string_h w 9 _ Tryz.underlying9 .i64 _ (by omega) (by simp[ByteArray.size];omega)];simp only[Int.toNat_natCast,NV,drop_zero,Nat.sub_zero]
theorem Tu(l:Bs)(i:Nat)(ii:Int)(hi:ii=i)(hil:i<=l.length)(w:World):(Instr.slice 9 (sv l) (some (.int .i64 ii)) none none).run Tryz.prog w=.ok (sv (l.drop i)) w:=by
 subst hi;rw[run_slice_string_l w 9 _ Tryz.underlying9 .i64 _ (by omega) (by simp[ByteArray.size];omega)];simp only[Int.toNat_natCast,NV];rw[take_of_length_le (by simp[ByteArray.size])]
theorem wZ(l m:Bs)(w:World)(hl:l.length<=2000000)(hm:m.length<=100):Calls Tryz.prog 118 #[sv l,sv m] w fun e w'=>e=.returned (.tuple #[sv (dH l m).1,sv (dH l m).2.1,.bool (dH l m).2.2])/\Below w.heap.size w w':=by
 (go_enter Tryz.func118,Tryz.ntmps118);(go_wp2_with fail)
 go_loopw [7] (fun i wr=>∃k:Nat,k<=l.length+1/\i=.int .i64 k/\aJ (∀j:Nat,j<k->sH l m j=false)/\wr=w) (fun i _=>l.length+2 - (intOf i).toNat)
 case atStart=>exact⟨0,by omega,rfl,ax fun j h=>by omega,rfl⟩
 case round=>
  obtain⟨k,hk,rfl,HN,rfl⟩:=hrel;by_cases hle:k+m.length<=l.length
  ·have hki:(k:Int)+(m.length:Int)<=(l.length:Int):=by omega
   cases he:sH l m k
   ·obtain⟨z,hz⟩:∃z,z=(l.drop k).take m.length:=⟨_,rfl⟩;have hsl:=fun W:World=>Ed l k (k+m.length) (k:Int) ((k:Int)+(m.length:Int)) rfl (by omega) (by omega) hle W;rw[Nat.add_sub_cancel_left,<-hz] at hsl
    have hzm:(z == m)=false:=by
     unfold sH at he;rw[bP,hz];exact he
    have HM:aJ (∀j:Nat,j<k+1->sH l m j=false):=ax fun j hj=>by
     by_cases e:j=k
     ·subst e;exact he
     ·exact HN.o j (by omega)
    clear he hz;(go_wp2_with fail)
    go_round
    case rel=>exact⟨k+1,by omega,by go_num,HM,by first|rfl|trivial⟩
    case measure=>simp[intOf];omega
   ·have hsl:=fun W:World=>Ed l k (k+m.length) (k:Int) ((k:Int)+(m.length:Int)) rfl (by omega) (by omega) hle W;rw[Nat.add_sub_cancel_left,show (l.drop k).take m.length=m from of_decide_eq_true he] at hsl;have hs2:=fun W:World=>Tt l k (k:Int) rfl (by omega) W;have hs3:=fun W:World=>Tu l (k+m.length) ((k:Int)+(m.length:Int)) (by omega) (by omega) W;have HR:=ax (Jk hle he HN.o);have hS:aJ (dH l m=(l.take k,l.drop (k+m.length),true)):=ax (by unfold dH;rw[HR.o]);clear he HR;(go_wp2_with fail);(go_quiet (fail));go_wp2;refine bodyPost_ret (v:=.tuple #[sv (l.take k),sv (l.drop (k+m.length)),.bool true]) (by simp[results,Tryz.results118,go_sem]) rfl ⟨by rw[hS.o],aj⟩
  ·have hki:¬(k:Int)+(m.length:Int)<=(l.length:Int):=by omega
   have hS:aJ (dH l m=(l,[],false)):=ax (by unfold dH;rw[Jl (fun j hj=>HN.o j (by omega))]);go_wp2;refine bodyPost_ret (v:=.tuple #[sv l,sv [],.bool false]) (by simp[results,Tryz.results118,go_sem]) rfl ⟨by rw[hS.o],aj⟩
theorem Ee{l:Bs}(h:l.length<2\/l.head?≠some 91\/l.getLast?≠some 93):jg l=(l,false):=by unfold jg;rw[if_pos h]
theorem N6{l:Bs}(h:2<=l.length)(h1:l[0]'(by omega)=91)(h2:l[l.length - 1]'(by omega)=93):jg l=((l.drop 1).take (l.length - 2),true):=by
 unfold jg;rw[if_neg];rintro(h3|h3|h3)
 ·omega
 ·exact h3 (by rw[List.head?_eq_getElem?,List.getElem?_eq_getElem (by omega),h1])
 ·exact h3 (by rw[List.getLast?_eq_getElem?,List.getElem?_eq_getElem (by omega),h2])
theorem GA(l:Bs)(w:World)(hl:l.length<=2000000):Calls Tryz.prog 145 #[sv l] w fun e w'=>e=.returned (.tuple #[sv (jg l).1,.bool (jg l).2])/\Below w.heap.size w w':=by
 by_cases h2:l.length<2
 ·have h2i:(l.length:Int)<2:=by omega
  have hR:=ax (Ee (Or.inl h2));clear h2;(go_enter Tryz.func145,Tryz.ntmps145);go_wp2;refine bodyPost_ret (v:=.tuple #[sv l,.bool false]) (by simp[results,Tryz.results145,go_sem]) rfl ⟨by rw[hR.o],aj⟩
 ·have h2i:¬(l.length:Int)<2:=by omega
  have h0i:(0:Int)<(l.length:Int):=by omega
  obtain⟨n,hn⟩:∃n,n+1=l.length:=⟨l.length - 1,by omega⟩;have hni:(l.length:Int) - 1=(n:Int):=by omega
  have hnl:(n:Int)<(l.length:Int):=by omega
  have hx:=LC l 0 (by omega);have hy:=LC l n (by omega);by_cases ha:l[0]'(by omega)=91
  ·by_cases hb:l[n]'(by omega)=93
   ·have hR:=ax (N6 (by omega) ha (by simpa[<-hn] using hb));rw[ha] at hx;rw[hb] at hy;have h1n:(1:Int)<=(n:Int):=by omega
    have hnn:(n:Int)<=(l.length:Int):=by omega
    have hsl:=fun W:World=>Ed l 1 n 1 (n:Int) rfl rfl (by omega) (by omega) W;rw[show n - 1=l.length - 2 by omega] at hsl;clear ha hb;(go_enter Tryz.func145,Tryz.ntmps145);go_wp2;refine bodyPost_ret (v:=.tuple #[sv ((l.drop 1).take (l.length - 2)),.bool true]) (by simp[results,Tryz.results145,go_sem]) rfl ⟨by rw[hR.o],aj⟩
   ·have hR:=ax (Ee (l:=l) (Or.inr (Or.inr (by rw[List.getLast?_eq_getElem?,<-hn,Nat.add_sub_cancel,List.getElem?_eq_getElem (by omega)];simpa using hb))));rw[ha] at hx;obtain⟨c,hc⟩:∃c,c=l[n]'(by omega):=⟨_,rfl⟩;rw[<-hc] at hy hb;have hb1:((c.toNat:Int) == 93)=false:=by rw[show (93:Int)=((93:Nat):Int) from rfl,xK c 93 (by decide)];simpa using hb
    have hb2:¬((c.toNat:Int)=93):=by simpa using hb1
    clear hc hb ha;(go_enter Tryz.func145,Tryz.ntmps145);go_wp2;refine bodyPost_ret (v:=.tuple #[sv l,.bool false]) (by simp[results,Tryz.results145,go_sem]) rfl ⟨by rw[hR.o],aj⟩
  ·have hR:=ax (Ee (l:=l) (Or.inr (Or.inl (by rw[List.head?_eq_getElem?,List.getElem?_eq_getElem (by omega)];simpa using ha))));obtain⟨c,hc⟩:∃c,c=l[0]'(by omega):=⟨_,rfl⟩;rw[<-hc] at hx ha;have hb1:((c.toNat:Int) == 91)=false:=by rw[show (91:Int)=((91:Nat):Int) from rfl,xK c 91 (by decide)];simpa using ha
   have hb2:¬((c.toNat:Int)=91):=by simpa using hb1
   clear hc ha;(go_enter Tryz.func145,Tryz.ntmps145);go_wp2;refine bodyPost_ret (v:=.tuple #[sv l,.bool false]) (by simp[results,Tryz.results145,go_sem]) rfl ⟨by rw[hR.o],aj⟩
theorem dB.part{w:World}{base n c:Nat}{A:Option Addr}{L:ay}(h:dB w base (.slice A n c) L):bu w (fun b=>base<=b) A L:=fun hl=>by
 obtain⟨cs,⟨hlen,h2⟩,h3,h4⟩:=h;rcases h2 with ⟨e,hn⟩|⟨g,cap,cur,e,hb,hg,hn,hm,hs,ht⟩
 ·omega
 ·injection e with e1 e2 e3;subst e1;refine⟨g,0,rfl,hb,(dW.x h3 fun j u hu=>?_).mono fun b hx _=>hx.1⟩;rw[Nat.zero_add,cell_of_row w g j cur tC (0,0) hg];rw[<-ht,List.getElem?_take] at hu
  split at hu
  ·simpa using hu
  ·cases hu
theorem bu.fr{w w':World}{base g:Nat}{A:Option Addr}{L:ay}(h:bu w (fun b=>base<=b) A L)(hf:Fr g w w')(hg:g<base:=by omega):bu w' (fun b=>base<=b) A L:=h.keep fun b hb hl=>hf.block b hl (by omega)
theorem my.fr{w w':World}{base g size n:Nat}{A:Option Addr}{xs:List Value}(h:my w (fun b=>base<=b) size A n xs)(hf:Fr g w w')(hg:g<base:=by omega):my w' (fun b=>base<=b) size A n xs:=h.keep fun b hb hl=>hf.block b hl (by omega)
theorem my.none(w:World)(X:Nat->Prop)(size:Nat)(A:Option Addr):my w X size A 0 []:=⟨by simp,fun h=>by omega⟩
section
variable{ops:Array Oper}{rest:List Oper}{o:Oper}{a:Act}{Q:Exit->Act->World->Prop}{w:World}{base:Nat}{v:Value}
theorem xL(hgd:o.guard=none)(s x:Operand)(ho:o.op=.call { callee:=.builtin .append,args:=#[s,x],argTypes:=#[27,27] })
  {n:Nat} {cs:List Value} (hs:a.eval s=v) (hown:w.ownsRow base tC 10 v n cs) {g0 c:Nat} {arr:Array Value} (wy:List Value) (hx:a.eval x=.slice (some ⟨g0,0,none⟩) 1 c) (hk:ae w g0 tC arr) (hcs:arr=wy.toArray) (ht:wy.length=10) (h1:∀u∈wy,u.oneCell'=true) (hn:n+1<=1049600) (hb:base<=w.heap.size)
  (h:∀A' c' w',w'.ownsRow base tC 10 (.slice A' (n+1) c') (n+1) (cs++wy)->w.grownBy w' v.ownBlock->Below base w w'->((Value.slice A' (n+1) c').ownBlock=v.ownBlock\/(Value.slice A' (n+1) c').ownBlock=some w.heap.size)->wpList Tryz.prog ops Q rest (a.put o.dst (.slice A' (n+1) c')) w'):wpList Tryz.prog ops Q (o :: rest) a w:=by
 have hadd:∀j,(⟨g0,0,none⟩:Addr).add j=⟨g0,j,none⟩:=fun j=>by unfold Addr.add;split<;>simp_all
 unfold wpList;rw[if_pos (show Region.wanted o (yielded ops a.tmps)=true by simp[Region.wanted,hgd])];refine Or.inl (JZ (news:=wy) s x 27 ho Tryz.underlying27 QS rfl (by decide) (by decide) hs hown hx (by rw[ht]) (fun j u hu=>?_) h1 hn hb ?_)
 ·rw[hadd,hk.cell,hcs];simpa using hu
 ·intro v' w' q1 q2 q3 q4;obtain⟨q1a,q1b⟩:=q1;rcases q1b with ⟨rfl,e⟩|⟨k,cap,cur,rfl,r⟩
  ·omega
  ·exact h _ _ w' ⟨q1a,Or.inr ⟨k,cap,cur,rfl,r⟩⟩ q2 q3 q4
end
theorem qz(k a b:Int)(t:aF)(AF AA AB AE:Option Addr)(nF nA nB nE cF cA cB cE:Nat):∀u∈dV k a b t (.slice AF nF cF) (.slice AA nA cA) (.slice AB nB cB) (.slice AE nE cE),u.oneCell'=true:=by
 intro u hu;simp only[dV,List.mem_cons,List.not_mem_nil,or_false] at hu;rcases hu with rfl|rfl|rfl|rfl|rfl|rfl|rfl|rfl|rfl|rfl<;>rfl
theorem vV{w:World}{g:Nat}{t:TypeId}{x0 x1 x2 x3 x4 x5 x6 x7 x8 x9 v0 v1 v2 v3 v4 v5 v6 v7 v8 v9:Value}(h:ae w g t #[x0,x1,x2,x3,x4,x5,x6,x7,x8,x9]):ae (((((((((((w).setCell ⟨g,0,none⟩ v0).setCell ⟨g,1,none⟩ v1).setCell ⟨g,2,none⟩ v2).setCell ⟨g,3,none⟩ v3).setCell ⟨g,4,none⟩ v4).setCell ⟨g,5,none⟩ v5).setCell ⟨g,6,none⟩ v6).setCell ⟨g,7,none⟩ v7).setCell ⟨g,8,none⟩ v8).setCell ⟨g,9,none⟩ v9) g t #[v0,v1,v2,v3,v4,v5,v6,v7,v8,v9]:=by
 have h2:=((((((((((h.ag 0 v0).ag 1 v1).ag 2 v2).ag 3 v3).ag 4 v4).ag 5 v5).ag 6 v6).ag 7 v7).ag 8 v8).ag 9 v9);simp only[List.setIfInBounds_toArray,List.set_cons_zero,List.set_cons_succ] at h2;exact h2
theorem ym{P:Program}{F:Func}{Q:Ending->World->Prop}{a:Act}{T:World}{D:World->Prop}(hd:D T)(h:∀T,D T->bodyPost P F Q Exit.ret a T):bodyPost P F Q Exit.ret a T:=h T hd
def fw(k a b:Int):Array Value:=#[.int .i64 k,.int .i64 a,.int .i64 b,.bool false,.int .i64 0,.int .i64 0,.slice none 0 0,.slice none 0 0,.slice none 0 0,.slice none 0 0]
theorem Jm(g p:Nat)(w:World)(h:dX w g p)(hp:p<=999990) :
  Calls Tryz.prog 67 #[.pointer (some ⟨g,0,none⟩)] w fun e w'=>∃k a b,e=.returned (.agg (fw k a b))/\dX w' g (p+3)/\Fr g w w':=by
 have H:=ax h;have hlt:=h.lt;clear h;have hgn:g≠w.heap.size:=by omega
 (go_enter Tryz.func67,Tryz.ntmps67);have k0:ae (w.alloc (.cells (fw 0 0 0) tC)) w.heap.size tC (fw 0 0 0):=ae.new _ _ _;(go_wp2_with fail);refine(iw g p 5 _ (H.o.bz aj) (by omega)).mono ?_;rintro e w1 ⟨m,rfl,hm,DV,hF1⟩;have k1:=k0.fr hF1 (Ne.symm hgn);have F1:Fr g w w1:=((Fr.refl g w).alloc _).trans hF1;have hm5:(m:Int)<5:=by omega
 replace DV:=ax DV;replace F1:=ax F1;clear k0 hF1 hm;(go_wp2_with fail);refine(eU g (p+1) [1,2,3,1,4] _ _ _ _ (DV.o.bz aj) (by omega) (ae.new _ _ _) (by rfl) (by have:=DV.o.lt;omega) (by rfl) (by simp) (by simp)).mono ?_;rintro e w2 ⟨a,-,rfl,hR2,hF2⟩;have k2:=(k1.alloc _).fr hF2 (Ne.symm hgn);have F2:=ax ((F1.o.alloc _).trans hF2);replace hR2:=ax hR2;clear k1 hF2 DV F1;(go_wp2_with fail);refine(eU g (p+1+1) [2,0,1,3,5] _ _ _ _ (hR2.o.bz aj) (by omega) (ae.new _ _ _) (by rfl) (by have:=hR2.o.lt;omega) (by rfl) (by simp) (by simp)).mono ?_;rintro e w3 ⟨b,-,rfl,BB,lD⟩;have k3:=(k2.alloc _).fr lD (Ne.symm hgn);have F3:=ax ((F2.o.alloc _).trans lD);replace BB:=ax BB;clear k2 lD hR2 F2;have lt3:=k3.lt;have c0:w3.cell? ⟨w.heap.size,0,none⟩=some (.int .i64 0):=k3.cell 0;have c1:w3.cell? ⟨w.heap.size,1,none⟩=some (.int .i64 0):=k3.cell 1;have c2:w3.cell? ⟨w.heap.size,2,none⟩=some (.int .i64 0):=k3.cell 2;have c3:w3.cell? ⟨w.heap.size,3,none⟩=some (.bool false):=k3.cell 3;have c4:w3.cell? ⟨w.heap.size,4,none⟩=some (.int .i64 0):=k3.cell 4;have c5:w3.cell? ⟨w.heap.size,5,none⟩=some (.int .i64 0):=k3.cell 5;have c6:w3.cell? ⟨w.heap.size,6,none⟩=some (.slice none 0 0):=k3.cell 6;have c7:w3.cell? ⟨w.heap.size,7,none⟩=some (.slice none 0 0):=k3.cell 7;have c8:w3.cell? ⟨w.heap.size,8,none⟩=some (.slice none 0 0):=k3.cell 8;have c9:w3.cell? ⟨w.heap.size,9,none⟩=some (.slice none 0 0):=k3.cell 9;have f3:=k3.frozen;have hgw:g<w3.heap.size:=by omega
 unfold fw at k3;by_cases q4:1+(m:Int)=4
 ·(go_wp2_with fail);refine ym (D:=fun T=>ae T w.heap.size tC #[.int .i64 4,.int .i64 a,.int .i64 0,.bool false,.int .i64 0,.int .i64 0,.slice none 0 0,.slice none 0 0,.slice none 0 0,.slice none 0 0]/\dX T g (p+3)/\Fr g w T) ⟨(vV k3).alloc _,?_,?_⟩ ?_
  ·refine dX.bz ?_ (ai aU _)
   iterate 10 (refine dX.ag ?_ (by simp only;omega) _)
   exact BB.o
  ·refine Fr.alloc ?_ _
   iterate 10 (refine Fr.ag ?_ (Or.inr bn) _)
   exact F3.o
  ·rintro T ⟨kT,r1,r2⟩;have t:=kT.cell;exact bodyPost_ret (v:=.agg (fw 4 a 0)) (by simp[results,Tryz.results67,go_sem,fw,t]) rfl ⟨_,_,_,rfl,r1,r2⟩
 ·have q4':=beq_false_of_ne q4;by_cases q5:1+(m:Int)=5
  ·(go_wp2_with fail);refine ym (D:=fun T=>ae T w.heap.size tC #[.int .i64 5,.int .i64 a,.int .i64 0,.bool false,.int .i64 0,.int .i64 0,.slice none 0 0,.slice none 0 0,.slice none 0 0,.slice none 0 0]/\dX T g (p+3)/\Fr g w T) ⟨(vV k3).alloc _,?_,?_⟩ ?_
   ·refine dX.bz ?_ (ai aU _)
    iterate 10 (refine dX.ag ?_ (by simp only;omega) _)
    exact BB.o
   ·refine Fr.alloc ?_ _
    iterate 10 (refine Fr.ag ?_ (Or.inr bn) _)
    exact F3.o
   ·rintro T ⟨kT,r1,r2⟩;have t:=kT.cell;exact bodyPost_ret (v:=.agg (fw 5 a 0)) (by simp[results,Tryz.results67,go_sem,fw,t]) rfl ⟨_,_,_,rfl,r1,r2⟩
  ·have q5':=beq_false_of_ne q5;(go_wp2_with fail);refine ym (D:=fun T=>ae T w.heap.size tC #[.int .i64 (1+(m:Int)),.int .i64 a,.int .i64 b,.bool false,.int .i64 0,.int .i64 0,.slice none 0 0,.slice none 0 0,.slice none 0 0,.slice none 0 0]/\dX T g (p+3)/\Fr g w T) ⟨(vV k3).alloc _,?_,?_⟩ ?_
   ·refine dX.bz ?_ (ai aU _)
    iterate 10 (refine dX.ag ?_ (by simp only;omega) _)
    exact BB.o
   ·refine Fr.alloc ?_ _
    iterate 10 (refine Fr.ag ?_ (Or.inr bn) _)
    exact F3.o
   ·rintro T ⟨kT,r1,r2⟩;have t:=kT.cell;exact bodyPost_ret (v:=.agg (fw (1+(m:Int)) a b)) (by simp[results,Tryz.results67,go_sem,fw,t]) rfl ⟨_,_,_,rfl,r1,r2⟩
theorem GB(g p:Nat)(w:World)(h:dX w g p)(hp:p<=999990) :
  Calls Tryz.prog 68 #[.pointer (some ⟨g,0,none⟩)] w fun e w'=>∃f:aF,e=.returned f.val/\dX w' g (p+3)/\Fr g w w':=by
 have H:=ax h;have hlt:=h.lt;clear h;(go_enter Tryz.func68,Tryz.ntmps68);have k0:ae (w.alloc (.cells #[.bool false,.int .i64 0,.int .i64 0] tF)) w.heap.size tF #[.bool false,.int .i64 0,.int .i64 0]:=ae.new _ _ _;(go_wp2_with fail);refine(iw g p 3 _ (H.o.bz aj) (by omega)).mono ?_;rintro e w1 ⟨m,rfl,-,hR,hF⟩;replace k0:=k0.fr hF;have uh:=ax (((Fr.refl g w).alloc (.cells #[.bool false,.int .i64 0,.int .i64 0] tF)).trans hF);have HR1:=ax hR;clear hR hF;(go_wp2_with fail);refine(eU g (p+1) [1,2,3] _ _ _ _ (HR1.o.bz aj) (by omega) (ae.new _ _ _) (by rfl) (by have:=HR1.o.lt;omega) (by rfl) (by simp) (by simp)).mono ?_;rintro e w2 ⟨a,-,rfl,hR,hF⟩;replace k0:=(k0.alloc _).fr hF;have pQ:=ax ((uh.o.alloc _).trans hF);have HR2:=ax hR;clear hR hF;(go_wp2_with fail);refine(eU g (p+1+1) [0,2,0,5] _ _ _ _ (HR2.o.bz aj) (by omega) (ae.new _ _ _) (by rfl) (by have:=HR2.o.lt;omega) (by rfl) (by simp) (by simp)).mono ?_;rintro e w3 ⟨b,-,rfl,hR,hF⟩;replace k0:=(k0.alloc _).fr hF;have oz:=ax ((pQ.o.alloc _).trans hF);have HR3:=ax hR;clear hR hF;(replace bT:=k0.cell;replace JA:=k0.frozen;replace EE:=k0.lt);go_wp2;refine bodyPost_ret (v:=(aF.mk ((m:Int) == 0) a b).val) (by simp[results,Tryz.results68,go_sem,bT]) rfl ⟨⟨(m:Int) == 0,a,b⟩,rfl,?_,?_⟩
 ·repeat (first|exact HR3.o|refine dX.ag ?_ (by simp only;omega) _)
 ·repeat (first|exact oz.o|refine Fr.ag ?_ (Or.inr bn) _)
theorem pM{w:World}{g k:Nat}{v0 v1 v2 v3 v4 v5 v6 v7 v8 v9:Value}(h:k≠g):(((((((((((w).setCell ⟨g,0,none⟩ v0).setCell ⟨g,1,none⟩ v1).setCell ⟨g,2,none⟩ v2).setCell ⟨g,3,none⟩ v3).setCell ⟨g,4,none⟩ v4).setCell ⟨g,5,none⟩ v5).setCell ⟨g,6,none⟩ v6).setCell ⟨g,7,none⟩ v7).setCell ⟨g,8,none⟩ v8).setCell ⟨g,9,none⟩ v9).heap[k]? = w.heap[k]?:=by
 iterate 9 (refine(Below.heap_setCell _ _ _ k h).trans ?_)
 exact Below.heap_setCell _ _ _ k h
theorem dX.wy{w:World}{g p cb:Nat}{v0 v1 v2 v3 v4 v5 v6 v7 v8 v9:Value}(h:dX w g p)(hc:g<cb):dX (((((((((((w).setCell ⟨cb,0,none⟩ v0).setCell ⟨cb,1,none⟩ v1).setCell ⟨cb,2,none⟩ v2).setCell ⟨cb,3,none⟩ v3).setCell ⟨cb,4,none⟩ v4).setCell ⟨cb,5,none⟩ v5).setCell ⟨cb,6,none⟩ v6).setCell ⟨cb,7,none⟩ v7).setCell ⟨cb,8,none⟩ v8).setCell ⟨cb,9,none⟩ v9) g p:=by
 iterate 10 (refine dX.ag ?_ (by simp only;omega) _)
 exact h
theorem Fr.wy{a w:World}{g cb:Nat}{v0 v1 v2 v3 v4 v5 v6 v7 v8 v9:Value}(h:Fr g a w)(hc:a.heap.size<=cb):Fr g a (((((((((((w).setCell ⟨cb,0,none⟩ v0).setCell ⟨cb,1,none⟩ v1).setCell ⟨cb,2,none⟩ v2).setCell ⟨cb,3,none⟩ v3).setCell ⟨cb,4,none⟩ v4).setCell ⟨cb,5,none⟩ v5).setCell ⟨cb,6,none⟩ v6).setCell ⟨cb,7,none⟩ v7).setCell ⟨cb,8,none⟩ v8).setCell ⟨cb,9,none⟩ v9):=by
 iterate 10 (refine Fr.ag ?_ (Or.inr hc) _)
 exact h
def jO(w:World)(X:Nat->Prop)(cb n:Nat):Prop:=∃(k a b:Int) (t:aF) (i:au) (body els:ay) (AF:Option Addr) (cF:Nat) (AA:Option Addr) (cA:Nat) (AB:Option Addr) (cB:Nat) (AE:Option Addr) (cE:Nat),ae w cb tC #[.int .i64 k,.int .i64 a,.int .i64 b,.bool t.eq,.int .i64 t.a,.int .i64 t.b,.slice AF i.facts.length cF,.slice AA i.atoms.length cA,.slice AB body.len cB,.slice AE els.len cE]/\my w X 3 AF i.facts.length (iJ i.facts)/\my w X 3 AA i.atoms.length (gK i.atoms)/\bu w X AB body/\bu w X AE els/\i.facts.length+i.atoms.length+(body.len+body.cost)+(els.len+els.cost)<=n
theorem jO.wy{w:World}{X:Nat->Prop}{cb n:Nat}{x0 x1 x2 x3 x4 x5 x6 x7 x8 x9:Value}(h:ae w cb tC #[x0,x1,x2,x3,x4,x5,x6,x7,x8,x9])(hX:∀b,X b->b≠cb){k a b:Int}{t:aF}{i:au}{body els:ay}{AF AA AB AE:Option Addr}{cF cA cB cE:Nat}
  (h1:my w X 3 AF i.facts.length (iJ i.facts)) (h2:my w X 3 AA i.atoms.length (gK i.atoms)) (h3:bu w X AB body) (h4:bu w X AE els) (hn:i.facts.length+i.atoms.length+(body.len+body.cost)+(els.len+els.cost)<=n) :
  jO (((((((((((w).setCell ⟨cb,0,none⟩ (.int .i64 k)).setCell ⟨cb,1,none⟩ (.int .i64 a)).setCell ⟨cb,2,none⟩ (.int .i64 b)).setCell ⟨cb,3,none⟩ (.bool t.eq)).setCell ⟨cb,4,none⟩ (.int .i64 t.a)).setCell ⟨cb,5,none⟩ (.int .i64 t.b)).setCell ⟨cb,6,none⟩ (.slice AF i.facts.length cF)).setCell ⟨cb,7,none⟩ (.slice AA i.atoms.length cA)).setCell ⟨cb,8,none⟩ (.slice AB body.len cB)).setCell ⟨cb,9,none⟩ (.slice AE els.len cE)) X cb n:=
 ⟨k,a,b,t,i,body,els,AF,cF,AA,cA,AB,cB,AE,cE,vV h,h1.keep fun b hb _=>pM (hX b hb),h2.keep fun b hb _=>pM (hX b hb),h3.keep fun b hb _=>pM (hX b hb),h4.keep fun b hb _=>pM (hX b hb),hn⟩
theorem jO.els_{w:World}{X:Nat->Prop}{cb n:Nat}{v:Value}(hX:∀b,X b->b≠cb){k a b:Int}{t:aF}{i:au}{body els:ay}{AF AA AB AE:Option Addr}{cF cA cB cE:Nat}
  (h:ae w cb tC #[.int .i64 k,.int .i64 a,.int .i64 b,.bool t.eq,.int .i64 t.a,.int .i64 t.b,.slice AF i.facts.length cF,.slice AA i.atoms.length cA,.slice AB body.len cB,v])
  (h1:my w X 3 AF i.facts.length (iJ i.facts)) (h2:my w X 3 AA i.atoms.length (gK i.atoms)) (h3:bu w X AB body) (h4:bu w X AE els) (hn:i.facts.length+i.atoms.length+(body.len+body.cost)+(els.len+els.cost)<=n) :
  jO (w.setCell ⟨cb,9,none⟩ (.slice AE els.len cE)) X cb n:=
 have hk:∀b,X b->b<w.heap.size->(w.setCell ⟨cb,9,none⟩ (.slice AE els.len cE)).heap[b]? = w.heap[b]?:=fun b hb _=>Below.heap_setCell w ⟨cb,9,none⟩ (.slice AE els.len cE) b (hX b hb)
 ⟨k,a,b,t,i,body,els,AF,cF,AA,cA,AB,cB,AE,cE,(by have h0:=h.ag 9 (.slice AE els.len cE);simpa only[List.setIfInBounds_toArray,List.set_cons_zero,List.set_cons_succ] using h0),h1.keep hk,h2.keep hk,h3.keep hk,h4.keep hk,hn⟩
theorem jO.fr{g:Nat}{w w':World}{X:Nat->Prop}{cb n:Nat}(h:jO w X cb n)(hf:Fr g w w')(hX:∀b,X b->b≠g)(hc:cb≠g):jO w' X cb n:=by
 obtain⟨k,a,b,t,i,body,els,AF,cF,AA,cA,AB,cB,AE,cE,h0,h1,h2,h3,h4,hn⟩:=h;have hk:∀b,X b->b<w.heap.size->w'.heap[b]? = w.heap[b]?:=fun b hb hl=>hf.block b hl (hX b hb);exact⟨k,a,b,t,i,body,els,AF,cF,AA,cA,AB,cB,AE,cE,h0.fr hf hc,h1.keep hk,h2.keep hk,h3.keep hk,h4.keep hk,hn⟩
theorem jO.lt{w:World}{X:Nat->Prop}{cb n:Nat}(h:jO w X cb n):cb<w.heap.size:=by
 obtain⟨k,a,b,t,i,body,els,AF,cF,AA,cA,AB,cB,AE,cE,h0,-⟩:=h;exact h0.lt
theorem jO.more{w:World}{X:Nat->Prop}{cb n m:Nat}(h:jO w X cb n)(hm:n<=m):jO w X cb m:=by
 obtain⟨k,a,b,t,i,body,els,AF,cF,AA,cA,AB,cB,AE,cE,h0,h1,h2,h3,h4,hn⟩:=h;exact⟨k,a,b,t,i,body,els,AF,cF,AA,cA,AB,cB,AE,cE,h0,h1,h2,h3,h4,by omega⟩
theorem jO.simple{w:World}{X:Nat->Prop}{cb:Nat}{k a b:Int}(h:ae w cb tC #[.int .i64 k,.int .i64 a,.int .i64 b,.bool false,.int .i64 0,.int .i64 0,.slice none 0 0,.slice none 0 0,.slice none 0 0,.slice none 0 0]):jO w X cb 0:=
 ⟨k,a,b,⟨false,0,0⟩,⟨[],[]⟩,.nil,.nil,none,0,none,0,none,0,none,0,h,my.none ..,my.none ..,bu.nil _,bu.nil _,by simp[ay.len,ay.cost]⟩
theorem dB.Bd{w:World}{base:Nat}{v:Value}{L:ay}(h:dB w base v L):∀b,v.ownBlock=some b->base<=b/\b<w.heap.size:=by
 obtain⟨cs,⟨hl,h2⟩,h3,h4⟩:=h;intro b hb;rcases h2 with ⟨rfl,hn⟩|⟨g,cap,cur,rfl,hg0,hg,hn,hm,hs,ht⟩
 ·simp[Value.ownBlock] at hb
 ·simp[Value.ownBlock] at hb;subst hb;exact⟨hg0,ae.lt hg⟩
def Mh(w:World)(lo hi:Nat)(v:Value)(L:ay):Prop:=∃cs,w.ownsRow lo tC 10 v L.len cs/\dW w (fun b=>(lo<=b/\b<hi)/\v.ownBlock≠some b) L cs/\L.len<=1049600/\(∀g,v.ownBlock=some g->g<hi)
def gM(w:World)(vo:Option Nat):ay->List Value->Nat->Nat->Prop
 | .nil,cs,lo,hi=>cs=[]/\lo<=hi
 | .cons k a b t i body els r,cs,lo,hi=>∃AF cF AA cA AB cB AE cE rest m0 m1 m2 m3,cs=dV k a b t (.slice AF i.facts.length cF) (.slice AA i.atoms.length cA) (.slice AB body.len cB) (.slice AE els.len cE)++rest/\
   (lo<=m0/\m0<=m1/\m1<=m2/\m2<=m3/\∀g,vo=some g->¬(m0<=g/\g<m3))/\my w (fun b=>m0<=b/\b<m1) 3 AF i.facts.length (iJ i.facts)/\my w (fun b=>m0<=b/\b<m1) 3 AA i.atoms.length (gK i.atoms)/\
   Mh w m1 m2 (.slice AB body.len cB) body/\bu w (fun b=>m2<=b/\b<m3) AE els/\gM w vo r rest m3 hi
def GD(w:World)(base:Nat)(v:Value)(L:ay):Prop:=∃cs,w.ownsRow base tC 10 v L.len cs/\gM w v.ownBlock L cs base w.heap.size/\L.len<=1049600
section
variable{w w':World}{lo hi base:Nat}{v:Value}{L:ay}{vo vo':Option Nat}
theorem vW{base size n:Nat}{t:TypeId}{v:Value}{cs:List Value}(h:w.ownsRow base t size v n cs)(hk:∀g,v.ownBlock=some g->g<w.heap.size->w'.heap[g]? = w.heap[g]?):w'.ownsRow base t size v n cs:=by
 obtain⟨hl,h2⟩:=h;refine⟨hl,?_⟩;rcases h2 with ⟨rfl,hn⟩|⟨g,cap,cur,rfl,hb,hg,hn,hm,hs,ht⟩
 ·exact Or.inl ⟨rfl,hn⟩
 ·have e:=hk g (by simp[Value.ownBlock]) (ae.lt hg);exact Or.inr ⟨g,cap,cur,rfl,hb,e.trans hg,hn,hm,hs,ht⟩
theorem dB.cp(h:dB w base v L):Mh w base w.heap.size v L:=by
 have hl:=h.Bd;obtain⟨cs,h1,h2,h3⟩:=h;exact⟨cs,h1,h2.mono fun b hx hl=>⟨⟨hx.1,hl⟩,hx.2⟩,h3,fun g hg=>(hl g hg).2⟩
theorem Mh.keep(h:Mh w lo hi v L)(hk:∀b,lo<=b->b<hi->b<w.heap.size->w'.heap[b]? = w.heap[b]?):Mh w' lo hi v L:=by
 obtain⟨cs,h1,h2,h3,h4⟩:=h
 have hge:∀g,v.ownBlock=some g->lo<=g:=by
  obtain⟨_,h0⟩:=h1;intro g hg;rcases h0 with ⟨rfl,hn⟩|⟨g',cap,cur,rfl,hb,_⟩
  ·simp[Value.ownBlock] at hg
  ·simp[Value.ownBlock] at hg;omega
 exact⟨cs,vW h1 fun g hg hl=>hk g (hge g hg) (h4 g hg) hl,h2.keep fun b hb hl=>hk b hb.1.1 hb.1.2 hl,h3,h4⟩
theorem Mh.n(h:Mh w lo hi v L):dB w lo v L:=by
 obtain⟨cs,h1,h2,h3,h4⟩:=h;exact⟨cs,h1,h2.mono fun b hx _=>⟨hx.1.1,hx.2⟩,h3⟩
theorem Mh.part{A:Option Addr}{n c:Nat}(h:Mh w lo hi (.slice A n c) L):bu w (fun b=>lo<=b/\b<hi) A L:=fun hl=>by
 obtain⟨cs,⟨hlen,h2⟩,h3,h4,h5⟩:=h;rcases h2 with ⟨e,hn⟩|⟨g,cap,cur,e,hb,hg,hn,hm,hs,ht⟩
 ·omega
 ·injection e with e1 e2 e3;subst e1;refine⟨g,0,rfl,⟨hb,h5 g (by simp[Value.ownBlock])⟩,(dW.x h3 fun j u hu=>?_).mono fun b hx _=>hx.1⟩;rw[Nat.zero_add,cell_of_row w g j cur tC (0,0) hg];rw[<-ht,List.getElem?_take] at hu
  split at hu
  ·simpa using hu
  ·cases hu
theorem gM.le:∀ {L:ay} {cs:List Value} {lo hi:Nat},gM w vo L cs lo hi->lo<=hi
 | .nil,_,_,_,h=>h.2
 | .cons k a b t i body els r,_,_,_,h=>by
  obtain⟨AF,cF,AA,cA,AB,cB,AE,cE,rest,m0,m1,m2,m3,-,⟨h0,h1,h2,h3,-⟩,-,-,-,-,h⟩:=h;have:=gM.le h;omega
theorem gM.Ua{hi':Nat}:∀ {L:ay} {cs:List Value} {lo hi:Nat},gM w vo L cs lo hi->hi<=hi'->gM w vo L cs lo hi'
 | .nil,_,_,_,h,e=>⟨h.1,Nat.le_trans h.2 e⟩
 | .cons k a b t i body els r,_,_,_,h,e=>by
  obtain⟨AF,cF,AA,cA,AB,cB,AE,cE,rest,m0,m1,m2,m3,p1,p2,p3,p4,p5,p6,h⟩:=h;exact⟨AF,cF,AA,cA,AB,cB,AE,cE,rest,m0,m1,m2,m3,p1,p2,p3,p4,p5,p6,gM.Ua h e⟩
theorem gM.keep:∀ {L:ay} {cs:List Value} {lo hi:Nat},gM w vo L cs lo hi->(∀b,lo<=b->b<hi->vo≠some b->b<w.heap.size->w'.heap[b]? = w.heap[b]?)->gM w' vo L cs lo hi
 | .nil,_,_,_,h,_=>h
 | .cons k a b t i body els r,_,lo,hi,h,hk=>by
  obtain⟨AF,cF,AA,cA,AB,cB,AE,cE,rest,m0,m1,m2,m3,p1,⟨q0,q1,q2,q3,q4⟩,p3,p4,p5,p6,h⟩:=h;have hle:=gM.le h;have hk3:∀b,m0<=b->b<m3->b<w.heap.size->w'.heap[b]? = w.heap[b]?:=fun b h1 h2 h3=>hk b (by omega) (by omega) (fun e=>q4 b e ⟨h1,h2⟩) h3
  exact⟨AF,cF,AA,cA,AB,cB,AE,cE,rest,m0,m1,m2,m3,p1,⟨q0,q1,q2,q3,q4⟩,p3.keep fun b hb hl=>hk3 b hb.1 (by omega) hl,p4.keep fun b hb hl=>hk3 b hb.1 (by omega) hl,
   p5.keep fun b h1 h2 hl=>hk3 b (by omega) (by omega) hl,p6.keep fun b hb hl=>hk3 b (by omega) hb.2 hl,gM.keep h fun b h1 h2 h3 h4=>hk b (by omega) h2 h3 h4⟩
theorem gM.own:∀ {L:ay} {cs:List Value} {lo hi:Nat},gM w vo L cs lo hi->(∀g,vo'=some g->vo=some g\/hi<=g)->gM w vo' L cs lo hi
 | .nil,_,_,_,h,_=>h
 | .cons k a b t i body els r,_,lo,hi,h,hv=>by
  obtain⟨AF,cF,AA,cA,AB,cB,AE,cE,rest,m0,m1,m2,m3,p1,⟨q0,q1,q2,q3,q4⟩,p3,p4,p5,p6,h⟩:=h;have hle:=gM.le h;exact⟨AF,cF,AA,cA,AB,cB,AE,cE,rest,m0,m1,m2,m3,p1,⟨q0,q1,q2,q3,fun g hg hx=>(hv g hg).elim (fun e=>q4 g e hx) (fun e=>by omega)⟩,p3,p4,p5,p6,gM.own h hv⟩
theorem gM.T:∀ {L:ay} {cs:List Value} {lo hi:Nat},gM w vo L cs lo hi->dW w (fun b=>lo<=b/\vo≠some b) L cs
 | .nil,_,_,_,h=>h.1
 | .cons k a b t i body els r,_,lo,hi,h=>by
  obtain⟨AF,cF,AA,cA,AB,cB,AE,cE,rest,m0,m1,m2,m3,p1,⟨q0,q1,q2,q3,q4⟩,p3,p4,p5,p6,h⟩:=h;have hx:∀b,m0<=b->b<m3->lo<=b/\vo≠some b:=fun b h1 h2=>⟨by omega,fun e=>q4 b e ⟨h1,h2⟩⟩
  exact⟨AF,cF,AA,cA,AB,cB,AE,cE,rest,p1,p3.mono fun b hb _=>hx b hb.1 (by omega),p4.mono fun b hb _=>hx b hb.1 (by omega),p5.part.mono fun b hb _=>hx b (by omega) (by omega),p6.mono fun b hb _=>hx b (by omega) hb.2,
   (gM.T h).mono fun b hb _=>⟨by omega,hb.2⟩⟩
theorem gM.lo_{bJ:Nat}:∀ {L:ay} {cs:List Value} {lo hi:Nat},gM w vo L cs lo hi->bJ<=lo->gM w vo L cs bJ hi
 | .nil,_,_,_,h,e=>⟨h.1,Nat.le_trans e h.2⟩
 | .cons k a b t i body els r,_,_,_,h,e=>by
  obtain⟨AF,cF,AA,cA,AB,cB,AE,cE,rest,m0,m1,m2,m3,p1,⟨q0,q⟩,h⟩:=h;exact⟨AF,cF,AA,cA,AB,cB,AE,cE,rest,m0,m1,m2,m3,p1,⟨by omega,q⟩,h⟩
theorem gM.app{M:ay}{ds:List Value}{m:Nat}:∀ {L:ay} {cs:List Value} {lo:Nat},gM w vo L cs lo m->gM w vo M ds m hi->gM w vo (L.app M) (cs++ds) lo hi
 | .nil,cs,lo,h,h'=>by
  obtain⟨rfl,h⟩:=h;exact h'.lo_ h
 | .cons k a b t i body els r,_,lo,h,h'=>by
  obtain⟨AF,cF,AA,cA,AB,cB,AE,cE,rest,m0,m1,m2,m3,rfl,p2,p3,p4,p5,p6,h⟩:=h;exact⟨AF,cF,AA,cA,AB,cB,AE,cE,rest++ds,m0,m1,m2,m3,List.append_assoc ..,p2,p3,p4,p5,p6,gM.app h h'⟩
theorem GD.n(h:GD w base v L):dB w base v L:=by
 obtain⟨cs,h1,h2,h3⟩:=h;exact⟨cs,h1,h2.T,h3⟩
theorem GD.bz(h:GD w base v L)(hb:Below w.heap.size w w'):GD w' base v L:=by
 obtain⟨cs,h1,h2,h3⟩:=h;exact⟨cs,own_below h1 hb,(h2.keep fun b _ _ _ hl=>hb.block b hl).Ua hb.size,h3⟩
theorem GD.empty(w:World){base:Nat}(hb:base<=w.heap.size):GD (w.alloc (.cells #[] tC)) base (.slice (some ⟨w.heap.size,0,none⟩) 0 0) .nil:=
 ⟨[],fu (kP w _ _) hb,⟨rfl,by simp;omega⟩,by simp[ay.len]⟩
theorem GD.grow{v':Value}{k a b:Int}{t:aF}{i:au}{body els:ay}{AF AA AB AE:Option Addr}{cF cA cB cE:Nat}{cs:List Value}{m m1 m2 m3:Nat}
  (hT:gM w v.ownBlock L cs base m) (hv0:∀g,v.ownBlock=some g->g<m) (hl:L.len+1<=1049600) (e1:m<=m1) (e2:m1<=m2) (e3:m2<=m3) (e4:m3<=w.heap.size)
  (h1:my w (fun b=>m<=b/\b<m1) 3 AF i.facts.length (iJ i.facts)) (h2:my w (fun b=>m<=b/\b<m1) 3 AA i.atoms.length (gK i.atoms))
  (h3:Mh w m1 m2 (.slice AB body.len cB) body) (h4:bu w (fun b=>m2<=b/\b<m3) AE els)
  (ho:w'.ownsRow base tC 10 v' (L.len+1) (cs++dV k a b t (.slice AF i.facts.length cF) (.slice AA i.atoms.length cA) (.slice AB body.len cB) (.slice AE els.len cE)))
  (hg:w.grownBy w' v.ownBlock) (hv:v'.ownBlock=v.ownBlock\/v'.ownBlock=some w.heap.size) (hz:w.heap.size<=w'.heap.size):GD w' base v' (L.app (.cons k a b t i body els .nil)):=by
 have hlen:(L.app (.cons k a b t i body els .nil)).len=L.len+1:=by rw[ay.bY];rfl
 refine⟨cs++dV k a b t (.slice AF i.facts.length cF) (.slice AA i.atoms.length cA) (.slice AB body.len cB) (.slice AE els.len cE),by rw[hlen];exact ho,?_,by omega⟩
 have hM:gM w v.ownBlock (.cons k a b t i body els .nil) (dV k a b t (.slice AF i.facts.length cF) (.slice AA i.atoms.length cA) (.slice AB body.len cB) (.slice AE els.len cE)) m w.heap.size:=
  ⟨AF,cF,AA,cA,AB,cB,AE,cE,[],m,m1,m2,m3,by rw[List.append_nil],⟨Nat.le_refl _,e1,e2,e3,fun g hg hx=>by have:=hv0 g hg;omega⟩,h1,h2,h3,h4,rfl,e4⟩
 have hA:=((hT.app hM).keep (w':=w') fun b _ _ hb hlt=>hg.block b hlt (fun e=>hb e.symm))
 exact(hA.own fun g hg=>by
  rcases hv with hv|hv
  ·exact Or.inl (hv▸hg)
  ·rw[hv] at hg;injection hg with hg;exact Or.inr (by omega)).Ua hz
end
theorem jc{a w:World}{cb:Nat}{v0 v1 v2 v3 v4 v5 v6 v7 v8 v9:Value}(h:Below a.heap.size a w)(hc:a.heap.size<=cb):Below a.heap.size a (((((((((((w).setCell ⟨cb,0,none⟩ v0).setCell ⟨cb,1,none⟩ v1).setCell ⟨cb,2,none⟩ v2).setCell ⟨cb,3,none⟩ v3).setCell ⟨cb,4,none⟩ v4).setCell ⟨cb,5,none⟩ v5).setCell ⟨cb,6,none⟩ v6).setCell ⟨cb,7,none⟩ v7).setCell ⟨cb,8,none⟩ v8).setCell ⟨cb,9,none⟩ v9):=by
 iterate 10 (refine Below.setCell ?_ (by simp only;exact hc) _)
 exact h
theorem Kh{w:World}{cb base size n:Nat}{t e:TypeId}{v:Value}{xs:List Value}{cs:Array Value}{v0 v1 v2 v3 v4 v5 v6 v7 v8 v9:Value}(h:w.ownsRow base e size v n xs)(hk:ae w cb t cs)(ht:t≠e):World.ownsRow (((((((((((w).setCell ⟨cb,0,none⟩ v0).setCell ⟨cb,1,none⟩ v1).setCell ⟨cb,2,none⟩ v2).setCell ⟨cb,3,none⟩ v3).setCell ⟨cb,4,none⟩ v4).setCell ⟨cb,5,none⟩ v5).setCell ⟨cb,6,none⟩ v6).setCell ⟨cb,7,none⟩ v7).setCell ⟨cb,8,none⟩ v8).setCell ⟨cb,9,none⟩ v9) base e size v n xs:=by
 refine vW h fun g hg _=>pM fun e0=>?_;obtain⟨_,h2⟩:=h;rcases h2 with ⟨rfl,_⟩|⟨g',cap,cur,rfl,_,hh,_⟩
 ·simp[Value.ownBlock] at hg
 ·simp only[Value.ownBlock,Option.some.injEq] at hg;subst hg e0;exact ae.Bq hk hh ht rfl
theorem Jn(x y:Bs)(w:World)(hx:x.length<=2000000)(hy:y.length<=2000000):Calls Tryz.prog 119 #[sv x,sv y] w fun e w'=>e=.returned (.agg (fw (nC x y).k (nC x y).a (nC x y).b))/\Below w.heap.size w w':=by
 have c1:=ax (fun w=>GA x w hx);have c2:=ax (fun w=>GA y w hy);have hA:aJ (nC x y=⟨if (jg y).2 then 2 else if (jg x).2 then 3 else 1,pT (jg x).1,pT (jg y).1,Gw,⟨[],[]⟩⟩):=ax rfl;have Ad:=ax (show pT (jg x).1=(((dU (jg x).1).getD 0:Nat):Int) from rfl);have htb:=ax (show pT (jg y).1=(((dU (jg y).1).getD 0:Nat):Int) from rfl);obtain⟨bx,hbx⟩:∃b,b=(jg x).2:=⟨_,rfl⟩;obtain⟨by',hby⟩:∃b,b=(jg y).2:=⟨_,rfl⟩;obtain⟨sx,hsx⟩:∃b,b=(jg x).1:=⟨_,rfl⟩;obtain⟨sy,hsy⟩:∃b,b=(jg y).1:=⟨_,rfl⟩;rw[<-hbx,<-hsx] at c1;rw[<-hby,<-hsy] at c2;rw[<-hbx,<-hby,<-hsx,<-hsy] at hA;rw[<-hsx] at Ad;rw[<-hsy] at htb;clear hbx hby hsx hsy;obtain⟨ta,WG⟩:∃t:Int,t=pT sx:=⟨_,rfl⟩;obtain⟨tb,WH⟩:∃t:Int,t=pT sy:=⟨_,rfl⟩;rw[<-WG] at hA Ad;rw[<-WH] at hA htb;clear WG WH;have k0:ae (w.alloc (.cells (fw 0 0 0) tC)) w.heap.size tC (fw 0 0 0):=ae.new _ _ _;(go_enter Tryz.func119,Tryz.ntmps119);(go_wp2_with fail);refine(c1.o _).mono ?_;rintro e w1 ⟨rfl,hB1⟩;replace k0:=k0.nz hB1;have HB1:=ax (aP (w:=w) (aj:Below w.heap.size w (w.alloc (.cells (fw 0 0 0) tC))) hB1);clear hB1;(go_wp2_with fail);refine(c2.o _).mono ?_;rintro e w2 ⟨rfl,hB2⟩;replace k0:=k0.nz hB2;have HB2:=bF HB1 hB2;clear hB2 HB1;(go_wp2_with fail);refine(nT sx _).mono ?_;rintro e w3 ⟨rfl,rfl⟩;rw[<-Ad.o];(go_wp2_with fail);refine(nT sy _).mono ?_;rintro e w3 ⟨rfl,rfl⟩;rw[<-htb.o];have q0:=k0.cell;have r0:=k0.frozen;have l0:=k0.lt;unfold fw at q0 k0;cases by'
 ·cases bx
  ·(go_wp2_with fail);refine ym (D:=fun T=>ae T w.heap.size tC (fw 1 ta tb)/\Below w.heap.size w T) ⟨vV k0,jc HB2.o bn⟩ ?_;rintro T ⟨kT,r1⟩;have t:=kT.cell;exact bodyPost_ret (v:=.agg (fw 1 ta tb)) (by simp[results,Tryz.results119,go_sem,fw,t]) rfl ⟨by rw[hA.o];rfl,r1⟩
  ·(go_wp2_with fail);refine ym (D:=fun T=>ae T w.heap.size tC (fw 3 ta tb)/\Below w.heap.size w T) ⟨vV k0,jc HB2.o bn⟩ ?_;rintro T ⟨kT,r1⟩;have t:=kT.cell;exact bodyPost_ret (v:=.agg (fw 3 ta tb)) (by simp[results,Tryz.results119,go_sem,fw,t]) rfl ⟨by rw[hA.o];rfl,r1⟩
 ·cases bx
  ·(go_wp2_with fail);refine ym (D:=fun T=>ae T w.heap.size tC (fw 2 ta tb)/\Below w.heap.size w T) ⟨vV k0,jc HB2.o bn⟩ ?_;rintro T ⟨kT,r1⟩;have t:=kT.cell;exact bodyPost_ret (v:=.agg (fw 2 ta tb)) (by simp[results,Tryz.results119,go_sem,fw,t]) rfl ⟨by rw[hA.o];rfl,r1⟩
  ·(go_wp2_with fail);refine ym (D:=fun T=>ae T w.heap.size tC (fw 2 ta tb)/\Below w.heap.size w T) ⟨vV k0,jc HB2.o bn⟩ ?_;rintro T ⟨kT,r1⟩;have t:=kT.cell;exact bodyPost_ret (v:=.agg (fw 2 ta tb)) (by simp[results,Tryz.results119,go_sem,fw,t]) rfl ⟨by rw[hA.o];rfl,r1⟩
def vX(h:Hd)(fv av:Value):Value:=.agg #[.int .i64 h.k,.int .i64 h.a,.int .i64 h.b,.bool h.t.eq,.int .i64 h.t.a,.int .i64 h.t.b,fv,av,.slice none 0 0,.slice none 0 0]
theorem WI{l:Bs}(h:(dH l [58,61]).2.2=true):bS l=nC (dH l [58,61]).1 (dH l [58,61]).2.1:=by unfold bS;rw[if_pos h]
theorem Tv{l:Bs}(h:(dH l [58,61]).2.2=false):bS l=Gx (dH l [32]).1 (dH l [32]).2.1:=by unfold bS;rw[h];rfl
theorem WJ{word rest:Bs}(h1:word≠[110,101,119])(h2:word≠[102,114,101,101])(h3:word≠[105,102]) :
  Gx word rest=⟨7,0,0,pF (dH rest [32,119,105,116,104,32]).1,pA (dH rest [32,119,105,116,104,32]).2.1⟩:=by
 unfold Gx;rw[if_neg h1,if_neg h2,if_neg h3]
theorem LM{h:Hd}(hi:h.i=⟨[],[]⟩)(ht:h.t=Gw):Value.agg (fw h.k h.a h.b)=vX h (.slice none 0 0) (.slice none 0 0):=by
 obtain⟨k,a,b,t,i⟩:=h;simp only at hi ht;subst hi ht;rfl
theorem GG(l:Bs)(w:World)(hl:l.length<=1000000):Calls Tryz.prog 86 #[sv l] w fun e w'=>∃fv av,e=.returned (vX (bS l) fv av)/\ah w' w.heap.size fv (bS l).i.facts/\af w' w.heap.size av (bS l).i.atoms/\Below w.heap.size w w':=by
 have k0:ae (w.alloc (.cells (fw 0 0 0) tC)) w.heap.size tC (fw 0 0 0):=ae.new _ _ _;have s1:=uJ l [58,61];have s2:=uJ l [32];have H1:=ax (fun h=>WI (l:=l) h);have H0:=ax (fun h=>Tv (l:=l) h);have c1:=fun w=>wZ l [58,61] w (by omega) (by simp);have c2:=fun w=>wZ l [32] w (by omega) (by simp);obtain⟨⟨le,ri,ok⟩,hs⟩:∃s,s=dH l [58,61]:=⟨_,rfl⟩;obtain⟨⟨wo,re,o2⟩,hs2⟩:∃s,s=dH l [32]:=⟨_,rfl⟩;rw[<-hs] at s1 H1 H0 c1;rw[<-hs2] at s2 H0 c2;clear hs hs2;simp only at s1 s2 c1 c2;obtain⟨l1,l2⟩:=s1;obtain⟨l3,l4⟩:=s2;replace c1:=ax c1;replace c2:=ax c2;(go_enter Tryz.func86,Tryz.ntmps86);(go_wp2_with fail);refine(c1.o _).mono ?_;rintro e w1 ⟨rfl,hB1⟩;replace k0:=k0.nz hB1;have HB1:=ax (aP (w:=w) (aj:Below w.heap.size w (w.alloc (.cells (fw 0 0 0) tC))) hB1);clear hB1 c1
 cases ok with
 | true=>
  have hH:=ax (H1.o rfl);clear H0 H1;have q0:=k0.cell;have r0:=k0.frozen;have l0:=k0.lt;(go_wp2_with fail);refine(Jn le ri _ (by omega) (by omega)).mono ?_;rintro e w2 ⟨rfl,hB2⟩;replace k0:=k0.nz hB2;have HB2:=bF HB1 hB2;clear hB2 HB1 q0 r0 l0;obtain⟨ak,aa,ab,hak⟩:∃k a b,k=(nC le ri).k/\a=(nC le ri).a/\b=(nC le ri).b:=⟨_,_,_,rfl,rfl,rfl⟩;have hv:aJ (Value.agg (fw ak aa ab)=vX (nC le ri) (.slice none 0 0) (.slice none 0 0)):=ax (by rw[hak.1,hak.2.1,hak.2.2];exact LM rfl rfl);rw[<-hak.1,<-hak.2.1,<-hak.2.2];clear hak;have q0:=k0.cell;have r0:=k0.frozen;have l0:=k0.lt;unfold fw at q0 k0;(go_wp2_with fail);unfold fw;(go_wp2_with fail);refine ym (D:=fun T=>ae T w.heap.size tC (fw ak aa ab)/\Below w.heap.size w T) ⟨vV k0,jc HB2.o bn⟩ ?_;rintro T ⟨kT,r1⟩;have t:=kT.cell;exact bodyPost_ret (v:=.agg (fw ak aa ab)) (by simp[results,Tryz.results86,go_sem,fw,t]) rfl ⟨_,_,by rw[hH.o,hv.o],by rw[hH.o];exact ah.nil _ _,by rw[hH.o];exact af.nil _ _,r1⟩
 | false=>
  have hH:=ax (H0.o rfl);clear H0 H1;have q0:=k0.cell;have r0:=k0.frozen;have l0:=k0.lt;(go_wp2_with fail);refine(c2.o _).mono ?_;rintro e w2 ⟨rfl,hB2⟩;replace k0:=k0.nz hB2;have HB2:=bF HB1 hB2;clear hB2 HB1 q0 r0 l0;have q0:=k0.cell;have r0:=k0.frozen;have l0:=k0.lt;(go_wp2_with fail);refine(nT re _).mono ?_;rintro e w3 ⟨rfl,rfl⟩;obtain⟨ta,Ad⟩:∃t:Int,t=pT re:=⟨_,rfl⟩;rw[show (((dU re).getD 0:Nat):Int)=ta from Ad.symm];by_cases h1:wo=[110,101,119]
  ·subst h1;have hH2:aJ (bS l=⟨4,ta,0,Gw,⟨[],[]⟩⟩):=ax (by rw[hH.o,Ad];rfl);clear hH Ad;unfold fw at q0 k0;(go_wp2_with fail);refine ym (D:=fun T=>ae T w.heap.size tC (fw 4 ta 0)/\Below w.heap.size w T) ⟨vV k0,jc HB2.o bn⟩ ?_;rintro T ⟨kT,r1⟩;have t:=kT.cell;exact bodyPost_ret (v:=.agg (fw 4 ta 0)) (by simp[results,Tryz.results86,go_sem,fw,t]) rfl ⟨_,_,by rw[hH2.o];rfl,by rw[hH2.o];exact ah.nil _ _,by rw[hH2.o];exact af.nil _ _,r1⟩
  have h1b:(wo == [110,101,119])=false:=by rw[bP];simpa using h1
  by_cases h2:wo=[102,114,101,101]
  ·subst h2;have hH2:aJ (bS l=⟨5,ta,0,Gw,⟨[],[]⟩⟩):=ax (by rw[hH.o,Ad];rfl);clear hH Ad h1 h1b;unfold fw at q0 k0;(go_wp2_with fail);refine ym (D:=fun T=>ae T w.heap.size tC (fw 5 ta 0)/\Below w.heap.size w T) ⟨vV k0,jc HB2.o bn⟩ ?_;rintro T ⟨kT,r1⟩;have t:=kT.cell;exact bodyPost_ret (v:=.agg (fw 5 ta 0)) (by simp[results,Tryz.results86,go_sem,fw,t]) rfl ⟨_,_,by rw[hH2.o];rfl,by rw[hH2.o];exact ah.nil _ _,by rw[hH2.o];exact af.nil _ _,r1⟩
  have h2b:(wo == [102,114,101,101])=false:=by rw[bP];simpa using h2
  by_cases h3:wo=[105,102]
  ·subst h3;have hH2:aJ (bS l=⟨6,0,0,pF re,⟨[],[]⟩⟩):=ax (by rw[hH.o];rfl);clear hH Ad h1 h1b h2 h2b;(go_wp2_with fail);refine(sD re _).mono ?_;rintro e w4 ⟨rfl,hB4⟩;replace k0:=k0.nz hB4;have mJ:=bF HB2 hB4;clear hB4 HB2 q0 r0 l0;obtain⟨fe,fa,fb,oI⟩:∃fe fa fb,((bV re).getD Jb)=⟨fe,fa,fb⟩:=⟨_,_,_,rfl⟩;have Gs:((bV re).getD Jb).val=.agg #[.bool fe,.int .i64 fa,.int .i64 fb]:=by rw[oI]
   rw[Gs];have hH3:aJ (bS l=⟨6,0,0,⟨fe,fa,fb⟩,⟨[],[]⟩⟩):=ax (by rw[hH2.o,<-oI];rfl);clear oI Gs hH2;have q0:=k0.cell;have r0:=k0.frozen;have l0:=k0.lt;unfold fw at q0 k0;(go_wp2_with fail);refine ym (D:=fun T=>ae T w.heap.size tC #[.int .i64 6,.int .i64 0,.int .i64 0,.bool fe,.int .i64 fa,.int .i64 fb,.slice none 0 0,.slice none 0 0,.slice none 0 0,.slice none 0 0]/\Below w.heap.size w T) ⟨(vV k0).alloc _,(jc mJ.o bn).alloc (by simp;omega) _⟩ ?_;rintro T ⟨kT,r1⟩;have t:=kT.cell;exact bodyPost_ret (v:=vX ⟨6,0,0,⟨fe,fa,fb⟩,⟨[],[]⟩⟩ (.slice none 0 0) (.slice none 0 0)) (by simp[results,Tryz.results86,go_sem,vX,t]) rfl ⟨_,_,by rw[hH3.o],by rw[hH3.o];exact ah.nil _ _,by rw[hH3.o];exact af.nil _ _,r1⟩
  have h3b:(wo == [105,102])=false:=by rw[bP];simpa using h3
  have hH2:=ax (hH.o.trans (WJ h1 h2 h3));have s5:=uJ re [32,119,105,116,104,32];have c5:=fun w=>wZ re [32,119,105,116,104,32] w (by omega) (by simp);obtain⟨⟨te,iv,o3⟩,hs5⟩:∃s,s=dH re [32,119,105,116,104,32]:=⟨_,rfl⟩;rw[<-hs5] at s5 c5 hH2;clear hs5 h1 h2 h3 hH Ad;simp only at s5 c5;replace c5:=ax c5;(go_wp2_with fail);refine(c5.o _).mono ?_;rintro e w5 ⟨rfl,bW⟩;replace k0:=k0.nz bW;have wm:=bF HB2 bW;clear bW HB2 q0 r0 l0 c5;have q0:=k0.cell;have r0:=k0.frozen;have l0:=k0.lt;(go_wp2_with fail);refine(sD te _).mono ?_;rintro e w6 ⟨rfl,iA⟩;replace k0:=k0.nz iA;have qY:=bF wm iA;clear iA wm q0 r0 l0;obtain⟨fe,fa,fb,oI⟩:∃fe fa fb,((bV te).getD Jb)=⟨fe,fa,fb⟩:=⟨_,_,_,rfl⟩;have Gs:((bV te).getD Jb).val=.agg #[.bool fe,.int .i64 fa,.int .i64 fb]:=by rw[oI]
  rw[Gs];have hH3:aJ (bS l=⟨7,0,0,⟨fe,fa,fb⟩,pA iv⟩):=ax (by rw[hH2.o,<-oI];rfl);clear oI Gs hH2;have q0:=k0.cell;have r0:=k0.frozen;have l0:=k0.lt;have hne:w.heap.size≠w6.heap.size:=by omega
  have k2:ae (w6.alloc (.cells #[.bool fe,.int .i64 fa,.int .i64 fb] tF)) w6.heap.size tF #[.bool fe,.int .i64 fa,.int .i64 fb]:=az;(go_wp2_with fail);refine(pK iv _ (by omega)).mono ?_;rintro e w7 ⟨r7,rfl,o7,iB⟩;have z7:w6.heap.size+1<=w7.heap.size:=by simpa using iB.size
  have Tw:Below w6.heap.size w6 w7:=aP (w:=w6) aj iB;replace k0:=k0.nz Tw;replace k2:=k2.nz iB;have yH:=bF qY Tw;have zz:=qY.o.size;have zw:w.heap.size<=(w6.alloc (.cells #[.bool fe,.int .i64 fa,.int .i64 fb] tF)).heap.size:=by simp;omega
  clear qY q0 r0 l0;obtain⟨i,hi⟩:∃i,i=pA iv:=⟨_,rfl⟩;rw[show (eF iv).getD ⟨[],[]⟩=i from hi.symm] at o7;rw[<-hi] at hH3;clear hi;obtain⟨fv,av,rfl,of,oa⟩:=o7;obtain⟨AF,cF,rfl,-⟩:=of.rj;obtain⟨AA,cA,rfl,-⟩:=oa.rj;have HF:=ax (of.bq (base':=w.heap.size) zw);have HA:=ax (oa.bq (base':=w.heap.size) zw);clear of oa iB Tw;obtain⟨px,hpx⟩:∃p,p=(eF iv).isSome:=⟨_,rfl⟩;rw[<-hpx];clear hpx;have q0:=k0.cell;have r0:=k0.frozen;have l0:=k0.lt;have q2:=k2.cell;have r2:=k2.frozen;have l2':=k2.lt;unfold fw at q0 k0;(go_wp2_with fail);refine ym (D:=fun T=>ae T w.heap.size tC #[.int .i64 7,.int .i64 0,.int .i64 0,.bool fe,.int .i64 fa,.int .i64 fb,.slice AF i.facts.length cF,.slice AA i.atoms.length cA,.slice none 0 0,.slice none 0 0]/\Below w.heap.size w T/\ah T w.heap.size (.slice AF i.facts.length cF) i.facts/\af T w.heap.size (.slice AA i.atoms.length cA) i.atoms) ⟨(vV k0).alloc _,(jc yH.o bn).alloc (by simp;omega) _,?_,?_⟩ ?_
  ·exact⟨own_below (Kh HF.o.1 k0 (by decide)) (ai aU _),HF.o.2⟩
  ·exact⟨own_below (Kh HA.o.1 k0 (by decide)) (ai aU _),HA.o.2⟩
  rintro T ⟨kT,r1,oF,oA⟩;have t:=kT.cell;exact bodyPost_ret (v:=vX ⟨7,0,0,⟨fe,fa,fb⟩,i⟩ (.slice AF i.facts.length cF) (.slice AA i.atoms.length cA)) (by simp[results,Tryz.results86,go_sem,vX,t]) rfl ⟨_,_,by rw[hH3.o],by rw[hH3.o];exact oF,by rw[hH3.o];exact oA,r1⟩
def Ef:Option Nat->Int
 | some m=>(m:Int)
 | none=>-1
theorem CY:∀(A B C:ay),(A.app B).app C=A.app (B.app C)
 | .nil,B,C=>rfl
 | .cons k a b t i body els r,B,C=>by simp only[ay.app,CY r B C]
theorem yT:∀(A:ay),A.app .nil=A
 | .nil=>rfl
 | .cons k a b t i body els r=>by simp only[ay.app,yT r]
def dZ(ls:List Bs)(d:Nat)(R:ay×Option Nat)(acc:ay):Option Nat->Prop
 | some p=>∃n,ls.length<=n+p/\acc.app (bR ls n p d).1=R.1/\(bR ls n p d).2=R.2
 | none=>acc=R.1/\R.2=none
section
variable{ls:List Bs}{d p m:Nat}{R:ay×Option Nat}{acc body els:ay}
theorem dZ.start(n:Nat)(h:ls.length<=n+p):dZ ls d (bR ls n p d) .nil (some p):=⟨n,h,rfl,rfl⟩
theorem dZ.stop(h:dZ ls d R acc (some p))(hc:¬(p+1<ls.length/\ls.getD p []≠yl/\ls.getD p []≠kK)):acc=R.1/\R.2=some p:=by
 obtain⟨n,h1,h2,h3⟩:=h
 cases n with
 | zero=>exact⟨by rw[<-h2];exact(yT acc).symm,h3.symm⟩
 | succ n=>
  unfold bR at h2 h3;rw[if_neg hc] at h2 h3;exact⟨by rw[<-h2];exact(yT acc).symm,h3.symm⟩
theorem dZ.on(h:dZ ls d R acc (some p))(hp:p<ls.length):∃m,ls.length<=m+(p+1)/\acc.app (bR ls (m+1) p d).1=R.1/\(bR ls (m+1) p d).2=R.2:=by
 obtain⟨n,h1,h2,h3⟩:=h
 cases n with
 | zero=>omega
 | succ n=>exact⟨n,by omega,h2,h3⟩
theorem dZ.mk(hm:ls.length<=m+(p+1)){F:ay×Option Nat}(h2:acc.app F.1=R.1)(h3:F.2=R.2){H:Hd}{q:Nat}(hq:p+1<=q)(e:F=(.nD H body els (bR ls m q d).1,(bR ls m q d).2)):dZ ls d R (acc.app (.nD H body els .nil)) (some q):=by
 subst e;exact⟨m,by omega,by rw[CY];exact h2,h3⟩
theorem dZ.XN{F:ay×Option Nat}(h2:acc.app F.1=R.1)(h3:F.2=R.2){H:Hd}(e:F=(.nD H body els .nil,none)):dZ ls d R (acc.app (.nD H body els .nil)) none:=by
 subst e;exact⟨h2,h3.symm⟩
theorem CZ(hc:p+1<ls.length/\ls.getD p []≠yl/\ls.getD p []≠kK)(h:¬((bS (ls.getD p [])).k=6\/(bS (ls.getD p [])).k=7)) :
  bR ls (m+1) p d=(.nD (bS (ls.getD p [])) .nil .nil (bR ls m (p+1) d).1,(bR ls m (p+1) d).2):=by
 rw[bR,if_pos hc,if_neg h]
theorem N7(hc:p+1<ls.length/\ls.getD p []≠yl/\ls.getD p []≠kK)(h:(bS (ls.getD p [])).k=6\/(bS (ls.getD p [])).k=7)(hd:d<1):bR ls (m+1) p d=(.nil,none):=by
 rw[bR,if_pos hc,if_pos h,if_pos hd]
theorem Oa(hc:p+1<ls.length/\ls.getD p []≠yl/\ls.getD p []≠kK)(h:(bS (ls.getD p [])).k=6\/(bS (ls.getD p [])).k=7)(hd:¬d<1)(hb:(bR ls m (p+1) (d - 1)).2=none) :
  bR ls (m+1) p d=(.nD (bS (ls.getD p [])) (bR ls m (p+1) (d - 1)).1 .nil .nil,none):=by
 rw[bR,if_pos hc,if_pos h,if_neg hd]
 split
 ·rename_i b e;rw[e]
 ·rename_i b q e;rw[e] at hb;cases hb
theorem Jo{q:Nat}(hc:p+1<ls.length/\ls.getD p []≠yl/\ls.getD p []≠kK)(h:(bS (ls.getD p [])).k=6\/(bS (ls.getD p [])).k=7)(hd:¬d<1)(hb:(bR ls m (p+1) (d - 1)).2=some q)
  (hq:¬(q<ls.length/\ls.getD q []=kK)):bR ls (m+1) p d=(.nD (bS (ls.getD p [])) (bR ls m (p+1) (d - 1)).1 .nil (bR ls m (q+1) d).1,(bR ls m (q+1) d).2):=by
 rw[bR,if_pos hc,if_pos h,if_neg hd]
 split
 ·rename_i b e;rw[e] at hb;cases hb
 ·rename_i b q' e;rw[e] at hb;injection hb with hb;subst hb;rw[if_neg hq,e]
theorem LP{q:Nat}(hc:p+1<ls.length/\ls.getD p []≠yl/\ls.getD p []≠kK)(h:(bS (ls.getD p [])).k=6\/(bS (ls.getD p [])).k=7)(hd:¬d<1)(hb:(bR ls m (p+1) (d - 1)).2=some q)
  (hq:q<ls.length/\ls.getD q []=kK) (he:(bR ls m (q+1) (d - 1)).2=none):bR ls (m+1) p d=(.nD (bS (ls.getD p [])) (bR ls m (p+1) (d - 1)).1 (bR ls m (q+1) (d - 1)).1 .nil,none):=by
 rw[bR,if_pos hc,if_pos h,if_neg hd]
 split
 ·rename_i b e;rw[e] at hb;cases hb
 ·rename_i b q' e;rw[e] at hb;injection hb with hb;subst hb;rw[if_pos hq,e]
  split
  ·rename_i b' e';rw[e']
  ·rename_i b' r e';rw[e'] at he;cases he
theorem Ob{q r:Nat}(hc:p+1<ls.length/\ls.getD p []≠yl/\ls.getD p []≠kK)(h:(bS (ls.getD p [])).k=6\/(bS (ls.getD p [])).k=7)(hd:¬d<1)(hb:(bR ls m (p+1) (d - 1)).2=some q)
  (hq:q<ls.length/\ls.getD q []=kK) (he:(bR ls m (q+1) (d - 1)).2=some r):bR ls (m+1) p d=(.nD (bS (ls.getD p [])) (bR ls m (p+1) (d - 1)).1 (bR ls m (q+1) (d - 1)).1 (bR ls m (r+1) d).1,(bR ls m (r+1) d).2):=by
 rw[bR,if_pos hc,if_pos h,if_neg hd]
 split
 ·rename_i b e;rw[e] at hb;cases hb
 ·rename_i b q' e;rw[e] at hb;injection hb with hb;subst hb;rw[if_pos hq,e]
  split
  ·rename_i b' e';rw[e'] at he;cases he
  ·rename_i b' r' e';rw[e'] at he;injection he with he;subst he;rw[e']
end
theorem getD_at{ls:List Bs}{p:Nat}(h:p<ls.length):ls.getD p []=ls[p]:=by simp[getD,List.getElem?_eq_getElem h]
def Ki(d:Nat):Prop:=∀(lo hi:Nat) (A:Option Addr) (c:Nat) (ls:List Bs) (p n:Nat) (w:World),lM w lo hi A ls->(∀x∈ls,x.length<=1000000)->ls.length<=1049000->p<=ls.length->ls.length<=n+p->
  Calls Tryz.prog 64 #[.slice A ls.length c,.int .i64 p,.int .i64 d] w fun e w'=>∃v,e=.returned (.tuple #[v,.int .i64 (Ef (bR ls n p d).2)])/\dB w' w.heap.size v (bR ls n p d).1/\Below w.heap.size w w'
theorem Eg:Ki 0:=by
  intro lo hi A c ls p n w hV hS hL hp hn;have HV:=ax hV;have HS:=ax hS;obtain⟨R,hR⟩:∃R,R=bR ls n p (0):=⟨_,rfl⟩;have hst:aJ (dZ ls (0) R .nil (some p)):=ax (by rw[hR];exact dZ.start n hn);rw[<-hR];clear hV hS hn hR;(go_enter Tryz.func64,Tryz.ntmps64);have hN0:=dB.empty w bn;(go_wp2_with fail)
  go_loopg [1,8] (ls.length+12) (fun gh s1 s8 wr=>∃(acc:ay) (nx:Option Nat),s1=.int .i64 (Ef nx)/\aJ (dB wr w.heap.size s8 acc)/\aJ (dZ ls (0) R acc nx)/\acc.len<=ls.length+0/\aJ (∀q,nx=some q->acc.len<=q/\q<=ls.length+0/\ls.length+12<=gh+q)/\aJ (Below w.heap.size w wr))
  case atStart=>exact⟨.nil,some p,rfl,ax hN0,hst,by simp[ay.len],ax (fun q e=>by injection e with e;subst e;simp[ay.len];omega),ax (ai aU _)⟩
  case round=>
   clear hN0 hst;obtain⟨acc,nx,rfl,hN,hst,hal,hnx,HB⟩:=hrel;have hz:=HB.o.size;obtain⟨A5,c5,rfl,-⟩:=hN.o.rj;have Tx:=ax hN.o.Bd
   cases nx with
   | none=>
    have hE:=ax hst.o;have hf:aJ (R.2=none):=ax hE.o.2;have ha:aJ (acc=R.1):=ax hE.o.1;have hm1:Ef none = -1:=rfl;rw[hm1];clear hE hst hnx;go_wp2;refine bodyPost_ret (v:=.tuple #[.slice A5 acc.len c5,.int .i64 (-1)]) (by simp[results,Tryz.results64,go_sem]) rfl ⟨_,by rw[hf.o];rfl,by rw[<-ha.o];exact hN.o,HB.o⟩
   | some q=>
    obtain⟨hq1,hq2,hq3⟩:=hnx.o q rfl;have hqi:Ef (some q)=(q:Int):=rfl;rw[hqi];clear hnx;have hq0:(0:Int)<=(q:Int):=by omega
    have hSt:=ax (fun hc=>hst.o.stop hc);by_cases hlt:q+1<ls.length
    ·have Br:(q:Int)+1<(ls.length:Int):=by omega
     obtain⟨b,o,rfl,hc⟩:=(HV.o.bz HB.o).at (show q<ls.length by omega);have hbl:=block_lt_of_cell hc;have hgd:=getD_at (ls:=ls) (p:=q) (by omega);have hxl:(ls[q]'(by omega)).length<=1000000:=HS.o _ (List.getElem_mem _);have Qu:=ax (hst.o.on (by omega));obtain⟨x,AY⟩:∃x,x=ls[q]'(by omega):=⟨_,rfl⟩;rw[<-AY] at hc hgd hxl;rw[hgd] at hSt;clear AY;by_cases he1:x=yl
     ·subst he1;have hE:=ax (hSt.o (fun h=>h.2.1 rfl));have hf:aJ (R.2=some q):=ax hE.o.2;have ha:aJ (acc=R.1):=ax hE.o.1;clear hE hSt Qu hst;go_wp2;refine bodyPost_ret (v:=.tuple #[.slice A5 acc.len c5,.int .i64 q]) (by simp[results,Tryz.results64,go_sem]) rfl ⟨_,by rw[hf.o];rfl,by rw[<-ha.o];exact hN.o,HB.o⟩
     have Oc:(x == [101,110,100])=false:=by rw[bP];simpa using he1
     by_cases he2:x=kK
     ·subst he2;have hE:=ax (hSt.o (fun h=>h.2.2 rfl));have hf:aJ (R.2=some q):=ax hE.o.2;have ha:aJ (acc=R.1):=ax hE.o.1;clear hE hSt Qu hst;go_wp2;refine bodyPost_ret (v:=.tuple #[.slice A5 acc.len c5,.int .i64 q]) (by simp[results,Tryz.results64,go_sem]) rfl ⟨_,by rw[hf.o];rfl,by rw[<-ha.o];exact hN.o,HB.o⟩
     have Od:(x == [101,108,115,101])=false:=by rw[bP];simpa using he2
     have hcc:=ax (show q+1<ls.length/\ls.getD q []≠yl/\ls.getD q []≠kK from⟨hlt,by rw[hgd];exact he1,by rw[hgd];exact he2⟩);obtain⟨m,hm,hF1,hF2⟩:=Qu.o;replace hF1:=ax hF1;replace hF2:=ax hF2;clear he1 he2 Qu hst hSt;(go_wp2_with fail);refine(GG x _ hxl).mono ?_;rintro e w1 ⟨fv,av,rfl,of,oa,hB1⟩;obtain⟨⟨k,ha,hb,⟨te,ta,tb⟩,i⟩,hH⟩:∃h,h=bS x:=⟨_,rfl⟩;rw[<-hH] at of oa⊢;replace hH:=ax (show bS (ls.getD q [])=⟨k,ha,hb,⟨te,ta,tb⟩,i⟩ by rw[hgd];exact hH.symm);unfold vX;simp only at of oa⊢;obtain⟨AF,cF,rfl,vF⟩:=of.rj;obtain⟨AA,cA,rfl,vA⟩:=oa.rj;have zr:=hB1.size;have HB1:=bF HB hB1;have hcb:w1.heap.size≠b:=by have h9:b<wr.heap.size:=hbl;omega
     have HX0:=ax (show ∀y,wr.heap.size<=y->y<w1.heap.size->(w.heap.size<=y/\(Value.slice A5 acc.len c5).ownBlock≠some y/\y≠w1.heap.size) from fun y h1 h2=>⟨by omega,fun e=>by have:=Tx.o y e;omega,by omega⟩);have Ni:=ax (show ∀y,w1.heap.size+1<=y->(w.heap.size<=y/\(Value.slice A5 acc.len c5).ownBlock≠some y/\y≠w1.heap.size) from fun y h1=>⟨by omega,fun e=>by have:=Tx.o y e;omega,by omega⟩);have XF:=ax (Rw.x vF.raw HX0.o);have XA:=ax (Rw.x vA.raw HX0.o);have J6:=ax (hN.o.bz hB1);have k0:ae (w1.alloc (.cells #[.int .i64 k,.int .i64 ha,.int .i64 hb,.bool te,.int .i64 ta,.int .i64 tb,.slice AF i.facts.length cF,.slice AA i.atoms.length cA,.slice none 0 0,.slice none 0 0] tC)) w1.heap.size tC #[.int .i64 k,.int .i64 ha,.int .i64 hb,.bool te,.int .i64 ta,.int .i64 tb,.slice AF i.facts.length cF,.slice AA i.atoms.length cA,.slice none 0 0,.slice none 0 0]:=ae.new _ _ _;have hBw:aJ (Below w1.heap.size w1 (w1.alloc (.cells #[.int .i64 k,.int .i64 ha,.int .i64 hb,.bool te,.int .i64 ta,.int .i64 tb,.slice AF i.facts.length cF,.slice AA i.atoms.length cA,.slice none 0 0,.slice none 0 0] tC))):=ax (ai aU _);have Ty:=ax (show (q:Int)+1=((q+1:Nat):Int) by omega);clear of oa vF vA hB1 hc hN hbl HB;by_cases hk:k=6\/k=7
     ·have hz0:=ax (N7 (m:=m) (d:=0) hcc.o (by rw[hH.o];exact hk) (by omega));have DV:aJ (R.2=none):=ax (by rw[<-hF2.o,hz0.o]);have hR2:aJ (acc=R.1):=ax (by rw[<-hF1.o,hz0.o];exact(yT acc).symm);have HB2:aJ (Below w.heap.size w (w1.alloc (.cells #[.int .i64 k,.int .i64 ha,.int .i64 hb,.bool te,.int .i64 ta,.int .i64 tb,.slice AF i.facts.length cF,.slice AA i.atoms.length cA,.slice none 0 0,.slice none 0 0] tC))):=ax (HB1.o.trans (hBw.o.mono (by omega)));have OH:=ax (J6.o.bz hBw.o);clear hz0 hH hF1 hF2;rcases hk with rfl|rfl
      all_goals
       (replace bT:=k0.z);go_wp2;refine bodyPost_ret (v:=.tuple #[.slice A5 acc.len c5,.int .i64 (-1)]) (by simp[results,Tryz.results64,go_sem]) rfl ⟨_,by rw[DV.o];rfl,by rw[<-hR2.o];exact OH.o,HB2.o⟩
     ·have U7:(k == 6)=false:=by simp;omega
      have hk7:(k == 7)=false:=by simp;omega
      have hzb:=ax (CZ (m:=m) (d:=0) hcc.o (by rw[hH.o];exact hk));have xe:aJ (dZ ls 0 R (acc.app (.cons k ha hb ⟨te,ta,tb⟩ i .nil .nil .nil)) (some (q+1))):=ax (dZ.mk (H:=⟨k,ha,hb,⟨te,ta,tb⟩,i⟩) hm hF1.o hF2.o bn (by rw[hzb.o,hH.o]));clear hzb hF1 hF2 hk;(replace bT:=k0.z);(go_upto_region 17 with fail);clear bT;rw[Ty.o];generalize w1.alloc (.cells #[.int .i64 k,.int .i64 ha,.int .i64 hb,.bool te,.int .i64 ta,.int .i64 tb,.slice AF i.facts.length cF,.slice AA i.atoms.length cA,.slice none 0 0,.slice none 0 0] tC)=wx at*;have hBx:=hBw;have kx:=k0;obtain⟨nx,Eh⟩:∃nx,nx=some (q+1):=⟨_,rfl⟩;have Oe:((q+1:Nat):Int)=Ef nx:=by rw[Eh];rfl
      rw[Oe];rw[<-Eh] at xe;have hnx:aJ (∀r,nx=some r->q+1<=r/\r<=ls.length+0):=ax (fun r e=>by rw[Eh] at e;injection e with e;subst e;omega);obtain⟨AB,cB,AE,cE,Bo⟩:∃(AB:Option Addr) (cB:Nat) (AE:Option Addr) (cE:Nat),AB=none/\cB=0/\AE=none/\cE=0:=⟨_,_,_,_,rfl,rfl,rfl,rfl⟩;obtain⟨body,hbody⟩:∃body,body=ay.nil:=⟨_,rfl⟩;obtain⟨els,hels⟩:∃body,body=ay.nil:=⟨_,rfl⟩;have h3:aJ (bu wx (fun y=>w.heap.size<=y/\(Value.slice A5 acc.len c5).ownBlock≠some y/\y≠w1.heap.size) AB body):=ax (by rw[hbody];exact bu.nil _);have h4:aJ (bu wx (fun y=>w.heap.size<=y/\(Value.slice A5 acc.len c5).ownBlock≠some y/\y≠w1.heap.size) AE els):=ax (by rw[hels];exact bu.nil _);have hkx:ae wx w1.heap.size tC #[.int .i64 k,.int .i64 ha,.int .i64 hb,.bool te,.int .i64 ta,.int .i64 tb,.slice AF i.facts.length cF,.slice AA i.atoms.length cA,.slice AB body.len cB,.slice AE els.len cE]:=by rw[Bo.1,Bo.2.1,Bo.2.2.1,Bo.2.2.2,hbody,hels];exact kx
      replace kx:=hkx;replace xe:aJ (dZ ls 0 R (acc.app (.cons k ha hb ⟨te,ta,tb⟩ i body els .nil)) nx):=ax (by rw[hbody,hels];exact xe.o);clear Bo hbody hels hkx Eh Oe k0 hBw U7 hk7;have hT0:=J6.o.bz hBx.o;obtain⟨cs,Be,Bg,-⟩:=hT0;replace Bg:=ax Bg;replace Be:=ax Be;have Ov:w.heap.size<=wx.heap.size:=by have:=hBx.o.size;omega
      have Tz:=ax (XF.o.keep (w':=wx) fun y _ hy=>hBx.o.block y hy);have TA:=ax (XA.o.keep (w':=wx) fun y _ hy=>hBx.o.block y hy);clear XF XA J6;have hfin:acc.len+1<=1049600/\w.heap.size<=w1.heap.size:=by omega
      have hacc:acc.len+1<=ls.length+0:=by omega
      obtain⟨hfin,hw1⟩:=hfin;have hq3:=ax (show 1<=gk/\ls.length+12<=gk+q by omega);replace hacc:=ax hacc;replace hq1:=ax hq1;replace hw1:=ax hw1;have uk:=kx.cell;have XO:=kx.frozen;have Uy:=kx.lt;replace kx:=ax kx;clear hqi hgd Oc Od hcc hm hxl hq0 Br hlt hal hq2 hH hcb hz zr;(go_wp2_with (at_builtin;(refine xL (base:=w.heap.size) (g0:=wx.heap.size) rfl _ _ rfl rfl (own_below Be.o (ai aU _)) (dV k ha hb ⟨te,ta,tb⟩ (.slice AF i.facts.length cF) (.slice AA i.atoms.length cA) (.slice AB body.len cB) (.slice AE els.len cE)) rfl (ae.new _ _ _) rfl rfl (qz _ _ _ _ _ _ _ _ _ _ _ _ _ _ _ _) hfin (by simp;omega) ?_);(intro A8 c8 w8 o8 g8 B8 v8;have o8:=ax o8;have g8:=ax g8;have v8:=ax v8;have B8:=ax B8)));have kX:∀y,y<wx.heap.size->(wx.alloc (.cells (dV k ha hb ⟨te,ta,tb⟩ (.slice AF i.facts.length cF) (.slice AA i.atoms.length cA) (.slice AB body.len cB) (.slice AE els.len cE)).toArray tC)).heap[y]? = wx.heap[y]?:=fun y hy=>(ai (Below.refl _ wx) _).block y hy;have N8:dB w8 w.heap.size (.slice A8 (acc.len+1) c8) (acc.app (.cons k ha hb ⟨te,ta,tb⟩ i body els .nil)):=dB.grow (Bg.o.keep fun y _ hy=>kX y hy) hfin ((Tz.o.mono fun y hy _=>⟨hy.1,hy.2.1⟩).keep fun y _ hy=>kX y hy) ((TA.o.mono fun y hy _=>⟨hy.1,hy.2.1⟩).keep fun y _ hy=>kX y hy) ((h3.o.mono fun y hy _=>⟨hy.1,hy.2.1⟩).keep fun y _ hy=>kX y hy) ((h4.o.mono fun y hy _=>⟨hy.1,hy.2.1⟩).keep fun y _ hy=>kX y hy) o8.o g8.o v8.o;have F8:Below w.heap.size w w8:=((HB1.o.trans (hBx.o.mono hw1.o)).alloc Ov _).trans B8.o;have Ei:(acc.app (.cons k ha hb ⟨te,ta,tb⟩ i body els .nil)).len=acc.len+1:=by rw[ay.bY];rfl
      go_roundg (gk - 1)
      case rel=>exact⟨acc.app (.cons k ha hb ⟨te,ta,tb⟩ i body els .nil),nx,rfl,ax N8,xe,by rw[Ei];exact hacc.o,ax (fun r e=>by have:=hnx.o r e;have:=hq1.o;have:=hq3.o;rw[Ei];omega),ax F8⟩
      case measure=>have:=hq3.o;omega
    ·have Br:¬(q:Int)+1<(ls.length:Int):=by omega
     have hE:=ax (hSt.o (fun h=>hlt h.1));have hf:aJ (R.2=some q):=ax hE.o.2;have ha:aJ (acc=R.1):=ax hE.o.1;clear hE hSt hst;go_wp2;refine bodyPost_ret (v:=.tuple #[.slice A5 acc.len c5,.int .i64 q]) (by simp[results,Tryz.results64,go_sem]) rfl ⟨_,by rw[hf.o];rfl,by rw[<-ha.o];exact hN.o,HB.o⟩
end
end Go.Proofs.YtjbboklnegfohaaGreat
