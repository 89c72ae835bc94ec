/- Exposing cells; plain. -/
import Derived.Test.YtjbboklnegfohaaGreatMCanon
import Derived.Deep.DeepCutAuto
import Derived.Laws.BitsAllLaws
import Derived.BigQuiet
import Derived.Deep.RegionHeld3
import Derived.Deep.QuietTactic
import Derived.Deep.LoopGhost
set_option linter.unusedSimpArgs false
set_option linter.unusedVariables false
set_option maxRecDepth 100000
set_option maxHeartbeats 25600000
namespace Go.Proofs.YtjbboklnegfohaaGreat
open List (drop_length getElem_append length_append length_cons length_set map_cons nil_append setIfInBounds_toArray set_cons_succ set_cons_zero take_length)
section
open Go Go.RowKit Go.Proofs
theorem Px{a:au}{f:aF}:mF a f=true↔a.valid=true/\f.valid=true/\∀M,Sat M a->decide (M f.a=M f.b)=f.eq:=by
 unfold mF;rw[Bool.and_eq_true,Bool.and_eq_true,and_assoc,List.all_eq_true];constructor
 ·rintro⟨h1,h2,h3⟩;refine⟨h1,h2,fun M hM=>?_⟩;have hfo:=aF.dm h2;have ha:jq f.a=true:=by simp[jq];omega
  have hb:jq f.b=true:=by simp[jq];omega
  have hbit:∀j:Nat,(kG f).testBit j=(decide (f.a=(j:Int)) || decide (f.b=(j:Int))):=fun j=>by
   rw[cr,cr,Nat.zero_testBit,ha,hb];simp
  have b1:(dP a (kG f)).testBit f.a.toNat=true:=by rw[kU,hbit,Int.toNat_of_nonneg hfo.1.1];simp
  have b2:(dP a (kG f)).testBit f.b.toNat=true:=by rw[kU,hbit,Int.toNat_of_nonneg hfo.2.1];simp
  have hc:=MS h1 (pX a (kG f)) (rJ h1 (kG f)) hM;have h4:=h3 _ hc;have h5:=lI (M:=M) (S:=dP a (kG f)) ⟨hfo.1,b1⟩ ⟨hfo.2,b2⟩;simp only[aF.fits,beq_iff_eq] at h4;rw[<-h4,decide_eq_decide];exact h5.symm
 ·rintro⟨h1,h2,h3⟩;refine⟨h1,h2,fun c hc=>?_⟩;have:=h3 _ (MR h1 (pX a (kG f)) hc);simp only[aF.fits,beq_iff_eq];exact this
def eD(a:au)(x:aL)(i:Nat):au:=⟨a.facts++[⟨true,x.a,x.b⟩],zv a.atoms i⟩
def dQ(a:au)(x:aL)(i:Nat)(m:Int):au:=⟨a.facts++[⟨false,x.a,x.b⟩],([⟨1,x.a,m⟩]++zv a.atoms i)++[⟨2,m,x.b⟩]⟩
theorem vg{xs:List aL}{i:Nat}{x:aL}(h:xs[i]? = some x):xs.Perm (x :: zv xs i):=by
 obtain⟨hi,rfl⟩:=List.getElem?_eq_some_iff.1 h;have e:xs=xs.take i++xs[i] :: xs.drop (i+1):=by rw[<-List.drop_eq_getElem_cons hi,List.take_append_drop]
 conv=>lhs;rw[e]
 exact List.perm_middle
theorem MU{M:Int->Int}{a:au}{x:aL}{i:Nat}{m:Int}(hx:a.atoms[i]? = some x)(hk:x.kind=2)(h:Sat M (dQ a x i m)):Sat M a:=by
 have hp:=vg hx;have hne:decide (M x.a=M x.b)=false:=h.facts ⟨false,x.a,x.b⟩ (by simp[dQ]);have hfx:dD M x=true:=by simp[dD,hne]
 have hf1:dD M ⟨1,x.a,m⟩=true:=by simp[dD]
 refine⟨fun f hf=>h.facts f (by simp[dQ,hf]),fun y hy hfy=>?_,?_⟩
 ·rcases List.mem_cons.1 (hp.mem_iff.1 hy) with rfl|hy
  ·exact h.nil ⟨1,y.a,m⟩ (by simp[dQ]) hf1
  ·exact h.nil y (by simp[dQ,hy]) hfy
 ·have h2:=h.apart;refine((hp.filter (dD M)).map fun x=>M x.a).nodup_iff.2 ?_;rw[List.filter_cons,if_pos hfx];simp only[dQ,List.filter_append,List.map_append,List.append_assoc,List.singleton_append,List.filter_cons,List.cons_append,if_pos hf1,map_cons,List.filter_nil,nil_append] at h2;refine List.Nodup.sublist ?_ h2;simp only[map_cons];exact List.Sublist.cons_cons _ (List.sublist_append_left _ _)
theorem MV{a:au}{x:aL}{i:Nat}{m t:Int}(hx:a.atoms[i]? = some x)(hk:x.kind=2)(hf:(dQ a x i m).valid=true)(h:mF a ⟨true,x.a,t⟩=true):mF (dQ a x i m) ⟨true,x.a,t⟩=true:=by
 rw[Px] at h⊢;exact⟨hf,h.2.1,fun M hM=>h.2.2 M (MU hx hk hM)⟩
theorem sP{a:au}{kind t:Int}{i:Nat}(h:iQ a kind t=some i):∃x,a.atoms[i]? = some x/\x.kind=kind/\mF a ⟨true,x.a,t⟩=true/\i<a.atoms.length:=by
 have h1:=List.find?_some h;unfold jd at h1
 cases e:a.atoms[i]? with
 | none=>rw[e] at h1;cases h1
 | some x=>
  rw[e] at h1;simp only[Bool.and_eq_true,decide_eq_true_eq] at h1;exact⟨x,rfl,h1.1,h1.2,(List.getElem?_eq_some_iff.1 e).1⟩
theorem K6{a:au}{x:aL}{i:Nat}{m t:Int}(hx:a.atoms[i]? = some x)(hk:x.kind=2)(hf:(dQ a x i m).valid=true)(h:mF a ⟨true,x.a,t⟩=true):iQ (dQ a x i m) 1 t=some 0:=by
 refine sO (by simp[dQ]) (fun j hj=>by omega) ?_;unfold jd;have:(dQ a x i m).atoms[0]? = some ⟨1,x.a,m⟩:=by simp[dQ]
 rw[this];simp[MV hx hk hf h]
def aR:Nat->au->Int->Nat->Option (List au)
 | 0,_,_,_=>none
 | n+1,a,t,K=>
  if a.valid=false then none
  else if dE a=false then some []
  else match iQ a 1 t with
   | some i=>if (cZ a (a.atoms[i]?.getD default) i t).valid then some [cZ a (a.atoms[i]?.getD default) i t] else none
   | none=>match iQ a 2 t with
    | none=>none
    | some i=>match kC (aO (mz a)|||aQ K t) with
     | none=>none
     | some m=>match aR n (eD a (a.atoms[i]?.getD default) i) t K with
      | none=>none
      | some l1=>match aR n (dQ a (a.atoms[i]?.getD default) i (m:Int)) t K with
       | none=>none
       | some l2=>some (l1++l2)
abbrev om:=List aF ⊕ List aL
def Ip:om->Nat | .inl fs=>fs.length | .inr xs=>xs.length
def gY(w:World)(base:Nat)(v:Value):om->Prop | .inl fs=>ah w base v fs | .inr xs=>af w base v xs
def MW(w:World)(lo hi:Nat)(A:Option Addr):om->Prop | .inl fs=>aG w lo hi A fs | .inr xs=>aB w lo hi A xs
section
variable{w w':World}{base base' lo hi:Nat}{v:Value}{A:Option Addr}
theorem gY.bz{r:om}(h:gY w base v r)(hb:Below w.heap.size w w'):gY w' base v r:=by cases r;exact ah.bz h hb;exact af.bz h hb
theorem gY.bq{r:om}(h:gY w base v r)(hb:base'<=base:=by omega):gY w base' v r:=by cases r;exact ah.bq h hb;exact af.bq h hb
theorem gY.aA{r:om}(h:gY w base v r){g:Nat}{t:TypeId}{cs:Array Value}(hk:ae w g t cs)(h1:t≠tF)(h2:t≠tA)(i:Nat)(u:Value):gY (w.setCell ⟨g,i,none⟩ u) base v r:=by cases r;exact ah.aA h hk h1 i u;exact af.aA h hk h2 i u
theorem gY.kM{r:om}(h:gY w base v r){p:Addr}(hp:p.block<base)(u:Value):gY (w.setCell p u) base v r:=by cases r;exact ah.kM h hp u;exact af.kM h hp u
theorem gY.lt{r:om}(h:gY w base v r):∀g,v.ownBlock=some g->base<=g/\g<w.heap.size:=by cases r;exact h.1.lt;exact h.1.lt
theorem gY.mk{p:Nat->Prop}{r:om}(h:gY w base v r)(hb:Mk p w w')(hp:∀g,v.ownBlock=some g->¬p g):gY w' base v r:=by cases r;exact ah.mk h hb hp;exact af.mk h hb hp
theorem gY.ne{r:om}(h:gY w base v r){e:TypeId}{b s n:Nat}{v':Value}{xs:List Value}(h':w.ownsRow b e s v' n xs)(h1:e≠tF)(h2:e≠tA):∀g,v'.ownBlock=some g->v.ownBlock≠some g:=by
 cases r
 ·exact own_ne h' h.1 h1
 ·exact own_ne h' h.1 h2
theorem gY.grown{r:om}(h:gY w base v r){e:TypeId}{b s n:Nat}{v':Value}{xs:List Value}(h':w.ownsRow b e s v' n xs)(hg:w.grownBy w' v'.ownBlock)(h1:tF≠e)(h2:tA≠e):gY w' base v r:=by
 cases r
 ·exact⟨ek h.1 h' hg h1,h.2⟩
 ·exact⟨ek h.1 h' hg h2,h.2⟩
theorem gY.turn{T:TypeId}{B:Nat}{row:Option Nat}{r:om}(h:gY w base v r)(hg:w.grownBy w' row)(hr:Ia T B w row)(h1:tF≠T)(h2:tA≠T):gY w' base v r:=by
 cases r
 ·exact⟨EV h.1 hg hr h1,h.2⟩
 ·exact⟨EV h.1 hg hr h2,h.2⟩
theorem gY.rj{r:om}(h:gY w base v r):∃B c,v=.slice B (Ip r) c/\MW w base w.heap.size B r:=by
 cases r
 ·obtain⟨B,c,e,h1⟩:=ah.rj h;exact⟨B,c,e,h1⟩
 ·obtain⟨B,c,e,h1⟩:=af.rj h;exact⟨B,c,e,h1⟩
theorem MW.bz{r:om}(h:MW w lo hi A r)(hb:Below w.heap.size w w'):MW w' lo hi A r:=by cases r;exact aG.bz h hb;exact aB.bz h hb
end
def Ff(rs:List om):Nat:=(rs.map fun r=>3 * Ip r).sum
theorem Cm(r:om)(rs:List om):Ff (r :: rs)=3 * Ip r+Ff rs:=by simp[Ff]
def bN(ss:List au):List om:=ss.flatMap fun s=>[.inl s.facts,.inr s.atoms]
theorem sQ:∀(ss:List au),(bN ss).length=ss.length * 2
 | []=>rfl
 | s :: ss=>by
  have:=sQ ss;simp only[bN,List.flatMap_cons,length_append,length_cons,List.length_nil] at this⊢;omega
theorem wN:∀(ss:List au) (k:Nat) (hk:k<ss.length),(bN ss)[k*2]? = some (.inl ss[k].facts)/\(bN ss)[k*2+1]? = some (.inr ss[k].atoms)
 | s :: ss,0,_=>by simp[bN]
 | s :: ss,k+1,hk=>by
  have h1:=wN ss k (by simpa using hk);have e:bN (s :: ss)=[.inl s.facts,.inr s.atoms]++bN ss:=rfl;rw[e,List.getElem?_append_right (by simp;omega),List.getElem?_append_right (by simp;omega)];simp only[length_cons,List.length_nil,List.getElem_cons_succ];rw[show (k+1) * 2 - (0+1+1)=k * 2 by omega,show (k+1) * 2+1 - (0+1+1)=k * 2+1 by omega];exact h1
theorem vk(ss ts:List au):bN (ss++ts)=bN ss++bN ts:=by simp[bN]
def qZ(ss:List au):Nat:=Ff (bN ss)
theorem K8(s:au)(ss:List au):qZ (s :: ss)=3 * s.facts.length+3 * s.atoms.length+qZ ss:=by
 have e:bN (s :: ss)=.inl s.facts :: .inr s.atoms :: bN ss:=rfl;unfold qZ;rw[e,Cm,Cm];simp only[Ip];omega
theorem Dv{n m:Nat}:∀ {ss:List au},(∀s∈ss,s.facts.length<=n/\s.atoms.length<=m)->qZ ss<=ss.length * (3 * n+3 * m)
 | [],_=>by simp[qZ,Ff,bN]
 | s :: ss,h=>by
  have h1:=Dv (ss:=ss) fun x hx=>h x (List.mem_cons_of_mem _ hx);have h2:=h s (List.mem_cons_self ..);rw[K8,length_cons,Nat.add_mul,Nat.one_mul];omega
structure gH (w:World) (base:Nat) (vs:List Value) (ss:List au):Prop where
 len:vs.length=(bN ss).length
 at_:∀(k:Nat) (h:k<vs.length) (h':k<(bN ss).length),gY w base vs[k] (bN ss)[k]
 apart:∀(i j:Nat) (hi:i<vs.length) (hj:j<vs.length),i<j->∀g,vs[i].ownBlock=some g->vs[j].ownBlock≠some g
structure bg (w:World) (base:Nat) (v:Value) (vs:List Value) (ss:List au):Prop where
 row:w.ownsRow base aC 2 v ss.length vs
 lim:il ss.length
 els:gH w base vs ss
theorem qc:(Tryz.prog.info? aC).map (fun i=>(i.zero,i.size,i.bytes))=some (some (.agg #[.slice none 0 0,.slice none 0 0]),2,48):=by kernel_rfl
section
variable{w w':World}{base base' mid:Nat}{v:Value}{vs vs2:List Value}{ss mX:List au}
theorem gH.bz(h:gH w base vs ss)(hb:Below w.heap.size w w'):gH w' base vs ss:=⟨h.len,fun k h1 h2=>(h.at_ k h1 h2).bz hb,h.apart⟩
theorem gH.bq(h:gH w base vs ss)(hb:base'<=base:=by omega):gH w base' vs ss:=⟨h.len,fun k h1 h2=>(h.at_ k h1 h2).bq hb,h.apart⟩
theorem gH.kM(h:gH w base vs ss){p:Addr}(hp:p.block<base)(u:Value):gH (w.setCell p u) base vs ss:=⟨h.len,fun k a b=>(h.at_ k a b).kM hp u,h.apart⟩
theorem gH.aA(h:gH w base vs ss){g:Nat}{t:TypeId}{cs:Array Value}(hk:ae w g t cs)(h1:t≠tF)(h2:t≠tA)(i:Nat)(u:Value):gH (w.setCell ⟨g,i,none⟩ u) base vs ss:=⟨h.len,fun k a b=>(h.at_ k a b).aA hk h1 h2 i u,h.apart⟩
theorem gH.grown(h:gH w base vs ss){e:TypeId}{b s n:Nat}{v':Value}{xs:List Value}(h':w.ownsRow b e s v' n xs)(hg:w.grownBy w' v'.ownBlock)(h1:tF≠e)(h2:tA≠e):gH w' base vs ss:=⟨h.len,fun k a b=>(h.at_ k a b).grown h' hg h1 h2,h.apart⟩
theorem gH.turn{T:TypeId}{B:Nat}{row:Option Nat}(h:gH w base vs ss)(hg:w.grownBy w' row)(hr:Ia T B w row)(h1:tF≠T)(h2:tA≠T):gH w' base vs ss:=⟨h.len,fun k a b=>(h.at_ k a b).turn hg hr h1 h2,h.apart⟩
theorem gH.nil(w:World)(base:Nat):gH w base [] []:=⟨rfl,fun k h=>absurd h (by simp),fun i j h=>absurd h (by simp)⟩
theorem gH.und(h:gH w base vs ss):∀(k:Nat) (hk:k<vs.length),Bw vs[k] w.heap.size:=fun k hk g hg=>((h.at_ k hk (by rw[<-h.len];exact hk)).lt g hg).2
theorem gH.one{s1 s2:Value}{s:au}(h:aI w base (.agg #[s1,s2]) s):gH w base [s1,s2] [s]:=by
 obtain⟨_,_,e,n1,n2⟩:=h;injection e with e;injection e with e;injection e with e1 e2;injection e2 with e2 e3;subst e1 e2;refine⟨rfl,fun k h1 h2=>?_,fun i j hi hj hij g hgi hgj=>?_⟩
 ·have hk:k=0\/k=1:=by simp at h1;omega
  rcases hk with rfl|rfl
  ·exact n1
  ·exact n2
 ·have:i=0/\j=1:=by simp at hj;omega
  obtain⟨rfl,rfl⟩:=this;exact own_ne n1.1 n2.1 (by decide) g hgi hgj
theorem gH.cat(h:gH w base vs ss)(h2:gH w mid vs2 mX)(hb:base<=mid)(hu:∀(k:Nat) (hk:k<vs.length),Bw vs[k] mid):gH w base (vs++vs2) (ss++mX):=by
 have er:=vk ss mX;have hlen:=h.len;refine⟨by rw[er,length_append,length_append,h.len,h2.len],fun k k1 k2=>?_,fun i j hi hj hij g hgi hgj=>?_⟩
 ·by_cases e:k<vs.length
  ·have e':k<(bN ss).length:=by omega
   simp only[er,getElem_append,e,e',dite_true];exact h.at_ k e e'
  ·have e':¬k<(bN ss).length:=by omega
   simp only[er,getElem_append,e,e',dite_false];have l1:k - vs.length<vs2.length:=by simp at k1;omega
   have l2:k - (bN ss).length<(bN mX).length:=by rw[er] at k2;simp at k2;omega
   have:=h2.at_ (k - vs.length) l1 (by rw[<-h2.len];exact l1);have e3:k - vs.length=k - (bN ss).length:=by omega
   simp only[e3] at this⊢;exact this.bq hb
 ·by_cases ej:j<vs.length
  ·have ei:i<vs.length:=by omega
   simp only[getElem_append,ei,ej,dite_true] at hgi hgj;exact h.apart i j ei ej hij g hgi hgj
  ·have lj:j - vs.length<vs2.length:=by simp at hj;omega
   by_cases ei:i<vs.length
   ·simp only[getElem_append,ei,ej,dite_true,dite_false] at hgi hgj;have e1:=hu i ei g hgi;have e2:=((h2.at_ (j - vs.length) lj (by rw[<-h2.len];exact lj)).lt g hgj).1;omega
   ·simp only[getElem_append,ei,ej,dite_false] at hgi hgj;exact h2.apart (i - vs.length) (j - vs.length) (by omega) lj (by omega) g hgi hgj
theorem bg.bz(h:bg w base v vs ss)(hb:Below w.heap.size w w'):bg w' base v vs ss:=⟨own_below h.row hb,h.lim,h.els.bz hb⟩
theorem bg.bq(h:bg w base v vs ss)(hb:base'<=base:=by omega):bg w base' v vs ss:=⟨fu h.row hb,h.lim,h.els.bq hb⟩
theorem bg.kM(h:bg w base v vs ss){p:Addr}(hp:p.block<base)(u:Value):bg (w.setCell p u) base v vs ss:=⟨ownsRow_setCell_below h.row hp u,h.lim,h.els.kM hp u⟩
theorem bg.aA(h:bg w base v vs ss){g:Nat}{t:TypeId}{cs:Array Value}(hk:ae w g t cs)(h0:t≠aC)(h1:t≠tF)(h2:t≠tA)(i:Nat)(u:Value):bg (w.setCell ⟨g,i,none⟩ u) base v vs ss:=
 ⟨uQ h.row hk h0 i u,h.lim,h.els.aA hk h1 h2 i u⟩
theorem bg.nil(w:World)(base:Nat):bg w base (.slice none 0 0) [] []:=⟨World.ownsRow_nil _ _ _ _,by simp[il],gH.nil _ _⟩
theorem bg.empty(w:World){g:Nat}(hg:g=w.heap.size):bg (w.alloc (.cells #[] aC)) g (.slice (some ⟨g,0,none⟩) 0 0) [] []:=by
 subst hg;exact⟨kP w _ _,by simp[il],gH.nil _ _⟩
theorem bg.iG{g:Nat}(h:ae w g aC #[])(hb:base<=g):bg w base (.slice (some ⟨g,0,none⟩) 0 0) [] []:=⟨ig h hb,by simp[il],gH.nil _ _⟩
theorem bg.one{g:Nat}{s1 s2:Value}{s:au}(hk:ae w g aC #[s1,s2])(hg:base<=g)(h:aI w base (.agg #[s1,s2]) s):bg w base (.slice (some ⟨g,0,none⟩) 1 1) [s1,s2] [s]:=
 ⟨ed hk hg rfl (fun j hj=>by
  match j,hj with
  | 0,_=>rfl
  | 1,_=>rfl) bn (by decide) rfl,by simp[il],gH.one h⟩
theorem bg.form(h:bg w base v vs ss):∃A c,v=.slice A ss.length c:=by
 obtain⟨A,c,e,-⟩:=bZ h.row h.lim;exact⟨A,c,e⟩
theorem bg.und(h:bg w base v vs ss):Bw v w.heap.size:=fun g hg=>(h.row.lt g hg).2
theorem bg.cat{w1:World}{v' v2:Value}(h:bg w base v vs ss)(hb:Below w.heap.size w w1)(h2:bg w1 mid v2 vs2 mX)(Xr:base<=mid)(hm:w.heap.size<=mid)(hl:ss.length+mX.length<=1049600)
  (hg:w1.grownBy w' v.ownBlock) (hr:w'.ownsRow base aC 2 v' (ss.length+mX.length) (vs++vs2)):bg w' base v' (vs++vs2) (ss++mX):=by
 have hrow:=own_below h.row hb;refine⟨by rw[length_append];exact hr,by rw[length_append];exact hl,?_⟩;exact((h.els.bz hb).grown hrow hg (by decide) (by decide)).cat (h2.els.grown hrow hg (by decide) (by decide)) Xr fun k hk=>(h.els.und k hk).mono hm
theorem gY.one{w:World}{b:Nat}{v:Value}{r:om}(h:gY w b v r):v.oneCell'=true:=by obtain⟨A,c,rfl,-⟩:=h.rj;rfl
theorem gH.one_cell(h:gH w base vs ss):∀u∈vs,u.oneCell'=true:=by
 intro u hu;obtain⟨k,hk,rfl⟩:=List.getElem_of_mem hu;exact(h.at_ k hk (by rw[<-h.len];exact hk)).one
def vw(w:World)(lo hi:Nat)(A:Option Addr)(ss:List au):Prop:=
 ∃vs:List Value,Rd w lo hi 2 A ss.length vs/\∀(k:Nat) (h:k<vs.length) (h':k<(bN ss).length),∃B c,vs[k]=.slice B (Ip (bN ss)[k]) c/\MW w lo hi B (bN ss)[k]
theorem vw.bz{lo hi:Nat}{A:Option Addr}(h:vw w lo hi A ss)(hb:Below w.heap.size w w'):vw w' lo hi A ss:=by
 obtain⟨vs,h1,h2⟩:=h;exact⟨vs,h1.bz hb,fun k a b=>by obtain⟨B,c,e,h3⟩:=h2 k a b;exact⟨B,c,e,h3.bz hb⟩⟩
theorem vw.at{lo hi:Nat}{A:Option Addr}(h:vw w lo hi A ss){k:Nat}(hk:k<ss.length):∃b o B c D d,A=some ⟨b,o,none⟩/\b<w.heap.size/\w.cell? ⟨b,o+k*2,none⟩=some (.slice B ss[k].facts.length c)/\w.cell? ⟨b,o+k*2+1,none⟩=some (.slice D ss[k].atoms.length d)/\aG w lo hi B ss[k].facts/\aB w lo hi D ss[k].atoms:=by
 obtain⟨vs,h1,h2⟩:=h;have hl:vs.length=ss.length * 2:=h1.raw.1;have hr:=sQ ss;obtain⟨b,o,e,-,-,hc⟩:=h1.raw.form (by omega);obtain⟨g1,g2⟩:=wN ss k hk;obtain⟨B,c,e1,v1⟩:=h2 (k*2) (by omega) (by omega);obtain⟨D,d,e2,v2⟩:=h2 (k*2+1) (by omega) (by omega);have x1:(bN ss)[k*2]'(by omega)=.inl ss[k].facts:=by rw[List.getElem?_eq_getElem (by omega)] at g1;exact Option.some.inj g1
 have x2:(bN ss)[k*2+1]'(by omega)=.inr ss[k].atoms:=by rw[List.getElem?_eq_getElem (by omega)] at g2;exact Option.some.inj g2
 rw[x1] at e1 v1;rw[x2] at e2 v2;have c1:=hc (k*2) _ (List.getElem?_eq_getElem (by omega));have c2:=hc (k*2+1) _ (List.getElem?_eq_getElem (by omega));rw[e1] at c1;rw[e2] at c2;exact⟨b,o,B,c,D,d,e,block_lt_of_cell c1,c1,c2,v1,v2⟩
theorem bg.rj{A:Option Addr}{n c:Nat}(h:bg w base (.slice A n c) vs ss):n=ss.length/\vw w base w.heap.size A ss:=by
 obtain⟨A',c',e,h1⟩:=bZ h.row h.lim;injection e with e1 e2 e3;subst e1;refine⟨e2,vs,h1,fun k a b=>?_⟩;obtain⟨B,d,e,h3⟩:=(h.els.at_ k a b).rj;exact⟨B,d,e,h3⟩
end
def oP(w:World)(lo hi:Nat)(v:Value)(ss:List au):Prop:=∃vs,bg w lo v vs ss/\Bw v hi/\(∀(k:Nat) (h:k<vs.length),Bw vs[k] hi)/\qZ ss<=16777216
def ku(w:World)(base:Nat)(v:Value)(ss:List au):Prop:=(∃vs,bg w base v vs ss)/\qZ ss<=16777216
section
variable{w w':World}{lo hi a b:Nat}{v:Value}{ss:List au}
theorem ku.I{base:Nat}(h:ku w base v ss):oP w base w.heap.size v ss:=by
 obtain⟨⟨vs,h⟩,hb⟩:=h;exact⟨vs,h,h.und,h.els.und,hb⟩
theorem ku.bz{base:Nat}(h:ku w base v ss)(hb:Below w.heap.size w w'):ku w' base v ss:=by obtain⟨⟨vs,h1⟩,h2⟩:=h;exact⟨⟨vs,h1.bz hb⟩,h2⟩
theorem ku.bq{base base':Nat}(h:ku w base v ss)(hb:base'<=base:=by omega):ku w base' v ss:=by obtain⟨⟨vs,h1⟩,h2⟩:=h;exact⟨⟨vs,h1.bq hb⟩,h2⟩
theorem ku.kM{base:Nat}(h:ku w base v ss){p:Addr}(hp:p.block<base)(u:Value):ku (w.setCell p u) base v ss:=by obtain⟨⟨vs,h1⟩,h2⟩:=h;exact⟨⟨vs,h1.kM hp u⟩,h2⟩
theorem ku.form{base:Nat}(h:ku w base v ss):∃A c,v=.slice A ss.length c:=by obtain⟨⟨vs,h1⟩,h2⟩:=h;exact h1.form
theorem ku.nil(w:World)(base:Nat):ku w base (.slice none 0 0) []:=⟨⟨_,bg.nil _ _⟩,by simp[qZ,Ff,bN]⟩
theorem oP.bz(h:oP w lo hi v ss)(hb:Below w.heap.size w w'):oP w' lo hi v ss:=by
 obtain⟨vs,h1,h2⟩:=h;exact⟨vs,h1.bz hb,h2⟩
theorem oP.mk(h:oP w lo hi v ss)(hb:Mk (fun g=>a<=g/\g<b) w w')(hd:hi<=a\/b<=lo):oP w' lo hi v ss:=by
 obtain⟨vs,h1,h2,h3,h4⟩:=h;refine⟨vs,⟨zo h1.row hb fun g hg hp=>by have:=sM h1.row h2 g hg;omega,h1.lim,h1.els.len,fun k x y=>?_,h1.els.apart⟩,h2,h3,h4⟩;exact(h1.els.at_ k x y).mk hb fun g hg hp=>by have:=(h1.els.at_ k x y).lt g hg;have:=h3 k x g hg;omega
theorem oP.form(h:oP w lo hi v ss):∃A c,v=.slice A ss.length c:=by obtain⟨vs,h1,-⟩:=h;exact h1.form
theorem oP.rj{A:Option Addr}{n c:Nat}(h:oP w lo hi (.slice A n c) ss):vw w lo w.heap.size A ss:=by obtain⟨vs,h1,-⟩:=h;exact h1.rj.2
theorem oP.len(h:oP w lo hi v ss):ss.length<=1049600/\qZ ss<=16777216:=by obtain⟨vs,h1,-,-,h4⟩:=h;exact⟨h1.lim,h4⟩
end
theorem bg.at{w:World}{base n c k:Nat}{A:Option Addr}{vs:List Value}{ss:List au}(h:bg w base (.slice A n c) vs ss)(hk:k<vs.length)(hr:k<(bN ss).length):∃b o B d,A=some ⟨b,o,none⟩/\b<w.heap.size/\w.cell? ⟨b,o+k,none⟩=some (.slice B (Ip (bN ss)[k]) d)/\vs[k]=.slice B (Ip (bN ss)[k]) d:=by
 obtain⟨A',c',e,h1⟩:=bZ h.row h.lim;injection e with e1 e2 e3;subst e1;have hl:vs.length=ss.length * 2:=h1.raw.1;obtain⟨b,o,e,-,-,hc⟩:=h1.raw.form (by omega);obtain⟨B,d,e2,-⟩:=(h.els.at_ k hk hr).rj;have c1:=hc k _ (List.getElem?_eq_getElem hk);rw[e2] at c1;exact⟨b,o,B,d,e,block_lt_of_cell c1,c1,e2⟩
theorem QQ(n:Nat)(h:il n)(w:World):(Instr.makeSlice 31 (.int .i64 0) (.int .i64 (n:Int))).run Tryz.prog w=.ok (.slice (some ⟨w.heap.size,0,none⟩) 0 n) (w.alloc (.cells (madeCells #[.slice none 0 0,.slice none 0 0] (n * 2)) aC)):=by
 obtain⟨i,hi,hz,hs,hb⟩:=info_parts qc;have:=jo (P:=Tryz.prog) 31 aC i _ Tryz.underlying31 hi hz .i64 .i64 0 n dJ (by rw[hb];unfold il at h;omega) (by unfold il at h;omega) w
 rwa [hs] at this
theorem MX(w:World)(n:Nat)(h:n<=1049600):(w.alloc (.cells (madeCells #[.slice none 0 0,.slice none 0 0] (n * 2)) aC)).ownsRow w.heap.size aC 2 (.slice (some ⟨w.heap.size,0,none⟩) 0 n) 0 []:=
 World.ownsRow_made w _ n bn (by unfold maxLen;omega) (by rw[size_madeCells])
theorem MY{lo hi bJ hi':Nat}(A A':Option Addr)(n m c c':Nat)(vs vs':List Value)(w:World)(h:Rd w lo hi 2 A n vs)(h':Rd w bJ hi' 2 A' m vs')(h1:∀u∈vs,u.oneCell'=true)(h1':∀u∈vs',u.oneCell'=true)(hn:n+m<=1049600) :
  Calls Tryz.prog 150 #[.slice A n c,.slice A' m c'] w fun e w'=>∃r,e=.returned r/\w'.ownsRow w.heap.size aC 2 r (n+m) (vs++vs')/\Below w.heap.size w w':=by
 have hmk:=QQ (n+m) hn;simp only[Int.natCast_add] at hmk;have QC:=ax (MX w (n+m) hn);have hnl:=h.lim;have QR:=h'.lim;have H:=ax h;have H':=ax h';have H1:=ax h1;have H1':=ax h1';clear h h' h1 h1';(go_enter Tryz.func150,Tryz.ntmps150)
 go_wp2_with (first
  | (at_builtin;(refine fJ rfl _ _ 31 rfl Tryz.underlying31 qc rfl (by decide) (by decide) rfl QC.o rfl (H.o.bz aj).raw H1.o (by omega) (by simp) ?_);intro v1 w1 Hf hg1 hB1;simp only[Nat.zero_add,nil_append] at Hf;have hB:Below w.heap.size w w1:=Below.trans aj hB1;obtain⟨A1,d1,rfl,-⟩:=bZ Hf (by unfold il;omega))
  | (at_builtin;refine fJ rfl _ _ 31 rfl Tryz.underlying31 qc rfl (by decide) (by decide) rfl Hf rfl (H'.o.bz hB).raw H1'.o (by omega) hB.size ?_;intro v2 w2 hO2 hg2 hB2;obtain⟨A2,d2,rfl,-⟩:=bZ hO2 (by unfold il;omega)))
 go_ret;exact⟨_,rfl,by simpa using hO2,hB.trans hB2⟩
end
section
open Go Go.RowKit Go.Proofs
attribute [local go_sem ↓] Go.wp_at_zero Go.wp_at_succ
def je(n:Nat)(a:au)(x:aL)(i:Nat)(t:Int)(K:Nat):Option (List au):=
 match kC (aO (mz a)|||aQ K t) with
 | none=>none
 | some m=>match aR n (eD a x i) t K with
  | none=>none
  | some l1=>match aR n (dQ a x i (m:Int)) t K with
   | none=>none
   | some l2=>some (l1++l2)
theorem qd{n:Nat}{a:au}{t:Int}{K:Nat}(h:a.valid=false):aR n a t K=none:=by
 cases n with
 | zero=>rfl
 | succ n=>simp[aR,h]
theorem wO{n:Nat}{a:au}{t:Int}{K:Nat}(h:a.valid=true)(hc:dE a=false):aR (n+1) a t K=some []:=by simp[aR,h,hc]
theorem rT{n:Nat}{a:au}{t:Int}{K i:Nat}{x:aL}(h:a.valid=true)(hc:dE a=true)(hf:iQ a 1 t=some i)(hx:a.atoms[i]? = some x):aR (n+1) a t K=if (cZ a x i t).valid then some [cZ a x i t] else none:=by
 simp[aR,h,hc,hf,hx]
theorem rU{n:Nat}{a:au}{t:Int}{K:Nat}(h:a.valid=true)(hc:dE a=true)(hf:iQ a 1 t=none)(hg:iQ a 2 t=none):aR (n+1) a t K=none:=by simp[aR,h,hc,hf,hg]
theorem rV{n:Nat}{a:au}{t:Int}{K i:Nat}{x:aL}(h:a.valid=true)(hc:dE a=true)(hf:iQ a 1 t=none)(hg:iQ a 2 t=some i)(hx:a.atoms[i]? = some x):aR (n+1) a t K=je n a x i t K:=by
 simp only[aR,h,hc,hf,hg,hx,je,Option.getD_some];rfl
theorem mK:∀ {n:Nat} {a:au} {t:Int} {K:Nat} {l:List au},aR n a t K=some l->l.length<=2 ^ n/\∀b∈l,b.valid=true
 | 0,_,_,_,_,h=>by cases h
 | n+1,a,t,K,l,h=>by
  unfold aR at h
  split at h
  ·cases h
  ·split at h
   ·obtain rfl:=Option.some.inj h;simp
   ·split at h
    ·split at h
     ·rename_i hv;obtain rfl:=Option.some.inj h;refine⟨by simp;exact Nat.one_le_two_pow,fun b hb=>?_⟩;obtain rfl:=List.mem_singleton.1 hb;exact hv
     ·cases h
    ·split at h
     ·cases h
     ·split at h
      ·cases h
      ·split at h
       ·cases h
       ·split at h
        ·cases h
        ·rename_i e1 _ _ e2;obtain rfl:=Option.some.inj h;have h1:=mK e1;have h2:=mK e2;refine⟨by rw[length_append,Nat.pow_succ];omega,fun b hb=>?_⟩;rcases List.mem_append.1 hb with hb|hb
         ·exact h1.2 b hb
         ·exact h2.2 b hb
def Py(n:Nat)(a:au)(t:Int)(K:Nat):Prop:=∀(lo hi:Nat) (v:Value) (w:World),eB w lo hi v a->hi<=w.heap.size->a.valid=true->
 Calls Tryz.prog 105 #[v,.int .i64 t,.int .u16 K] w fun e w'=>∃r vs,e=.returned (.tuple #[r,.bool (aR n a t K).isSome])/\bg w' w.heap.size r vs ((aR n a t K).getD [])/\Below w.heap.size w w'
def Vb(n:Nat)(a:au)(x:aL)(i:Nat)(t:Int)(K:Nat):Prop:=∀(lo hi:Nat) (v:Value) (w:World),eB w lo hi v a->hi<=w.heap.size->
 Calls Tryz.prog 135 #[v,.int .i64 i,.int .i64 t,.int .u16 K] w fun e w'=>∃r vs,e=.returned (.tuple #[r,.bool (je n a x i t K).isSome])/\bg w' w.heap.size r vs ((je n a x i t K).getD [])/\Below w.heap.size w w'
theorem tX(n:Nat)(a:au)(t:Int)(K:Nat)(HL:∀i x,iQ a 1 t=none->iQ a 2 t=some i->a.atoms[i]? = some x->x.kind=2->mF a ⟨true,x.a,t⟩=true->Vb n a x i t K):Py (n+1) a t K:=by
 intro lo hi v w h hhi hv;have hV:=ax h;obtain⟨A1,c1,A2,c2,rfl,-⟩:=h;have YZ:=ax HL;have hvl:=tT hv;have HV:=ax hv;clear HL hv;(go_enter Tryz.func105,Tryz.ntmps105);have k0:ae (w.alloc (.cells #[.slice A1 a.facts.length c1,.slice A2 a.atoms.length c2] aC)) w.heap.size aC #[.slice A1 a.facts.length c1,.slice A2 a.atoms.length c2]:=az;(go_wp2_with fail);refine(nO _ a _ (hV.o.V.bz aj) (by simp;omega)).mono ?_;rintro e w1 ⟨rfl,hB1⟩;rw[show (a.valid && !(cases a (dP a 0)).isEmpty)=dE a from rfl];have hB:=aP (w:=w) aj hB1;replace k0:=k0.nz hB1;clear hB1;have hz1:=hB.size;cases hc:dE a
 ·have E:=ax (wO (n:=n) (t:=t) (K:=K) HV.o hc);clear hc;go_wp2;go_ret2;exact⟨_,_,by rw[E.o];rfl,by rw[E.o];exact bg.nil _ _,hB⟩
 have HC:=ax hc;clear hc;(replace bT:=k0.z);(go_wp2_with fail);refine(mW _ a 1 t _ (hV.o.V.bz aj) (by omega)).mono ?_;rintro e w2 ⟨rfl,hB2⟩;(replace hB:=aP hB hB2;replace k0:=k0.nz hB2;replace bT:=k0.z);clear hB2;have hz2:=hB.size;cases hf:iQ a 1 t
 case some i=>
  obtain⟨x,hx,-,-,hil⟩:=sP hf;have E:=ax (rT (n:=n) (K:=K) HV.o HC.o hf hx);have EI:ve a 1 t=(i:Int):=by unfold ve;rw[hf]
  rw[EI];have hxe:a.atoms[i]=x:=by rw[List.getElem?_eq_getElem hil] at hx;exact Option.some.inj hx
  clear hf hx EI;(go_wp2_with fail);refine(tK _ a i t _ (hV.o.bz aj) hil (by omega)).mono ?_;rw[hxe];rintro e w3 ⟨r,rfl,oC,hB3⟩;(replace hB:=aP hB hB3;replace k0:=k0.nz hB3);clear hB3 hxe;have OC:=ax oC;obtain⟨F3,f3,G3,g3,rfl,-⟩:=oC.C;have hz3:=hB.size;clear bT;cases hcv:(cZ a x i t).valid
  ·have E2:aJ (aR (n+1) a t K=none):=ax (by rw[E.o,hcv];rfl);clear hcv;go_wp2;go_ret2;exact⟨_,_,by rw[E2.o];rfl,by rw[E2.o];exact bg.nil _ _,aj⟩
  ·have E2:aJ (aR (n+1) a t K=some [cZ a x i t]):=ax (by rw[E.o,hcv];rfl);clear hcv;go_wp2;go_ret2;refine⟨.slice (some ⟨w3.heap.size+1,0,none⟩) 1 1,[.slice F3 (cZ a x i t).facts.length f3,.slice G3 (cZ a x i t).atoms.length g3],by rw[E2.o];rfl,?_,aj⟩;rw[E2.o];refine bg.one (ae.dA ?_) ?_ (aI.bz (aI.bq OC.o (by omega)) aj)
   ·simp
   ·omega
 have uh:=ax hf;have EI:ve a 1 t=0:=by unfold ve;rw[hf]
 rw[EI];clear hf EI;(go_wp2_with fail);refine(mW _ a 2 t _ (hV.o.V.bz aj) (by omega)).mono ?_;rintro e w3 ⟨rfl,hB3⟩;(replace hB:=aP hB hB3;replace k0:=k0.nz hB3;replace bT:=k0.z);clear hB3;have hz3:=hB.size;cases hg:iQ a 2 t
 case none=>
  have E:=ax (rU (n:=n) (K:=K) HV.o HC.o uh.o hg);clear hg;go_wp2;go_ret2;exact⟨_,_,by rw[E.o];rfl,by rw[E.o];exact bg.nil _ _,hB⟩
 case some i=>
  obtain⟨x,hx,hk2,himp,hil⟩:=sP hg;have E:=ax (rV (n:=n) (K:=K) HV.o HC.o uh.o hg hx);have EI:ve a 2 t=(i:Int):=by unfold ve;rw[hg]
  rw[EI];have HX:=ax (YZ.o i x uh.o hg hx hk2 himp);clear hg hx EI hk2 himp;(go_wp2_with fail);refine(HX.o lo hi _ _ (hV.o.bz aj) (by omega)).mono ?_;rintro e w4 ⟨r,vs,rfl,oR,hB4⟩;have OR:=ax oR;obtain⟨R1,r1,rfl⟩:=oR.form;clear oR;(replace hB:=aP hB hB4);go_wp2;go_ret2;refine⟨_,vs,by rw[E.o];rfl,?_,aj⟩;rw[E.o];exact OR.o.bq
theorem Cn{n:Nat}{a:au}{x:aL}{i:Nat}{t:Int}{K:Nat}(h:kC (aO (mz a)|||aQ K t)=none):je n a x i t K=none:=by unfold je;rw[h]
theorem Fg{n m:Nat}{a:au}{x:aL}{i:Nat}{t:Int}{K:Nat}(h:kC (aO (mz a)|||aQ K t)=some m)(hv:(eD a x i).valid=false\/(dQ a x i m).valid=false):je n a x i t K=none:=by
 unfold je;rw[h];rcases hv with hv|hv
 ·simp only[qd hv]
 ·simp only[qd hv];cases aR n (eD a x i) t K<;>rfl
theorem uw{n m:Nat}{a:au}{x:aL}{i:Nat}{t:Int}{K:Nat}(h:kC (aO (mz a)|||aQ K t)=some m)(h1:aR n (eD a x i) t K=none):je n a x i t K=none:=by
 unfold je;rw[h];simp only[h1]
theorem xz{n m:Nat}{a:au}{x:aL}{i:Nat}{t:Int}{K:Nat}(h:kC (aO (mz a)|||aQ K t)=some m)(h1:aR n (dQ a x i m) t K=none):je n a x i t K=none:=by
 unfold je;rw[h];simp only[h1];cases aR n (eD a x i) t K<;>rfl
theorem Co{n m:Nat}{a:au}{x:aL}{i:Nat}{t:Int}{K:Nat}{l1 l2:List au}(h:kC (aO (mz a)|||aQ K t)=some m)(h1:aR n (eD a x i) t K=some l1)(h2:aR n (dQ a x i m) t K=some l2):je n a x i t K=some (l1++l2):=by
 unfold je;rw[h];simp only[h1,h2]
theorem Fh{lo hi bJ hi':Nat}(A A':Option Addr)(c c' n:Nat)(fs gs:List aF)(w:World)(h:aG w lo hi A fs)(h':aG w bJ hi' A' gs)(hn:n=fs.length+gs.length)(hl:n<=1049600) :
  Calls Tryz.prog 98 #[.slice A fs.length c,.slice A' gs.length c'] w fun e w'=>∃F d,e=.returned (.slice F n d)/\ah w' w.heap.size (.slice F n d) (fs++gs)/\Below w.heap.size w w':=by
 refine(nH A A' c c' fs gs w h h' (by omega)).mono ?_;rintro e w' ⟨r,rfl,o,hB⟩;obtain⟨F,d,rfl,-⟩:=o.rj;rw[length_append,<-hn] at o⊢;exact⟨F,d,rfl,o,hB⟩
theorem zZ{lo hi bJ hi':Nat}(A A':Option Addr)(c c' n:Nat)(fs gs:List aL)(w:World)(h:aB w lo hi A fs)(h':aB w bJ hi' A' gs)(hn:n=fs.length+gs.length)(hl:n<=1049600) :
  Calls Tryz.prog 99 #[.slice A fs.length c,.slice A' gs.length c'] w fun e w'=>∃F d,e=.returned (.slice F n d)/\af w' w.heap.size (.slice F n d) (fs++gs)/\Below w.heap.size w w':=by
 refine(nI A A' c c' fs gs w h h' (by omega)).mono ?_;rintro e w' ⟨r,rfl,o,hB⟩;obtain⟨F,d,rfl,-⟩:=o.rj;rw[length_append,<-hn] at o⊢;exact⟨F,d,rfl,o,hB⟩
section
variable{ops:Array Oper}{o:Oper}{a:Act}{K:Act->World->Prop}{Q:Exit->Act->World->Prop}{E:Prop}{w:World}{base lo hi c n:Nat}{v:Value}{A:Option Addr}
theorem Pz{Y:Nat->Option Bool}(hgd:o.guard=none)(s x:Operand)(ho:o.op=.call { callee:=.builtin .append,args:=#[s,x],argTypes:=#[24,24] })
  {xs ys:List aL} (hs:a.eval s=v) (hown:af w base v xs) (hx:a.eval x=.slice A ys.length c) (hR:aB w lo hi A ys) (hn:n=xs.length+ys.length) (hl:n<=1049600) (hb:base<=w.heap.size)
  (h:∀A' c' w',af w' base (.slice A' n c') (xs++ys)->w.grownBy w' v.ownBlock->Below base w w'->K (a.put o.dst (.slice A' n c')) w'):if Region.wanted o Y=true then Oper.wp Tryz.prog o a w K Q else E:=by
 have hw:Region.wanted o Y=true:=by simp[Region.wanted,hgd]
 have hw':Region.wanted o (yielded #[] a.tmps)=true:=by simp[Region.wanted,hgd]
 rw[if_pos hw]
 suffices H:if Region.wanted o (yielded #[] a.tmps)=true then Oper.wp Tryz.prog o a w K Q else E by rwa [if_pos hw'] at H
 refine lW hgd s x ho hs hown hx hR (by omega) hb ?_;intro A' c' w' h1 h2 h3;rw[length_append,<-hn] at h1⊢;exact h A' c' w' h1 h2 h3
end
theorem bg.rd{w:World}{base n c:Nat}{A:Option Addr}{vs:List Value}{ss:List au}(h:bg w base (.slice A n c) vs ss):Rd w base w.heap.size 2 A ss.length vs:=by
 obtain⟨A',c',e,h1⟩:=bZ h.row h.lim;injection e with e1 e2 e3;subst e1;exact h1
theorem bg.join{w1 w2 w3:World}{b1 b2 b3 base:Nat}{v1 v2 r:Value}{vs1 vs2:List Value}{l1 l2:List au}(h1:bg w1 b1 v1 vs1 l1)(hB1:Below w1.heap.size w1 w2)(h2:bg w2 b2 v2 vs2 l2)(hb2:w1.heap.size<=b2)(hB2:Below w2.heap.size w2 w3)
  (hb:base<=b1) (hbb:base<=b2) (hr:w3.ownsRow b3 aC 2 r (l1.length+l2.length) (vs1++vs2)) (hb3:base<=b3) (hl:l1.length+l2.length<=1049600):bg w3 base r (vs1++vs2) (l1++l2):=
 ⟨by rw[length_append];exact fu hr hb3,by rw[length_append];exact hl,(((h1.els.bz hB1).bq hb).cat h2.els hbb fun k hk=>(h1.els.und k hk).mono hb2).bz hB2⟩
theorem Aa(n:Nat)(a:au)(x:aL)(i:Nat)(t:Int)(Ks:Nat)(hv:a.valid=true)(hx:a.atoms[i]? = some x)(hKs:Ks<512)(hn:n<=6)
  (HE:Py n (eD a x i) t Ks) (HF:∀m:Nat,Py n (dQ a x i (m:Int)) t Ks):Vb n a x i t Ks:=by
 intro lo hi0 v w h hhi;have hV:=ax h;obtain⟨A1,c1,A2,c2,rfl,h1,h2,-⟩:=h;have H1:=ax h1;have hvl:=tT hv;obtain⟨hi,hxe⟩:=List.getElem?_eq_some_iff.1 hx;have hwl:=ja hi;obtain⟨b,o,rfl,g0,g1,g2⟩:=h2.at hi;rw[hxe] at g0 g1 g2;have hbl:=block_lt_of_cell g0;simp only at hbl;have hii:(i:Int)<(a.atoms.length:Int):=by omega
 have Y0:=ax HE;have Y1:=ax HF;have HK:=ax (bC hKs t);have HN:=ax (Nat.pow_le_pow_right (show 0<2 from by decide) hn);clear h1 h2 HE HF hx hxe hv hhi;(go_enter Tryz.func135,Tryz.ntmps135);have k0:ae (w.alloc (.cells #[.slice A1 a.facts.length c1,.slice (some ⟨b,o,none⟩) a.atoms.length c2] aC)) w.heap.size aC #[.slice A1 a.facts.length c1,.slice (some ⟨b,o,none⟩) a.atoms.length c2]:=az;have hB:Below w.heap.size w (w.alloc (.cells #[.slice A1 a.facts.length c1,.slice (some ⟨b,o,none⟩) a.atoms.length c2] aC)):=aj;(go_upto_region 2 with fail);have hB2:=ai hB (.cells #[.int .i64 x.kind,.int .i64 x.a,.int .i64 x.b] tA);have kx:ae ((w.alloc (.cells #[.slice A1 a.facts.length c1,.slice (some ⟨b,o,none⟩) a.atoms.length c2] aC)).alloc (.cells #[.int .i64 x.kind,.int .i64 x.a,.int .i64 x.b] tA)) (w.heap.size+1) tA #[.int .i64 x.kind,.int .i64 x.a,.int .i64 x.b]:=az;replace k0:=k0.alloc (.cells #[.int .i64 x.kind,.int .i64 x.a,.int .i64 x.b] tA);have hs2:((w.alloc (.cells #[.slice A1 a.facts.length c1,.slice (some ⟨b,o,none⟩) a.atoms.length c2] aC)).alloc (.cells #[.int .i64 x.kind,.int .i64 x.a,.int .i64 x.b] tA)).heap.size=w.heap.size+2:=by simp
 generalize ((w.alloc (.cells #[.slice A1 a.facts.length c1,.slice (some ⟨b,o,none⟩) a.atoms.length c2] aC)).alloc (.cells #[.int .i64 x.kind,.int .i64 x.a,.int .i64 x.b] tA))=W2 at k0 kx hB2 hs2⊢;clear hB g0 g1 g2;have HB2:=ax hB2;clear hB2;(replace bT:=k0.z);(go_wp2_with fail);refine(jZ _ a i _ (hV.o.bz HB2.o) hi).mono ?_;rintro e w3 ⟨r,rfl,oR,hB3⟩;obtain⟨G1,d1,rfl,-⟩:=oR.rj;have OR:=ax oR;have HB3:=bF HB2 hB3;replace k0:=k0.nz hB3;replace kx:=kx.nz hB3;have hs3:w.heap.size+2<=w3.heap.size:=by have:=hB3.size;omega
 have Y7:=hB3.size;clear hB3 oR HB2;(replace bT:=k0.z);(go_wp2_with fail);clear bT;refine lS (S:=(fun w'=>∀i,w'.cell? ⟨w.heap.size,i,none⟩=#[.slice A1 a.facts.length c1,.slice (some ⟨b,o,none⟩) a.atoms.length c2][i]?)) (k0.drew.cell) fun aH=>?_;refine yU 0 1 2 ?_;refine aX 3 rfl fun K hK=>?_;(try simp only[zz]);(go_simp;refine(aY Ks t _ hKs).mono ?_;rintro e w4 ⟨rfl,rfl⟩);refine hK.out _ _ (k0.drew.cell) ?_;clear aH hK K;intro aH;refine aX 4 rfl fun K hK=>?_;(try simp only[zz]);(go_simp;refine(mV _ a (aQ Ks t) _ (hV.o.V.bz (HB3.o.drew)) HK.o).mono ?_;rintro e w4 ⟨rfl,hB4⟩;replace hB4:Below w3.heap.size w3 w4:=aU.drew.trans hB4;replace k0:=k0.nz hB4;replace kx:=kx.nz hB4;have mJ:=bF HB3 hB4;have OR4:=ax (OR.o.bz hB4);have hs4:=hB4.size;clear hB4 OR HB3);refine hK.out _ _ (k0.cell) ?_;clear aH hK K;intro aH;refine yU 5 6 7 ?_;refine aX 8 rfl fun K hK=>?_;(try simp only[zz]);go_simp;refine hK.out _ _ (k0.cell) ?_;clear aH hK K;intro aH;refine aX 9 rfl fun K hK=>?_;(try simp only[zz]);go_simp;refine hK.out _ _ (k0.cell) ?_;clear aH hK K;intro aH;refine jP ?_;cases hnt:kC (aO (mz a)|||aQ Ks t)
 case none=>
  have E:=ax (Cn (n:=n) (x:=x) (i:=i) hnt);clear hnt;go_wp2;go_ret2;exact⟨_,_,by rw[E.o];rfl,by rw[E.o];exact bg.nil _ _,mJ.o⟩
 case some m=>
  have EI:gX (aO (mz a)|||aQ Ks t)=(m:Int):=by unfold gX;rw[hnt]
  rw[EI];clear EI;have Oy:=ax hnt;clear hnt;(replace bT:=k0.z;replace uk:=kx.z);(go_upto_region 8 with (go_at_call 98;refine(Fh A1 (some ⟨w4.heap.size,0,none⟩) c1 1 (a.facts.length+1) a.facts [⟨true,x.a,x.b⟩] _ (H1.o.bz (ai mJ.o _)) (aG.one (f:=⟨true,x.a,x.b⟩) (ae.new _ _ _)) rfl (by omega)).mono ?_;rintro e w5 ⟨F1,e1,rfl,oF,bW⟩;replace bW:Below w4.heap.size w4 w5:=(ai aU _).trans (bW.mono (by simp));have MZ:=ax (oF.bq (base':=w.heap.size) (by simp;omega));have wm:=bF mJ bW;have hs5:=bW.size;replace k0:=k0.nz bW;replace kx:=kx.nz bW;have OR5:=ax (OR4.o.bz bW);clear oF bW mJ OR4 bT uk;(replace bT:=k0.z;replace uk:=kx.z)));have kE:ae ((w5.alloc (.cells #[.slice F1 (a.facts.length+1) e1,.slice G1 (zv a.atoms i).length d1] aC)).alloc (.cells #[.int .i64 1,.int .i64 x.a,.int .i64 m] tA)) w5.heap.size aC #[.slice F1 (a.facts.length+1) e1,.slice G1 (zv a.atoms i).length d1]:=(ae.new _ _ _).alloc _;have kf:ae ((w5.alloc (.cells #[.slice F1 (a.facts.length+1) e1,.slice G1 (zv a.atoms i).length d1] aC)).alloc (.cells #[.int .i64 1,.int .i64 x.a,.int .i64 m] tA)) (w5.heap.size+1) tA #[.int .i64 1,.int .i64 x.a,.int .i64 m]:=ae.dA (by simp);have hbW:Below w5.heap.size w5 ((w5.alloc (.cells #[.slice F1 (a.facts.length+1) e1,.slice G1 (zv a.atoms i).length d1] aC)).alloc (.cells #[.int .i64 1,.int .i64 x.a,.int .i64 m] tA)):=ai (ai aU _) _;have QO:((w5.alloc (.cells #[.slice F1 (a.facts.length+1) e1,.slice G1 (zv a.atoms i).length d1] aC)).alloc (.cells #[.int .i64 1,.int .i64 x.a,.int .i64 m] tA)).heap.size=w5.heap.size+2:=by simp
  replace k0:=k0.nz hbW;replace kx:=kx.nz hbW;have HB:=bF wm hbW;have OF:=ax (MZ.o.bz hbW);have OR:=ax ((OR5.o.bz hbW).bq (base':=w.heap.size));clear hbW wm MZ OR5 bT uk;generalize ((w5.alloc (.cells #[.slice F1 (a.facts.length+1) e1,.slice G1 (zv a.atoms i).length d1] aC)).alloc (.cells #[.int .i64 1,.int .i64 x.a,.int .i64 m] tA))=W at k0 kx kE kf QO HB OF OR⊢;obtain⟨yE,Vd⟩:∃y,y=w5.heap.size:=⟨_,rfl⟩;rw[<-Vd] at kE kf QO⊢;have Y9:w.heap.size+2<=yE:=by omega
  clear Vd hs5 hs4 hs3 Y7 hs2
  go_cut [16] (fun s16 wc=>∃(xb:Nat) (F2:Option Addr) (e2:Nat) (G2:Option Addr) (e3:Nat),s16=.pointer (some ⟨xb,0,none⟩)/\aJ (ah wc W.heap.size (.slice F2 (a.facts.length+1) e2) (a.facts++[⟨false,x.a,x.b⟩]))/\aJ (af wc W.heap.size (.slice G2 (a.atoms.length+1) e3) (([⟨1,x.a,(m:Int)⟩]++zv a.atoms i)++[⟨2,(m:Int),x.b⟩]))/\ae wc xb aC #[.slice F2 (a.facts.length+1) e2,.slice G2 (a.atoms.length+1) e3]/\W.heap.size<=xb/\aJ (Below W.heap.size W wc))
  case first=>
   (replace bT:=k0.z;replace uk:=kx.z);go_wp2;refine lS (S:=(fun w'=>(∀i,w'.cell? ⟨w.heap.size,i,none⟩=#[.slice A1 a.facts.length c1,.slice (some ⟨b,o,none⟩) a.atoms.length c2][i]?)/\(∀i,w'.cell? ⟨w.heap.size+1,i,none⟩=#[.int .i64 x.kind,.int .i64 x.a,.int .i64 x.b][i]?))) (⟨k0.drew.cell,kx.drew.cell⟩) fun aH=>?_;clear bT uk;have kH:aJ (Below W.heap.size W W.drew):=ax aU.drew;have df:W.heap.size<=W.drew.heap.size:=bn;generalize W.drew=wq at kH df aH⊢;refine jQ 0 1 2 3 4 ?_;refine jQ 5 6 9 10 12 ?_;refine yU 13 14 15 ?_
   refine mQ [7,8,11,16,17,18,19] #[true,true,true,true,true,true,true,true,true,true,true,true,true,true,true,true,true,true,true,true,false] 7 (by kernel_rfl) aH
    (fun a0 D a1 w'=>aJ (Below W.heap.size W w')/\∃v61 v62 v65 v70 v71 v72 v16,a1=(((((((a0.put (some 61) v61).put (some 62) v62).put (some 65) v65).put (some 70) v70).put (some 71) v71).put (some 72) v72).put (some 16) v16)/\
     aJ (dn D 7=true->∃y,v61=.slice (some ⟨y,0,none⟩) 1 1/\W.heap.size<=y/\ae w' y tF #[.bool false,.int .i64 x.a,.int .i64 x.b])/\
     aJ (dn D 8=true->∃F e,v62=.slice F (a.facts.length+1) e/\ah w' W.heap.size (.slice F (a.facts.length+1) e) (a.facts++[⟨false,x.a,x.b⟩]))/\
     aJ (dn D 11=true->dn D 17=false->∃G e,v65=.slice G a.atoms.length e/\af w' W.heap.size (.slice G a.atoms.length e) ([⟨1,x.a,(m:Int)⟩]++zv a.atoms i))/\
     aJ (dn D 16=true->dn D 17=false->∃y,v70=.slice (some ⟨y,0,none⟩) 1 1/\W.heap.size<=y/\ae w' y tA #[.int .i64 2,.int .i64 m,.int .i64 x.b])/\
     aJ (dn D 17=true->∃G e,v71=.slice G (a.atoms.length+1) e/\af w' W.heap.size (.slice G (a.atoms.length+1) e) (([⟨1,x.a,(m:Int)⟩]++zv a.atoms i)++[⟨2,(m:Int),x.b⟩]))/\
     aJ (dn D 18=true->(dn D 8=true/\dn D 17=true)/\v72=.agg #[v62,v71])/\
     aJ (dn D 19=true->∃y,v16=.pointer (some ⟨y,0,none⟩)/\W.heap.size<=y/\ae w' y aC #[.slice none 0 0,.slice none 0 0])) ?start ?steps ?fin
   case start=>exact⟨kH,undef,undef,undef,undef,undef,undef,undef,(by simp only[Act.put,setIfInBounds_toArray,set_cons_zero,set_cons_succ]),fun h=>absurd h (by decide),fun h=>absurd h (by decide),fun h=>absurd h (by decide),fun h=>absurd h (by decide),fun h=>absurd h (by decide),fun h=>absurd h (by decide),fun h=>absurd h (by decide)⟩
   case steps=>
    refine aV.cons rfl (fun D a1 w' hu hd hI hS K' hK G hG=>?_) (aV.cons rfl (fun D a1 w' hu hd hI hS K' hK G hG=>?_) (aV.cons rfl (fun D a1 w' hu hd hI hS K' hK G hG=>?_) (aV.cons rfl (fun D a1 w' hu hd hI hS K' hK G hG=>?_) (aV.cons rfl (fun D a1 w' hu hd hI hS K' hK G hG=>?_) (aV.cons rfl (fun D a1 w' hu hd hI hS K' hK G hG=>?_) (aV.cons rfl (fun D a1 w' hu hd hI hS K' hK G hG=>?_) (aV.nil)))))))
    ·obtain⟨HW,v61,v62,v65,v70,v71,v72,v16,ha,h7,h8,h11,h16,h17,h18,h19⟩:=hI;rw[ha] at hG;clear ha a1;have hsz:=HW.o.size;refine hG ?_;clear hG hd;(try simp only[zz]);go_simp;have aN:Below w'.heap.size w' (w'.alloc (.cells #[.bool false,.int .i64 x.a,.int .i64 x.b] tF)):=ai aU _;exact hK.out _ _ ⟨((k0.nz HW.o).alloc _).cell,((kx.nz HW.o).alloc _).cell⟩ ⟨HW.o.trans (aN.mono hsz),(.slice (some ⟨w'.heap.size,0,none⟩) 1 1),v62,v65,v70,v71,v72,v16,(by simp only[Act.put,setIfInBounds_toArray,set_cons_zero,set_cons_succ]),(fun _=>⟨_,rfl,hsz,ae.new _ _ _⟩),(aK (by decide) h8.o fun⟨F,e,r,o⟩=>⟨F,e,r,o.bz aN⟩),(fun p q=>by rw[aT (by decide)] at p q;obtain⟨G,e,r,o⟩:=h11.o p q;exact⟨G,e,r,o.bz aN⟩),(fun p q=>by rw[aT (by decide)] at p q;obtain⟨y,e,hy,k⟩:=h16.o p q;exact⟨y,e,hy,k.nz aN⟩),(aK (by decide) h17.o fun⟨F,e,r,o⟩=>⟨F,e,r,o.bz aN⟩),(fun p=>by rw[aT (by decide)] at p;rw[aT (by decide),aT (by decide)];exact h18.o p),(aK (by decide) h19.o fun⟨y,e,hy,k⟩=>⟨y,e,hy,k.nz aN⟩)⟩
    ·obtain⟨HW,v61,v62,v65,v70,v71,v72,v16,ha,h7,h8,h11,h16,h17,h18,h19⟩:=hI;rw[ha] at hG;clear ha a1;have hsz:=HW.o.size;obtain⟨y,rfl,hy,k7⟩:=h7.o (hd ⟨7,.data⟩ (by simp) (by decide));have K7:=ax k7;clear k7;refine hG ?_;clear hG hd;(try simp only[zz]);go_simp;refine(Fh A1 (some ⟨y,0,none⟩) c1 1 (a.facts.length+1) a.facts [⟨false,x.a,x.b⟩] _ (H1.o.bz (aP HB.o HW.o)) (aG.one (f:=⟨false,x.a,x.b⟩) K7.o) rfl (by omega)).mono ?_;rintro e wq ⟨F2,e2,rfl,oF,aN⟩;exact hK.out _ _ ⟨((k0.nz HW.o).nz aN).cell,((kx.nz HW.o).nz aN).cell⟩ ⟨HW.o.trans (aN.mono hsz),(.slice (some ⟨y,0,none⟩) 1 1),(.slice F2 (a.facts.length+1) e2),v65,v70,v71,v72,v16,(by simp only[Act.put,setIfInBounds_toArray,set_cons_zero,set_cons_succ]),fun _=>⟨y,rfl,hy,K7.o.nz aN⟩,fun _=>⟨F2,e2,rfl,oF.bq hsz⟩,(fun p q=>by rw[aT (by decide)] at p q;obtain⟨G,e,r,o⟩:=h11.o p q;exact⟨G,e,r,o.bz aN⟩),(fun p q=>by rw[aT (by decide)] at p q;obtain⟨y,e,hy,k⟩:=h16.o p q;exact⟨y,e,hy,k.nz aN⟩),(aK (by decide) h17.o fun⟨F,e,r,o⟩=>⟨F,e,r,o.bz aN⟩),(fun p=>by rw[aT (by decide)] at p;have:=(h18.o p).1.1;rw[nJ hu] at this;cases this),(aK (by decide) h19.o fun⟨y,e,hy,k⟩=>⟨y,e,hy,k.nz aN⟩)⟩
    ·obtain⟨HW,v61,v62,v65,v70,v71,v72,v16,ha,h7,h8,h11,h16,h17,h18,h19⟩:=hI;rw[ha] at hG;clear ha a1;have hsz:=HW.o.size;refine hG ?_;clear hG hd;(try simp only[zz]);go_simp;refine(zZ (some ⟨yE+1,0,none⟩) G1 1 d1 a.atoms.length [⟨1,x.a,(m:Int)⟩] (zv a.atoms i) _ (aB.one (f:=⟨1,x.a,(m:Int)⟩) (kf.nz HW.o)) (OR.o.dG.2.bz HW.o) (by simp<;>omega) (by omega)).mono ?_;rintro e wq ⟨G2,e3,rfl,oJ,aN⟩;exact hK.out _ _ ⟨((k0.nz HW.o).nz aN).cell,((kx.nz HW.o).nz aN).cell⟩ ⟨HW.o.trans (aN.mono hsz),v61,v62,(.slice G2 a.atoms.length e3),v70,v71,v72,v16,(by simp only[Act.put,setIfInBounds_toArray,set_cons_zero,set_cons_succ]),(aK (by decide) h7.o fun⟨y,e,hy,k⟩=>⟨y,e,hy,k.nz aN⟩),(aK (by decide) h8.o fun⟨F,e,r,o⟩=>⟨F,e,r,o.bz aN⟩),(fun _ _=>⟨G2,e3,rfl,oJ.bq hsz⟩),(fun p q=>by rw[aT (by decide)] at p q;obtain⟨y,e,hy,k⟩:=h16.o p q;exact⟨y,e,hy,k.nz aN⟩),(aK (by decide) h17.o fun⟨F,e,r,o⟩=>⟨F,e,r,o.bz aN⟩),(fun p=>by rw[aT (by decide)] at p;rw[aT (by decide),aT (by decide)];exact h18.o p),(aK (by decide) h19.o fun⟨y,e,hy,k⟩=>⟨y,e,hy,k.nz aN⟩)⟩
    ·obtain⟨HW,v61,v62,v65,v70,v71,v72,v16,ha,h7,h8,h11,h16,h17,h18,h19⟩:=hI;rw[ha] at hG;clear ha a1;have hsz:=HW.o.size;refine hG ?_;clear hG hd;(try simp only[zz]);go_simp;have aN:Below w'.heap.size w' (w'.alloc (.cells #[.int .i64 2,.int .i64 m,.int .i64 x.b] tA)):=ai aU _;exact hK.out _ _ ⟨((k0.nz HW.o).alloc _).cell,((kx.nz HW.o).alloc _).cell⟩ ⟨HW.o.trans (aN.mono hsz),v61,v62,v65,(.slice (some ⟨w'.heap.size,0,none⟩) 1 1),v71,v72,v16,(by simp only[Act.put,setIfInBounds_toArray,set_cons_zero,set_cons_succ]),(aK (by decide) h7.o fun⟨y,e,hy,k⟩=>⟨y,e,hy,k.nz aN⟩),(aK (by decide) h8.o fun⟨F,e,r,o⟩=>⟨F,e,r,o.bz aN⟩),(fun p q=>by rw[aT (by decide)] at p q;obtain⟨G,e,r,o⟩:=h11.o p q;exact⟨G,e,r,o.bz aN⟩),(fun _ _=>⟨_,rfl,hsz,ae.new _ _ _⟩),(aK (by decide) h17.o fun⟨F,e,r,o⟩=>⟨F,e,r,o.bz aN⟩),(fun p=>by rw[aT (by decide)] at p;rw[aT (by decide),aT (by decide)];exact h18.o p),(aK (by decide) h19.o fun⟨y,e,hy,k⟩=>⟨y,e,hy,k.nz aN⟩)⟩
    ·obtain⟨HW,v61,v62,v65,v70,v71,v72,v16,ha,h7,h8,h11,h16,h17,h18,h19⟩:=hI;rw[ha] at hG;clear ha a1;have hsz:=HW.o.size;obtain⟨G2,e3,rfl,oj⟩:=h11.o (hd ⟨11,.data⟩ (by simp) (by decide)) (nJ hu);obtain⟨y,rfl,hy,k16⟩:=h16.o (hd ⟨16,.data⟩ (by simp) (by decide)) (nJ hu);refine hG ?_;clear hG hd;(try simp only[zz]);refine Pz (ys:=[⟨2,(m:Int),x.b⟩]) (n:=a.atoms.length+1) rfl _ _ rfl rfl oj rfl (aB.one (f:=⟨2,(m:Int),x.b⟩) k16) (by simp<;>omega) (by omega) hsz ?_;intro G3 e4 wq oB hg aN;(try simp only[zz]);refine hK.out _ _ ⟨(k0.nz (HW.o.trans aN)).cell,(kx.nz (HW.o.trans aN)).cell⟩ ?_;exact⟨HW.o.trans aN,v61,v62,(.slice G2 a.atoms.length e3),(.slice (some ⟨y,0,none⟩) 1 1),(.slice G3 (a.atoms.length+1) e4),v72,v16,(by simp only[Act.put,setIfInBounds_toArray,set_cons_zero,set_cons_succ]),(aK (by decide) h7.o fun⟨y,e,hy,k⟩=>⟨y,e,hy,ae.zm k oj.1 hg (by decide)⟩),(aK (by decide) h8.o fun⟨F,e,r,o⟩=>⟨F,e,r,o.jF oj hg⟩),(fun _ q=>by rw[jV hu] at q;cases q),(fun _ q=>by rw[jV hu] at q;cases q),fun _=>⟨G3,e4,rfl,oB⟩,(fun p=>by rw[aT (by decide)] at p;have:=(h18.o p).1.2;rw[nJ hu] at this;cases this),(aK (by decide) h19.o fun⟨y,e,hy,k⟩=>⟨y,e,hy,ae.zm k oj.1 hg (by decide)⟩)⟩
    ·obtain⟨HW,v61,v62,v65,v70,v71,v72,v16,ha,h7,h8,h11,h16,h17,h18,h19⟩:=hI;rw[ha] at hG;clear ha a1;have hsz:=HW.o.size;have d8:=hd ⟨8,.data⟩ (by simp) (by decide);have d17:=hd ⟨17,.data⟩ (by simp) (by decide);obtain⟨F2,e2,rfl,oF⟩:=h8.o d8;obtain⟨G3,e4,rfl,oB⟩:=h17.o d17;replace oF:=ax oF;replace oB:=ax oB;replace d8:=ax d8;replace d17:=ax d17;refine hG ?_;clear hG hd;(try simp only[zz]);go_simp;exact hK.out _ _ hS ⟨HW.o,v61,(.slice F2 (a.facts.length+1) e2),v65,v70,(.slice G3 (a.atoms.length+1) e4),(.agg #[(.slice F2 (a.facts.length+1) e2),(.slice G3 (a.atoms.length+1) e4)]),v16,(by simp only[Act.put,setIfInBounds_toArray,set_cons_zero,set_cons_succ]),(aK (by decide) h7.o fun⟨y,e,hy,k⟩=>⟨y,e,hy,k⟩),fun _=>⟨F2,e2,rfl,oF.o⟩,(fun p q=>by rw[aT (by decide)] at p q;obtain⟨G,e,r,o⟩:=h11.o p q;exact⟨G,e,r,o⟩),(fun p q=>by rw[aT (by decide)] at p q;obtain⟨y,e,hy,k⟩:=h16.o p q;exact⟨y,e,hy,k⟩),fun _=>⟨G3,e4,rfl,oB.o⟩,fun _=>⟨⟨by rw[aT (by decide)];exact d8.o,by rw[aT (by decide)];exact d17.o⟩,rfl⟩,(aK (by decide) h19.o fun⟨y,e,hy,k⟩=>⟨y,e,hy,k⟩)⟩
    ·obtain⟨HW,v61,v62,v65,v70,v71,v72,v16,ha,h7,h8,h11,h16,h17,h18,h19⟩:=hI;rw[ha] at hG;clear ha a1;have hsz:=HW.o.size;refine hG ?_;clear hG hd;(try simp only[zz]);go_simp;have aN:Below w'.heap.size w' (w'.alloc (.cells #[.slice none 0 0,.slice none 0 0] aC)):=ai aU _;exact hK.out _ _ ⟨((k0.nz HW.o).alloc _).cell,((kx.nz HW.o).alloc _).cell⟩ ⟨HW.o.trans (aN.mono hsz),v61,v62,v65,v70,v71,v72,(.pointer (some ⟨w'.heap.size,0,none⟩)),(by simp only[Act.put,setIfInBounds_toArray,set_cons_zero,set_cons_succ]),(aK (by decide) h7.o fun⟨y,e,hy,k⟩=>⟨y,e,hy,k.nz aN⟩),(aK (by decide) h8.o fun⟨F,e,r,o⟩=>⟨F,e,r,o.bz aN⟩),(fun p q=>by rw[aT (by decide)] at p q;obtain⟨G,e,r,o⟩:=h11.o p q;exact⟨G,e,r,o.bz aN⟩),(fun p q=>by rw[aT (by decide)] at p q;obtain⟨y,e,hy,k⟩:=h16.o p q;exact⟨y,e,hy,k.nz aN⟩),(aK (by decide) h17.o fun⟨F,e,r,o⟩=>⟨F,e,r,o.bz aN⟩),(fun p=>by rw[aT (by decide)] at p;rw[aT (by decide),aT (by decide)];exact h18.o p),(fun _=>⟨_,rfl,hsz,ae.new _ _ _⟩)⟩
   case fin=>
    rintro a1 wz aH ⟨kH,v61,v62,v65,v70,v71,v72,v16,rfl,h7,h8,h11,h16,h17,h18,h19⟩;obtain⟨F2,e2,rfl,oF⟩:=h8.o (by decide);obtain⟨G3,e4,rfl,oB⟩:=h17.o (by decide);obtain rfl:=(h18.o (by decide)).2;obtain⟨xb,rfl,Y',bK⟩:=h19.o (by decide);have Oz:=ax oF;have OB:=ax oB;have df:=kH.o.size;clear h7 h8 h11 h16 h17 h18 h19 oF oB;(try simp only[zz]);have hlB:=bK.lt;have qb:=bK.cell;have rb:=bK.frozen;refine aX 20 rfl fun K hK=>?_;(try simp only[zz]);go_simp;refine hK.out _ _ (⟨(((k0.nz kH.o).fz xb 0 _).fz xb 1 _).cell,(((kx.nz kH.o).fz xb 0 _).fz xb 1 _).cell⟩) ?_;clear aH hK K;intro aH;refine jP ?_;(go_wp2_with fail);go_meet
    case rel=>
     refine⟨xb,_,_,_,_,rfl,ax ((Oz.o.aA bK (by decide) 0 _).aA (bK.ag 0 _) (by decide) 1 _),ax ((OB.o.aA bK (by decide) 0 _).aA (bK.ag 0 _) (by decide) 1 _),?_,Y',ax (iq (iq kH.o xb 0 _) xb 1 _)⟩;have:=(bK.ag 0 (.slice F2 (a.facts.length+1) e2)).ag 1 (.slice G3 (a.atoms.length+1) e4);simpa using this
  case rest=>
   obtain⟨xb,F2,e2,G2,e3,rfl,Oz,OB2,kb,hxb,Uj⟩:=hcut;have RY:=kE.nz Uj.o;have Eu:=ax (aP HB.o Uj.o);have hsc:=Uj.o.size;have OE:aJ (aI wc w.heap.size (.agg #[.slice F1 (a.facts.length+1) e1,.slice G1 (zv a.atoms i).length d1]) (eD a x i)):=ax ⟨_,_,rfl,OF.o.bz Uj.o,OR.o.bz Uj.o⟩;have OX:aJ (aI wc W.heap.size (.agg #[.slice F2 (a.facts.length+1) e2,.slice G2 (a.atoms.length+1) e3]) (dQ a x i (m:Int))):=ax ⟨_,_,rfl,Oz.o,OB2.o⟩;clear Uj kE kf OF OR k0 kx Oz OB2 HB;(replace RZ:=RY.z);have hlb0:=kb.lt;(go_wp2_with fail);refine(jz _ (eD a x i) _ (OE.o.rj.bz aj)).mono ?_;rintro e w6 ⟨rfl,iA⟩;replace RY:=RY.nz iA;replace kb:=kb.nz iA;have qY:=bF Eu iA;have hs6:=iA.size;replace OE:=ax (OE.o.bz iA);replace OX:=ax (OX.o.bz iA);clear iA Eu RZ;cases Xt:(eD a x i).valid
   ·have E:=ax (Fg (n:=n) Oy.o (.inl Xt));clear Xt;go_wp2;go_ret2;exact⟨_,_,by rw[E.o];rfl,by rw[E.o];exact bg.nil _ _,qY.o⟩
   have HVE:=ax Xt;clear Xt;(replace QP:=kb.z);(go_wp2_with fail);refine(jz _ (dQ a x i (m:Int)) _ (OX.o.rj.bz aj)).mono ?_;rintro e w7 ⟨rfl,iB⟩;replace RY:=RY.nz iB;replace kb:=kb.nz iB;have yH:=bF qY iB;have hs7:=iB.size;replace OE:=ax (OE.o.bz iB);replace OX:=ax (OX.o.bz iB);clear iB qY QP;cases Xu:(dQ a x i (m:Int)).valid
   ·have E:=ax (Fg (n:=n) Oy.o (.inr Xu));clear Xu;go_wp2;go_ret2;exact⟨_,_,by rw[E.o];rfl,by rw[E.o];exact bg.nil _ _,yH.o⟩
   have HVF:=ax Xu;clear Xu;(replace RZ:=RY.z);(go_wp2_with fail);refine(Y0.o w.heap.size _ _ _ OE.o.C bn HVE.o).mono ?_;rintro e w8 ⟨r1,vs1,rfl,o1,eQ⟩;obtain⟨R1,z1,rfl⟩:=o1.form;replace kb:=kb.nz eQ;have ru:=bF yH eQ;have hs8:=eQ.size;have O1:=ax o1;replace OX:=ax (OX.o.bz eQ);clear eQ yH RZ RY o1 OE;cases he1:aR n (eD a x i) t Ks
   case none=>
    have E:=ax (uw (n:=n) Oy.o he1);clear he1;go_wp2;go_ret2;exact⟨_,_,by rw[E.o];rfl,by rw[E.o];exact bg.nil _ _,ru.o⟩
   case some l1=>
   have K9:=ax he1;rw[he1] at O1;clear he1;(replace QP:=kb.z);(go_wp2_with fail);refine(Y1.o m w.heap.size _ _ _ (aI.C (OX.o.bq)) bn HVF.o).mono ?_;rintro e w9 ⟨r2,vs2,rfl,o2,Ev⟩;obtain⟨R2,z2,rfl⟩:=o2.form;have Ew:=bF ru Ev;have hs9:=Ev.size;have Ve:=ax Ev;have O2:=ax o2;clear Ev ru QP kb o2 OX;cases he2:aR n (dQ a x i (m:Int)) t Ks
   case none=>
    have E:=ax (xz (n:=n) Oy.o he2);clear he2;go_wp2;go_ret2;exact⟨_,_,by rw[E.o];rfl,by rw[E.o];exact bg.nil _ _,Ew.o⟩
   case some l2=>
   have HE2:=ax he2;rw[he2] at O2;clear he2;simp only[Option.getD_some] at O1 O2⊢;have E:=ax (Co (n:=n) Oy.o K9.o HE2.o);have hl1:=(mK K9.o).1;have hl2:=(mK HE2.o).1;have hll:l1.length+l2.length<=1049600:=by have:=HN.o;omega
   clear hl1 hl2;(go_wp2_with fail);refine(MY R1 R2 l1.length l2.length z1 z2 vs1 vs2 _ (O1.o.rd.bz Ve.o) O2.o.rd O1.o.els.one_cell O2.o.els.one_cell hll).mono ?_;rintro e w10 ⟨r3,rfl,o3,Ab⟩;have O3:=ax o3;have BK:=ax Ab;have Za:=bF Ew Ab;obtain⟨R3,z3,rfl,-⟩:=bZ o3 hll;clear o3 Ab;go_wp2;go_ret2;refine⟨_,vs1++vs2,by rw[E.o];rfl,?_,Za.o⟩;rw[E.o];exact bg.join O1.o Ve.o O2.o bn BK.o (by omega) (by omega) O3.o (by omega) hll
theorem tY:∀(n:Nat),n<=7->∀(a:au) (t:Int) (K:Nat),K<512->a.atoms.length<n->Py n a t K
 | 0,_,a,_,_,_,h=>absurd h (Nat.not_lt_zero _)
 | n+1,hn,a,t,K,hK,h=>fun lo hi v w h1 h2 hv=>
  tX n a t K (fun i x _ _ hx hk himp=>by
   have hi:=(List.getElem?_eq_some_iff.1 hx).1;have hwl:=ja hi;refine Aa n a x i t K hv hx hK (by omega) (tY n (by omega) _ t K hK (by simp only[eD];omega)) fun m=>?_;obtain⟨n',rfl⟩:∃n',n=n'+1:=⟨n - 1,by omega⟩;intro lo hi v w g1 g2 gv
   exact tX n' _ t K (fun i' x' hf _ _ _ _=>by rw[K6 hx hk gv himp] at hf;cases hf) lo hi v w g1 g2 gv) lo hi v w h1 h2 hv
end
section
open Go Go.RowKit Go.Proofs
def bf(a:au)(x:Int)(K:Nat):Option (au×Int):=if (aO (mz a)).testBit x.toNat then (kC (aO (mz a)|||K)).map fun n=>(aZ x (n:Int) a,(n:Int)) else some (a,x)
def ib(a:au)(x p t:Int):au:=⟨a.facts++[⟨true,x,swp x p t⟩],a.atoms⟩
def gL(a:au)(x:Int):au:=⟨a.facts,⟨1,x,0⟩ :: a.atoms⟩
def JQ(a:au):Option au:=if a.valid then some a else none
def dY(a:au)(x t:Int)(K:Nat):Option au:=(bf a x K).bind fun p=>JQ (ib p.1 x p.2 t)
def iR(a:au)(x:Int)(K:Nat):Option au:=(bf a x K).bind fun p=>JQ (gL p.1 x)
def dR(a:au):aL:=(a.atoms[0]?).getD default
def mY(a:au)(B:Int):au:=⟨a.facts,a.atoms.set 0 ⟨(dR a).kind,(dR a).a,B⟩⟩
def iI(a:au):au:=⟨a.facts,zv a.atoms 0⟩
def gy(k A B:Int)(a:au)(K:Nat):Option au:=if k=2 then dY a A (dR a).b K else if k=3 then some (mY a B) else some (iI a)
def vC(f:au->Option au):List au->Option (List au)
 | []=>some []
 | x :: xs=>(f x).bind fun y=>(vC f xs).map (y :: ·)
theorem wP{f:au->Option au}:∀ {xs:List au} {k:Nat} (hk:k<xs.length),f xs[k]=none->vC f xs=none
 | x :: xs,0,_,h=>by unfold vC;rw[show f x=none from h];rfl
 | x :: xs,k+1,hk,h=>by
  unfold vC;rw[wP (xs:=xs) (k:=k) (by simpa using hk) h];cases f x<;>rfl
theorem wQ{f:au->Option au}:∀ {xs ys:List au},ys.length=xs.length->(∀(k:Nat) (h:k<xs.length) (h':k<ys.length),f xs[k]=some ys[k])->vC f xs=some ys
 | [],[],_,_=>rfl
 | [],_ :: _,h,_=>by simp at h
 | _ :: _,[],h,_=>by simp at h
 | x :: xs,y :: ys,hl,h=>by
  unfold vC;rw[show f x=some y from h 0 (by simp) (by simp),wQ (xs:=xs) (ys:=ys) (by simpa using hl) fun k h1 h2=>h (k+1) (by simpa using h1) (by simpa using h2)];rfl
theorem Cq{f:au->Option au}:∀ {xs ys:List au},vC f xs=some ys->ys.length=xs.length/\∀(k:Nat) (h:k<xs.length) (h':k<ys.length),f xs[k]=some ys[k]
 | [],ys,h=>by obtain rfl:=Option.some.inj h;exact⟨rfl,fun k h=>absurd h (by simp)⟩
 | x :: xs,ys,h=>by
  unfold vC at h;rw[Option.bind_eq_some_iff] at h;obtain⟨y,h1,h2⟩:=h;rw[Option.map_eq_some_iff] at h2;obtain⟨zs,h3,rfl⟩:=h2;obtain⟨g1,g2⟩:=Cq h3;refine⟨by simp[g1],fun k k1 k2=>?_⟩
  cases k with
  | zero=>exact h1
  | succ k=>exact g2 k (by simpa using k1) (by simpa using k2)
def Dw(k A B:Int):Int:=if k=2 then B else A
def eH(a:au)(k A B:Int)(K:Nat):Option (List au):=
 if k=1 then (if A=B then some [a] else (dY a A B K).map fun x=>[x])
 else if k=4 then (iR a A K).map fun x=>[x]
 else (aR 7 a (Dw k A B) K).bind fun l=>vC (fun x=>gy k A B x K) l
def fo(K:Nat)(A B:Int):Nat:=aQ (aQ K A) B
def uy(a:au)(ok:Bool)(k A B:Int)(ks:List Int):Option (List au):=if a.valid&&ok then eH a k A B (fo (aO ks) A B) else none
theorem Iq{a b:au}(h:JQ a=some b):b.valid=true/\b=a:=by
 unfold JQ at h
 split at h
 ·rename_i hv;obtain rfl:=Option.some.inj h;exact⟨hv,rfl⟩
 ·cases h
theorem Ac{a b:au}{x t:Int}{K:Nat}(h:dY a x t K=some b):b.valid=true:=by
 unfold dY at h;obtain⟨p,-,h⟩:=Option.bind_eq_some_iff.1 h;exact(Iq h).1
theorem M0{a b:au}{x:Int}{K:Nat}(h:iR a x K=some b):b.valid=true:=by
 unfold iR at h;obtain⟨p,-,h⟩:=Option.bind_eq_some_iff.1 h;exact(Iq h).1
theorem Cr{a:au}(hv:a.valid=true){B:Int}(hB:jq B=true):(mY a B).valid=true:=by
 unfold mY;simp only[au.valid,Bool.and_eq_true,length_set] at hv⊢;refine⟨hv.1,hv.2.1,List.all_eq_true.2 fun y hy=>?_⟩
 cases e:a.atoms with
 | nil=>rw[e] at hy;simp at hy
 | cons z zs=>
  have hz:=List.all_eq_true.1 hv.2.2 z (by rw[e];simp);have e0:dR a=z:=by unfold dR;rw[e];rfl
  rcases List.mem_or_eq_of_mem_set hy with hy|rfl
  ·exact List.all_eq_true.1 hv.2.2 y hy
  ·simp only[aL.valid,e0,hB] at hz⊢;simp at hz⊢;exact hz.1
theorem Fj{a:au}(hv:a.valid=true):(iI a).valid=true:=by
 unfold iI zv;simp only[au.valid,Bool.and_eq_true,decide_eq_true_eq,List.take_zero,nil_append,List.length_drop] at hv⊢;exact⟨hv.1,by omega,List.all_eq_true.2 fun y hy=>List.all_eq_true.1 hv.2.2 y (List.mem_of_mem_drop hy)⟩
theorem PD{k A B:Int}{a b:au}{K:Nat}(hv:a.valid=true)(hB:k=3->jq B=true)(h:gy k A B a K=some b):b.valid=true:=by
 unfold gy at h
 split at h
 ·exact Ac h
 ·split at h
  ·rename_i h3;obtain rfl:=Option.some.inj h;exact Cr hv (hB h3)
  ·obtain rfl:=Option.some.inj h;exact Fj hv
theorem yJ{a:au}{k A B:Int}{K:Nat}{l:List au}(hv:a.valid=true)(hB:k=3->jq B=true)(h:eH a k A B K=some l):l.length<=128/\∀b∈l,b.valid=true:=by
 unfold eH at h
 split at h
 ·split at h
  ·obtain rfl:=Option.some.inj h;exact⟨by simp,fun b hb=>by rw[List.mem_singleton.1 hb];exact hv⟩
  ·obtain⟨x,hx,rfl⟩:=Option.map_eq_some_iff.1 h;exact⟨by simp,fun b hb=>by rw[List.mem_singleton.1 hb];exact Ac hx⟩
 ·split at h
  ·obtain⟨x,hx,rfl⟩:=Option.map_eq_some_iff.1 h;exact⟨by simp,fun b hb=>by rw[List.mem_singleton.1 hb];exact M0 hx⟩
  ·obtain⟨l0,h0,h⟩:=Option.bind_eq_some_iff.1 h;obtain⟨g1,g2⟩:=Cq h;have h1:=mK h0;refine⟨by rw[g1];exact h1.1,fun b hb=>?_⟩;obtain⟨j,hj,rfl⟩:=List.mem_iff_getElem.1 hb;exact PD (h1.2 _ (List.getElem_mem (by omega))) hB (g2 j (by omega) hj)
theorem PE{a:au}{ok:Bool}{k A B:Int}{ks:List Int}(hB:ok=true->k=3->jq B=true):((uy a ok k A B ks).getD []).length<=128/\qZ ((uy a ok k A B ks).getD [])<=16777216:=by
 cases h:uy a ok k A B ks with
 | none=>simp[qZ,Ff,bN]
 | some l=>
  have h':(a.valid&&ok)=true/\eH a k A B (fo (aO ks) A B)=some l:=by
   unfold uy at h
   split at h
   ·rename_i hc;exact⟨hc,h⟩
   ·cases h
  rw[Bool.and_eq_true] at h';have h1:=yJ h'.1.1 (hB h'.1.2) h'.2;have h2:l.length<=128:=h1.1;refine⟨h2,?_⟩;have h3:=Dv (n:=12) (m:=6) fun s hs=>tT (h1.2 s hs);simp only[Option.getD_some];omega
end
section
open Go Go.RowKit
inductive ay where
 | nil:ay
 | cons (kind a b:Int) (test:aF) (inv:au) (body els rest:ay):ay
deriving DecidableEq,Inhabited
def ay.len:ay->Nat
 | .nil=>0
 | .cons _ _ _ _ _ _ _ r=>r.len+1
def ay.cost:ay->Nat
 | .nil=>0
 | .cons _ _ _ _ i body els r=>i.facts.length+i.atoms.length+(body.len+body.cost)+(els.len+els.cost)+r.cost
def ay.small(n:Nat):ay->Prop
 | .nil=>True
 | .cons _ _ _ _ i body els r=>i.facts.length<=n/\i.atoms.length<=n/\body.len<=n/\els.len<=n/\body.small n/\els.small n/\r.small n
theorem ay.mZ{n:Nat}:∀ {L:ay},L.cost<=n->L.small n
 | .nil,_=>trivial
 | .cons k a b t i body els r,h=>by
  simp only[ay.cost] at h;exact⟨by omega,by omega,by omega,by omega,ay.mZ (by omega),ay.mZ (by omega),ay.mZ (by omega)⟩
def ay.drop:Nat->ay->ay
 | 0,L=>L
 | _+1,.nil=>.nil
 | n+1,.cons _ _ _ _ _ _ _ r=>r.drop n
theorem ay.iT:∀(n:Nat) (L:ay),(L.drop n).len=L.len - n
 | 0,L=>rfl
 | n+1,.nil=>by simp[ay.drop,ay.len]
 | n+1,.cons _ _ _ _ _ _ _ r=>by simp only[ay.drop,ay.len];rw[ay.iT n r];omega
theorem ay.jw:∀(L:ay),L.drop L.len=.nil
 | .nil=>rfl
 | .cons k a b t i body els r=>by simp only[ay.len,ay.drop];exact ay.jw r
theorem ay.ik:∀(n:Nat) (L:ay) {k a b:Int} {t:aF} {i:au} {body els r:ay},L.drop n=.cons k a b t i body els r->L.drop (n+1)=r
 | 0,.cons _ _ _ _ _ _ _ r,_,_,_,_,_,_,_,_,h=>by simp only[ay.drop] at h⊢;injection h
 | 0,.nil,_,_,_,_,_,_,_,_,h=>by cases h
 | n+1,.nil,_,_,_,_,_,_,_,_,h=>by cases h
 | n+1,.cons _ _ _ _ _ _ _ r,_,_,_,_,_,_,_,_,h=>ay.ik n r h
theorem ay.dF:∀ {L:ay},0<L.len->∃k a b t i body els r,L=.cons k a b t i body els r
 | .nil,h=>by simp[ay.len] at h
 | .cons k a b t i body els r,_=>⟨k,a,b,t,i,body,els,r,rfl⟩
def fF(w:World)(lo hi:Nat):ay->Nat->Nat->Prop
 | .nil,_,_=>True
 | .cons k a b t i body els r,bl,o=>
  (w.cell? ⟨bl,o,none⟩=some (.int .i64 k)/\w.cell? ⟨bl,o+1,none⟩=some (.int .i64 a)/\w.cell? ⟨bl,o+2,none⟩=some (.int .i64 b)/\
   w.cell? ⟨bl,o+3,none⟩=some (.bool t.eq)/\w.cell? ⟨bl,o+4,none⟩=some (.int .i64 t.a)/\w.cell? ⟨bl,o+5,none⟩=some (.int .i64 t.b))/\
  (∃A c,w.cell? ⟨bl,o+6,none⟩=some (.slice A i.facts.length c)/\Rw w lo hi 3 A i.facts.length (iJ i.facts))/\
  (∃A c,w.cell? ⟨bl,o+7,none⟩=some (.slice A i.atoms.length c)/\Rw w lo hi 3 A i.atoms.length (gK i.atoms))/\
  (∃A c,w.cell? ⟨bl,o+8,none⟩=some (.slice A body.len c)/\(0<body.len->∃b' o',A=some ⟨b',o',none⟩/\lo<=b'/\b'<hi/\fF w lo hi body b' o'))/\
  (∃A c,w.cell? ⟨bl,o+9,none⟩=some (.slice A els.len c)/\(0<els.len->∃b' o',A=some ⟨b',o',none⟩/\lo<=b'/\b'<hi/\fF w lo hi els b' o'))/\
  fF w lo hi r bl (o+10)
def bH(w:World)(lo hi:Nat)(A:Option Addr)(L:ay):Prop:=0<L.len->∃b o,A=some ⟨b,o,none⟩/\lo<=b/\b<hi/\fF w lo hi L b o
section
variable{w w':World}{lo hi bJ hi':Nat}
theorem fF.bz(hb:Below w.heap.size w w'):∀ {L:ay} {bl o:Nat},fF w lo hi L bl o->fF w' lo hi L bl o
 | .nil,_,_,_=>trivial
 | .cons k a b t i body els r,bl,o,h=>by
  obtain⟨⟨h0,h1,h2,h3,h4,h5⟩,⟨A6,c6,h6,g6⟩,⟨A7,c7,h7,g7⟩,⟨A8,c8,h8,g8⟩,⟨A9,c9,h9,g9⟩,hr⟩:=h;have hlt:bl<w.heap.size:=block_lt_of_cell h0;have hc:∀j,w'.cell? ⟨bl,j,none⟩=w.cell? ⟨bl,j,none⟩:=fun j=>hb.cell (p:=⟨bl,j,none⟩) hlt;refine⟨⟨(hc _).trans h0,(hc _).trans h1,(hc _).trans h2,(hc _).trans h3,(hc _).trans h4,(hc _).trans h5⟩,⟨A6,c6,(hc _).trans h6,g6.bz hb⟩,⟨A7,c7,(hc _).trans h7,g7.bz hb⟩,⟨A8,c8,(hc _).trans h8,fun hl=>?_⟩,⟨A9,c9,(hc _).trans h9,fun hl=>?_⟩,fF.bz hb hr⟩
  ·obtain⟨b',o',e,p1,p2,p3⟩:=g8 hl;exact⟨b',o',e,p1,p2,fF.bz hb p3⟩
  ·obtain⟨b',o',e,p1,p2,p3⟩:=g9 hl;exact⟨b',o',e,p1,p2,fF.bz hb p3⟩
theorem fF.mono(e1:bJ<=lo)(e2:hi<=hi'):∀ {L:ay} {bl o:Nat},fF w lo hi L bl o->fF w bJ hi' L bl o
 | .nil,_,_,_=>trivial
 | .cons k a b t i body els r,bl,o,h=>by
  obtain⟨h0,⟨A6,c6,h6,g6⟩,⟨A7,c7,h7,g7⟩,⟨A8,c8,h8,g8⟩,⟨A9,c9,h9,g9⟩,hr⟩:=h;refine⟨h0,⟨A6,c6,h6,g6.mono e1 e2⟩,⟨A7,c7,h7,g7.mono e1 e2⟩,⟨A8,c8,h8,fun hl=>?_⟩,⟨A9,c9,h9,fun hl=>?_⟩,fF.mono e1 e2 hr⟩
  ·obtain⟨b',o',e,p1,p2,p3⟩:=g8 hl;exact⟨b',o',e,by omega,by omega,fF.mono e1 e2 p3⟩
  ·obtain⟨b',o',e,p1,p2,p3⟩:=g9 hl;exact⟨b',o',e,by omega,by omega,fF.mono e1 e2 p3⟩
theorem bH.bz{A:Option Addr}{L:ay}(h:bH w lo hi A L)(hb:Below w.heap.size w w'):bH w' lo hi A L:=fun hl=>by
 obtain⟨b,o,e,p1,p2,p3⟩:=h hl;exact⟨b,o,e,p1,p2,p3.bz hb⟩
theorem bH.mono{A:Option Addr}{L:ay}(h:bH w lo hi A L)(e1:bJ<=lo)(e2:hi<=hi'):bH w bJ hi' A L:=fun hl=>by
 obtain⟨b,o,e,p1,p2,p3⟩:=h hl;exact⟨b,o,e,by omega,by omega,p3.mono e1 e2⟩
theorem fF.drop:∀(n:Nat) {L:ay} {bl o:Nat},fF w lo hi L bl o->fF w lo hi (L.drop n) bl (o+n * 10)
 | 0,L,bl,o,h=>by simpa[ay.drop] using h
 | n+1,.nil,bl,o,h=>trivial
 | n+1,.cons k a b t i body els r,bl,o,h=>by
  have:=fF.drop n h.2.2.2.2.2
  rwa [show o+10+n * 10=o+(n+1) * 10 from by omega] at this
end
theorem ay.fG{m:Nat}:∀(n:Nat) {L:ay},L.small m->(L.drop n).small m
 | 0,L,h=>h
 | n+1,.nil,h=>trivial
 | n+1,.cons k a b t i body els r,h=>ay.fG n h.2.2.2.2.2.2
end
section
open Go Go.RowKit Go.Proofs
def ay.sz:ay->Nat
 | .nil=>0
 | .cons _ _ _ _ _ body els r=>body.sz+els.sz+r.sz+1
theorem ay.kv:∀(n:Nat) (L:ay),(L.drop n).sz<=L.sz
 | 0,L=>Nat.le_refl _
 | n+1,.nil=>Nat.le_refl _
 | n+1,.cons _ _ _ _ _ _ _ r=>by simp only[ay.drop,ay.sz];have:=ay.kv n r;omega
def Vf(i:au)(body els:ay):Nat:=i.facts.length+i.atoms.length+(body.len+body.cost)+(els.len+els.cost)
abbrev tC:Nat:=81
theorem QS:(Tryz.prog.info? tC).map (fun i=>(i.zero,i.size,i.bytes))=some (some (.agg #[.int .i64 0,.int .i64 0,.int .i64 0,.bool false,.int .i64 0,.int .i64 0,.slice none 0 0,.slice none 0 0,.slice none 0 0,.slice none 0 0]),10,144):=by kernel_rfl
section
variable{w w':World}{lo hi bJ hi':Nat}
variable{v:Value}{L:ay}
end
theorem pR.lo_{w:World}{lo bJ hi:Nat}{v:Value}{x:au}(h:pR w lo hi v x)(hl:bJ<=lo):pR w bJ hi v x:=by
 obtain⟨fv,av,e,h1,h2⟩:=h;exact⟨fv,av,e,⟨h1.1.bq hl,h1.2⟩,⟨h2.1.bq hl,h2.2⟩⟩
def ay.take:Nat->ay->ay
 | 0,_=>.nil
 | _+1,.nil=>.nil
 | n+1,.cons k a b t i body els r=>.cons k a b t i body els (r.take n)
theorem ay.Fp:∀(L:ay),L.take L.len=L
 | .nil=>rfl
 | .cons k a b t i body els r=>by simp only[ay.len,ay.take];rw[ay.Fp r]
theorem ay.take_len:∀(n:Nat) (L:ay),n<=L.len->(L.take n).len=n
 | 0,L,_=>by cases L<;>rfl
 | n+1,.nil,h=>by simp[ay.len] at h
 | n+1,.cons k a b t i body els r,h=>by simp only[ay.len,ay.take] at h⊢;rw[ay.take_len n r (by omega)]
section
variable{w w':World}
end
def kI(i:au):Bool:=decide (i.facts.length=0)&&decide (i.atoms.length=0)
def oV(t:aF):Bool:=decide (t=⟨false,0,0⟩)
def qf(k:Int):Bool:=decide (1<=k/\k<=5)
theorem ng(A1 A2:Option Addr)(c1 c2:Nat)(i:au)(w:World)(h1:i.facts.length<=1049600)(h2:i.atoms.length<=1049600):Calls Tryz.prog 79 #[.agg #[.slice A1 i.facts.length c1,.slice A2 i.atoms.length c2]] w fun e w'=>e=.returned (.bool (kI i))/\Below w.heap.size w w':=by
 obtain⟨R,hR⟩:∃R,R=kI i:=⟨_,rfl⟩;rw[<-hR];unfold kI at hR;replace hR:=ax hR;by_cases q1:i.facts.length=0
 all_goals by_cases q2:i.atoms.length=0
 all_goals
  (go_enter Tryz.func79,Tryz.ntmps79);go_wp2;go_ret;exact⟨dz (by rw[hR.o];simp_all),aj⟩
theorem jH(A1 A2:Option Addr)(c1 c2:Nat)(i:au)(w:World)(h1:i.facts.length<=1049600)(h2:i.atoms.length<=1049600):Calls Tryz.prog 90 #[.agg #[.slice A1 i.facts.length c1,.slice A2 i.atoms.length c2]] w fun e w'=>e=.returned (.bool (kI i))/\Below w.heap.size w w':=by
 obtain⟨R,hR⟩:∃R,R=kI i:=⟨_,rfl⟩;rw[<-hR];unfold kI at hR;replace hR:=ax hR;by_cases q1:i.facts.length=0
 all_goals by_cases q2:i.atoms.length=0
 all_goals
  (go_enter Tryz.func90,Tryz.ntmps90);go_wp2;go_ret;exact⟨dz (by rw[hR.o];simp_all),aj⟩
theorem qM(t:aF)(w:World):Calls Tryz.prog 107 #[t.val] w fun e w'=>e=.returned (.bool (oV t))/\Below w.heap.size w w':=by
 obtain⟨q,a,b⟩:=t;(go_enter Tryz.func107,Tryz.ntmps107);go_wp2
 all_goals
  go_ret;exact⟨dz (by simp_all [oV]),aj⟩
theorem gJ(k a b:Int)(t:aF)(vF vA vB vE:Value)(w:World):Calls Tryz.prog 89 #[.agg #[.int .i64 k,.int .i64 a,.int .i64 b,.bool t.eq,.int .i64 t.a,.int .i64 t.b,vF,vA,vB,vE]] w fun e w'=>e=.returned (.bool (qf k))/\Below w.heap.size w w':=by
 by_cases h:1<=k
 ·by_cases h2:k<=5
  all_goals
   (go_enter Tryz.func89,Tryz.ntmps89);go_wp2;go_ret;exact⟨dz (by simp[qf,h,h2]),aj⟩
 ·(go_enter Tryz.func89,Tryz.ntmps89);go_wp2;go_ret;exact⟨dz (by simp[qf];omega),aj⟩
def iC(t:aF)(i:au)(body els:ay):Bool:=oV t&&(kI i&&(decide (body.len=0)&&decide (els.len=0)))
def fieldsB(k a b:Int):Bool:=
 if k=1\/k=2 then iF a&&jq b else if k=3 then jq a&&jq b else if k=4 then iF a&&decide (b=0) else if k=5 then jq a&&decide (b=0) else false
theorem vD(k a b:Int)(t:aF)(i:au)(A1 A2 A3 A4:Option Addr)(c1 c2 c3 c4:Nat)(body els:ay)(w:World)(h1:i.facts.length<=1049600)(h2:i.atoms.length<=1049600)(h3:body.len<=1049600)(h4:els.len<=1049600)(hn:iC t i body els=false) :
  Calls Tryz.prog 80 #[.agg #[.int .i64 k,.int .i64 a,.int .i64 b,.bool t.eq,.int .i64 t.a,.int .i64 t.b,.slice A1 i.facts.length c1,.slice A2 i.atoms.length c2,.slice A3 body.len c3,.slice A4 els.len c4]] w fun e w'=>e=.returned (.bool false)/\Below w.heap.size w w':=by
 obtain⟨x,hx⟩:∃x,x=oV t:=⟨_,rfl⟩;obtain⟨y,hy⟩:∃y,y=kI i:=⟨_,rfl⟩;unfold iC at hn;rw[<-hx,<-hy] at hn;replace hx:=ax hx;replace hy:=ax hy;replace hn:=ax hn;(go_enter Tryz.func80,Tryz.ntmps80);(go_wp2_with fail);refine(qM t _).mono ?_;rintro e w1 ⟨rfl,hB1⟩;rw[<-hx.o];have hB:=aP (w:=w) aj hB1;have K0:=(ae.nz (g:=w.heap.size) (ae.new w _ _) hB1);have q0:=K0.cell;have l0:=K0.lt;cases x
 ·go_wp2;go_ret;exact⟨dz rfl,hB⟩
 (go_wp2_with fail);refine(ng A1 A2 c1 c2 i _ h1 h2).mono ?_;rintro e w2 ⟨rfl,hB2⟩;rw[<-hy.o];have tJ:=aP hB hB2;have K1:=K0.nz hB2;clear q0 l0;have q0:=K1.cell;have l0:=K1.lt;cases y
 ·go_wp2;go_ret;exact⟨dz rfl,tJ⟩
 by_cases z1:body.len=0
 case neg=>
  have z1':0<body.len:=by omega
  go_wp2;go_ret;exact⟨dz rfl,tJ⟩
 by_cases z2:els.len=0
 case neg=>
  have z2':0<els.len:=by omega
  go_wp2;go_ret;exact⟨dz rfl,tJ⟩
 exact absurd hn.o (by simp[z1,z2])
theorem uz(k a b:Int)(t:aF)(i:au)(A1 A2 A3 A4:Option Addr)(c1 c2 c3 c4:Nat)(body els:ay)(w:World)(h1:i.facts.length<=1049600)(h2:i.atoms.length<=1049600)(hn:iC t i body els=true) :
  Calls Tryz.prog 80 #[.agg #[.int .i64 k,.int .i64 a,.int .i64 b,.bool t.eq,.int .i64 t.a,.int .i64 t.b,.slice A1 i.facts.length c1,.slice A2 i.atoms.length c2,.slice A3 body.len c3,.slice A4 els.len c4]] w fun e w'=>e=.returned (.bool (fieldsB k a b))/\Below w.heap.size w w':=by
 have hn':oV t=true/\kI i=true/\body.len=0/\els.len=0:=by simpa[iC] using hn
 obtain⟨e1,e2,e3,e4⟩:=hn';rw[e3,e4];clear hn e3 e4;replace e1:=ax e1;replace e2:=ax e2;obtain⟨R,hR⟩:∃R,R=fieldsB k a b:=⟨_,rfl⟩;rw[<-hR];unfold fieldsB at hR;obtain⟨pa,wR⟩:∃pa,pa=iF a:=⟨_,rfl⟩;obtain⟨ta,Ad⟩:∃ta,ta=jq a:=⟨_,rfl⟩;obtain⟨tb,htb⟩:∃tb,tb=jq b:=⟨_,rfl⟩;rw[<-wR,<-Ad,<-htb] at hR;replace wR:=ax wR;replace Ad:=ax Ad;replace htb:=ax htb;replace hR:=ax hR;(go_enter Tryz.func80,Tryz.ntmps80);(go_wp2_with fail);refine(qM t _).mono ?_;rintro e w1 ⟨rfl,hB1⟩;rw[e1.o];have hB:=aP (w:=w) aj hB1;have K0:=(ae.nz (g:=w.heap.size) (ae.new w _ _) hB1);have q0:=K0.cell;have l0:=K0.lt;(go_wp2_with fail);refine(ng A1 A2 c1 c2 i _ h1 h2).mono ?_;rintro e w2 ⟨rfl,hB2⟩;rw[e2.o];have tJ:=aP hB hB2;have K1:=K0.nz hB2;clear q0 l0;have q0:=K1.cell;have l0:=K1.lt;by_cases k1:k=1\/k=2
 ·have hR2:=ax (show R=(pa&&tb) from by rw[hR.o,if_pos k1]);clear hR;rcases k1 with rfl|rfl
  all_goals
   cases pa
   all_goals
    cases tb
    all_goals
     (go_wp2_with (first|(go_at_call 108;refine(tQ a _).mono ?_;rintro e w' ⟨rfl,rfl⟩;rw[<-wR.o])|(go_at_call 54;refine(dC b _).mono ?_;rintro e w' ⟨rfl,rfl⟩;rw[<-htb.o])));go_ret;exact⟨dz (by rw[hR2.o];rfl),tJ⟩
 by_cases k3:k=3
 ·have hR2:=ax (show R=(ta&&tb) from by rw[hR.o,if_neg k1,if_pos k3]);clear hR;subst k3;clear k1;cases ta
  all_goals
   cases tb
   all_goals
    (go_wp2_with (first|(go_at_call 54;refine(dC a _).mono ?_;rintro e w' ⟨rfl,rfl⟩;rw[<-Ad.o])|(go_at_call 54;refine(dC b _).mono ?_;rintro e w' ⟨rfl,rfl⟩;rw[<-htb.o])));go_ret;exact⟨dz (by rw[hR2.o];rfl),tJ⟩
 by_cases k4:k=4
 ·have hR2:=ax (show R=(pa&&decide (b=0)) from by rw[hR.o,if_neg k1,if_neg k3,if_pos k4]);clear hR;subst k4;clear k1 k3;cases pa
  all_goals
   by_cases b0:b=0
   all_goals
    have hb0:=ax b0;(go_wp2_with (go_at_call 108;refine(tQ a _).mono ?_;rintro e w' ⟨rfl,rfl⟩;rw[<-wR.o]));go_ret;exact⟨dz (by rw[hR2.o];first|rfl|(simp_all)),tJ⟩
 by_cases k5:k=5
 ·have hR2:=ax (show R=(ta&&decide (b=0)) from by rw[hR.o,if_neg k1,if_neg k3,if_neg k4,if_pos k5]);clear hR;subst k5;clear k1 k3 k4;cases ta
  all_goals
   by_cases b0:b=0
   all_goals
    have hb0:=ax b0;(go_wp2_with (go_at_call 54;refine(dC a _).mono ?_;rintro e w' ⟨rfl,rfl⟩;rw[<-Ad.o]));go_ret;exact⟨dz (by rw[hR2.o];first|rfl|(simp_all)),tJ⟩
 ·have hR2:=ax (show R=false from by rw[hR.o,if_neg k1,if_neg k3,if_neg k4,if_neg k5]);clear hR;have ka:k≠1:=fun e=>k1 (.inl e);have kb:k≠2:=fun e=>k1 (.inr e);clear k1;go_wp2;go_ret;exact⟨dz (by rw[hR2.o]),tJ⟩
def dK(k a b:Int)(t:aF)(i:au)(body els:ay):Bool:=
 if k=6 then decide (a=0)&&(decide (b=0)&&(t.valid&&kI i))
 else if k=7 then decide (a=0)&&(decide (b=0)&&(t.valid&&(i.valid&&decide (els.len=0))))
 else iC t i body els&&fieldsB k a b
def ay.shape:ay->Nat->Bool
 | .nil,_=>true
 | .cons k a b t i body els r,d=>decide (0<d)&&(dK k a b t i body els&&(body.shape (d - 1)&&(els.shape (d - 1)&&r.shape d)))
def ay.count:ay->Nat->Nat
 | .nil,_=>0
 | .cons _ _ _ _ _ body els r,d=>if 0<d then body.count (d - 1)+els.count (d - 1)+1+r.count d else 0
theorem ay.nR:∀ {L:ay} {d:Nat},L.shape d=true->L.count d=L.sz
 | .nil,_,_=>rfl
 | .cons k a b t i body els r,d,h=>by
  simp only[ay.shape,Bool.and_eq_true,decide_eq_true_eq] at h;obtain⟨h0,-,h1,h2,h3⟩:=h;simp only[ay.count,ay.sz,if_pos h0,ay.nR h1,ay.nR h2,ay.nR h3];omega
theorem ay.count_le:∀(L:ay) (d:Nat),L.count d<=L.sz
 | .nil,_=>Nat.le_refl _
 | .cons k a b t i body els r,d=>by
  simp only[ay.count,ay.sz];have h1:=ay.count_le body (d - 1);have h2:=ay.count_le els (d - 1);have h3:=ay.count_le r d
  split<;>omega
theorem ay.wS:∀(L:ay),L.len<=L.sz
 | .nil=>Nat.le_refl _
 | .cons k a b t i body els r=>by simp only[ay.len,ay.sz];have:=ay.wS r;omega
theorem ay.yK:∀(L:ay),L.sz<=L.len+L.cost
 | .nil=>Nat.le_refl _
 | .cons k a b t i body els r=>by
  simp only[ay.sz,ay.len,ay.cost];have h1:=ay.yK body;have h2:=ay.yK els;have h3:=ay.yK r;omega
def ay.prog(L:ay):Bool:=L.shape 4&&decide (L.sz<=16)
theorem jM{k a b:Int}{t:aF}{i:au}{body els:ay}(h6:k≠6)(h7:k≠7):dK k a b t i body els=(iC t i body els&&fieldsB k a b):=by
 unfold dK;rw[if_neg h6,if_neg h7]
theorem BL{k a b:Int}(h:fieldsB k a b=true):1<=k/\k<=5:=by
 unfold fieldsB at h
 split at h
 ·rename_i h1;rcases h1 with rfl|rfl<;>omega
 split at h
 ·omega
 split at h
 ·omega
 split at h
 ·omega
 ·cases h
theorem ay.nk:∀(n:Nat) {L:ay} {d:Nat},L.shape d=true->(L.drop n).shape d=true
 | 0,L,d,h=>h
 | n+1,.nil,d,h=>rfl
 | n+1,.cons k a b t i body els r,d,h=>by
  simp only[ay.shape,Bool.and_eq_true] at h;exact ay.nk n h.2.2.2.2
end
section
open Go Go.RowKit Go.Proofs
attribute [local go_sem ↓] Go.wp_at_zero Go.wp_at_succ
--@ impl.QT
theorem jy(t x y : Int)(w : World) : Calls Tryz.prog 130 #[.int .i64 t, .int .i64 x, .int .i64 y] w fun e w' => e = .returned (.int .i64 (swp x y t)) /\ w = w' := by
  by_cases h : t = x
  · have hb : (t == x) = true := by simpa using h
    have HS : aJ (swp x y t = y) := by simp [aJ, swp, h]
    clear h;(go_enter Tryz.func130, Tryz.ntmps130);go_wp2;go_ret;exact⟨sJ HS.o.symm, rfl⟩
  · have hb : (t == x) = false := by simpa using h
    have HS : aJ (swp x y t = t) := by simp [aJ, swp, h]
    clear h;(go_enter Tryz.func130, Tryz.ntmps130);go_wp2;go_ret;exact⟨sJ HS.o.symm, rfl⟩

--@ impl.PG
theorem rW(n : Int)(w : World) : Calls Tryz.prog 129 #[.int .i64 n] w fun e w' => e = .returned (.bool (uo n)) /\ w = w' := by
  by_cases h : 4 < n
  · by_cases h2 : n <= 8
    all_goals
      (go_enter Tryz.func129, Tryz.ntmps129);go_wp2;go_ret;exact⟨by simp [uo, h, h2], rfl⟩
  · go_enter Tryz.func129, Tryz.ntmps129
    go_wp2;go_ret;exact⟨by simp [uo]; omega, rfl⟩

--@ (impl.Xv).logical
theorem sS{S : Nat}(h : S < 512) : lG S < 512 := by
  apply Nat.lt_pow_two_of_testBit (n := 9);intro i hi;rw [lH];have : S.testBit i = false := Nat.testBit_lt_two_pow (Nat.lt_of_lt_of_le h (Nat.pow_le_pow_right (n := 2) (by omega) hi));simp [this]
theorem ky(S : Nat)(w : World)(hS : S < 512) : Calls Tryz.prog 20 #[.int .u16 S] w fun e w' => e = .returned (.int .u16 (lG S)) /\ w = w' := by
  (go_enter Tryz.func20, Tryz.ntmps20);go_wp2;go_ret;refine⟨?_, rfl⟩
  have e : ((lG S : Nat) : Int) = (S : Int) / 32 * 32 := by
    unfold lG;rw [Nat.shiftRight_eq_div_pow, Nat.shiftLeft_eq]
    push_cast
    rfl
  show Ending.returned (.int .u16 ((S : Int) / 32 * 32)) = _;rw [e]

--@ impl.JR
theorem vG(S : Nat)(t : Int)(w : World)(hS : S < 512)(ht : uo t = true) : Calls Tryz.prog 59 #[.int .u16 S, .int .i64 t] w fun e w' => e = .returned (.bool (S.testBit t.toNat)) /\ w = w' := by
  have h : jq t = true := by simp [uo] at ht; simp [jq]; omega
  refine(fK S t w hS).mono ?_;rintro e w' ⟨rfl, rfl⟩;rw [h]; exact⟨rfl, rfl⟩
theorem xW{lo hi : Nat}(A : Option Addr)(c K : Nat)(fs : List aF)(w : World)(h : aG w lo hi A fs)(hK : K < 512) :
    Calls Tryz.prog 100 #[.slice A fs.length c, .int .u16 K] w fun e w' => e = .returned (.tuple #[.agg #[.int .i64 ((bD K fs).getD (0, 0)).1, .int .i64 ((bD K fs).getD (0, 0)).2], .bool (bD K fs).isSome]) /\ Below w.heap.size w w' := by
  have hl := h.le;have HK := ax hK;clear hK;(go_enter Tryz.func100, Tryz.ntmps100);go_wp2
  go_loopw [10] (fun i wr => ∃k : Nat, k <= fs.length /\ i = .int .i64 k /\ aJ (bD K fs = bD K (fs.drop k)) /\ ae wr w.heap.size 134 #[.int .i64 0, .int .i64 0] /\ Below w.heap.size w wr) (fun i _ => fs.length - (intOf i).toNat)
  case atStart => exact⟨0, dJ, rfl, by simp [aJ], az, aj⟩
  case round =>
    obtain⟨k, hk, rfl, HA, k0, hB⟩ := hrel;have bT := k0.cell;have JA := k0.frozen;have hk0 := k0.lt;by_cases hlt : k < fs.length
    · obtain⟨b, off, rfl, c0, c1, c2⟩ := (h.bz hB).at hlt
      have HD := ax (uV K fs k hlt);cases he : fs[k].eq
      · rw [he] at c0
        have HS : aJ (iH K fs[k] = none) := by simp [aJ, iH, he]
        clear he;(go_wp2_with fail)
        go_round
        case rel => exact⟨k + 1, by omega, by go_num, by show _ = _; rw [HA.o, HD.o, HS.o]; rfl, k0.alloc _, aj⟩
        case measure => simp [intOf]; omega
      rw [he] at c0;by_cases hab : fs[k].a = fs[k].b
      · have t0 : (fs[k].a == fs[k].b) = true := by simpa using hab
        have HS : aJ (iH K fs[k] = none) := by simp [aJ, iH, hab]
        clear he hab;(go_wp2_with fail)
        go_round
        case rel => exact⟨k + 1, by omega, by go_num, by show _ = _; rw [HA.o, HD.o, HS.o]; rfl, k0.alloc _, aj⟩
        case measure => simp [intOf]; omega
      have t0 : (fs[k].a == fs[k].b) = false := by simpa using hab
      cases hfa : free K fs[k].a
      case' true =>
        have HS : aJ (iH K fs[k] = some (fs[k].a, fs[k].b)) := by simp [aJ, iH, he, hab, hfa]
        have la : uo fs[k].a = true := by simp only [free, Bool.and_eq_true] at hfa; exact hfa.1
        have ka : K.testBit fs[k].a.toNat = false := by simp only [free, Bool.and_eq_true, Bool.not_eq_true'] at hfa; exact hfa.2
        clear he hab hfa;(go_wp2_with (first | (go_at_call 129; refine(rW _ _).mono ?_; rintro e w' ⟨rfl, rfl⟩) | (go_at_call 59; refine(vG _ _ _ HK.o (by assumption)).mono ?_; rintro e w' ⟨rfl, rfl⟩)));refine bodyPost_ret (v := .tuple #[.agg #[.int .i64 fs[k].a, .int .i64 fs[k].b], .bool true]) (by simp [results, Tryz.results100, go_sem, bT, hk0]) rfl ⟨?_, aj⟩;rw [HA.o, HD.o, HS.o]; rfl
      case' false =>
        cases La : free K fs[k].b
        case' true =>
          have HS : aJ (iH K fs[k] = some (fs[k].b, fs[k].a)) := by simp [aJ, iH, he, hab, hfa, La]
          have lb : uo fs[k].b = true := by simp only [free, Bool.and_eq_true] at La; exact La.1
          have kb : K.testBit fs[k].b.toNat = false := by simp only [free, Bool.and_eq_true, Bool.not_eq_true'] at La; exact La.2
        case' false =>
          have HS : aJ (iH K fs[k] = none) := by simp [aJ, iH, hfa, La]
        all_goals
          cases la : uo fs[k].a
          all_goals
            (try have ka : K.testBit fs[k].a.toNat = true := by simp [free, la] at hfa; exact hfa);(try cases lb : uo fs[k].b)
            all_goals try have kb : K.testBit fs[k].b.toNat = true := by simp [free, lb] at La; exact La
        all_goals
          clear he hab hfa La;(go_wp2_with (first | (go_at_call 129; refine(rW _ _).mono ?_; rintro e w' ⟨rfl, rfl⟩) | (go_at_call 59; refine(vG _ _ _ HK.o (by assumption)).mono ?_; rintro e w' ⟨rfl, rfl⟩)))
          first
            | (refine bodyPost_ret (v := .tuple #[.agg #[.int .i64 fs[k].b, .int .i64 fs[k].a], .bool true]) (by simp [results, Tryz.results100, go_sem, bT, hk0]) rfl ⟨?_, aj⟩
               rw [HA.o, HD.o, HS.o]; rfl)
            | (go_round
               case rel => exact⟨k + 1, by omega, by go_num, by show _ = _; rw [HA.o, HD.o, HS.o]; rfl, k0.alloc _, aj⟩
               case measure => simp [intOf]; omega)
    · obtain rfl : k = fs.length := by omega
      (go_wp2_with fail);have e : bD K fs = none := by rw [HA.o, drop_length]; rfl
      refine bodyPost_ret (v := .tuple #[.agg #[.int .i64 0, .int .i64 0], .bool false]) (by simp [results, Tryz.results100, go_sem, bT]) rfl ⟨?_, aj⟩;rw [e]; rfl

end
section
open Go Go.RowKit Go.Proofs
def dw(S k:Nat):List Int:=((List.range k).filter fun n=>S.testBit n).map fun n:Nat=>(n:Int)
theorem Fq(S k:Nat):dw S (k+1)=dw S k++if S.testBit k then [(k:Int)] else []:=by
 unfold dw;rw[List.range_succ,List.filter_append,List.map_append];cases h:S.testBit k<;>simp[h]
theorem jA(S k:Nat):(dw S k).length<=k:=by
 unfold dw;rw[List.length_map];exact Nat.le_trans (List.length_filter_le _ _) (by simp)
theorem qN(S:Nat)(w:World)(hS:S<512):Calls Tryz.prog 32 #[.int .u16 S] w fun e w'=>∃r,e=.returned r/\aD w' w.heap.size r (dw S 9)/\Below w.heap.size w w':=by
 have HS:=ax hS;clear hS;(go_enter Tryz.func32,Tryz.ntmps32);go_wp2
 go_loopw [3,4] (fun o i wr=>∃(k:Nat) (A:Option Addr) (c:Nat),k<=9/\i=.int .i64 k/\o=.slice A (dw S k).length c/\aD wr w.heap.size (.slice A (dw S k).length c) (dw S k)/\Below w.heap.size w wr) (fun _ i _=>9 - (intOf i).toNat)
 case atStart=>exact⟨0,none,0,by omega,rfl,rfl,aD.nil _ _,aj⟩
 case round=>
  obtain⟨k,A,c,hk,rfl,rfl,hO,hB⟩:=hrel;have hlen:=jA S k;by_cases h8:k<9
  ·have hv:jq (k:Int)=true:=qU.2 (by omega);have HC:=ax (Fq S k);have hki:(k:Int)<=8:=by omega
   cases ht:S.testBit k
   ·(go_wp2_with fail);refine(fK S _ _ HS.o).mono ?_;rintro e w' ⟨rfl,rfl⟩;rw[hv,Int.toNat_natCast,ht];(go_wp2_with fail)
    go_round
    case rel=>
     have e:dw S (k+1)=dw S k:=by rw[HC.o,ht];simp
     exact⟨k+1,A,c,by omega,by go_num,by rw[e],by rw[e];exact hO,hB⟩
    case measure=>simp[intOf];omega
   ·(go_wp2_with fail);refine(fK S _ _ HS.o).mono ?_;rintro e w' ⟨rfl,rfl⟩;rw[hv,Int.toNat_natCast,ht];(go_wp2_with (at_builtin;refine Ha rfl _ _ rfl (v:=.slice A (dw S k).length c) rfl (hO.GR (uK.alloc (uK.refl 0 _) _) dJ) wr.heap.size _ rfl (jR wr _ _) (by omega) (by simp;have:=hB.size;omega) ?_;intro g' c' w2 hO2 hg2 hB3))
    go_round
    case rel=>
     have e:dw S (k+1)=dw S k++[(k:Int)]:=by rw[HC.o,ht];simp
     exact⟨k+1,some ⟨g',0,none⟩,c',by omega,by go_num,by rw[e,length_append];rfl,by rw[e];simpa using hO2,Below.trans (ai hB _) hB3⟩
    case measure=>simp[intOf];omega
  ·obtain rfl:k=9:=by omega
   go_wp2;go_ret;exact⟨_,rfl,hO,hB⟩
def ay.fold(F:Nat->Int->Int->Int->aF->au->Nat):ay->Nat->Nat
 | .nil,S=>S
 | .cons k a b t i body els r,S=>r.fold F (els.fold F (body.fold F (F S k a b t i)))
def oW(S:Nat)(k a _b:Int)(_t:aF)(_i:au):Nat:=if k=1\/k=2\/k=4 then aQ S a else S
def Dx(S:Nat)(_k a b:Int)(t:aF)(i:au):Nat:=aQ (aQ (aQ (aQ S a) b) t.a) t.b|||aO (mz i)
def oZ(S:Nat)(x:Int):Nat:=if 4<x then aQ S x else S
def Vg(a b:Int)(t:aF)(i:au):List Int:=[a,b,t.a,t.b]++dw (aO (mz i)) 9
def ry(S:Nat)(_k a b:Int)(t:aF)(i:au):Nat:=(Vg a b t i).foldl oZ S
theorem Dy{S:Nat}(h:S<512)(k a b:Int)(t:aF)(i:au):oW S k a b t i<512:=by
 unfold oW;split
 ·exact bC h a
 ·exact h
theorem uA{S:Nat}(h:S<512)(k a b:Int)(t:aF)(i:au):Dx S k a b t i<512:=
 Nat.or_lt_two_pow (n:=9) (bC (bC (bC (bC h a) b) t.a) t.b) (dI _)
theorem ay.gD{F:Nat->Int->Int->Int->aF->au->Nat}(hF:∀S k a b t i,S<512->F S k a b t i<512):∀(L:ay) {S:Nat},S<512->L.fold F S<512
 | .nil,_,h=>h
 | .cons k a b t i body els r,S,h=>ay.gD hF r (ay.gD hF els (ay.gD hF body (hF S k a b t i h)))
theorem PH{S:Nat}(h:S<512)(x:Int):oZ S x<512:=by
 unfold oZ;split
 ·exact bC h x
 ·exact h
theorem BM(l:List Int):∀ {S:Nat},S<512->l.foldl oZ S<512:=by
 induction l with
 | nil=>intro S h;exact h
 | cons x l ih=>intro S h;exact ih (PH h x)
theorem Ae{S:Nat}(h:S<512)(k a b:Int)(t:aF)(i:au):ry S k a b t i<512:=BM _ h
theorem M3(S:Nat)(x:Int)(n:Nat):(oZ S x).testBit n=(S.testBit n || decide (4<n/\jq x=true/\x=(n:Int))):=by
 unfold oZ
 split
 ·rename_i h;rw[cr]
  congr 1
  rw[decide_eq_decide];constructor
  ·rintro⟨h1,h2⟩;exact⟨by omega,h1,h2⟩
  ·rintro⟨_,h1,h2⟩;exact⟨h1,h2⟩
 ·rename_i h;have:decide (4<n/\jq x=true/\x=(n:Int))=false:=by rw[decide_eq_false_iff_not];rintro⟨h1,_,h2⟩;omega
  rw[this,Bool.or_false]
theorem nu(l:List Int):∀(S n:Nat),(l.foldl oZ S).testBit n=(S.testBit n || decide (4<n/\jq (n:Int)=true/\(n:Int)∈l)):=by
 induction l with
 | nil=>intro S n;simp
 | cons x l ih=>
  intro S n;rw[List.foldl_cons,ih,M3,Bool.or_assoc]
  congr 1
  rw[<-Bool.decide_or,decide_eq_decide];constructor
  ·rintro(⟨h,h1,rfl⟩|⟨h,h1,hm⟩)
   ·exact⟨h,h1,List.mem_cons_self⟩
   ·exact⟨h,h1,List.mem_cons_of_mem _ hm⟩
  ·rintro⟨h,h1,hm⟩;rcases List.mem_cons.1 hm with e|hm
   ·exact Or.inl ⟨h,e▸h1,e.symm⟩
   ·exact Or.inr ⟨h,h1,hm⟩
theorem qh(S k n:Nat):(n:Int)∈dw S k↔n<k/\S.testBit n=true:=by
 unfold dw;rw[List.mem_map];constructor
 ·rintro⟨m,hm,e⟩;obtain rfl:m=n:=by omega
  simpa using hm
 ·intro h;exact⟨n,by simpa using h,rfl⟩
theorem qi(S:Nat):tH (zj S) (zj S).length=dw S 9:=by
 rw[yD];unfold tH dw
 congr 1
theorem M4(S:Nat)(k a b:Int)(t:aF)(i:au):ry (lG S) k a b t i=lG (Dx S k a b t i):=by
 apply Nat.eq_of_testBit_eq;intro n;unfold ry Vg Dx;rw[nu,lH,lH,Nat.testBit_or,cr,cr,cr,cr,iL]
 have hm:((n:Int)∈[a,b,t.a,t.b]++dw (aO (mz i)) 9)↔((a=(n:Int)\/b=(n:Int)\/t.a=(n:Int)\/t.b=(n:Int))\/(n<9/\(jq (n:Int)=true/\(n:Int)∈mz i))):=by
  rw[List.mem_append,qh,iL,decide_eq_true_iff];simp only[List.mem_cons,List.not_mem_nil,or_false,eq_comm]
 rw[Bool.eq_iff_iff];simp only[Bool.or_eq_true,Bool.and_eq_true,decide_eq_true_eq,hm];constructor
 ·rintro(⟨h1,h2⟩|⟨h1,h2,(h3|h3|h3|h3)|⟨_,h3⟩⟩)
  ·simp[h1,h2]
  ·subst h3;simp[h2];omega
  ·subst h3;simp[h2];omega
  ·rw[h3];simp[h2];omega
  ·rw[h3];simp[h2];omega
  ·simp[h2,h3.2];omega
 ·rintro⟨h1,h2⟩;rcases h2 with ((((h2|⟨h2,h3⟩)|⟨h2,h3⟩)|⟨h2,h3⟩)|⟨h2,h3⟩)|⟨h2,h3⟩
  ·exact Or.inl ⟨h1,h2⟩
  ·right;rw[<-h3];exact⟨by omega,h2,by simp⟩
  ·right;rw[<-h3];exact⟨by omega,h2,by simp⟩
  ·right;rw[<-h3];exact⟨by omega,h2,by simp⟩
  ·right;rw[<-h3];exact⟨by omega,h2,by simp⟩
  ·right;have:=qU.1 h2;exact⟨by omega,h2,Or.inr ⟨by omega,h2,h3⟩⟩
theorem mM:∀(L:ay) (S:Nat),L.fold ry (lG S)=lG (L.fold Dx S)
 | .nil,_=>rfl
 | .cons k a b t i body els r,S=>by
  simp only[ay.fold];rw[M4,mM body,mM els,mM r]
theorem Ir{k a b:Int}{t:aF}{i:au}{body els:ay}(h:dK k a b t i body els=true):jq a=true/\jq b=true/\jq t.a=true/\jq t.b=true/\∀x∈mz i,jq x=true:=by
 unfold dK at h
 split at h
 ·simp only[Bool.and_eq_true,decide_eq_true_eq,kI,aF.valid] at h;obtain⟨rfl,rfl,⟨h1,h2⟩,h3,h4⟩:=h;refine⟨by decide,by decide,h1,h2,?_⟩;have e:i=⟨[],[]⟩:=by cases i;simp_all
  subst e;simp[mz]
 split at h
 ·simp only[Bool.and_eq_true,decide_eq_true_eq,aF.valid] at h;obtain⟨rfl,rfl,⟨h1,h2⟩,h3,h4⟩:=h;exact⟨by decide,by decide,h1,h2,jK h3⟩
 ·simp only[Bool.and_eq_true,iC,oV,kI,decide_eq_true_eq] at h;obtain⟨⟨rfl,⟨h1,h2⟩,h3,h4⟩,h5⟩:=h;have e:i=⟨[],[]⟩:=by cases i;simp_all
  subst e
  have hab:jq a=true/\jq b=true:=by
   have hp:∀ {x:Int},iF x=true->jq x=true:=fun h=>by simp[iF] at h;rw[qU];omega
   unfold fieldsB at h5
   split at h5
   ·simp only[Bool.and_eq_true] at h5;exact⟨hp h5.1,h5.2⟩
   split at h5
   ·simpa using h5
   split at h5
   ·simp only[Bool.and_eq_true,decide_eq_true_eq] at h5;exact⟨hp h5.1,by rw[h5.2];decide⟩
   split at h5
   ·simp only[Bool.and_eq_true,decide_eq_true_eq] at h5;exact⟨h5.1,by rw[h5.2];decide⟩
   ·cases h5
  exact⟨hab.1,hab.2,by decide,by decide,by simp[mz]⟩
def eO(L:ay):List Int:=if L.prog then dw (L.fold ry 0) 9 else []
section
variable{w w':World}{lo hi:Nat}
theorem fF.keep(hk:∀b,lo<=b->b<hi->w'.heap[b]? = w.heap[b]?):∀ {L:ay} {bl o:Nat},lo<=bl->bl<hi->fF w lo hi L bl o->fF w' lo hi L bl o
 | .nil,_,_,_,_,_=>trivial
 | .cons k a b t i body els r,bl,o,e1,e2,h=>by
  obtain⟨⟨h0,h1,h2,h3,h4,h5⟩,⟨A6,c6,h6,g6⟩,⟨A7,c7,h7,g7⟩,⟨A8,c8,h8,g8⟩,⟨A9,c9,h9,g9⟩,hr⟩:=h;have hc:∀j,w'.cell? ⟨bl,j,none⟩=w.cell? ⟨bl,j,none⟩:=fun j=>World.cell?_of_block (a:=⟨bl,j,none⟩) (hk bl e1 e2);refine⟨⟨(hc _).trans h0,(hc _).trans h1,(hc _).trans h2,(hc _).trans h3,(hc _).trans h4,(hc _).trans h5⟩,⟨A6,c6,(hc _).trans h6,g6.keep hk⟩,⟨A7,c7,(hc _).trans h7,g7.keep hk⟩,⟨A8,c8,(hc _).trans h8,fun hl=>?_⟩,⟨A9,c9,(hc _).trans h9,fun hl=>?_⟩,fF.keep hk e1 e2 hr⟩
  ·obtain⟨b',o',e,p1,p2,p3⟩:=g8 hl;exact⟨b',o',e,p1,p2,fF.keep hk p1 p2 p3⟩
  ·obtain⟨b',o',e,p1,p2,p3⟩:=g9 hl;exact⟨b',o',e,p1,p2,fF.keep hk p1 p2 p3⟩
theorem bH.keep{A:Option Addr}{L:ay}(h:bH w lo hi A L)(hk:∀b,lo<=b->b<hi->w'.heap[b]? = w.heap[b]?):bH w' lo hi A L:=fun hl=>by
 obtain⟨b,o,e,p1,p2,p3⟩:=h hl;exact⟨b,o,e,p1,p2,p3.keep hk p1 p2⟩
theorem bH.Lb{A:Option Addr}{L:ay}{g:Nat}(h:bH w lo hi A L)(hm:Mk (fun x=>x=g) w w')(hg:hi<=g)(hl:g<w.heap.size):bH w' lo hi A L:=
 h.keep fun b _ h2=>hm.block b (by omega) (by omega)
end
end
section
open Go Go.RowKit Go.Proofs
attribute [local go_sem ↓] Go.wp_at_zero Go.wp_at_succ
theorem pg{lo hi:Nat}(v:Value)(a:au)(x y:Int)(w:World)(h:aM w lo hi v a) :
  Calls Tryz.prog 101 #[v,.int .i64 x,.int .i64 y] w fun e w'=>∃r,e=.returned r/\aI w' w.heap.size r (aZ x y a)/\Below w.heap.size w w':=by
 have hV:=ax h;obtain⟨A1,c1,A2,c2,rfl,h1,h2⟩:=h;have l1:=h1.le;have l2:=h2.le;(go_enter Tryz.func101,Tryz.ntmps101);have k1:=(Dh w 26 26 #[.slice A1 a.facts.length c1,.slice A2 a.atoms.length c2] #[.slice none 0 0,.slice none 0 0]).2;(go_wp2_with fail);refine(cz _ a _ (hV.o.bz aj)).mono ?_;rintro e w1 ⟨r,rfl,hO,hB1⟩;have hB:=aP (w:=w) aj hB1;(replace k1:=k1.nz hB1);obtain⟨fv,av,rfl,of,oa⟩:=hO;obtain⟨F,d1,rfl,-⟩:=of.rj;obtain⟨G,d2,rfl,-⟩:=oa.rj;have k2:=ae.new w1 26 #[.slice F a.facts.length d1,.slice G a.atoms.length d2];have hz:=hB1.size;simp only[World.size_alloc] at hz;have of':=of.bz (w':=w1.alloc (.cells #[.slice F a.facts.length d1,.slice G a.atoms.length d2] 26)) aj;have oa':=oa.bz (w':=w1.alloc (.cells #[.slice F a.facts.length d1,.slice G a.atoms.length d2] 26)) aj;have hU1:=of.und;have hU2:=oa.und;clear of oa hV h1 h2 hB1;(go_wp2_with fail)
 go_loopw [17] (fun i wr=>∃k:Nat,k<=a.facts.length/\i=.int .i64 k/\ah wr (w.heap.size+1+1) (.slice F a.facts.length d1) (upto (aF.sub x y) k a.facts)/\af wr (w.heap.size+1+1) (.slice G a.atoms.length d2) a.atoms/\
   ae wr (w.heap.size+1) 26 #[.slice none 0 0,.slice none 0 0]/\ae wr w1.heap.size 26 #[.slice F a.facts.length d1,.slice G a.atoms.length d2]/\Below w.heap.size w wr) (fun i _=>a.facts.length - (intOf i).toNat)
 case atStart=>exact⟨0,dJ,rfl,by rw[Ca];simpa using of',by simpa using oa',k1.alloc _,k2,aj⟩
 case round=>
  clear k1 k2 of' oa' hB;obtain⟨k,hk,rfl,of,oa,k1,k2,hB⟩:=hrel;(replace fI:=k1.cell;replace nZ:=k1.frozen;replace mE:=k1.lt;replace lZ:=k2.z);by_cases hlt:k<a.facts.length
  ·obtain⟨g,cur,-,rfl,hg,hK,hsz,c0,c1,c2,-⟩:=of.open_ (k:=k) (by rw[jI];exact hlt);rw[uU _ _ _ hlt] at c0 c1 c2;have q0:wr.cell? ⟨g,k * 3,none⟩=some (.bool a.facts[k].eq):=(hK.cell _).trans c0;have q1:wr.cell? ⟨g,k * 3+1,none⟩=some (.int .i64 a.facts[k].a):=(hK.cell _).trans c1;have q2:wr.cell? ⟨g,k * 3+2,none⟩=some (.int .i64 a.facts[k].b):=(hK.cell _).trans c2;have hgl:=hK.lt;have Lc:=k2.lt;have hne:=ae.Bq hK k2 (by decide);have hne1:=ae.Bq hK k1 (by decide);have hz1:=hz;have hbw:=hB.size;(go_wp2_with fail);have kf:=ae.new wr tF #[.bool a.facts[k].eq,.int .i64 a.facts[k].a,.int .i64 a.facts[k].b];replace of:=of.bz (w':=wr.alloc (.cells #[.bool a.facts[k].eq,.int .i64 a.facts[k].a,.int .i64 a.facts[k].b] tF)) aj;replace oa:=oa.bz (w':=wr.alloc (.cells #[.bool a.facts[k].eq,.int .i64 a.facts[k].a,.int .i64 a.facts[k].b] tF)) aj;replace k1:=k1.alloc (.cells #[.bool a.facts[k].eq,.int .i64 a.facts[k].a,.int .i64 a.facts[k].b] tF);replace k2:=k2.alloc (.cells #[.bool a.facts[k].eq,.int .i64 a.facts[k].a,.int .i64 a.facts[k].b] tF);replace hK:=hK.alloc (.cells #[.bool a.facts[k].eq,.int .i64 a.facts[k].a,.int .i64 a.facts[k].b] tF);replace hB:=ai hB (.cells #[.bool a.facts[k].eq,.int .i64 a.facts[k].a,.int .i64 a.facts[k].b] tF);clear fI lZ nZ mE q0 q1 q2;generalize (wr.alloc (.cells #[.bool a.facts[k].eq,.int .i64 a.facts[k].a,.int .i64 a.facts[k].b] tF))=V at kf of oa k1 k2 hK hB⊢;have q1:=(hK.cell _).trans c1;have r:=hK.frozen;have Na:=ax (jI (aF.sub x y) k a.facts);have R7:=ax (uU (aF.sub x y) k a.facts hlt)
   go_region_held3 (fun w'=>(∀i,w'.cell? ⟨w1.heap.size,i,none⟩=#[.slice (some ⟨g,0,none⟩) a.facts.length d1,.slice G a.atoms.length d2][i]?)/\(∀i,w'.cell? ⟨wr.heap.size,i,none⟩=#[.bool a.facts[k].eq,.int .i64 a.facts[k].a,.int .i64 a.facts[k].b][i]?))
    (exact⟨ae.cell az,ae.cell az⟩)
    (first|(go_at_call 130;refine(jy _ _ _ _).mono ?_;rintro e w' ⟨rfl,rfl⟩))
   have lQ:=ah.Rs of (k:=k) (by rw[Na.o];exact hlt) (swp x y a.facts[k].a) (gs:=(upto (aF.sub x y) k a.facts).set k ⟨a.facts[k].eq,swp x y a.facts[k].a,a.facts[k].b⟩) (by rw[R7.o]);replace of:=lQ.bz (w':=(V.setCell ⟨g,k * 3+1,none⟩ (.int .i64 (swp x y a.facts[k].a))).drew) aj;replace oa:=(af.aA oa hK (by decide) (k * 3+1) (.int .i64 (swp x y a.facts[k].a))).bz (w':=(V.setCell ⟨g,k * 3+1,none⟩ (.int .i64 (swp x y a.facts[k].a))).drew) aj;replace k1:=(k1.far (p:=⟨g,k * 3+1,none⟩) (Ne.symm hne1) (.int .i64 (swp x y a.facts[k].a))).drew;replace k2:=(k2.far (p:=⟨g,k * 3+1,none⟩) (Ne.symm hne) (.int .i64 (swp x y a.facts[k].a))).drew;replace kf:=(kf.far (p:=⟨g,k * 3+1,none⟩) (by simp only[];omega) (.int .i64 (swp x y a.facts[k].a))).drew;replace hK:=(hK.ag (k * 3+1) (.int .i64 (swp x y a.facts[k].a))).drew;replace hB:=(hB.setCell (p:=⟨g,k * 3+1,none⟩) (by simp only[];omega) (.int .i64 (swp x y a.facts[k].a))).drew;clear lQ q1 r;(go_wp2_with fail);generalize (V.setCell ⟨g,k * 3+1,none⟩ (.int .i64 (swp x y a.facts[k].a))).drew=V2 at kf of oa k1 k2 hK hB⊢;have q2:V2.cell? ⟨g,k * 3+2,none⟩=some (.int .i64 a.facts[k].b):=(hK.cell (k * 3+2)).trans (by rw[Array.getElem?_setIfInBounds_ne (by omega)];exact c2);have r:=hK.frozen
   go_region_held3 (fun w'=>(∀i,w'.cell? ⟨w1.heap.size,i,none⟩=#[.slice (some ⟨g,0,none⟩) a.facts.length d1,.slice G a.atoms.length d2][i]?)/\(∀i,w'.cell? ⟨wr.heap.size,i,none⟩=#[.bool a.facts[k].eq,.int .i64 a.facts[k].a,.int .i64 a.facts[k].b][i]?))
    (exact⟨ae.cell az,ae.cell az⟩)
    (first|(go_at_call 130;refine(jy _ _ _ _).mono ?_;rintro e w' ⟨rfl,rfl⟩))
   have lQ:=ah.Pf of (k:=k) (by rw[length_set,Na.o];exact hlt) (swp x y a.facts[k].b) (gs:=(upto (aF.sub x y) k a.facts).set k (aF.sub x y a.facts[k])) (by simp[aF.sub]);replace of:=lQ.bz (w':=(V2.setCell ⟨g,k * 3+2,none⟩ (.int .i64 (swp x y a.facts[k].b))).drew) aj;replace oa:=(af.aA oa hK (by decide) (k * 3+2) (.int .i64 (swp x y a.facts[k].b))).bz (w':=(V2.setCell ⟨g,k * 3+2,none⟩ (.int .i64 (swp x y a.facts[k].b))).drew) aj;replace k1:=(k1.far (p:=⟨g,k * 3+2,none⟩) (Ne.symm hne1) (.int .i64 (swp x y a.facts[k].b))).drew;replace k2:=(k2.far (p:=⟨g,k * 3+2,none⟩) (Ne.symm hne) (.int .i64 (swp x y a.facts[k].b))).drew;replace hB:=(hB.setCell (p:=⟨g,k * 3+2,none⟩) (by simp only[];omega) (.int .i64 (swp x y a.facts[k].b))).drew;clear lQ q2 r hK kf;(go_wp2_with fail)
   go_round
   case rel=>exact⟨k+1,by omega,by go_num,by rw[<-EM _ _ _ hlt];exact of,oa,k1,k2,hB⟩
   case measure=>simp[intOf];omega
  ·obtain rfl:k=a.facts.length:=by omega
   rw[Cc] at of;(go_wp2_with fail)
   go_loopw [46] (fun i wr=>∃k:Nat,k<=a.atoms.length/\i=.int .i64 k/\ah wr (w.heap.size+1+1) (.slice F a.facts.length d1) (a.facts.map (aF.sub x y))/\af wr (w.heap.size+1+1) (.slice G a.atoms.length d2) (upto (aL.sub x y) k a.atoms)/\
     ae wr (w.heap.size+1) 26 #[.slice none 0 0,.slice none 0 0]/\ae wr w1.heap.size 26 #[.slice F a.facts.length d1,.slice G a.atoms.length d2]/\Below w.heap.size w wr) (fun i _=>a.atoms.length - (intOf i).toNat)
   case atStart=>exact⟨0,dJ,rfl,of,by rw[Ca];exact oa,k1,k2,aj⟩
   case round=>
    clear k1 k2 of oa hB fI lZ nZ mE;obtain⟨k,hk,rfl,of,oa,k1,k2,hB⟩:=hrel;(replace fI:=k1.cell;replace nZ:=k1.frozen;replace mE:=k1.lt;replace lZ:=k2.z);by_cases hlt:k<a.atoms.length
    ·obtain⟨g,cur,-,rfl,hg,hK,hsz,c0,c1,c2,-⟩:=oa.open_ (k:=k) (by rw[jI];exact hlt);rw[uU _ _ _ hlt] at c0 c1 c2;have q0:wr.cell? ⟨g,k * 3,none⟩=some (.int .i64 a.atoms[k].kind):=(hK.cell _).trans c0;have q1:wr.cell? ⟨g,k * 3+1,none⟩=some (.int .i64 a.atoms[k].a):=(hK.cell _).trans c1;have q2:wr.cell? ⟨g,k * 3+2,none⟩=some (.int .i64 a.atoms[k].b):=(hK.cell _).trans c2;have hgl:=hK.lt;have Lc:=k2.lt;have hne:=ae.Bq hK k2 (by decide);have hne1:=ae.Bq hK k1 (by decide);have hz1:=hz;have hbw:=hB.size;(go_wp2_with fail);have kf:=ae.new wr tA #[.int .i64 a.atoms[k].kind,.int .i64 a.atoms[k].a,.int .i64 a.atoms[k].b];replace oa:=oa.bz (w':=wr.alloc (.cells #[.int .i64 a.atoms[k].kind,.int .i64 a.atoms[k].a,.int .i64 a.atoms[k].b] tA)) aj;replace of:=of.bz (w':=wr.alloc (.cells #[.int .i64 a.atoms[k].kind,.int .i64 a.atoms[k].a,.int .i64 a.atoms[k].b] tA)) aj;replace k1:=k1.alloc (.cells #[.int .i64 a.atoms[k].kind,.int .i64 a.atoms[k].a,.int .i64 a.atoms[k].b] tA);replace k2:=k2.alloc (.cells #[.int .i64 a.atoms[k].kind,.int .i64 a.atoms[k].a,.int .i64 a.atoms[k].b] tA);replace hK:=hK.alloc (.cells #[.int .i64 a.atoms[k].kind,.int .i64 a.atoms[k].a,.int .i64 a.atoms[k].b] tA);replace hB:=ai hB (.cells #[.int .i64 a.atoms[k].kind,.int .i64 a.atoms[k].a,.int .i64 a.atoms[k].b] tA);clear fI lZ nZ mE q0 q1 q2;generalize (wr.alloc (.cells #[.int .i64 a.atoms[k].kind,.int .i64 a.atoms[k].a,.int .i64 a.atoms[k].b] tA))=V at kf oa of k1 k2 hK hB⊢;have q1:=(hK.cell _).trans c1;have r:=hK.frozen;have Na:=ax (jI (aL.sub x y) k a.atoms);have R7:=ax (uU (aL.sub x y) k a.atoms hlt)
     go_region_held3 (fun w'=>(∀i,w'.cell? ⟨w1.heap.size,i,none⟩=#[.slice F a.facts.length d1,.slice (some ⟨g,0,none⟩) a.atoms.length d2][i]?)/\(∀i,w'.cell? ⟨wr.heap.size,i,none⟩=#[.int .i64 a.atoms[k].kind,.int .i64 a.atoms[k].a,.int .i64 a.atoms[k].b][i]?))
      (exact⟨ae.cell az,ae.cell az⟩)
      (first|(go_at_call 130;refine(jy _ _ _ _).mono ?_;rintro e w' ⟨rfl,rfl⟩))
     have Iu:=af.Rs oa (k:=k) (by rw[Na.o];exact hlt) (swp x y a.atoms[k].a) (gs:=(upto (aL.sub x y) k a.atoms).set k ⟨a.atoms[k].kind,swp x y a.atoms[k].a,a.atoms[k].b⟩) (by rw[R7.o]);replace oa:=Iu.bz (w':=(V.setCell ⟨g,k * 3+1,none⟩ (.int .i64 (swp x y a.atoms[k].a))).drew) aj;replace of:=(ah.aA of hK (by decide) (k * 3+1) (.int .i64 (swp x y a.atoms[k].a))).bz (w':=(V.setCell ⟨g,k * 3+1,none⟩ (.int .i64 (swp x y a.atoms[k].a))).drew) aj;replace k1:=(k1.far (p:=⟨g,k * 3+1,none⟩) (Ne.symm hne1) (.int .i64 (swp x y a.atoms[k].a))).drew;replace k2:=(k2.far (p:=⟨g,k * 3+1,none⟩) (Ne.symm hne) (.int .i64 (swp x y a.atoms[k].a))).drew;replace kf:=(kf.far (p:=⟨g,k * 3+1,none⟩) (by simp only[];omega) (.int .i64 (swp x y a.atoms[k].a))).drew;replace hK:=(hK.ag (k * 3+1) (.int .i64 (swp x y a.atoms[k].a))).drew;replace hB:=(hB.setCell (p:=⟨g,k * 3+1,none⟩) (by simp only[];omega) (.int .i64 (swp x y a.atoms[k].a))).drew;clear Iu q1 r;(go_wp2_with fail);generalize (V.setCell ⟨g,k * 3+1,none⟩ (.int .i64 (swp x y a.atoms[k].a))).drew=V2 at kf oa of k1 k2 hK hB⊢;have q2:V2.cell? ⟨g,k * 3+2,none⟩=some (.int .i64 a.atoms[k].b):=(hK.cell (k * 3+2)).trans (by rw[Array.getElem?_setIfInBounds_ne (by omega)];exact c2);have r:=hK.frozen
     go_region_held3 (fun w'=>(∀i,w'.cell? ⟨w1.heap.size,i,none⟩=#[.slice F a.facts.length d1,.slice (some ⟨g,0,none⟩) a.atoms.length d2][i]?)/\(∀i,w'.cell? ⟨wr.heap.size,i,none⟩=#[.int .i64 a.atoms[k].kind,.int .i64 a.atoms[k].a,.int .i64 a.atoms[k].b][i]?))
      (exact⟨ae.cell az,ae.cell az⟩)
      (first|(go_at_call 130;refine(jy _ _ _ _).mono ?_;rintro e w' ⟨rfl,rfl⟩))
     have Iu:=af.Pf oa (k:=k) (by rw[length_set,Na.o];exact hlt) (swp x y a.atoms[k].b) (gs:=(upto (aL.sub x y) k a.atoms).set k (aL.sub x y a.atoms[k])) (by simp[aL.sub]);replace oa:=Iu.bz (w':=(V2.setCell ⟨g,k * 3+2,none⟩ (.int .i64 (swp x y a.atoms[k].b))).drew) aj;replace of:=(ah.aA of hK (by decide) (k * 3+2) (.int .i64 (swp x y a.atoms[k].b))).bz (w':=(V2.setCell ⟨g,k * 3+2,none⟩ (.int .i64 (swp x y a.atoms[k].b))).drew) aj;replace k1:=(k1.far (p:=⟨g,k * 3+2,none⟩) (Ne.symm hne1) (.int .i64 (swp x y a.atoms[k].b))).drew;replace k2:=(k2.far (p:=⟨g,k * 3+2,none⟩) (Ne.symm hne) (.int .i64 (swp x y a.atoms[k].b))).drew;replace hB:=(hB.setCell (p:=⟨g,k * 3+2,none⟩) (by simp only[];omega) (.int .i64 (swp x y a.atoms[k].b))).drew;clear Iu q2 r hK kf;(go_wp2_with fail)
     go_round
     case rel=>exact⟨k+1,by omega,by go_num,of,by rw[<-EM _ _ _ hlt];exact oa,k1,k2,hB⟩
     case measure=>simp[intOf];omega
    ·obtain rfl:k=a.atoms.length:=by omega
     rw[Cc] at oa;go_wp2;refine bodyPost_ret (v:=.agg #[.slice F a.facts.length d1,.slice G a.atoms.length d2]) (by simp[results,Tryz.results101,go_sem,fI]) rfl ⟨_,rfl,⟨_,_,rfl,?_,?_⟩,aj⟩
     ·exact((of.aA k1 (by decide) _ _).aA (k1.ag _ _) (by decide) _ _).bq
     ·exact((oa.aA k1 (by decide) _ _).aA (k1.ag _ _) (by decide) _ _).bq
abbrev Iv:Nat:=162
theorem Af{a:au}{x:Int}{K:Nat}(h:(aO (mz a)).testBit x.toNat=false):bf a x K=some (a,x):=by unfold bf;rw[h];rfl
theorem xA{a:au}{x:Int}{K:Nat}(h:(aO (mz a)).testBit x.toNat=true)(hn:kC (aO (mz a)|||K)=none):bf a x K=none:=by unfold bf;rw[h,hn];rfl
theorem xB{a:au}{x:Int}{K n:Nat}(h:(aO (mz a)).testBit x.toNat=true)(hn:kC (aO (mz a)|||K)=some n):bf a x K=some (aZ x (n:Int) a,(n:Int)):=by unfold bf;rw[h,hn];rfl
theorem aI.QU{w:World}{base:Nat}{v:Value}{a:au}(h:aI w base v a){g:Nat}{cs:Array Value}(hk:ae w g Iv cs)(u0 u1 u2 u3:Value):aI ((((w.setCell ⟨g,0,none⟩ u0).setCell ⟨g,1,none⟩ u1).setCell ⟨g,2,none⟩ u2).setCell ⟨g,3,none⟩ u3) base v a:=by
 obtain⟨fv,av,e,p1,p2⟩:=h;have k1:=hk.ag 0 u0;have k2:=k1.ag 1 u1;have k3:=k2.ag 2 u2;exact⟨fv,av,e,(((p1.aA hk (by decide) _ _).aA k1 (by decide) _ _).aA k2 (by decide) _ _).aA k3 (by decide) _ _,(((p2.aA hk (by decide) _ _).aA k1 (by decide) _ _).aA k2 (by decide) _ _).aA k3 (by decide) _ _⟩
def Vh(w:World)(base:Nat)(x:Int)(o:Option (au×Int))(e:Ending):Prop:=match o with
 | none=>e=.returned (.tuple #[.agg #[.slice none 0 0,.slice none 0 0,.int .i64 0,.int .i64 0],.bool false])
 | some (b,p)=>∃F f G g,e=.returned (.tuple #[.agg #[.slice F b.facts.length f,.slice G b.atoms.length g,.int .i64 x,.int .i64 p],.bool true])/\aI w base (.agg #[.slice F b.facts.length f,.slice G b.atoms.length g]) b
theorem tZ{lo hi:Nat}(v:Value)(a:au)(x:Int)(K:Nat)(w:World)(h:aM w lo hi v a)(hK:K<512)(hx:jq x=true) :
  Calls Tryz.prog 131 #[v,.int .i64 x,.int .u16 K] w fun e w'=>Vh w' w.heap.size x (bf a x K) e/\Below w.heap.size w w':=by
 have hV:=ax h;obtain⟨A1,c1,A2,c2,rfl,-,-⟩:=h;have HT:=ax (dI (mz a));(go_enter Tryz.func131,Tryz.ntmps131);have k0:ae ((w.alloc (.cells #[.slice A1 a.facts.length c1,.slice A2 a.atoms.length c2] aC)).alloc (.cells #[.slice none 0 0,.slice none 0 0,.int .i64 0,.int .i64 0] Iv)) w.heap.size aC #[.slice A1 a.facts.length c1,.slice A2 a.atoms.length c2]:=az;have k6:ae ((w.alloc (.cells #[.slice A1 a.facts.length c1,.slice A2 a.atoms.length c2] aC)).alloc (.cells #[.slice none 0 0,.slice none 0 0,.int .i64 0,.int .i64 0] Iv)) (w.heap.size+1) Iv #[.slice none 0 0,.slice none 0 0,.int .i64 0,.int .i64 0]:=az;(go_wp2_with fail);refine(di _ a _ (hV.o.bz aj)).mono ?_;rintro e w1 ⟨rfl,hB1⟩;have hB:=aP (w:=w) aj hB1;replace k0:=k0.nz hB1;replace k6:=k6.nz hB1;clear hB1;(go_wp2_with fail);refine(fK _ x _ HT.o).mono ?_;rintro e w2 ⟨rfl,rfl⟩;rw[hx,Bool.true_and];have hz:=hB.size;cases hb:(aO (mz a)).testBit x.toNat
 ·have E:=ax (Af (K:=K) hb);clear hb;(replace bT:=k0.z);(go_wp2_with fail);refine(cz _ a _ (hV.o.bz aj)).mono ?_;rintro e w3 ⟨r,rfl,oC,hB3⟩;obtain⟨F,f,G,g,rfl⟩:=oC.I.form;have OC:=ax oC;(replace hB:=aP hB hB3;replace k6:=k6.nz hB3);clear oC hB3 k0 bT;(replace oD:=k6.cell;replace Ld:=k6.frozen;replace GZ:=k6.lt);(go_wp2_with fail);have z6:=k6.cell;refine bodyPost_ret (v:=.tuple #[.agg #[.slice F a.facts.length f,.slice G a.atoms.length g,.int .i64 x,.int .i64 x],.bool true]) (by simp[results,Tryz.results131,go_sem,z6]) rfl ⟨?_,?_⟩
  ·rw[E.o];refine⟨F,f,G,g,rfl,?_⟩;exact(aI.QU OC.o k6 _ _ _ _).bq
  ·exact aj
 ·have Uk:=ax hb;clear hb;(replace bT:=k0.z);(go_wp2_with fail);refine(mV _ a K _ (hV.o.bz aj) hK).mono ?_;rintro e w3 ⟨rfl,hB3⟩;(replace hB:=aP hB hB3;replace k0:=k0.nz hB3;replace bT:=k0.z;replace k6:=k6.nz hB3);clear hB3;have hz3:=hB.size
  cases hn:kC (aO (mz a)|||K) with
  | none=>
   have E:=ax (xA Uk.o hn);clear hn;(replace oD:=k6.cell;replace Ld:=k6.frozen;replace GZ:=k6.lt);go_wp2;refine bodyPost_ret (v:=.tuple #[.agg #[.slice none 0 0,.slice none 0 0,.int .i64 0,.int .i64 0],.bool false]) (by simp[results,Tryz.results131,go_sem,oD]) rfl ⟨?_,?_⟩
   ·rw[E.o];rfl
   ·exact aj
  | some n=>
   have E:=ax (xB Uk.o hn);have EN:gX (aO (mz a)|||K)=(n:Int):=by unfold gX;rw[hn]
   rw[EN];clear hn EN;(go_wp2_with fail);refine(pg _ a x (n:Int) _ (hV.o.bz aj)).mono ?_;rintro e w4 ⟨r,rfl,oC,hB4⟩;obtain⟨F,f,G,g,rfl⟩:=oC.I.form;have OC:=ax oC;(replace hB:=aP hB hB4;replace k6:=k6.nz hB4);clear oC hB4 k0 bT;(replace oD:=k6.cell;replace Ld:=k6.frozen;replace GZ:=k6.lt);go_wp2;refine bodyPost_ret (v:=.tuple #[.agg #[.slice F (aZ x (n:Int) a).facts.length f,.slice G (aZ x (n:Int) a).atoms.length g,.int .i64 x,.int .i64 n],.bool true]) (by simp[results,Tryz.results131,go_sem,oD]) rfl ⟨?_,?_⟩
   ·rw[E.o];refine⟨F,f,G,g,rfl,?_⟩;exact(aI.QU OC.o k6 _ _ _ _).bq
   ·exact aj
theorem uf(f:aF)(acc:List aF)(j:Nat)(h:j<acc.length):(acc.take (j+1)).contains f=((acc.take j).contains f || decide (f=acc[j])):=by
 rw[List.take_succ_eq_append_getElem h,List.contains_append];simp
theorem vH{lo hi:Nat}(v:Value)(a:au)(w:World)(h:aM w lo hi v a) :
  Calls Tryz.prog 102 #[v] w fun e w'=>∃r,e=.returned r/\aI w' w.heap.size r (iZ a)/\Below w.heap.size w w':=by
 obtain⟨A1,c1,A2,c2,rfl,h1,h2⟩:=h;have l1:=h1.le;have l2:=h2.le;(go_enter Tryz.func102,Tryz.ntmps102);obtain⟨k0,k1,k2⟩:=wD w 26 26 26 #[.slice A1 a.facts.length c1,.slice A2 a.atoms.length c2] #[.slice none 0 0,.slice none 0 0] #[.slice none 0 0,.slice none 0 0];(go_wp2_with fail)
 go_loopw [14] (fun i wr=>∃(k:Nat) (acc:List aF) (A:Option Addr) (c:Nat),k<=a.facts.length/\i=.int .i64 k/\acc.length<=k/\aJ (a.facts.foldl dL []=(a.facts.drop k).foldl dL acc)/\ah wr (w.heap.size+1) (.slice A acc.length c) acc/\
   ae wr w.heap.size 26 #[.slice A1 a.facts.length c1,.slice A2 a.atoms.length c2]/\ae wr (w.heap.size+1) 26 #[.slice none 0 0,.slice none 0 0]/\ae wr (w.heap.size+1+1) 26 #[.slice A acc.length c,.slice none 0 0]/\Below w.heap.size w wr) (fun i _=>a.facts.length - (intOf i).toNat)
 case atStart=>exact⟨0,[],none,0,dJ,rfl,bn,rfl,ah.nil _ _,k0,k1,k2,aj⟩
 case round=>
  clear k0 k1 k2;obtain⟨k,acc,A,c,hk,rfl,hal,HA,of,k0,k1,k2,hB⟩:=hrel;(replace bT:=k0.z;replace fI:=k1.cell;replace nZ:=k1.frozen;replace mE:=k1.lt;replace lZ:=k2.cell;replace Ag:=k2.frozen;replace xC:=k2.lt);have Lc:=k2.lt;by_cases hlt:k<a.facts.length
  ·obtain⟨b,off,rfl,hbl⟩:=h1.blt hlt;obtain⟨g0,g1,g2⟩:=(h1.bz hB).cl hlt;have HD:=ax (qJ dL a.facts k hlt acc);cases hsk:(a.facts[k].eq&&(a.facts[k].a == a.facts[k].b))
   ·have HS:aJ (dL acc a.facts[k]=if acc.contains (H5 a.facts[k]) then acc else acc++[H5 a.facts[k]]):=by show _=_;rw[dL,hsk];rfl
    obtain⟨f',hf'⟩:∃f',f'=H5 a.facts[k]:=⟨_,rfl⟩;obtain⟨cs,hcs⟩:∃cs:Array Value,cs=#[.bool f'.eq,.int .i64 f'.a,.int .i64 f'.b]:=⟨_,rfl⟩;rw[<-hf'] at HS;have xR:=ax hcs;by_cases Vi:a.facts[k].b<a.facts[k].a
    case' pos=>rw[H5,if_pos Vi] at hf'
    case' neg=>rw[H5,if_neg Vi] at hf'
    all_goals
     cases he:a.facts[k].eq
     all_goals
      rw[he] at g0;(try have hne:(a.facts[k].a == a.facts[k].b)=false:=by simpa[he] using hsk)
    case' pos.false=>have E:=ax (show #[Value.bool false,.int .i64 a.facts[k].b,.int .i64 a.facts[k].a]=cs by rw[hcs,hf',<-he])
    case' pos.true=>have E:=ax (show #[Value.bool true,.int .i64 a.facts[k].b,.int .i64 a.facts[k].a]=cs by rw[hcs,hf',<-he])
    case' neg.false=>have E:=ax (show #[Value.bool false,.int .i64 a.facts[k].a,.int .i64 a.facts[k].b]=cs by rw[hcs,hf',<-he])
    case' neg.true=>have E:=ax (show #[Value.bool true,.int .i64 a.facts[k].a,.int .i64 a.facts[k].b]=cs by rw[hcs,hf',<-he])
    all_goals
     clear hsk he hf' hcs;(go_wp2_with fail);rw[E.o];have kf:=ae.new wr tF cs;replace of:=of.bz (w':=wr.alloc (.cells cs tF)) aj;replace k0:=k0.alloc (.cells cs tF);replace k1:=k1.alloc (.cells cs tF);replace k2:=k2.alloc (.cells cs tF);replace hB:=ai hB (.cells cs tF);generalize (wr.alloc (.cells cs tF))=V at kf of k0 k1 k2 hB⊢;clear bT fI nZ lZ Ag mE xC g0 g1 g2 E;obtain⟨pf,G6⟩:∃p,p=wr.heap.size:=⟨_,rfl⟩;rw[<-G6] at kf Lc⊢;clear G6;rw[xR.o] at kf
     go_loopw [6,41] (fun kn j wr=>∃jj:Nat,jj<=acc.length/\j=.int .i64 jj/\kn=.bool ((acc.take jj).contains f')/\ah wr (w.heap.size+1) (.slice A acc.length c) acc/\
      ae wr w.heap.size 26 #[.slice (some ⟨b,off,none⟩) a.facts.length c1,.slice A2 a.atoms.length c2]/\ae wr (w.heap.size+1) 26 #[.slice none 0 0,.slice none 0 0]/\ae wr (w.heap.size+1+1) 26 #[.slice A acc.length c,.slice none 0 0]/\
      ae wr pf tF #[.bool f'.eq,.int .i64 f'.a,.int .i64 f'.b]/\Below w.heap.size w wr) (fun _ j _=>acc.length - (intOf j).toNat)
     case atStart=>exact⟨0,dJ,rfl,by simp,of,k0,k1,k2,kf,hB⟩
     case round=>
      clear of k0 k1 k2 kf hB;obtain⟨jj,hjj,rfl,rfl,of,k0,k1,k2,kf,hB⟩:=hrel;have lZ:=k2.cell;have Ag:=k2.frozen;have Zb:=kf.cell;have xC:=k2.lt;have YT:=kf.lt;have Vj:acc.length<=1049600:=of.2;by_cases hjl:jj<acc.length
      ·obtain⟨b2,o2,rfl,hb2⟩:=of.dG.2.blt hjl;obtain⟨e0,e1,e2⟩:=of.dG.2.cl hjl;have HC:=ax (uf f' acc jj hjl);cases hkn:(acc.take jj).contains f'
       all_goals
        have DC:=ax hkn;clear hkn;(go_wp2_with fail)
        all_goals
         go_round
         case rel=>
          refine⟨jj+1,by omega,by go_num,?_,of.bz aj,k0.alloc _,k1.alloc _,k2.alloc _,kf.alloc _,aj⟩
          first
           | (rw[HC.o,DC.o,Bool.true_or];done)
           | rw[HC.o,DC.o,Bool.false_or,decide_eq_true ((aF.eq_iff _ _).2 ⟨Eq.symm ‹acc[jj].eq=f'.eq›,Eq.symm ‹acc[jj].a=f'.a›,Eq.symm ‹acc[jj].b=f'.b›⟩)]
           | rw[HC.o,DC.o,Bool.false_or,decide_eq_false (fun h=>‹¬acc[jj].eq=f'.eq› (by rw[h]))]
           | rw[HC.o,DC.o,Bool.false_or,decide_eq_false (fun h=>‹¬acc[jj].a=f'.a› (by rw[h]))]
           | rw[HC.o,DC.o,Bool.false_or,decide_eq_false (fun h=>‹¬acc[jj].b=f'.b› (by rw[h]))]
         case measure=>simp[intOf];omega
      ·obtain rfl:jj=acc.length:=by omega
       rw[take_length];cases hkn:acc.contains f'
       ·have HN:=ax (show dL acc a.facts[k]=acc++[f'] by rw[HS.o,hkn];rfl);clear hkn;have rf:=of.bz (w':=wr.alloc (.cells #[.bool f'.eq,.int .i64 f'.a,.int .i64 f'.b] tF)) aj;(go_wp2_with (at_builtin;refine gN rfl _ _ rfl (v:=.slice A acc.length c) rfl rf rfl (aG.one (ae.new wr _ _)) (by simp;omega) (by simp;omega) ?_;intro A' c' w2 lQ hg2 hB3;have z2:=ae.zm (g:=w.heap.size+1+1) (k2.alloc _) rf.1 hg2 (by decide);have GX:=z2.cell;have QK:=z2.frozen));have z0:=ae.zm (g:=w.heap.size) (k0.alloc _) rf.1 hg2 (by decide);have z1:=ae.zm (g:=w.heap.size+1) (k1.alloc _) rf.1 hg2 (by decide);have hBw2:=Below.trans (ai hB _) (hB3.mono (Nat.le_succ _))
        go_round
        case rel=>
         refine⟨k+1,acc++[f'],A',c',by omega,by go_num,by simp;omega,by show _=_;rw[HA.o,HD.o,HN.o],?_,z0.far (by simp only[];omega) _,z1.far (by simp only[];omega) _,?_,aj⟩
         ·simpa using lQ.aA z2 (by decide) _ _
         ·simpa using z2.ag 0 (.slice A' (acc.length+1) c')
        case measure=>simp[intOf];omega
       ·have HN:=ax (show dL acc a.facts[k]=acc by rw[HS.o,hkn];rfl);clear hkn;(go_wp2_with fail)
        go_round
        case rel=>exact⟨k+1,acc,A,c,by omega,by go_num,by omega,by show _=_;rw[HA.o,HD.o,HN.o],of,k0,k1,k2,hB⟩
        case measure=>simp[intOf];omega
   ·have HN:=ax (show dL acc a.facts[k]=acc by rw[dL,hsk];rfl);have he:a.facts[k].eq=true:=by simp at hsk;exact hsk.1
    have hab:(a.facts[k].a == a.facts[k].b)=true:=by simp at hsk;simpa using hsk.2
    rw[he] at g0;clear hsk he;(go_wp2_with fail)
    go_round
    case rel=>exact⟨k+1,acc,A,c,by omega,by go_num,by omega,by show _=_;rw[HA.o,HD.o,HN.o],of.bz aj,k0.alloc _,k1.alloc _,k2.alloc _,aj⟩
    case measure=>simp[intOf];omega
  ·obtain rfl:k=a.facts.length:=by omega
   have HN:=ax (show a.facts.foldl dL []=acc by rw[HA.o,drop_length];rfl);have HL:aJ (iZ a=⟨acc,a.atoms.filter uq⟩):=by show _=_;rw[iZ,HN.o]
   clear HA HN;(go_wp2_with fail)
   go_loopw [64] (fun i wr=>∃(k:Nat) (B:Option Addr) (d:Nat),k<=a.atoms.length/\i=.int .i64 k/\ah wr (w.heap.size+1) (.slice A acc.length c) acc/\af wr (w.heap.size+1) (.slice B ((a.atoms.take k).filter uq).length d) ((a.atoms.take k).filter uq)/\
    ae wr w.heap.size 26 #[.slice A1 a.facts.length c1,.slice A2 a.atoms.length c2]/\ae wr (w.heap.size+1) 26 #[.slice none 0 0,.slice none 0 0]/\ae wr (w.heap.size+1+1) 26 #[.slice A acc.length c,.slice B ((a.atoms.take k).filter uq).length d]/\Below w.heap.size w wr) (fun i _=>a.atoms.length - (intOf i).toNat)
   case atStart=>exact⟨0,none,0,dJ,rfl,of,af.nil _ _,k0,k1,k2,aj⟩
   case round=>
    clear k0 k1 k2 of hB bT fI nZ lZ Ag mE xC;obtain⟨k,B,d,hk,rfl,of,oa,k0,k1,k2,hB⟩:=hrel;(replace bT:=k0.z;replace fI:=k1.cell;replace nZ:=k1.frozen;replace mE:=k1.lt;replace lZ:=k2.cell;replace Ag:=k2.frozen;replace xC:=k2.lt);have Lc:=k2.lt;by_cases hlt:k<a.atoms.length
    ·obtain⟨b,off,rfl,hbl⟩:=h2.blt hlt;obtain⟨g0,g1,g2⟩:=(h2.bz hB).cl hlt;have HT:=ax (lF uq a.atoms k hlt);have Nb:((a.atoms.take k).filter uq).length<=k:=Nat.le_trans (List.length_filter_le _ _) (by simp;omega);obtain⟨xs,hxs⟩:∃xs,xs=(a.atoms.take k).filter uq:=⟨_,rfl⟩;rw[<-hxs] at HT Nb oa k2 lZ;have HX:=ax hxs;clear hxs;cases hk2:(a.atoms[k].kind != 2)
     ·cases hab:(a.atoms[k].a != a.atoms[k].b)
      ·have HN:aJ ((a.atoms.take (k+1)).filter uq=xs):=by show _=_;rw[HT.o,uq,hk2,hab];simp
       have Sa:(a.atoms[k].a == a.atoms[k].b)=true:=by simpa using hab
       go_wp2_with fail
       go_round
       case rel=>exact⟨k+1,B,d,by omega,by go_num,of.bz aj,by rw[HN.o];exact oa.bz aj,k0.alloc _,k1.alloc _,by rw[HN.o];exact k2.alloc _,aj⟩
       case measure=>simp[intOf];omega
      ·have HN:aJ ((a.atoms.take (k+1)).filter uq=xs++[a.atoms[k]]):=by show _=_;rw[HT.o,uq,hk2,hab];simp
       have Sa:(a.atoms[k].a == a.atoms[k].b)=false:=by simpa using hab
       have Nc:=(oa.bz (w':=wr.alloc (.cells #[.int .i64 a.atoms[k].kind,.int .i64 a.atoms[k].a,.int .i64 a.atoms[k].b] tA)) aj).bz (w':=(wr.alloc (.cells #[.int .i64 a.atoms[k].kind,.int .i64 a.atoms[k].a,.int .i64 a.atoms[k].b] tA)).alloc (.cells #[.int .i64 a.atoms[k].kind,.int .i64 a.atoms[k].a,.int .i64 a.atoms[k].b] tA)) aj;(go_wp2_with (at_builtin;refine qG rfl _ _ rfl (v:=.slice B xs.length d) rfl Nc rfl (aB.one (f:=a.atoms[k]) (ae.dA (by simp))) (by simp;omega) (by simp;omega) ?_;intro B' d' w2 Iu hg2 hB3;have z2:=ae.zm (g:=w.heap.size+1+1) ((k2.alloc _).alloc _) Nc.1 hg2 (by decide);have GX:=z2.cell;have QK:=z2.frozen));have z0:=ae.zm (g:=w.heap.size) ((k0.alloc _).alloc _) Nc.1 hg2 (by decide);have z1:=ae.zm (g:=w.heap.size+1) ((k1.alloc _).alloc _) Nc.1 hg2 (by decide);have hBw2:=Below.trans (ai (ai hB _) _) (hB3.mono (Nat.le_succ _));have lQ:=ah.jF ((of.bz (w':=wr.alloc (.cells #[.int .i64 a.atoms[k].kind,.int .i64 a.atoms[k].a,.int .i64 a.atoms[k].b] tA)) aj).bz (w':=(wr.alloc (.cells #[.int .i64 a.atoms[k].kind,.int .i64 a.atoms[k].a,.int .i64 a.atoms[k].b] tA)).alloc (.cells #[.int .i64 a.atoms[k].kind,.int .i64 a.atoms[k].a,.int .i64 a.atoms[k].b] tA)) aj) Nc hg2
       go_round
       case rel=>
        refine⟨k+1,B',d',by omega,by go_num,lQ.aA z2 (by decide) _ _,?_,z0.far (by simp only[];omega) _,z1.far (by simp only[];omega) _,?_,aj⟩
        ·rw[HN.o];simpa using Iu.aA z2 (by decide) _ _
        ·rw[HN.o];simpa using z2.ag 1 (.slice B' (xs.length+1) d')
       case measure=>simp[intOf];omega
     ·have HN:aJ ((a.atoms.take (k+1)).filter uq=xs++[a.atoms[k]]):=by show _=_;rw[HT.o,uq,hk2];simp
      have Nc:=(oa.bz (w':=wr.alloc (.cells #[.int .i64 a.atoms[k].kind,.int .i64 a.atoms[k].a,.int .i64 a.atoms[k].b] tA)) aj).bz (w':=(wr.alloc (.cells #[.int .i64 a.atoms[k].kind,.int .i64 a.atoms[k].a,.int .i64 a.atoms[k].b] tA)).alloc (.cells #[.int .i64 a.atoms[k].kind,.int .i64 a.atoms[k].a,.int .i64 a.atoms[k].b] tA)) aj;(go_wp2_with (at_builtin;refine qG rfl _ _ rfl (v:=.slice B xs.length d) rfl Nc rfl (aB.one (f:=a.atoms[k]) (ae.dA (by simp))) (by simp;omega) (by simp;omega) ?_;intro B' d' w2 Iu hg2 hB3;have z2:=ae.zm (g:=w.heap.size+1+1) ((k2.alloc _).alloc _) Nc.1 hg2 (by decide);have GX:=z2.cell;have QK:=z2.frozen));have z0:=ae.zm (g:=w.heap.size) ((k0.alloc _).alloc _) Nc.1 hg2 (by decide);have z1:=ae.zm (g:=w.heap.size+1) ((k1.alloc _).alloc _) Nc.1 hg2 (by decide);have hBw2:=Below.trans (ai (ai hB _) _) (hB3.mono (Nat.le_succ _));have lQ:=ah.jF ((of.bz (w':=wr.alloc (.cells #[.int .i64 a.atoms[k].kind,.int .i64 a.atoms[k].a,.int .i64 a.atoms[k].b] tA)) aj).bz (w':=(wr.alloc (.cells #[.int .i64 a.atoms[k].kind,.int .i64 a.atoms[k].a,.int .i64 a.atoms[k].b] tA)).alloc (.cells #[.int .i64 a.atoms[k].kind,.int .i64 a.atoms[k].a,.int .i64 a.atoms[k].b] tA)) aj) Nc hg2
      go_round
      case rel=>
       refine⟨k+1,B',d',by omega,by go_num,lQ.aA z2 (by decide) _ _,?_,z0.far (by simp only[];omega) _,z1.far (by simp only[];omega) _,?_,aj⟩
       ·rw[HN.o];simpa using Iu.aA z2 (by decide) _ _
       ·rw[HN.o];simpa using z2.ag 1 (.slice B' (xs.length+1) d')
      case measure=>simp[intOf];omega
    ·obtain rfl:k=a.atoms.length:=by omega
     rw[take_length] at oa k2 lZ;go_wp2;refine bodyPost_ret (v:=.agg #[.slice A acc.length c,.slice B (a.atoms.filter uq).length d]) (by simp[results,Tryz.results102,go_sem,fI]) rfl ⟨_,rfl,?_,aj⟩;rw[HL.o];exact⟨_,_,rfl,((of.aA k1 (by decide) _ _).aA (k1.ag _ _) (by decide) _ _).bq,((oa.aA k1 (by decide) _ _).aA (k1.ag _ _) (by decide) _ _).bq⟩
theorem u16_andNot_nat(a b:Nat)(ha:a<65536)(hb:b<65536):(bits .andNot .u16 (a:Int) (b:Int) == 0)=true↔∀n,a.testBit n=true->b.testBit n=true:=by
 have e:bits .andNot .u16 (a:Int) (b:Int)=(((BitVec.ofInt 16 (a:Int) &&& ~~~ BitVec.ofInt 16 (b:Int)).toNat:Nat):Int):=by
  show IntKind.u16.wrap ((BitVec.ofInt 16 (a:Int) &&& ~~~ BitVec.ofInt 16 (b:Int)).toNat:Int)=_;exact wrap_u16 _ (BitVec.isLt _)
 rw[e]
 have hx:∀n,(BitVec.ofInt 16 (a:Int) &&& ~~~ BitVec.ofInt 16 (b:Int)).toNat.testBit n=(a.testBit n&&(decide (n<16) && !b.testBit n)):=by
  intro n;rw[BitVec.testBit_toNat,BitVec.getLsbD_and,BitVec.getLsbD_not,<-BitVec.testBit_toNat,<-BitVec.testBit_toNat,ofInt_u16 a ha,ofInt_u16 b hb]
 have hlt:∀n,a.testBit n=true->n<16:=by
  intro n hn;rcases Nat.lt_or_ge n 16 with h|h
  ·exact h
  ·have:=Nat.testBit_lt_two_pow (Nat.lt_of_lt_of_le ha (Nat.pow_le_pow_right (n:=2) (by omega) h));rw[this] at hn;cases hn
 simp only[beq_iff_eq];constructor
 ·intro h n hn;have hz:(BitVec.ofInt 16 (a:Int) &&& ~~~ BitVec.ofInt 16 (b:Int)).toNat=0:=by omega
  have:=hx n;rw[hz,Nat.zero_testBit,hn] at this;have hl:=hlt n hn;simp[hl] at this;exact this
 ·intro h
  have:(BitVec.ofInt 16 (a:Int) &&& ~~~ BitVec.ofInt 16 (b:Int)).toNat=0:=by
   apply Nat.eq_of_testBit_eq;intro n;rw[hx,Nat.zero_testBit];cases hn:a.testBit n
   ·rfl
   ·rw[h n hn];simp
  rw[this];rfl
theorem Vk{a b:Nat}(ha:a<512)(hb:b<512):a|||b<512:=Nat.or_lt_two_pow (n:=9) ha hb
theorem aM.Le{w:World}{lo hi e:Nat}{G:Option Addr}{xs:List aL}(h:aB w lo hi G xs):aM w lo hi (.agg #[.slice none 0 0,.slice G xs.length e]) ⟨[],xs⟩:=⟨none,0,G,e,rfl,Rd.nil _ _ _ _ _,h⟩
theorem vI(t:Int)(w:World):Calls Tryz.prog 45 #[.int .u16 0,.int .i64 t] w fun e w'=>e=.returned (.int .u16 (aQ 0 t))/\w=w':=aY 0 t w (by decide)
theorem xD{lo hi:Nat}(v:Value)(a:au)(K:Nat)(w:World)(h:aM w lo hi v a)(hv:a.valid=true)(hK:K<512) :
  Calls Tryz.prog 75 #[v,.int .u16 K] w fun e w'=>∃r,e=.returned r/\aI w' w.heap.size r (bL K a)/\Below w.heap.size w w':=by
 have hV:=ax h;obtain⟨A1,c1,A2,c2,rfl,h1,h2⟩:=h;have HK:=ax hK;have Sb:=ax hv;clear hK hv;(go_enter Tryz.func75,Tryz.ntmps75);obtain⟨k0,k1⟩:=Dh w 26 26 #[.slice A1 a.facts.length c1,.slice A2 a.atoms.length c2] #[.slice none 0 0,.slice none 0 0];(go_wp2_with fail);refine(cz _ a _ (hV.o.bz aj)).mono ?_;rintro e w1 ⟨r,rfl,o,hB1⟩;have hB:=aP (w:=w) aj hB1;(replace k0:=k0.nz hB1;replace bT:=k0.z;replace k1:=k1.nz hB1;replace fI:=k1.cell;replace nZ:=k1.frozen;replace mE:=k1.lt);obtain⟨fv,av,rfl,of,oa⟩:=o;obtain⟨F,d,rfl,-⟩:=of.rj;obtain⟨G,e,rfl,-⟩:=oa.rj;have lz:=k1.lt;clear hB1;(go_wp2_with fail);have Vl:=ax (Nat.le_refl (left K a).length)
 go_loopg [] (left K a).length (fun g wr=>∃(b:au) (F G:Option Addr) (d e:Nat),aJ ((left K b).length<=g)/\aJ (b.valid=true)/\aJ (jk K a=jk K b)/\ah wr (w.heap.size+1+1) (.slice F b.facts.length d) b.facts/\af wr (w.heap.size+1+1) (.slice G b.atoms.length e) b.atoms/\
  ae wr w.heap.size 26 #[.slice F b.facts.length d,.slice G b.atoms.length e]/\ae wr (w.heap.size+1) 26 #[.slice none 0 0,.slice none 0 0]/\Below w.heap.size w wr)
 case atStart=>
  refine⟨a,F,G,d,e,Vl.o,Sb.o,rfl,?_,?_,?_,k1.far (by simp) _ |>.far (by simp) _,aj⟩
  ·simpa using (of.aA k0 (by decide) 0 (.slice F a.facts.length d)).aA (k0.ag _ _) (by decide) 1 (.slice G a.atoms.length e)
  ·simpa using (oa.aA k0 (by decide) 0 (.slice F a.facts.length d)).aA (k0.ag _ _) (by decide) 1 (.slice G a.atoms.length e)
  ·exact(k0.ag 0 _).ag 1 _
 case round=>
  clear k0 k1 bT fI nZ mE of oa hB Vl lz;obtain⟨b,F,G,d,e,HL,wu,HS,of,oa,k0,k1,hB⟩:=hrel;(replace bT:=k0.z;replace fI:=k1.cell;replace nZ:=k1.frozen;replace mE:=k1.lt);have lz:=k1.lt;(go_wp2_with fail);refine(xW F d K b.facts _ of.dG.2 HK.o).mono ?_;rintro e w2 ⟨rfl,hB2⟩;(replace hB:=aP hB hB2;replace of:=of.bz hB2;replace oa:=oa.bz hB2;replace k0:=k0.nz hB2;replace bT:=k0.z;replace k1:=k1.nz hB2;replace fI:=k1.cell;replace nZ:=k1.frozen;replace mE:=k1.lt);replace lz:=k1.lt;have hw2:=k1.lt;clear hB2
  cases hs:bD K b.facts with
  | some p=>
   obtain⟨x,t⟩:=p;have hlt:=ax (nL hs)
   have HT:aJ ((aZ x t b).valid=true):=by
    obtain⟨f,hf,hq⟩:=List.exists_of_findSome?_eq_some hs;have hvb:=wu.o
    have oI:f.valid=true:=by
     simp only[au.valid,aS,Bool.and_eq_true] at hvb;exact List.all_eq_true.1 hvb.1.2 f hf
    simp only[aF.valid,Bool.and_eq_true] at oI;refine wG wu.o ?_;rcases(mR hq).2.2 with ⟨_,e⟩|⟨_,e⟩
    ·rw[e];exact oI.2
    ·rw[e];exact oI.1
   have PI:=ax (jJ hs);simp only[Option.getD_some,Option.isSome_some];clear hs;have hA:aM w2 (w.heap.size+1+1) w2.heap.size (.agg #[.slice F b.facts.length d,.slice G b.atoms.length e]) b:=aI.rj ⟨_,_,rfl,of,oa⟩;have HA:=ax hA;clear hA;(go_wp2_with fail);refine(pg _ b x t _ (HA.o.bz aj)).mono ?_;rintro e w3 ⟨r,rfl,o,hB3⟩;have qj:=aP (w:=w2) aj hB3;(replace hB:=aP hB qj;replace k0:=k0.nz qj;replace bT:=k0.z;replace k1:=k1.nz qj;replace fI:=k1.cell;replace nZ:=k1.frozen;replace mE:=k1.lt);replace lz:=k1.lt;obtain⟨fv,av,rfl,Dl,Zc⟩:=o;obtain⟨F3,d3,rfl,-⟩:=Dl.rj;obtain⟨G3,e3,rfl,-⟩:=Zc.rj;have hz3:=qj.size;rw[World.size_alloc] at Dl Zc;clear hB3 qj of oa;(go_wp2_with fail)
   go_roundg (left K (aZ x t b)).length
   case rel=>
    refine⟨aZ x t b,F3,G3,d3,e3,bn,HT.o,by show _=_;rw[HS.o,PI.o],?_,?_,?_,(k1.far (by simp only[];omega) _).far (by simp only[];omega) _,aj⟩
    ·exact((Dl.aA k0 (by decide) _ _).aA (k0.ag _ _) (by decide) _ _).bq (by have:=hB.size;omega)
    ·exact((Zc.aA k0 (by decide) _ _).aA (k0.ag _ _) (by decide) _ _).bq (by have:=hB.size;omega)
    ·exact(k0.ag 0 _).ag 1 _
   case measure=>have:=HL.o;have:=hlt.o;omega
  | none=>
   have PI:=ax (gU hs)
   have HT:aJ (bL K a=iZ ⟨b.facts.filter (bE (K|||aO (mz ⟨[],b.atoms⟩))),b.atoms⟩):=by
    show _=_;unfold bL;rw[HS.o,PI.o]
   simp only[Option.getD_none,Option.isSome_none];clear hs HS PI HL;have HA:=ax (aM.Le (e:=e) oa.dG.2);(go_wp2_with fail);refine(di _ ⟨[],b.atoms⟩ _ (HA.o.bz aj)).mono ?_;rintro e w3 ⟨rfl,hB3⟩;have qj:=aP (w:=w2) aj hB3;(replace hB:=aP hB qj;replace of:=of.bz qj;replace oa:=oa.bz qj;replace k0:=k0.nz qj;replace bT:=k0.z;replace k1:=k1.nz qj;replace fI:=k1.cell;replace nZ:=k1.frozen;replace mE:=k1.lt);replace lz:=k1.lt;have hT:=dI (mz ⟨[],b.atoms⟩);generalize aO (mz ⟨[],b.atoms⟩)=T at hT HT;have hK:=HK.o;have hor:=u16_or_nat K T (by omega) (by omega);have hU:K|||T<512:=Vk hK hT;generalize K|||T=U at hor hU HT;have hlb:b.facts.length<=1049600:=of.2;clear hB3 qj HA hT hK;(go_wp2_with fail);have kr:=ae.new w3 26 #[.slice none 0 0,.slice G b.atoms.length e];have hf:aG (w3.alloc (.cells #[.slice none 0 0,.slice G b.atoms.length e] 26)) 0 w3.heap.size F b.facts:=(of.dG.2.bz aj).mono dJ bn;replace oa:=oa.bz (w':=w3.alloc (.cells #[.slice none 0 0,.slice G b.atoms.length e] 26)) aj;replace k1:=k1.alloc (.cells #[.slice none 0 0,.slice G b.atoms.length e] 26);replace hB:=ai hB (.cells #[.slice none 0 0,.slice G b.atoms.length e] 26);clear k0 bT fI nZ mE of hor;have lV:w3.heap.size<(w3.alloc (.cells #[.slice none 0 0,.slice G b.atoms.length e] 26)).heap.size:=kr.lt;generalize (w3.alloc (.cells #[.slice none 0 0,.slice G b.atoms.length e] 26))=V at kr hf oa k1 hB lV⊢;obtain⟨pr,hpr⟩:∃p,p=w3.heap.size:=⟨_,rfl⟩;rw[<-hpr] at kr hf lz lV⊢;clear hpr
   go_loopw [41] (fun i wr=>∃(k:Nat) (acc:List aF) (A:Option Addr) (c:Nat),k<=b.facts.length/\i=.int .i64 k/\aJ (acc=(b.facts.take k).filter (bE U))/\acc.length<=k/\ah wr (pr+1) (.slice A acc.length c) acc/\aG wr 0 pr F b.facts/\af wr (w.heap.size+1+1) (.slice G b.atoms.length e) b.atoms/\
    ae wr (w.heap.size+1) 26 #[.slice none 0 0,.slice none 0 0]/\ae wr pr 26 #[.slice A acc.length c,.slice G b.atoms.length e]/\Below w.heap.size w wr) (fun i _=>b.facts.length - (intOf i).toNat)
   case atStart=>exact⟨0,[],none,0,dJ,rfl,by simp[aJ],bn,ah.nil _ _,hf,oa,k1,kr,hB⟩
   case round=>
    clear kr hf oa k1 hB lV;obtain⟨k,acc,A,c,hk,rfl,mG,hal,of,hf,oa,k1,kr,hB⟩:=hrel;(replace fI:=k1.cell;replace nZ:=k1.frozen;replace mE:=k1.lt;replace uS:=kr.z);by_cases hlt:k<b.facts.length
    ·obtain⟨b2,o2,rfl,hb2⟩:=hf.blt hlt;obtain⟨g0,g1,g2⟩:=hf.cl hlt;have yL:=ax (lF (bE U) b.facts k hlt)
     have oI:b.facts[k].valid=true:=by
      have hvb:=wu.o;simp only[au.valid,aS,Bool.and_eq_true] at hvb;exact List.all_eq_true.1 hvb.1.2 _ (List.getElem_mem hlt)
     have hS1:=bC (S:=0) (by decide) b.facts[k].a;have hS2:=bC hS1 b.facts[k].b;have uB:=sS hS2;have hiff:=(u16_andNot_nat (lG (aQ (aQ 0 b.facts[k].a) b.facts[k].b)) U (by omega) (by omega)).trans (H6 oI).symm;cases hok:bE U b.facts[k]
     ·have ht:(bits .andNot .u16 ((lG (aQ (aQ 0 b.facts[k].a) b.facts[k].b):Nat):Int) (U:Int) == 0)=false:=by
       rw[Bool.eq_false_iff];intro h;have:=hiff.1 h;rw[hok] at this;cases this
      have HN:aJ ((b.facts.take (k+1)).filter (bE U)=acc):=by show _=_;rw[yL.o,hok,<-mG.o];simp
      clear hiff hok oI;(go_wp2_with fail);(go_quiet (first|(go_at_call 45;first|(with_reducible exact Calls.quiet_of_same ((vI _ _).mono fun _ _ ⟨a,b⟩=>⟨a,b.symm⟩))|exact Calls.quiet_of_same ((aY _ _ _ (by assumption)).mono fun _ _ ⟨a,b⟩=>⟨a,b.symm⟩))|(go_at_call 20;exact Calls.quiet_of_same ((ky _ _ (by assumption)).mono fun _ _ ⟨a,b⟩=>⟨a,b.symm⟩))));(go_wp2_with fail)
      go_round
      case rel=>exact⟨k+1,acc,A,c,by omega,by go_num,by show _=_;rw[HN.o],by omega,of.bz aj,hf.bz aj,oa.bz aj,(k1.alloc _).drewN _,(kr.alloc _).drewN _,aj⟩
      case measure=>simp[intOf];omega
     ·have ht:(bits .andNot .u16 ((lG (aQ (aQ 0 b.facts[k].a) b.facts[k].b):Nat):Int) (U:Int) == 0)=true:=hiff.2 hok;have HN:aJ ((b.facts.take (k+1)).filter (bE U)=acc++[b.facts[k]]):=by show _=_;rw[yL.o,hok,<-mG.o];simp
      clear hiff hok oI;(go_wp2_with fail);(go_quiet (first|(go_at_call 45;first|(with_reducible exact Calls.quiet_of_same ((vI _ _).mono fun _ _ ⟨a,b⟩=>⟨a,b.symm⟩))|exact Calls.quiet_of_same ((aY _ _ _ (by assumption)).mono fun _ _ ⟨a,b⟩=>⟨a,b.symm⟩))|(go_at_call 20;exact Calls.quiet_of_same ((ky _ _ (by assumption)).mono fun _ _ ⟨a,b⟩=>⟨a,b.symm⟩))));have kf:=(ae.new wr tF #[.bool b.facts[k].eq,.int .i64 b.facts[k].a,.int .i64 b.facts[k].b]).drewN nq;replace of:=of.bz (w':=(wr.alloc (.cells #[.bool b.facts[k].eq,.int .i64 b.facts[k].a,.int .i64 b.facts[k].b] tF)).drewN nq) aj;replace hf:=hf.bz (w':=(wr.alloc (.cells #[.bool b.facts[k].eq,.int .i64 b.facts[k].a,.int .i64 b.facts[k].b] tF)).drewN nq) aj;replace oa:=oa.bz (w':=(wr.alloc (.cells #[.bool b.facts[k].eq,.int .i64 b.facts[k].a,.int .i64 b.facts[k].b] tF)).drewN nq) aj;replace k1:=(k1.alloc (.cells #[.bool b.facts[k].eq,.int .i64 b.facts[k].a,.int .i64 b.facts[k].b] tF)).drewN nq;replace kr:=(kr.alloc (.cells #[.bool b.facts[k].eq,.int .i64 b.facts[k].a,.int .i64 b.facts[k].b] tF)).drewN nq;replace hB:=below_drewN (ai hB (.cells #[.bool b.facts[k].eq,.int .i64 b.facts[k].a,.int .i64 b.facts[k].b] tF)) nq;clear fI nZ mE uS g0 g1 g2 ht;generalize (wr.alloc (.cells #[.bool b.facts[k].eq,.int .i64 b.facts[k].a,.int .i64 b.facts[k].b] tF)).drewN nq=V2 at kf of hf oa k1 kr hB⊢;(replace Zb:=kf.z;replace uS:=kr.z;replace fI:=k1.cell;replace nZ:=k1.frozen;replace mE:=k1.lt);have rf:=of.bz (w':=V2.alloc (.cells #[.bool b.facts[k].eq,.int .i64 b.facts[k].a,.int .i64 b.facts[k].b] tF)) aj;(go_wp2_with (at_builtin;refine gN rfl _ _ rfl (v:=.slice A acc.length c) rfl rf rfl (aG.one (f:=b.facts[k]) (ae.new V2 _ _)) (by simp;omega) (by simp;omega) ?_;intro A' c' w5 lQ hg2 bW;have z2:=ae.zm (g:=pr) (kr.alloc _) rf.1 hg2 (by decide);have GX:=z2.cell;have QK:=z2.frozen));have z1:=ae.zm (g:=w.heap.size+1) (k1.alloc _) rf.1 hg2 (by decide);have Iu:=af.lY (oa.bz (w':=V2.alloc (.cells #[.bool b.facts[k].eq,.int .i64 b.facts[k].a,.int .i64 b.facts[k].b] tF)) aj) rf hg2;have hf2:=(hf.bz (w':=V2.alloc (.cells #[.bool b.facts[k].eq,.int .i64 b.facts[k].a,.int .i64 b.facts[k].b] tF)) aj).gp bW (Nat.le_succ _);have hBw2:=Below.trans (ai hB _) (bW.mono (by omega))
      go_round
      case rel=>
       refine⟨k+1,acc++[b.facts[k]],A',c',by omega,by go_num,by show _=_;rw[HN.o],by simp;omega,?_,Rd.kM hf2 (Or.inr (by simp)) _,Iu.aA z2 (by decide) _ _,z1.far (by simp only[];omega) _,?_,aj⟩
       ·simpa using lQ.aA z2 (by decide) _ _
       ·simpa using z2.ag 0 (.slice A' (acc.length+1) c')
      case measure=>simp[intOf];omega
    ·obtain rfl:k=b.facts.length:=by omega
     have hacc:acc=b.facts.filter (bE U):=by have:=mG.o;rwa [take_length] at this
     subst hacc;have HA:aJ (aM wr 0 wr.heap.size (.agg #[.slice A (b.facts.filter (bE U)).length c,.slice G b.atoms.length e]) ⟨b.facts.filter (bE U),b.atoms⟩):=⟨A,c,G,e,rfl,of.dG.2.mono dJ bn,oa.dG.2.mono dJ bn⟩;clear mG of hf;(go_wp2_with fail);refine(vH _ ⟨b.facts.filter (bE U),b.atoms⟩ _ HA.o).mono ?_;rintro e w4 ⟨r,rfl,o,hB4⟩;have hwr:=hB.size;(replace hB:=aP hB hB4;replace k1:=k1.nz hB4;replace fI:=k1.cell;replace nZ:=k1.frozen;replace mE:=k1.lt);rw[<-HT.o] at o;obtain⟨fv,av,rfl,Et,Mw⟩:=o;obtain⟨F4,d4,rfl,-⟩:=Et.rj;obtain⟨G4,e4,rfl,-⟩:=Mw.rj;clear hB4 kr uS oa;go_wp2;refine bodyPost_ret (v:=.agg #[.slice F4 (bL K a).facts.length d4,.slice G4 (bL K a).atoms.length e4]) (by simp[results,Tryz.results75,go_sem,fI]) rfl ⟨_,rfl,⟨_,_,rfl,?_,?_⟩,aj⟩
     ·exact((Et.aA k1 (by decide) _ _).aA (k1.ag _ _) (by decide) _ _).bq hwr
     ·exact((Mw.aA k1 (by decide) _ _).aA (k1.ag _ _) (by decide) _ _).bq hwr
theorem Iw{lo hi bJ hi':Nat}(A A':Option Addr)(c c':Nat)(fs gs:List aF)(w:World)(h:aG w lo hi A fs)(h':aG w bJ hi' A' gs):Calls Tryz.prog 57 #[.slice A fs.length c,.slice A' gs.length c'] w fun e w'=>e=.returned (.bool (decide (fs=gs)))/\Below w.heap.size w w':=by
 have hl:=h.le;have hl':=h'.le;have H:=ax h;have H':=ax h';clear h h';by_cases hn:fs.length=gs.length
 ·have hn':((fs.length:Int) != (gs.length:Int))=false:=by simp[hn]
  have HN:=ax hn;clear hn;(go_enter Tryz.func57,Tryz.ntmps57);(go_wp2_with fail);clear hn'
  go_loopw [14] (fun i wr=>∃k:Nat,k<=fs.length/\i=.int .i64 k/\aJ (decide (fs=gs)=decide (fs.drop k=gs.drop k))/\aJ (Below w.heap.size w wr)) (fun i _=>fs.length - (intOf i).toNat)
  case atStart=>exact⟨0,dJ,rfl,by show _=_;simp,aU⟩
  case round=>
   obtain⟨k,hk,rfl,HA,HB⟩:=hrel;by_cases hlt:k<fs.length
   ·have hlt':k<gs.length:=by have:=HN.o;omega
    obtain⟨b,off,rfl,g0,g1,g2⟩:=(H.o.bz HB.o).at hlt;obtain⟨b',off',rfl,j0,j1,j2⟩:=(H'.o.bz HB.o).at hlt';have HD:=ax (drop_eq fs gs k hlt hlt');have hki:(k:Int)<(fs.length:Int):=by omega
    have Zd:(k:Int)<(gs.length:Int):=by omega
    obtain⟨f,hf⟩:∃f,f=fs[k]:=⟨_,rfl⟩;obtain⟨g,hg⟩:∃g,g=gs[k]:=⟨_,rfl⟩;rw[<-hf] at g0 g1 g2 HD;rw[<-hg] at j0 j1 j2 HD;have hbl:=block_lt_of_cell g0;have Ze:=block_lt_of_cell j0;have hB':Below w.heap.size w wr:=HB.o;clear hf hg;by_cases f1:f.eq=g.eq
    ·by_cases f2:f.a=g.a
     ·by_cases f3:f.b=g.b
      ·have E:aJ (decide (f=g)=true):=by show _=_;rw[decide_eq_true_eq];exact(aF.eq_iff f g).2 ⟨f1,f2,f3⟩
       rw[f1] at g0;rw[f2] at g1;rw[f3] at g2;clear f1 f2 f3;(go_wp2_with fail);(go_quiet (fail));(go_wp2_with fail)
       go_round
       case rel=>exact⟨k+1,by omega,by go_num,by show _=_;rw[HA.o,HD.o,E.o];rfl,below_drewN (ai HB.o _) _⟩
       case measure=>simp[intOf];omega
      ·have E:aJ (decide (f=g)=false):=by show _=_;rw[decide_eq_false_iff_not];exact fun e=>f3 ((aF.eq_iff f g).1 e).2.2
       have e3:(f.b == g.b)=false:=by simpa using f3
       rw[f1] at g0;rw[f2] at g1;clear f1 f2 f3;(go_wp2_with fail);(go_quiet (fail));go_wp2;go_ret;exact⟨dz (by rw[HA.o,HD.o,E.o];rfl),below_drewN (ai HB.o _) _⟩
     ·have E:aJ (decide (f=g)=false):=by show _=_;rw[decide_eq_false_iff_not];exact fun e=>f2 ((aF.eq_iff f g).1 e).2.1
      have e2:(f.a == g.a)=false:=by simpa using f2
      rw[f1] at g0;clear f1 f2;(go_wp2_with fail);(go_quiet (fail));go_wp2;go_ret;exact⟨dz (by rw[HA.o,HD.o,E.o];rfl),below_drewN (ai HB.o _) _⟩
    ·have E:aJ (decide (f=g)=false):=by show _=_;rw[decide_eq_false_iff_not];exact fun e=>f1 ((aF.eq_iff f g).1 e).1
     have e1:(f.eq == g.eq)=false:=by simpa using f1
     clear f1;(go_wp2_with fail);(go_quiet (fail));go_wp2;go_ret;exact⟨dz (by rw[HA.o,HD.o,E.o];rfl),below_drewN (ai HB.o _) _⟩
   ·obtain rfl:k=fs.length:=by omega
    have E:aJ (decide (fs=gs)=true):=by show _=_;rw[HA.o,drop_length,HN.o,drop_length];simp
    go_wp2;go_ret;exact⟨dz E.o.symm,HB.o⟩
 ·have hn':((fs.length:Int) != (gs.length:Int))=true:=by simp;omega
  have E:aJ (decide (fs=gs)=false):=by show _=_;rw[decide_eq_false_iff_not];exact fun e=>hn (by rw[e])
  clear hn;(go_enter Tryz.func57,Tryz.ntmps57);go_wp2;go_ret;exact⟨dz E.o.symm,aU⟩
theorem Iy{lo hi bJ hi':Nat}(A A':Option Addr)(c c':Nat)(fs gs:List aL)(w:World)(h:aB w lo hi A fs)(h':aB w bJ hi' A' gs):Calls Tryz.prog 58 #[.slice A fs.length c,.slice A' gs.length c'] w fun e w'=>e=.returned (.bool (decide (fs=gs)))/\Below w.heap.size w w':=by
 have hl:=h.le;have hl':=h'.le;have H:=ax h;have H':=ax h';clear h h';by_cases hn:fs.length=gs.length
 ·have hn':((fs.length:Int) != (gs.length:Int))=false:=by simp[hn]
  have HN:=ax hn;clear hn;(go_enter Tryz.func58,Tryz.ntmps58);(go_wp2_with fail);clear hn'
  go_loopw [14] (fun i wr=>∃k:Nat,k<=fs.length/\i=.int .i64 k/\aJ (decide (fs=gs)=decide (fs.drop k=gs.drop k))/\aJ (Below w.heap.size w wr)) (fun i _=>fs.length - (intOf i).toNat)
  case atStart=>exact⟨0,dJ,rfl,by show _=_;simp,aU⟩
  case round=>
   obtain⟨k,hk,rfl,HA,HB⟩:=hrel;by_cases hlt:k<fs.length
   ·have hlt':k<gs.length:=by have:=HN.o;omega
    obtain⟨b,off,rfl,g0,g1,g2⟩:=(H.o.bz HB.o).at hlt;obtain⟨b',off',rfl,j0,j1,j2⟩:=(H'.o.bz HB.o).at hlt';have HD:=ax (drop_eq fs gs k hlt hlt');have hki:(k:Int)<(fs.length:Int):=by omega
    have Zd:(k:Int)<(gs.length:Int):=by omega
    obtain⟨f,hf⟩:∃f,f=fs[k]:=⟨_,rfl⟩;obtain⟨g,hg⟩:∃g,g=gs[k]:=⟨_,rfl⟩;rw[<-hf] at g0 g1 g2 HD;rw[<-hg] at j0 j1 j2 HD;have hbl:=block_lt_of_cell g0;have Ze:=block_lt_of_cell j0;have hB':Below w.heap.size w wr:=HB.o;clear hf hg;by_cases f1:f.kind=g.kind
    ·by_cases f2:f.a=g.a
     ·by_cases f3:f.b=g.b
      ·have E:aJ (decide (f=g)=true):=by show _=_;rw[decide_eq_true_eq];exact(aL.eq_iff f g).2 ⟨f1,f2,f3⟩
       rw[f1] at g0;rw[f2] at g1;rw[f3] at g2;clear f1 f2 f3;(go_wp2_with fail);(go_quiet (fail));(go_wp2_with fail)
       go_round
       case rel=>exact⟨k+1,by omega,by go_num,by show _=_;rw[HA.o,HD.o,E.o];rfl,below_drewN (ai HB.o _) _⟩
       case measure=>simp[intOf];omega
      ·have E:aJ (decide (f=g)=false):=by show _=_;rw[decide_eq_false_iff_not];exact fun e=>f3 ((aL.eq_iff f g).1 e).2.2
       have e3:(f.b == g.b)=false:=by simpa using f3
       rw[f1] at g0;rw[f2] at g1;clear f1 f2 f3;(go_wp2_with fail);(go_quiet (fail));go_wp2;go_ret;exact⟨dz (by rw[HA.o,HD.o,E.o];rfl),below_drewN (ai HB.o _) _⟩
     ·have E:aJ (decide (f=g)=false):=by show _=_;rw[decide_eq_false_iff_not];exact fun e=>f2 ((aL.eq_iff f g).1 e).2.1
      have e2:(f.a == g.a)=false:=by simpa using f2
      rw[f1] at g0;clear f1 f2;(go_wp2_with fail);(go_quiet (fail));go_wp2;go_ret;exact⟨dz (by rw[HA.o,HD.o,E.o];rfl),below_drewN (ai HB.o _) _⟩
    ·have E:aJ (decide (f=g)=false):=by show _=_;rw[decide_eq_false_iff_not];exact fun e=>f1 ((aL.eq_iff f g).1 e).1
     have e1:(f.kind == g.kind)=false:=by simpa using f1
     clear f1;(go_wp2_with fail);(go_quiet (fail));go_wp2;go_ret;exact⟨dz (by rw[HA.o,HD.o,E.o];rfl),below_drewN (ai HB.o _) _⟩
   ·obtain rfl:k=fs.length:=by omega
    have E:aJ (decide (fs=gs)=true):=by show _=_;rw[HA.o,drop_length,HN.o,drop_length];simp
    go_wp2;go_ret;exact⟨dz E.o.symm,HB.o⟩
 ·have hn':((fs.length:Int) != (gs.length:Int))=true:=by simp;omega
  have E:aJ (decide (fs=gs)=false):=by show _=_;rw[decide_eq_false_iff_not];exact fun e=>hn (by rw[e])
  clear hn;(go_enter Tryz.func58,Tryz.ntmps58);go_wp2;go_ret;exact⟨dz E.o.symm,aU⟩
theorem Fs{lo hi bJ hi':Nat}(v v':Value)(a b:au)(w:World)(h:aM w lo hi v a)(h':aM w bJ hi' v' b):Calls Tryz.prog 31 #[v,v'] w fun e w'=>e=.returned (.bool (decide (a=b)))/\Below w.heap.size w w':=by
 obtain⟨A1,c1,A2,c2,rfl,h1,h2⟩:=h;obtain⟨A3,c3,A4,c4,rfl,h3,h4⟩:=h';have H1:=ax h1;have H2:=ax h2;have H3:=ax h3;have H4:=ax h4;have HE:=ax (au.eq_iff a b);clear h1 h2 h3 h4;(go_enter Tryz.func31,Tryz.ntmps31);have k0:ae ((w.alloc (.cells #[.slice A1 a.facts.length c1,.slice A2 a.atoms.length c2] 26)).alloc (.cells #[.slice A3 b.facts.length c3,.slice A4 b.atoms.length c4] 26)) w.heap.size 26 #[.slice A1 a.facts.length c1,.slice A2 a.atoms.length c2]:=az;have k1:ae ((w.alloc (.cells #[.slice A1 a.facts.length c1,.slice A2 a.atoms.length c2] 26)).alloc (.cells #[.slice A3 b.facts.length c3,.slice A4 b.atoms.length c4] 26)) (w.heap.size+1) 26 #[.slice A3 b.facts.length c3,.slice A4 b.atoms.length c4]:=az;(go_wp2_with fail);refine(Iw _ _ _ _ a.facts b.facts _ (H1.o.bz aj) (H3.o.bz aj)).mono ?_;rintro e w1 ⟨rfl,hB1⟩;have hB:=aP (w:=w) aj hB1;replace k0:=k0.nz hB1;replace k1:=k1.nz hB1;(replace bT:=k0.z;replace fI:=k1.z);clear hB1;cases hf:decide (a.facts=b.facts)
 ·have E:aJ (decide (a=b)=false):=by show _=_;rw[decide_eq_false_iff_not,HE.o];exact fun e=>by rw[decide_eq_false_iff_not] at hf;exact hf e.1
  clear hf;go_wp2;go_ret;exact⟨dz E.o.symm,hB⟩
 ·have E:aJ (decide (a=b)=decide (a.atoms=b.atoms)):=by show _=_;rw[decide_eq_decide,HE.o];rw[decide_eq_true_eq] at hf;exact⟨fun e=>e.2,fun e=>⟨hf,e⟩⟩
  clear hf;(go_wp2_with fail);refine(Iy _ _ _ _ a.atoms b.atoms _ (H2.o.bz hB) (H4.o.bz hB)).mono ?_;rintro e w2 ⟨rfl,hB2⟩;go_wp2;go_ret;exact⟨dz E.o.symm,aP hB hB2⟩
theorem aM.Ah{w:World}{lo hi:Nat}{v:Value}{a:au}(h:aM w lo hi v a)(hh:hi<=w.heap.size):aM w 0 w.heap.size v a:=by
 obtain⟨A1,c1,A2,c2,e,h1,h2⟩:=h;exact⟨A1,c1,A2,c2,e,h1.mono dJ hh,h2.mono dJ hh⟩
theorem bg.Xw{w:World}{base n c:Nat}{A:Option Addr}{vs:List Value}{ss:List au}(h:bg w base (.slice A n c) vs ss){k:Nat}(hk:k<ss.length):∃b o B c D d,A=some ⟨b,o,none⟩/\b<w.heap.size/\w.cell? ⟨b,o+k*2,none⟩=some (.slice B ss[k].facts.length c)/\w.cell? ⟨b,o+k*2+1,none⟩=some (.slice D ss[k].atoms.length d)/\eB w base w.heap.size (.agg #[.slice B ss[k].facts.length c,.slice D ss[k].atoms.length d]) ss[k]:=by
 have h1:=h.rd;have hl:vs.length=ss.length * 2:=h1.raw.1;have hr:=sQ ss;obtain⟨b,o,e,-,-,hc⟩:=h1.raw.form (by omega);obtain⟨g1,g2⟩:=wN ss k hk;have r1:=h.els.at_ (k*2) (by omega) (by omega);have r2:=h.els.at_ (k*2+1) (by omega) (by omega);have x1:(bN ss)[k*2]'(by omega)=.inl ss[k].facts:=by rw[List.getElem?_eq_getElem (by omega)] at g1;exact Option.some.inj g1
 have x2:(bN ss)[k*2+1]'(by omega)=.inr ss[k].atoms:=by rw[List.getElem?_eq_getElem (by omega)] at g2;exact Option.some.inj g2
 rw[x1] at r1;rw[x2] at r2;have c1:=hc (k*2) _ (List.getElem?_eq_getElem (by omega));have c2:=hc (k*2+1) _ (List.getElem?_eq_getElem (by omega));have r1:ah w base vs[k*2] ss[k].facts:=r1;have r2:af w base vs[k*2+1] ss[k].atoms:=r2;obtain⟨B,c,e1,-⟩:=r1.rj;obtain⟨D,d,e2,-⟩:=r2.rj;rw[e1] at c1 r1;rw[e2] at c2 r2;exact⟨b,o,B,c,D,d,e,block_lt_of_cell c1,c1,c2,aI.C ⟨_,_,rfl,r1,r2⟩⟩
theorem DD{lo hi bJ hi':Nat}(v v':Value)(a:au)(w:World)(h:aM w lo hi v a)(h':aM w bJ hi' v' a):Calls Tryz.prog 31 #[v,v'] w fun e w'=>e=.returned (.bool true)/\Below w.heap.size w w':=by
 refine(Fs v v' a a w h h').mono ?_;rintro e w' ⟨rfl,hB⟩;exact⟨by simp,hB⟩
theorem vJ{lo hi bJ hi':Nat}(A A':Option Addr)(c c':Nat)(x:List au)(w:World)(h:vw w lo hi A x)(h':vw w bJ hi' A' x):Calls Tryz.prog 7 #[.slice A x.length c,.slice A' x.length c'] w fun e w'=>e=.returned (.bool true)/\Below w.heap.size w w':=by
 have hl:x.length<=1049600:=by obtain⟨vs,h1,-⟩:=h;exact h1.lim
 have H:=ax h;have H':=ax h';clear h h';(go_enter Tryz.func7,Tryz.ntmps7);(go_wp2_with fail)
 go_loopw [5] (fun i wr=>∃k:Nat,k<=x.length/\i=.int .i64 k/\aJ (Below w.heap.size w wr)) (fun i _=>x.length - (intOf i).toNat)
 case atStart=>exact⟨0,dJ,rfl,ax aU⟩
 case round=>
  obtain⟨k,hk,rfl,HB⟩:=hrel;by_cases hlt:k<x.length
  ·obtain⟨b,o,R,d,R2,d2,rfl,lb,g0,g1,v0,v1⟩:=(H.o.bz HB.o).at hlt;obtain⟨b',o',R',d',R2',d2',rfl,lb',g0',g1',v0',v1'⟩:=(H'.o.bz HB.o).at hlt;have hkx:(k:Int)<(x.length:Int):=by omega
   have S1:aJ (aM wr lo hi (.agg #[.slice R x[k].facts.length d,.slice R2 x[k].atoms.length d2]) x[k]):=ax ⟨_,_,_,_,rfl,v0,v1⟩;have S2:aJ (aM wr bJ hi' (.agg #[.slice R' x[k].facts.length d',.slice R2' x[k].atoms.length d2']) x[k]):=ax ⟨_,_,_,_,rfl,v0',v1'⟩;clear v0 v1 v0' v1';obtain⟨s,hs⟩:∃s,s=x[k]:=⟨_,rfl⟩;rw[<-hs] at g0 g1 g0' g1' S1 S2;clear hs;go_wp2;refine lS (S:=(fun w'=>(w'.cell? ⟨b,o+k*2,none⟩=some (.slice R s.facts.length d)/\w'.cell? ⟨b,o+k*2+1,none⟩=some (.slice R2 s.atoms.length d2))/\w'.cell? ⟨b',o'+k*2,none⟩=some (.slice R' s.facts.length d')/\w'.cell? ⟨b',o'+k*2+1,none⟩=some (.slice R2' s.atoms.length d2'))) (⟨⟨g0,g1⟩,g0',g1'⟩) fun aH=>?_;refine jQ 0 1 2 3 4 ?_;refine yU 5 6 7 ?_;refine aX 8 rfl fun K hK=>?_;(try simp only[zz]);(go_simp;refine(DD _ _ s _ (S1.o.bz aU.drew) (S2.o.bz aU.drew)).mono ?_;rintro e w1 ⟨rfl,hB1⟩;have hS:Below wr.heap.size wr w1:=aU.drew.trans hB1);refine hK.out _ _ (⟨⟨(hS.cell (p:=⟨b,o+k*2,none⟩) lb).trans g0,(hS.cell (p:=⟨b,o+k*2+1,none⟩) lb).trans g1⟩,(hS.cell (p:=⟨b',o'+k*2,none⟩) lb').trans g0',(hS.cell (p:=⟨b',o'+k*2+1,none⟩) lb').trans g1'⟩) ?_;clear aH hK K;intro aH;refine jh 9 ?_;refine jP ?_;have HB2:=bF HB hS;(go_wp2_with fail)
   go_round
   case rel=>exact⟨k+1,by omega,by go_num,HB2⟩
   case measure=>simp[intOf];omega
  ·obtain rfl:k=x.length:=by omega
   go_wp2;go_ret;exact⟨rfl,HB.o⟩
end
end Go.Proofs.YtjbboklnegfohaaGreat
