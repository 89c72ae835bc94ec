/- Programs: validity, plain. -/
import Derived.Test.YtgdfdmjnadnlnaaGreatCmdH
import Derived.Test.YtgdfdmjnadnlnaaGreatMStSame
import Derived.IntWalk
set_option linter.unusedSimpArgs false
set_option linter.unusedVariables false
set_option maxRecDepth 100000
set_option maxHeartbeats 25600000
namespace Go.Proofs.YtgdfdmjnadnlnaaGreat
section
open Go Go.RowKit Go.Proofs
def fvalB (k a b:Int) (t:Fct) (i:Asn) (body els:Cms):Bool:=
 if k=6 then decide (a=0)&&(decide (b=0)&&(t.valid&&noAsn i))
 else if k=7 then decide (a=0)&&(decide (b=0)&&(t.valid&&(i.valid&&decide (els.len=0))))
 else plainB t i body els&&fieldsB k a b
def Cms.shape:Cms→Nat→Bool
 | .nil,_=>true
 | .cons k a b t i body els r,d=>decide (0<d)&&(fvalB k a b t i body els&&(body.shape (d - 1)&&(els.shape (d - 1)&&r.shape d)))
def Cms.count:Cms→Nat→Nat
 | .nil,_=>0
 | .cons _ _ _ _ _ body els r,d=>if 0<d then body.count (d - 1)+els.count (d - 1)+1+r.count d else 0
theorem Cms.sz_cost:∀ (L:Cms),L.sz≤L.len+L.cost
 | .nil=>Nat.le_refl _
 | .cons k a b t i body els r=>by
  simp only[Cms.sz,Cms.len,Cms.cost];have h1:=Cms.sz_cost body;have h2:=Cms.sz_cost els;have h3:=Cms.sz_cost r;omega
def Cms.prog (L:Cms):Bool:=L.shape 4&&decide (L.sz≤16)
theorem fvalB_basic {k a b:Int} {t:Fct} {i:Asn} {body els:Cms} (h6:k≠6) (h7:k≠7):fvalB k a b t i body els=(plainB t i body els&&fieldsB k a b):=by
 unfold fvalB;rw[if_neg h6,if_neg h7]
theorem fieldsB_basic {k a b:Int} (h:fieldsB k a b=true):1≤k∧k≤5:=by
 unfold fieldsB at h
 split at h
 ·rename_i h1;rcases h1 with rfl|rfl<;>omega
 split at h
 ·omega
 split at h
 ·omega
 split at h
 ·omega
 ·cases h
def CmsW (w:World) (lo hi:Nat) (A:Option Addr) (L:Cms):Prop:=CmsV w lo hi A L∧L.len+L.cost≤1048576
section
variable {w w':World} {lo hi lo' hi' a b:Nat} {v:Value} {A:Option Addr} {L:Cms}
theorem CmsW.bz (h:CmsW w lo hi A L) (hb:Below w.heap.size w w'):CmsW w' lo hi A L:=⟨h.1.bz hb,h.2⟩
theorem CmsW.mono (h:CmsW w lo hi A L) (e1:lo'≤lo) (e2:hi≤hi'):CmsW w lo' hi' A L:=⟨h.1.mono e1 e2,h.2⟩
theorem CmsW.len (h:CmsW w lo hi A L):L.len≤1049600:=by have:=h.2;omega
theorem CmsW.small (h:CmsW w lo hi A L):L.small 1049600:=Cms.cost_small (by have:=h.2;omega)
theorem CmsW.sz (h:CmsW w lo hi A L):L.sz≤1049600:=by have:=h.2;have:=Cms.sz_cost L;omega
end
section
variable {w w':World} {lo hi lo' hi' a b:Nat} {v:Value} {A:Option Addr} {L:Cms}
end
end
section
open Go Go.RowKit Go.Proofs
attribute [local go_sem ↓] Go.wp_at_zero Go.wp_at_succ
structure Cm1 where
 k:Int
 a:Int
 b:Int
 t:Fct
 i:Asn
 body:Cms
 els:Cms
def Cm1.cost (x:Cm1):Nat:=cost1 x.i x.body x.els
def Cm1.marks (x:Cm1):Nat:=3 * x.i.facts.length+3 * x.i.atoms.length+x.body.marks+x.els.marks
def C1V (w:World) (lo hi:Nat) (v:Value) (x:Cm1):Prop:=∃ A1 c1 A2 c2 A3 c3 A4 c4,v=.agg #[.int .i64 x.k,.int .i64 x.a,.int .i64 x.b,.bool x.t.eq,.int .i64 x.t.a,.int .i64 x.t.b,.slice A1 x.i.facts.length c1,.slice A2 x.i.atoms.length c2,.slice A3 x.body.len c3,.slice A4 x.els.len c4]∧
 AsnV w lo hi (.agg #[.slice A1 x.i.facts.length c1,.slice A2 x.i.atoms.length c2]) x.i∧CmsW w lo hi A3 x.body∧CmsW w lo hi A4 x.els
section
variable {w w':World} {lo hi lo' hi' a b:Nat} {v:Value} {x:Cm1}
theorem C1V.bz (h:C1V w lo hi v x) (hb:Below w.heap.size w w'):C1V w' lo hi v x:=by
 obtain ⟨A1,c1,A2,c2,A3,c3,A4,c4,e,h1,h2,h3⟩:=h;exact ⟨A1,c1,A2,c2,A3,c3,A4,c4,e,h1.bz hb,h2.bz hb,h3.bz hb⟩
end
end
section
open Go Go.RowKit Go.Proofs
def freeK (h:List Int):Option Nat:=(List.range 8).find? fun k:Nat=>!allocB h ((k:Int)+1)
theorem freeK_none {h:List Int} (H:∀ k:Nat,k<8→allocB h ((k:Int)+1)=true):freeK h=none:=by
 unfold freeK;rw[List.find?_eq_none];intro k hk;simp[H k (by simpa using hk)]
theorem find_range {p:Nat→Bool} {n k:Nat} (hk:k<n) (hp:p k=true) (hl:∀ j,j<k→p j=false):(List.range n).find? p=some k:=by
 induction n with
 | zero=>omega
 | succ n ih=>
  rw[List.range_succ,List.find?_append];rcases Nat.lt_or_ge k n with h|h
  ·rw[ih h];rfl
  ·obtain rfl:k=n:=by omega
   have e:(List.range k).find? p=none:=by
    rw[List.find?_eq_none];intro j hj;simp[hl j (by simpa using hj)]
   rw[e];simp[hp]
theorem freeK_some {h:List Int} {k:Nat} (hk:k<8) (ha:allocB h ((k:Int)+1)=false) (H:∀ j:Nat,j<k→allocB h ((j:Int)+1)=true):freeK h=some k:=
 find_range hk (by simp[ha]) fun j hj=>by simp[H j hj]
theorem freeK_lt {h:List Int} {k:Nat} (e:freeK h=some k):k<8:=by
 have:=List.mem_of_find?_eq_some e;simpa using this
def basicF (s:Ste) (k a b:Int):Ste×Int:=
 if k=1 then (⟨s.values.set (a - 1).toNat (tval s.values b),s.heap⟩,0)
 else if k=2 then if allocB s.heap (tval s.values b) then (⟨s.values.set (a - 1).toNat (cont s.heap (tval s.values b)),s.heap⟩,0) else (s,1)
 else if k=3 then if allocB s.heap (tval s.values a) then (⟨s.values,s.heap.set (tval s.values a - 1).toNat (tval s.values b)⟩,0) else (s,1)
 else if k=4 then match freeK s.heap with
  | some n=>(⟨s.values.set (a - 1).toNat ((n:Int)+1),s.heap.set n 0⟩,0)
  | none=>(s,2)
 else if allocB s.heap (tval s.values a) then (⟨s.values,s.heap.set (tval s.values a - 1).toNat (-1)⟩,0) else (s,1)
def loopF (R:Ste→Nat→Ste×Int×Nat) (t:Fct):Nat→Ste→Nat→Ste×Int×Nat
 | 0,s,f=>(s,3,f)
 | n+1,s,f=>if t.holds s.values then
   (if (R s f).2.1≠0 then R s f else if (R s f).2.2<1 then ((R s f).1,3,(R s f).2.2) else loopF R t n (R s f).1 ((R s f).2.2 - 1))
  else (s,0,f)
def cmdR (k a b:Int) (t:Fct) (RB RE:Ste→Nat→Ste×Int×Nat) (s:Ste) (f:Nat):Ste×Int×Nat:=
 if k=6 then (if t.holds s.values then RB s f else RE s f) else if k=7 then loopF RB t (f+1) s f else ((basicF s k a b).1,(basicF s k a b).2,f)
def cmdF (k a b:Int) (t:Fct) (RB RE:Ste→Nat→Ste×Int×Nat) (s:Ste) (f:Nat):Ste×Int×Nat:=
 if f<1 then (s,3,f) else cmdR k a b t RB RE s (f - 1)
def Cms.run:Cms→Ste→Nat→Ste×Int×Nat
 | .nil,s,f=>(s,0,f)
 | .cons k a b t _ body els r,s,f=>
  if (cmdF k a b t body.run els.run s f).2.1≠0 then cmdF k a b t body.run els.run s f else r.run (cmdF k a b t body.run els.run s f).1 (cmdF k a b t body.run els.run s f).2.2
theorem Ste.valid_iff {s:Ste}:s.valid=true↔s.values.length=8∧s.heap.length=8∧(∀ v∈s.values,valB v=true)∧(∀ v∈s.heap,cellB v=true):=by
 simp only[Ste.valid,Bool.and_eq_true,decide_eq_true_eq,List.all_eq_true,and_assoc]
theorem Ste.set_values {s:Ste} (h:s.valid=true) (n:Nat) {u:Int} (hu:valB u=true):(Ste.mk (s.values.set n u) s.heap).valid=true:=by
 rw[Ste.valid_iff] at h ⊢;refine ⟨by simpa using h.1,h.2.1,fun v hv=>?_,h.2.2.2⟩;rcases List.mem_or_eq_of_mem_set hv with hv|rfl
 ·exact h.2.2.1 v hv
 ·exact hu
theorem Ste.set_heap {s:Ste} (h:s.valid=true) (n:Nat) {u:Int} (hu:cellB u=true):(Ste.mk s.values (s.heap.set n u)).valid=true:=by
 rw[Ste.valid_iff] at h ⊢;refine ⟨h.1,by simpa using h.2.1,h.2.2.1,fun v hv=>?_⟩;rcases List.mem_or_eq_of_mem_set hv with hv|rfl
 ·exact h.2.2.2 v hv
 ·exact hu
theorem Ste.all_vals {s:Ste} (h:s.valid=true):s.values.all valB=true:=by
 rw[List.all_eq_true];exact (Ste.valid_iff.1 h).2.2.1
theorem Ste.all_heap {s:Ste} (h:s.valid=true):s.heap.all cellB=true:=by
 rw[List.all_eq_true];exact (Ste.valid_iff.1 h).2.2.2
theorem tval_valB {s:Ste} (h:s.valid=true) (t:Int):valB (tval s.values t)=true:=by
 have:=tval_le (Ste.all_vals h) t;simp[valB,this]
theorem allocB_iff {h:List Int} {a:Int}:allocB h a=true↔0≤cont h a:=by simp[allocB]
theorem allocB_addr {h:List Int} {a:Int} (ha:allocB h a=true):1≤a∧a≤8:=by
 rw[allocB_iff] at ha;unfold cont at ha
 split at ha
 ·rename_i h1;simpa [addrB] using h1
 ·omega
theorem basicF_ok {s:Ste} (h:s.valid=true) (k a b:Int):(basicF s k a b).1.valid=true∧0≤(basicF s k a b).2∧(basicF s k a b).2≤3:=by
 unfold basicF
 split
 ·exact ⟨Ste.set_values h _ (tval_valB h b),by simp,by simp⟩
 split
 ·split
  ·rename_i ha;have h1:=cont_le (Ste.all_heap h) (tval s.values b);have h2:=allocB_iff.1 ha;exact ⟨Ste.set_values h _ (by simp[valB];omega),by simp,by simp⟩
  ·exact ⟨h,by simp,by simp⟩
 split
 ·split
  ·exact ⟨Ste.set_heap h _ (by simp[cellB,tval_valB h]),by simp,by simp⟩
  ·exact ⟨h,by simp,by simp⟩
 split
 ·split
  ·rename_i n e;have hn:=freeK_lt e;exact ⟨Ste.set_heap (s:=⟨_,_⟩) (Ste.set_values h _ (by simp[valB];omega)) n (by decide),by simp,by simp⟩
  ·exact ⟨h,by simp,by simp⟩
 split
 ·exact ⟨Ste.set_heap h _ (by decide),by simp,by simp⟩
 ·exact ⟨h,by simp,by simp⟩
abbrev tM:Nat:=148
def Mach (w:World) (B g:Nat) (s:Ste) (f:Nat):Prop:=B≤g∧∃ fv hv,Blk w g tM #[fv,hv,.int .i64 (f:Int)]∧StateO w B (.agg #[fv,hv]) s
theorem Mach.bz {w w':World} {B g f:Nat} {s:Ste} (h:Mach w B g s f) (hb:Below w.heap.size w w'):Mach w' B g s f:=by
 obtain ⟨h1,fv,hv,k,o⟩:=h;exact ⟨h1,fv,hv,k.nz hb,o.bz hb⟩
theorem Mach.lt {w:World} {B g f:Nat} {s:Ste} (h:Mach w B g s f):g<w.heap.size:=by
 obtain ⟨h1,fv,hv,k,o⟩:=h;exact k.lt
theorem Mach.form {w:World} {B g f:Nat} {s:Ste} (h:Mach w B g s f):∃ F e1 G e2,B≤g∧Blk w g tM #[.slice F s.values.length e1,.slice G s.heap.length e2,.int .i64 (f:Int)]∧IntsO w B (.slice F s.values.length e1) s.values∧IntsO w B (.slice G s.heap.length e2) s.heap∧(∀ x,(Value.slice F s.values.length e1).ownBlock=some x→(Value.slice G s.heap.length e2).ownBlock≠some x):=by
 obtain ⟨h1,fv,hv,k,fv',hv',e,o1,o2,dj⟩:=h;injection e with e;injection e with e;injection e with ea eb;injection eb with eb;subst ea eb;obtain ⟨F,e1,rfl,-⟩:=o1.reads;obtain ⟨G,e2,rfl,-⟩:=o2.reads;exact ⟨F,e1,G,e2,h1,k,o1,o2,dj⟩
structure Rf (B:Nat) (w w':World):Prop where
 bz:Below B w w'
 size:w.heap.size≤w'.heap.size
 boxes:∀ k cs,Blk w k tC cs→Blk w' k tC cs
section
variable {B:Nat} {w a b:World}
theorem Rf.of (h:Below w.heap.size w a) (hB:B≤w.heap.size):Rf B w a:=⟨btoB h hB,h.size,fun _ _ k=>k.nz h⟩
theorem Rf.trans (h:Rf B w a) (h2:Rf B a b):Rf B w b:=⟨h.bz.trans h2.bz,Nat.le_trans h.size h2.size,fun k cs hk=>h2.boxes k cs (h.boxes k cs hk)⟩
theorem Rf.go (h:Rf B w a) (h2:Below a.heap.size a b) (hB:B≤w.heap.size):Rf B w b:=h.trans (Rf.of h2 (Nat.le_trans hB h.size))
theorem Rf.drew (h:Rf B w a):Rf B w a.drew:=⟨h.bz.drew,h.size,fun k cs hk=>(h.boxes k cs hk).drew⟩
theorem Rf.alloc (h:Rf B w a) (hB:B≤w.heap.size) (o:Obj):Rf B w (a.alloc o):=h.go (bbox (Below.refl _ _) o) hB
theorem Rf.set (h:Rf B w a) {p:Addr} {t:TypeId} {cs:Array Value} (hk:Blk a p.block t cs) (ht:t≠tC) (hp:B≤p.block) (u:Value):Rf B w (a.setCell p u):=
 ⟨h.bz.setCell hp u,by simpa using h.size,fun k cs' hk'=>(h.boxes k cs' hk').far (p:=p) ((h.boxes k cs' hk').ne_ hk (Ne.symm ht)) u⟩
end
theorem c_impl_AllocX {lo hi:Nat} (v:Value) (s:Ste) (w:World) (h:StateV w lo hi v s) (hs:s.valid=true) :
  Calls Tryz.prog 179 #[v] w fun e w'=>((freeK s.heap=none∧e=.returned (.tuple #[.agg #[.slice none 0 0,.slice none 0 0],.int .i64 0,.bool false]))∨(∃ (k:Nat) (r:Value),freeK s.heap=some k∧e=.returned (.tuple #[r,.int .i64 ((k:Int)+1),.bool true])∧StateO w' w.heap.size r ⟨s.values,s.heap.set k 0⟩))∧Below w.heap.size w w':=by
 have hV:=ax h;obtain ⟨A1,c1,A2,c2,rfl,-,-⟩:=h;have HS:=ax hs;have H8:=ax (Ste.valid_len hs);clear hs;(go_enter Tryz.func179,Tryz.ntmps179);obtain ⟨k0,k1⟩:=blk2 w tSt tSt #[.slice A1 s.values.length c1,.slice A2 s.heap.length c2] #[.slice none 0 0,.slice none 0 0];(go_wp2_with fail);refine (c_impl_StateValid _ s _ (hV.o.bz bel)).mono ?_;rintro e w1 ⟨rfl,hB1⟩;rw[HS.o];have hB:=bgo (w:=w) bel hB1;(replace k0:=k0.nz hB1;replace qk0:=k0.z;replace k1:=k1.nz hB1;replace qk1:=k1.cell;replace rk1:=k1.frozen;replace lk1:=k1.lt);clear hB1;(go_wp2_with fail)
 go_loopw [5] (fun i wr=>∃ k:Nat,k≤8∧i=.int .i64 ((k:Int)+1)∧aJ (∀ j:Nat,j<k→allocB s.heap ((j:Int)+1)=true)∧Blk wr w.heap.size tSt #[.slice A1 s.values.length c1,.slice A2 s.heap.length c2]∧Blk wr (w.heap.size+1) tSt #[.slice none 0 0,.slice none 0 0]∧aJ (Below w.heap.size w wr)) (fun i _=>10 - (intOf i).toNat)
 case atStart=>exact ⟨0,by omega,rfl,ax (fun j hj=>by omega),k0,k1,hB⟩
 case round=>
  clear k0 k1 hB qk0 qk1 rk1 lk1;obtain ⟨k,hk,rfl,HALL,k0,k1,HB⟩:=hrel;(replace qk0:=k0.z;replace qk1:=k1.cell;replace rk1:=k1.frozen;replace lk1:=k1.lt);have hsz:=HB.o.size;by_cases hlt:k<8
  ·have hki:(k:Int)+1≤8:=by omega
   (go_wp2_with fail);refine (c_impl_allocated _ s _ _ (hV.o.bz HB.o) H8.o.2).mono ?_;rintro e w2 ⟨rfl,hB2⟩;have hB3:Below w.heap.size w w2:=bgo HB.o hB2;(replace k0:=k0.nz hB2;replace qk0:=k0.z;replace k1:=k1.nz hB2;replace qk1:=k1.cell;replace rk1:=k1.frozen;replace lk1:=k1.lt);clear hB2;cases ha:allocB s.heap ((k:Int)+1)
   ·have HF:=ax (freeK_some hlt ha HALL.o);clear ha HALL;(go_wp2_with fail);refine (c_impl_copyState _ s _ (hV.o.bz hB3)).mono ?_;rintro e w4 ⟨r,rfl,o,hB4⟩;have hz:=hB3.size;(replace hB3:=bgo hB3 hB4;replace k0:=k0.nz hB4;replace qk0:=k0.z;replace k1:=k1.nz hB4;replace qk1:=k1.cell;replace rk1:=k1.frozen;replace lk1:=k1.lt);clear hB4;obtain ⟨fv,av,rfl,o1,o2,dj⟩:=o;obtain ⟨F,e1,rfl,-⟩:=o1.reads;obtain ⟨G,e2,rfl,-⟩:=o2.reads;have hnl:(k:Int)<(s.heap.length:Int):=by have:=H8.o.2;omega
    obtain ⟨g,cur,-,rfl,hg,kg,hc,hset⟩:=(o2.lower (base':=w.heap.size) hz).cell_ (k:=k) (by omega);have q:=kg.cell k;rw[hc] at q;obtain ⟨y,hy⟩:∃ y,y=s.heap[k]'(by omega):=⟨_,rfl⟩;rw[←hy] at q;have f:=kg.frozen k;have hgl:=kg.lt;have HSET:=ax (hset 0);have O1:=ax (o1.lower (base':=w.heap.size) hz);have HD:=ax dj;have hne:w.heap.size+1≠g:=k1.ne_ kg (by decide);clear hset o1 o2 dj hc hy;(go_wp2_with fail);have k6:=k1.far (p:=⟨g,k,none⟩) hne (.int .i64 0);refine bodyPost_ret (v:=.tuple #[.agg #[.slice F s.values.length e1,.slice (some ⟨g,0,none⟩) s.heap.length e2],.int .i64 ((k:Int)+1),.bool true]) (by simp[results,Tryz.results179,go_sem,qk1,lk1]) rfl ⟨Or.inr ⟨k,_,HF.o,rfl,⟨_,_,rfl,?_,?_,HD.o⟩⟩,?_⟩
    ·exact (((O1.o.set_ne (q:=⟨g,k,none⟩) (fun e=>HD.o g e rfl) (.int .i64 0)).setT k6 (by decide) 0 _).setT (k6.set_ 0 _) (by decide) 1 _).bz (bbox (Below.refl _ _) _)
    ·exact ((HSET.o.setT k6 (by decide) 0 _).setT (k6.set_ 0 _) (by decide) 1 _).bz (bbox (Below.refl _ _) _)
    ·exact bbox (((hB3.setCell (p:=⟨g,k,none⟩) hg _).setCell (p:=⟨w.heap.size+1,0,none⟩) (by simp only;omega) _).setCell (p:=⟨w.heap.size+1,1,none⟩) (by simp only;omega) _) _
   ·have HA2:aJ (∀ j:Nat,j<k+1→allocB s.heap ((j:Int)+1)=true):=fun j hj=>by
     rcases Nat.lt_or_ge j k with h|h
     ·exact HALL.o j h
     ·obtain rfl:j=k:=by omega
      exact ha
    clear ha HALL;(go_wp2_with fail)
    go_round
    case rel=>exact ⟨k+1,by omega,by go_num,HA2,k0,k1,hB3⟩
    case measure=>simp[intOf];omega
  ·obtain rfl:k=8:=by omega
   have hB:=HB.o;have HF:=ax (freeK_none HALL.o);clear HALL;(go_wp2_with fail);refine bodyPost_ret (v:=.tuple #[.agg #[.slice none 0 0,.slice none 0 0],.int .i64 0,.bool false]) (by simp[results,Tryz.results179,go_sem,qk1]) rfl ⟨Or.inl ⟨HF.o,rfl⟩,bel⟩
theorem Blk.drewX {w:World} {g:Nat} {t:TypeId} {cs:Array Value} (h:Blk w g t cs):Blk w.drew g t cs:=h
theorem basic_set (w:World) (B g:Nat) (s:Ste) (f:Nat) (m:Nat) (b:Int) (hm:m<4) (hb:0≤b∧b≤8) (t:Fct) (vF vA vB vE:Value) (hM:Mach w B g s f) (hs:s.valid=true) :
  Calls Tryz.prog 109 #[.pointer (some ⟨g,0,none⟩),.agg #[.int .i64 1,.int .i64 ((m:Int)+1),.int .i64 b,.bool t.eq,.int .i64 t.a,.int .i64 t.b,vF,vA,vB,vE]] w fun e w'=>e=.returned (.int .i64 (basicF s 1 ((m:Int)+1) b).2)∧Mach w' B g (basicF s 1 ((m:Int)+1) b).1 f∧Rf B w w':=by
 have E:aJ (basicF s 1 ((m:Int)+1) b=(⟨s.values.set m (tval s.values b),s.heap⟩,0)):=by
  show _=_;unfold basicF;rw[if_pos rfl,show ((m:Int)+1 - 1).toNat=m by omega]
 rw[E.o];have HB:=ax hb;have hm4:(m:Int)<4:=by omega
 have hm8:(m:Int)<8:=by omega
 clear hb;obtain ⟨F,e1,G,e2,hBg,kM,o1,o2,dj⟩:=hM.form;have hgl:=kM.lt;have h8:=ax (Ste.valid_len hs);have HS:=ax hs;have V1:=ax (o1.readsI.2);obtain ⟨x,hx⟩:∃ x,x=tval s.values ((m:Int)+1):=⟨_,rfl⟩;obtain ⟨y,hy⟩:∃ x,x=tval s.values b:=⟨_,rfl⟩;have hxv:0≤x∧x≤8:=by rw[hx];exact tval_le (Ste.all_vals hs) _
 have hyv:0≤y∧y≤8:=by rw[hy];exact tval_le (Ste.all_vals hs) _
 replace hx:=ax hx;replace hy:=ax hy;replace o1:=ax o1;replace o2:=ax o2;replace dj:=ax dj;clear hM hs;have hgne:g≠w.heap.size:=by omega
 (go_enter Tryz.func109,Tryz.ntmps109);have k00:Blk (w.alloc (.cells #[.int .i64 1,.int .i64 ((m:Int)+1),.int .i64 b,.bool t.eq,.int .i64 t.a,.int .i64 t.b,vF,vA,vB,vE] tC)) w.heap.size tC #[.int .i64 1,.int .i64 ((m:Int)+1),.int .i64 b,.bool t.eq,.int .i64 t.a,.int .i64 t.b,vF,vA,vB,vE]:=Blk.new _ _ _;have kM0:Blk (w.alloc (.cells #[.int .i64 1,.int .i64 ((m:Int)+1),.int .i64 b,.bool t.eq,.int .i64 t.a,.int .i64 t.b,vF,vA,vB,vE] tC)) g tM #[.slice F s.values.length e1,.slice G s.heap.length e2,.int .i64 (f:Int)]:=kM.alloc _;(go_wp2_with fail);refine wp_region_noPanic ?_;refine wp_region_held_drew (S:=(fun w'=>(∀ j,w'.cell? ⟨w.heap.size,j,none⟩=#[.int .i64 1,.int .i64 ((m:Int)+1),.int .i64 b,.bool t.eq,.int .i64 t.a,.int .i64 t.b,vF,vA,vB,vE][j]?)∧(∀ j,w'.cell? ⟨g,j,none⟩=#[.slice F s.values.length e1,.slice G s.heap.length e2,.int .i64 (f:Int)][j]?))) (by kernel_rfl) (⟨k00.cell,kM0.cell⟩) (fun hHeld=>?_);refine tk2 0 rfl hHeld (h:=tk2 1 rfl hHeld (h:=tk2 2 rfl hHeld (h:=?_)));(try simp only[zz]);refine tk2 3 rfl hHeld (h:=tk2 4 rfl hHeld (h:=tk2 5 rfl hHeld (h:=?_)));(try simp only[zz]);refine tk2 6 rfl hHeld (h:=tk2 8 rfl hHeld (h:=tk2 9 rfl hHeld (h:=?_)));(try simp only[zz]);refine tk2 10 rfl hHeld (h:=tk2 11 rfl hHeld (h:=tk2 12 rfl hHeld (h:=?_)));(try simp only[zz]);refine tk2 13 rfl hHeld (h:=tk2 14 rfl hHeld (h:=?_));refine rdc 7 rfl fun K hK=>?_;(try simp only[zz]);(go_simp;refine (c_impl_termValue F e1 s.values ((m:Int)+1) _ (V1.o.bz bel) (by omega) (by rw[h8.o.1];exact (by omega))).mono ?_;rintro e w3 ⟨rfl,rfl⟩;rw[←hx.o]);refine hK.out _ _ (⟨k00.cell,kM0.cell⟩) ?_;clear hHeld hK K;intro hHeld;refine rdc 15 rfl fun K hK=>?_;(try simp only[zz]);(go_simp;refine (c_impl_termValue F e1 s.values b _ (V1.o.bz bel) HB.o.1 (by rw[h8.o.1];exact HB.o.2)).mono ?_;rintro e w3 ⟨rfl,rfl⟩;rw[←hy.o]);refine hK.out _ _ (⟨k00.cell,kM0.cell⟩) ?_;clear hHeld hK K;intro hHeld;(try simp only[zz]);refine tk2 16 rfl hHeld (h:=tk2 17 rfl hHeld (h:=?_));(try simp only[zz]);refine dn1 ?_;obtain ⟨X,hX⟩:∃ X,X=(w.alloc (.cells #[.int .i64 1,.int .i64 ((m:Int)+1),.int .i64 b,.bool t.eq,.int .i64 t.a,.int .i64 t.b,vF,vA,vB,vE] tC)).drew:=⟨_,rfl⟩;have hBX:Below w.heap.size w X:=by rw[hX];exact bel
 have kX:Blk X w.heap.size tC #[.int .i64 1,.int .i64 ((m:Int)+1),.int .i64 b,.bool t.eq,.int .i64 t.a,.int .i64 t.b,vF,vA,vB,vE]:=by rw[hX];exact k00.drew
 have kMX:Blk X g tM #[.slice F s.values.length e1,.slice G s.heap.length e2,.int .i64 (f:Int)]:=by rw[hX];exact kM0.drew
 have oX1:=ax (o1.o.bz hBX);have oX2:=ax (o2.o.bz hBX);have hBw:B≤w.heap.size:=by omega
 have hBB:Rf B w X:=Rf.of hBX hBw;rw[←hX];clear hX k00 kM0 kM V1 hHeld o1 o2;(replace qkX:=kX.z;replace qkMX:=kMX.z);have hvl:=h8.o.1;obtain ⟨gv,cur,-,rfl,hgv,kg,hc,hset⟩:=oX1.o.cell_ (k:=m) (by omega);have q:=kg.cell m;rw[hc] at q;obtain ⟨z,hz⟩:∃ z,z=s.values[m]'(by omega):=⟨_,rfl⟩;rw[←hz] at q;have fq:=kg.frozen m;have hgvl:=kg.lt;have hne:g≠gv:=kMX.ne_ kg (by decide);have HSET:=ax (hset y);have hml:(m:Int)<(s.values.length:Int):=by omega
 have hwm:IntKind.i64.wrap (m:Int)=(m:Int):=IntWalk.i64_in _ (by omega);replace hc:=ax hc;clear hset hc hz hvl;(go_wp2_with fail);refine wp_region_noPanic ?_;refine wp_region_last' (S:=(fun w'=>(∀ j,w'.cell? ⟨w.heap.size,j,none⟩=#[.int .i64 1,.int .i64 ((m:Int)+1),.int .i64 b,.bool t.eq,.int .i64 t.a,.int .i64 t.b,vF,vA,vB,vE][j]?)∧(∀ j,w'.cell? ⟨g,j,none⟩=#[.slice (some ⟨gv,0,none⟩) s.values.length e1,.slice G s.heap.length e2,.int .i64 (f:Int)][j]?)∧w'.cell? ⟨gv,m,none⟩=some (.int .i64 z)∧w'.frozen? ⟨gv,m,none⟩=false)) (by simp) (by kernel_rfl) (by kernel_rfl) (⟨kX.cell,kMX.cell,q,fq⟩) (fun hHeld=>?_);simp only[List.dropLast,List.getLast,nopOf,List.cons_append,List.nil_append,List.length_cons,List.length_nil,Nat.zero_add,Nat.reduceAdd];refine tk2 0 rfl hHeld (h:=tk2 1 rfl hHeld (h:=tk2 2 rfl hHeld (h:=?_)));(try simp only[zz]);refine tk2 3 rfl hHeld (h:=tk2 4 rfl hHeld (h:=tk2 5 rfl hHeld (h:=?_)));(try simp only[zz]);refine tk2 6 rfl hHeld (h:=tk2 7 rfl hHeld (h:=tk2 8 rfl hHeld (h:=?_)));(try simp only[zz]);refine tk2 9 rfl hHeld (h:=?_);(try simp only[zz]);refine rdc 10 rfl fun K hK=>?_;go_simp;refine hK.out _ _ (⟨kX.cell,kMX.cell,q,fq⟩) (fun hHeld=>?_);clear hK K;refine wpAnyH_done (by kernel_rfl) ?_ _;unfold lastQ;go_simp;refine NoPanic.normal ?_;(go_wp2_with fail);go_ret;refine ⟨rfl,⟨hBg,_,_,kMX.drewX.far (p:=⟨gv,m,none⟩) hne _,_,_,rfl,?_,?_,dj.o⟩,hBB.drew.set (p:=⟨gv,m,none⟩) kg.drewX (by decide) hgv _⟩
 ·rw[←hy.o];exact HSET.o
 ·exact oX2.o.set_ne (q:=⟨gv,m,none⟩) (dj.o gv rfl) _
theorem basic_load (w:World) (B g:Nat) (s:Ste) (f:Nat) (m:Nat) (b:Int) (hm:m<4) (hb:0≤b∧b≤8) (t:Fct) (vF vA vB vE:Value) (hM:Mach w B g s f) (hs:s.valid=true) :
  Calls Tryz.prog 109 #[.pointer (some ⟨g,0,none⟩),.agg #[.int .i64 2,.int .i64 ((m:Int)+1),.int .i64 b,.bool t.eq,.int .i64 t.a,.int .i64 t.b,vF,vA,vB,vE]] w fun e w'=>e=.returned (.int .i64 (basicF s 2 ((m:Int)+1) b).2)∧Mach w' B g (basicF s 2 ((m:Int)+1) b).1 f∧Rf B w w':=by
 have HB:=ax hb;have hm4:(m:Int)<4:=by omega
 have hm8:(m:Int)<8:=by omega
 clear hb;obtain ⟨F,e1,G,e2,hBg,kM,o1,o2,dj⟩:=hM.form;have hgl:=kM.lt;have h8:=ax (Ste.valid_len hs);have HS:=ax hs;have V1:=ax (o1.readsI.2);obtain ⟨x,hx⟩:∃ x,x=tval s.values ((m:Int)+1):=⟨_,rfl⟩;obtain ⟨y,hy⟩:∃ x,x=tval s.values b:=⟨_,rfl⟩;have hxv:0≤x∧x≤8:=by rw[hx];exact tval_le (Ste.all_vals hs) _
 have hyv:0≤y∧y≤8:=by rw[hy];exact tval_le (Ste.all_vals hs) _
 replace hx:=ax hx;replace hy:=ax hy;replace o1:=ax o1;replace o2:=ax o2;replace dj:=ax dj;clear hM hs;have hgne:g≠w.heap.size:=by omega
 (go_enter Tryz.func109,Tryz.ntmps109);have k00:Blk (w.alloc (.cells #[.int .i64 2,.int .i64 ((m:Int)+1),.int .i64 b,.bool t.eq,.int .i64 t.a,.int .i64 t.b,vF,vA,vB,vE] tC)) w.heap.size tC #[.int .i64 2,.int .i64 ((m:Int)+1),.int .i64 b,.bool t.eq,.int .i64 t.a,.int .i64 t.b,vF,vA,vB,vE]:=Blk.new _ _ _;have kM0:Blk (w.alloc (.cells #[.int .i64 2,.int .i64 ((m:Int)+1),.int .i64 b,.bool t.eq,.int .i64 t.a,.int .i64 t.b,vF,vA,vB,vE] tC)) g tM #[.slice F s.values.length e1,.slice G s.heap.length e2,.int .i64 (f:Int)]:=kM.alloc _;(go_wp2_with fail);refine wp_region_noPanic ?_;refine wp_region_held_drew (S:=(fun w'=>(∀ j,w'.cell? ⟨w.heap.size,j,none⟩=#[.int .i64 2,.int .i64 ((m:Int)+1),.int .i64 b,.bool t.eq,.int .i64 t.a,.int .i64 t.b,vF,vA,vB,vE][j]?)∧(∀ j,w'.cell? ⟨g,j,none⟩=#[.slice F s.values.length e1,.slice G s.heap.length e2,.int .i64 (f:Int)][j]?))) (by kernel_rfl) (⟨k00.cell,kM0.cell⟩) (fun hHeld=>?_);refine tk2 0 rfl hHeld (h:=tk2 1 rfl hHeld (h:=tk2 2 rfl hHeld (h:=?_)));(try simp only[zz]);refine tk2 3 rfl hHeld (h:=tk2 4 rfl hHeld (h:=tk2 5 rfl hHeld (h:=?_)));(try simp only[zz]);refine tk2 6 rfl hHeld (h:=tk2 8 rfl hHeld (h:=tk2 9 rfl hHeld (h:=?_)));(try simp only[zz]);refine tk2 10 rfl hHeld (h:=tk2 11 rfl hHeld (h:=tk2 12 rfl hHeld (h:=?_)));(try simp only[zz]);refine tk2 13 rfl hHeld (h:=tk2 14 rfl hHeld (h:=?_));refine rdc 7 rfl fun K hK=>?_;(try simp only[zz]);(go_simp;refine (c_impl_termValue F e1 s.values ((m:Int)+1) _ (V1.o.bz bel) (by omega) (by rw[h8.o.1];exact (by omega))).mono ?_;rintro e w3 ⟨rfl,rfl⟩;rw[←hx.o]);refine hK.out _ _ (⟨k00.cell,kM0.cell⟩) ?_;clear hHeld hK K;intro hHeld;refine rdc 15 rfl fun K hK=>?_;(try simp only[zz]);(go_simp;refine (c_impl_termValue F e1 s.values b _ (V1.o.bz bel) HB.o.1 (by rw[h8.o.1];exact HB.o.2)).mono ?_;rintro e w3 ⟨rfl,rfl⟩;rw[←hy.o]);refine hK.out _ _ (⟨k00.cell,kM0.cell⟩) ?_;clear hHeld hK K;intro hHeld;(try simp only[zz]);refine tk2 16 rfl hHeld (h:=tk2 17 rfl hHeld (h:=?_));(try simp only[zz]);refine dn1 ?_;obtain ⟨X,hX⟩:∃ X,X=(w.alloc (.cells #[.int .i64 2,.int .i64 ((m:Int)+1),.int .i64 b,.bool t.eq,.int .i64 t.a,.int .i64 t.b,vF,vA,vB,vE] tC)).drew:=⟨_,rfl⟩;have hBX:Below w.heap.size w X:=by rw[hX];exact bel
 have kX:Blk X w.heap.size tC #[.int .i64 2,.int .i64 ((m:Int)+1),.int .i64 b,.bool t.eq,.int .i64 t.a,.int .i64 t.b,vF,vA,vB,vE]:=by rw[hX];exact k00.drew
 have kMX:Blk X g tM #[.slice F s.values.length e1,.slice G s.heap.length e2,.int .i64 (f:Int)]:=by rw[hX];exact kM0.drew
 have oX1:=ax (o1.o.bz hBX);have oX2:=ax (o2.o.bz hBX);have hBw:B≤w.heap.size:=by omega
 have hBB:Rf B w X:=Rf.of hBX hBw;rw[←hX];clear hX k00 kM0 kM V1 hHeld o1 o2;(replace qkX:=kX.z;replace qkMX:=kMX.z);have hSV:aJ (StateV X B X.heap.size (.agg #[.slice F s.values.length e1,.slice G s.heap.length e2]) s):=⟨_,_,_,_,rfl,oX1.o.readsI.2,oX2.o.readsI.2⟩;(go_wp2_with fail);refine (c_impl_allocated _ s y _ hSV.o h8.o.2).mono ?_;rintro e w2 ⟨rfl,hB2⟩;replace hBB:=hBB.go hB2 hBw;replace kX:=kX.nz hB2;replace kMX:=kMX.nz hB2;replace oX1:=ax (oX1.o.bz hB2);replace oX2:=ax (oX2.o.bz hB2);(replace qkX:=kX.z;replace qkMX:=kMX.z);clear hSV;cases ha:allocB s.heap y
 ·have E:aJ (basicF s 2 ((m:Int)+1) b=(s,1)):=by
   show _=_;unfold basicF;rw[if_neg (by decide),if_pos rfl,←hy.o,ha];rfl
  clear ha;(go_wp2_with fail);go_ret;rw[E.o];exact ⟨rfl,⟨hBg,_,_,kMX,_,_,rfl,oX1.o,oX2.o,dj.o⟩,hBB⟩
 have E:aJ (basicF s 2 ((m:Int)+1) b=(⟨s.values.set m (cont s.heap y),s.heap⟩,0)):=by
  show _=_;unfold basicF;rw[if_neg (by decide),if_pos rfl,←hy.o,ha,if_pos rfl,show ((m:Int)+1 - 1).toNat=m by omega]
 have hcont:=cont_le (Ste.all_heap HS.o) y;clear ha;obtain ⟨u,hu⟩:∃ u,u=cont s.heap y:=⟨_,rfl⟩;rw[←hu] at hcont;replace hu:=ax hu;have hvl:=h8.o.1;obtain ⟨gv,cur,-,rfl,hgv,kg,hc,hset⟩:=oX1.o.cell_ (k:=m) (by omega);have q:=kg.cell m;rw[hc] at q;obtain ⟨z,hz⟩:∃ z,z=s.values[m]'(by omega):=⟨_,rfl⟩;rw[←hz] at q;have fq:=kg.frozen m;have hgvl:=kg.lt;have hne:g≠gv:=kMX.ne_ kg (by decide);have HSET:=ax (hset u);have hml:(m:Int)<(s.values.length:Int):=by omega
 have hwm:IntKind.i64.wrap (m:Int)=(m:Int):=IntWalk.i64_in _ (by omega);replace hc:=ax hc;clear hset hc hz hvl;have hSV:aJ (StateV w2 B w2.heap.size (.agg #[.slice (some ⟨gv,0,none⟩) s.values.length e1,.slice G s.heap.length e2]) s):=⟨_,_,_,_,rfl,oX1.o.readsI.2,oX2.o.readsI.2⟩;have oX1:=ax oX1.o;(go_wp2_with fail);refine wp_region_noPanic ?_;refine wp_region_last' (S:=(fun w'=>(∀ j,w'.cell? ⟨w.heap.size,j,none⟩=#[.int .i64 2,.int .i64 ((m:Int)+1),.int .i64 b,.bool t.eq,.int .i64 t.a,.int .i64 t.b,vF,vA,vB,vE][j]?)∧(∀ j,w'.cell? ⟨g,j,none⟩=#[.slice (some ⟨gv,0,none⟩) s.values.length e1,.slice G s.heap.length e2,.int .i64 (f:Int)][j]?)∧w'.cell? ⟨gv,m,none⟩=some (.int .i64 z)∧w'.frozen? ⟨gv,m,none⟩=false)) (by simp) (by kernel_rfl) (by kernel_rfl) (⟨kX.cell,kMX.cell,q,fq⟩) (fun hHeld=>?_);simp only[List.dropLast,List.getLast,nopOf,List.cons_append,List.nil_append,List.length_cons,List.length_nil,Nat.zero_add,Nat.reduceAdd];refine tk2 0 rfl hHeld (h:=tk2 1 rfl hHeld (h:=tk2 2 rfl hHeld (h:=?_)));(try simp only[zz]);refine tk2 3 rfl hHeld (h:=tk2 4 rfl hHeld (h:=tk2 5 rfl hHeld (h:=?_)));(try simp only[zz]);refine tk2 6 rfl hHeld (h:=tk2 7 rfl hHeld (h:=tk2 8 rfl hHeld (h:=?_)));(try simp only[zz]);refine tk2 9 rfl hHeld (h:=tk2 10 rfl hHeld (h:=tk2 11 rfl hHeld (h:=?_)));(try simp only[zz]);refine tk2 12 rfl hHeld (h:=?_);refine rdc 13 rfl fun K hK=>?_;(try simp only[zz]);(go_simp;refine (c_impl_content _ s y _ (hSV.o.bz bel) h8.o.2).mono ?_;rintro e w4 ⟨rfl,hB4⟩;rw[←hu.o];have B4:Below w2.heap.size w2 w4:=bgo (Below.refl _ _).drew hB4;have kX4:=kX.nz B4;have kM4:=kMX.nz B4;have q4:=(B4.cell (p:=⟨gv,m,none⟩) hgvl).trans q;have fq4:=(B4.frozen (p:=⟨gv,m,none⟩) hgvl).trans fq);refine hK.out _ _ (⟨kX4.cell,kM4.cell,q4,fq4⟩) ?_;clear hHeld hK K;intro hHeld;(try simp only[zz]);clear qkX qkMX;refine tk2 14 rfl hHeld (h:=?_);(try simp only[zz]);refine rdc 15 rfl fun K hK=>?_;go_simp;refine hK.out _ _ (⟨kX4.cell,kM4.cell,q4,fq4⟩) (fun hHeld=>?_);clear hK K;refine wpAnyH_done (by kernel_rfl) ?_ _;unfold lastQ;go_simp;refine NoPanic.normal ?_;(go_wp2_with fail);go_ret;rw[E.o,←hu.o];have hBB4:=hBB.go B4 hBw;have oY1:=oX1.o.bz B4;obtain ⟨gv',cur',-,ev,hgv',kg',hc',hset'⟩:=oY1.cell_ (k:=m) (by have:=h8.o.1;omega);injection ev with ev;injection ev with ev;subst ev;refine ⟨rfl,⟨hBg,_,_,kM4.far (p:=⟨gv,m,none⟩) hne _,_,_,rfl,hset' u,(oX2.o.bz B4).set_ne (q:=⟨gv,m,none⟩) (dj.o gv rfl) _,dj.o⟩,hBB4.set (p:=⟨gv,m,none⟩) kg' (by decide) hgv _⟩
theorem basic_store (w:World) (B g:Nat) (s:Ste) (f:Nat) (a:Int) (b:Int) (ha:0≤a∧a≤8) (hb:0≤b∧b≤8) (t:Fct) (vF vA vB vE:Value) (hM:Mach w B g s f) (hs:s.valid=true) :
  Calls Tryz.prog 109 #[.pointer (some ⟨g,0,none⟩),.agg #[.int .i64 3,.int .i64 a,.int .i64 b,.bool t.eq,.int .i64 t.a,.int .i64 t.b,vF,vA,vB,vE]] w fun e w'=>e=.returned (.int .i64 (basicF s 3 a b).2)∧Mach w' B g (basicF s 3 a b).1 f∧Rf B w w':=by
 have HA:=ax ha;have HB:aJ (0≤(b:Int)∧b≤(8:Int)):=hb;clear ha hb;obtain ⟨F,e1,G,e2,hBg,kM,o1,o2,dj⟩:=hM.form;have hgl:=kM.lt;have h8:=ax (Ste.valid_len hs);have HS:=ax hs;have V1:=ax (o1.readsI.2);obtain ⟨x,hx⟩:∃ x,x=tval s.values a:=⟨_,rfl⟩;obtain ⟨y,hy⟩:∃ x,x=tval s.values b:=⟨_,rfl⟩;have hxv:0≤x∧x≤8:=by rw[hx];exact tval_le (Ste.all_vals hs) _
 have hyv:0≤y∧y≤8:=by rw[hy];exact tval_le (Ste.all_vals hs) _
 replace hx:=ax hx;replace hy:=ax hy;replace o1:=ax o1;replace o2:=ax o2;replace dj:=ax dj;clear hM hs;have hgne:g≠w.heap.size:=by omega
 (go_enter Tryz.func109,Tryz.ntmps109);have k00:Blk (w.alloc (.cells #[.int .i64 3,.int .i64 a,.int .i64 b,.bool t.eq,.int .i64 t.a,.int .i64 t.b,vF,vA,vB,vE] tC)) w.heap.size tC #[.int .i64 3,.int .i64 a,.int .i64 b,.bool t.eq,.int .i64 t.a,.int .i64 t.b,vF,vA,vB,vE]:=Blk.new _ _ _;have kM0:Blk (w.alloc (.cells #[.int .i64 3,.int .i64 a,.int .i64 b,.bool t.eq,.int .i64 t.a,.int .i64 t.b,vF,vA,vB,vE] tC)) g tM #[.slice F s.values.length e1,.slice G s.heap.length e2,.int .i64 (f:Int)]:=kM.alloc _;(go_wp2_with fail);refine wp_region_noPanic ?_;refine wp_region_held_drew (S:=(fun w'=>(∀ j,w'.cell? ⟨w.heap.size,j,none⟩=#[.int .i64 3,.int .i64 a,.int .i64 b,.bool t.eq,.int .i64 t.a,.int .i64 t.b,vF,vA,vB,vE][j]?)∧(∀ j,w'.cell? ⟨g,j,none⟩=#[.slice F s.values.length e1,.slice G s.heap.length e2,.int .i64 (f:Int)][j]?))) (by kernel_rfl) (⟨k00.cell,kM0.cell⟩) (fun hHeld=>?_);refine tk2 0 rfl hHeld (h:=tk2 1 rfl hHeld (h:=tk2 2 rfl hHeld (h:=?_)));(try simp only[zz]);refine tk2 3 rfl hHeld (h:=tk2 4 rfl hHeld (h:=tk2 5 rfl hHeld (h:=?_)));(try simp only[zz]);refine tk2 6 rfl hHeld (h:=tk2 8 rfl hHeld (h:=tk2 9 rfl hHeld (h:=?_)));(try simp only[zz]);refine tk2 10 rfl hHeld (h:=tk2 11 rfl hHeld (h:=tk2 12 rfl hHeld (h:=?_)));(try simp only[zz]);refine tk2 13 rfl hHeld (h:=tk2 14 rfl hHeld (h:=?_));refine rdc 7 rfl fun K hK=>?_;(try simp only[zz]);(go_simp;refine (c_impl_termValue F e1 s.values a _ (V1.o.bz bel) HA.o.1 (by rw[h8.o.1];exact HA.o.2)).mono ?_;rintro e w3 ⟨rfl,rfl⟩;rw[←hx.o]);refine hK.out _ _ (⟨k00.cell,kM0.cell⟩) ?_;clear hHeld hK K;intro hHeld;refine rdc 15 rfl fun K hK=>?_;(try simp only[zz]);(go_simp;refine (c_impl_termValue F e1 s.values b _ (V1.o.bz bel) HB.o.1 (by rw[h8.o.1];exact HB.o.2)).mono ?_;rintro e w3 ⟨rfl,rfl⟩;rw[←hy.o]);refine hK.out _ _ (⟨k00.cell,kM0.cell⟩) ?_;clear hHeld hK K;intro hHeld;(try simp only[zz]);refine tk2 16 rfl hHeld (h:=tk2 17 rfl hHeld (h:=?_));(try simp only[zz]);refine dn1 ?_;obtain ⟨X,hX⟩:∃ X,X=(w.alloc (.cells #[.int .i64 3,.int .i64 a,.int .i64 b,.bool t.eq,.int .i64 t.a,.int .i64 t.b,vF,vA,vB,vE] tC)).drew:=⟨_,rfl⟩;have hBX:Below w.heap.size w X:=by rw[hX];exact bel
 have kX:Blk X w.heap.size tC #[.int .i64 3,.int .i64 a,.int .i64 b,.bool t.eq,.int .i64 t.a,.int .i64 t.b,vF,vA,vB,vE]:=by rw[hX];exact k00.drew
 have kMX:Blk X g tM #[.slice F s.values.length e1,.slice G s.heap.length e2,.int .i64 (f:Int)]:=by rw[hX];exact kM0.drew
 have oX1:=ax (o1.o.bz hBX);have oX2:=ax (o2.o.bz hBX);have hBw:B≤w.heap.size:=by omega
 have hBB:Rf B w X:=Rf.of hBX hBw;rw[←hX];clear hX k00 kM0 kM V1 hHeld o1 o2;(replace qkX:=kX.z;replace qkMX:=kMX.z);have hSV:aJ (StateV X B X.heap.size (.agg #[.slice F s.values.length e1,.slice G s.heap.length e2]) s):=⟨_,_,_,_,rfl,oX1.o.readsI.2,oX2.o.readsI.2⟩;(go_wp2_with fail);refine (c_impl_allocated _ s x _ hSV.o h8.o.2).mono ?_;rintro e w2 ⟨rfl,hB2⟩;replace hBB:=hBB.go hB2 hBw;replace kX:=kX.nz hB2;replace kMX:=kMX.nz hB2;replace oX1:=ax (oX1.o.bz hB2);replace oX2:=ax (oX2.o.bz hB2);(replace qkX:=kX.z;replace qkMX:=kMX.z);clear hSV;cases ha:allocB s.heap x
 ·have E:aJ (basicF s 3 a b=(s,1)):=by
   show _=_;unfold basicF;rw[if_neg (by decide),if_neg (by decide),if_pos rfl,←hx.o,ha];rfl
  clear ha;(go_wp2_with fail);go_ret;rw[E.o];exact ⟨rfl,⟨hBg,_,_,kMX,_,_,rfl,oX1.o,oX2.o,dj.o⟩,hBB⟩
 have hxa:=allocB_addr ha;obtain ⟨m,rfl⟩:∃ m:Nat,x=(m:Int)+1:=⟨(x - 1).toNat,by omega⟩
 have E:aJ (basicF s 3 a b=(⟨s.values,s.heap.set m y⟩,0)):=by
  show _=_;unfold basicF;rw[if_neg (by decide),if_neg (by decide),if_pos rfl,←hx.o,←hy.o,ha,if_pos rfl,show ((m:Int)+1 - 1).toNat=m by omega]
 clear ha;have hvl:=h8.o.2;obtain ⟨gv,cur,-,rfl,hgv,kg,hc,hset⟩:=oX2.o.cell_ (k:=m) (by omega);have q:=kg.cell m;rw[hc] at q;obtain ⟨z,hz⟩:∃ z,z=s.heap[m]'(by omega):=⟨_,rfl⟩;rw[←hz] at q;have fq:=kg.frozen m;have hgvl:=kg.lt;have hne:g≠gv:=kMX.ne_ kg (by decide);have HSET:=ax (hset y);have hml:(m:Int)<(s.heap.length:Int):=by omega
 clear hset hc hz hvl;(go_wp2_with fail);go_ret;rw[E.o];refine ⟨rfl,⟨hBg,_,_,kMX.far (p:=⟨gv,m,none⟩) hne _,_,_,rfl,oX1.o.set_ne (q:=⟨gv,m,none⟩) (fun e=>dj.o gv e rfl) _,?_,dj.o⟩,hBB.set (p:=⟨gv,m,none⟩) kg (by decide) hgv _⟩;exact HSET.o
theorem basic_free (w:World) (B g:Nat) (s:Ste) (f:Nat) (a:Int) (ha:0≤a∧a≤8) (t:Fct) (vF vA vB vE:Value) (hM:Mach w B g s f) (hs:s.valid=true) :
  Calls Tryz.prog 109 #[.pointer (some ⟨g,0,none⟩),.agg #[.int .i64 5,.int .i64 a,.int .i64 0,.bool t.eq,.int .i64 t.a,.int .i64 t.b,vF,vA,vB,vE]] w fun e w'=>e=.returned (.int .i64 (basicF s 5 a 0).2)∧Mach w' B g (basicF s 5 a 0).1 f∧Rf B w w':=by
 have HA:=ax ha;have HB:aJ (0≤(0:Int)∧(0:Int)≤(8:Int)):=⟨by omega,by omega⟩;clear ha;obtain ⟨F,e1,G,e2,hBg,kM,o1,o2,dj⟩:=hM.form;have hgl:=kM.lt;have h8:=ax (Ste.valid_len hs);have HS:=ax hs;have V1:=ax (o1.readsI.2);obtain ⟨x,hx⟩:∃ x,x=tval s.values a:=⟨_,rfl⟩;obtain ⟨y,hy⟩:∃ x,x=tval s.values 0:=⟨_,rfl⟩;have hxv:0≤x∧x≤8:=by rw[hx];exact tval_le (Ste.all_vals hs) _
 have hyv:0≤y∧y≤8:=by rw[hy];exact tval_le (Ste.all_vals hs) _
 replace hx:=ax hx;replace hy:=ax hy;replace o1:=ax o1;replace o2:=ax o2;replace dj:=ax dj;clear hM hs;have hgne:g≠w.heap.size:=by omega
 (go_enter Tryz.func109,Tryz.ntmps109);have k00:Blk (w.alloc (.cells #[.int .i64 5,.int .i64 a,.int .i64 0,.bool t.eq,.int .i64 t.a,.int .i64 t.b,vF,vA,vB,vE] tC)) w.heap.size tC #[.int .i64 5,.int .i64 a,.int .i64 0,.bool t.eq,.int .i64 t.a,.int .i64 t.b,vF,vA,vB,vE]:=Blk.new _ _ _;have kM0:Blk (w.alloc (.cells #[.int .i64 5,.int .i64 a,.int .i64 0,.bool t.eq,.int .i64 t.a,.int .i64 t.b,vF,vA,vB,vE] tC)) g tM #[.slice F s.values.length e1,.slice G s.heap.length e2,.int .i64 (f:Int)]:=kM.alloc _;(go_wp2_with fail);refine wp_region_noPanic ?_;refine wp_region_held_drew (S:=(fun w'=>(∀ j,w'.cell? ⟨w.heap.size,j,none⟩=#[.int .i64 5,.int .i64 a,.int .i64 0,.bool t.eq,.int .i64 t.a,.int .i64 t.b,vF,vA,vB,vE][j]?)∧(∀ j,w'.cell? ⟨g,j,none⟩=#[.slice F s.values.length e1,.slice G s.heap.length e2,.int .i64 (f:Int)][j]?))) (by kernel_rfl) (⟨k00.cell,kM0.cell⟩) (fun hHeld=>?_);refine tk2 0 rfl hHeld (h:=tk2 1 rfl hHeld (h:=tk2 2 rfl hHeld (h:=?_)));(try simp only[zz]);refine tk2 3 rfl hHeld (h:=tk2 4 rfl hHeld (h:=tk2 5 rfl hHeld (h:=?_)));(try simp only[zz]);refine tk2 6 rfl hHeld (h:=tk2 8 rfl hHeld (h:=tk2 9 rfl hHeld (h:=?_)));(try simp only[zz]);refine tk2 10 rfl hHeld (h:=tk2 11 rfl hHeld (h:=tk2 12 rfl hHeld (h:=?_)));(try simp only[zz]);refine tk2 13 rfl hHeld (h:=tk2 14 rfl hHeld (h:=?_));refine rdc 7 rfl fun K hK=>?_;(try simp only[zz]);(go_simp;refine (c_impl_termValue F e1 s.values a _ (V1.o.bz bel) HA.o.1 (by rw[h8.o.1];exact HA.o.2)).mono ?_;rintro e w3 ⟨rfl,rfl⟩;rw[←hx.o]);refine hK.out _ _ (⟨k00.cell,kM0.cell⟩) ?_;clear hHeld hK K;intro hHeld;refine rdc 15 rfl fun K hK=>?_;(try simp only[zz]);(go_simp;refine (c_impl_termValue F e1 s.values 0 _ (V1.o.bz bel) HB.o.1 (by rw[h8.o.1];exact HB.o.2)).mono ?_;rintro e w3 ⟨rfl,rfl⟩;rw[←hy.o]);refine hK.out _ _ (⟨k00.cell,kM0.cell⟩) ?_;clear hHeld hK K;intro hHeld;(try simp only[zz]);refine tk2 16 rfl hHeld (h:=tk2 17 rfl hHeld (h:=?_));(try simp only[zz]);refine dn1 ?_;obtain ⟨X,hX⟩:∃ X,X=(w.alloc (.cells #[.int .i64 5,.int .i64 a,.int .i64 0,.bool t.eq,.int .i64 t.a,.int .i64 t.b,vF,vA,vB,vE] tC)).drew:=⟨_,rfl⟩;have hBX:Below w.heap.size w X:=by rw[hX];exact bel
 have kX:Blk X w.heap.size tC #[.int .i64 5,.int .i64 a,.int .i64 0,.bool t.eq,.int .i64 t.a,.int .i64 t.b,vF,vA,vB,vE]:=by rw[hX];exact k00.drew
 have kMX:Blk X g tM #[.slice F s.values.length e1,.slice G s.heap.length e2,.int .i64 (f:Int)]:=by rw[hX];exact kM0.drew
 have oX1:=ax (o1.o.bz hBX);have oX2:=ax (o2.o.bz hBX);have hBw:B≤w.heap.size:=by omega
 have hBB:Rf B w X:=Rf.of hBX hBw;rw[←hX];clear hX k00 kM0 kM V1 hHeld o1 o2;(replace qkX:=kX.z;replace qkMX:=kMX.z);have hSV:aJ (StateV X B X.heap.size (.agg #[.slice F s.values.length e1,.slice G s.heap.length e2]) s):=⟨_,_,_,_,rfl,oX1.o.readsI.2,oX2.o.readsI.2⟩;(go_wp2_with fail);refine (c_impl_allocated _ s x _ hSV.o h8.o.2).mono ?_;rintro e w2 ⟨rfl,hB2⟩;replace hBB:=hBB.go hB2 hBw;replace kX:=kX.nz hB2;replace kMX:=kMX.nz hB2;replace oX1:=ax (oX1.o.bz hB2);replace oX2:=ax (oX2.o.bz hB2);(replace qkX:=kX.z;replace qkMX:=kMX.z);clear hSV;cases ha:allocB s.heap x
 ·have E:aJ (basicF s 5 a 0=(s,1)):=by
   show _=_;unfold basicF;rw[if_neg (by decide),if_neg (by decide),if_neg (by decide),if_neg (by decide),←hx.o,ha];rfl
  clear ha;(go_wp2_with fail);go_ret;rw[E.o];exact ⟨rfl,⟨hBg,_,_,kMX,_,_,rfl,oX1.o,oX2.o,dj.o⟩,hBB⟩
 have hxa:=allocB_addr ha;obtain ⟨m,rfl⟩:∃ m:Nat,x=(m:Int)+1:=⟨(x - 1).toNat,by omega⟩
 have E:aJ (basicF s 5 a 0=(⟨s.values,s.heap.set m (-1)⟩,0)):=by
  show _=_;unfold basicF;rw[if_neg (by decide),if_neg (by decide),if_neg (by decide),if_neg (by decide),←hx.o,ha,if_pos rfl,show ((m:Int)+1 - 1).toNat=m by omega]
 clear ha;have hvl:=h8.o.2;obtain ⟨gv,cur,-,rfl,hgv,kg,hc,hset⟩:=oX2.o.cell_ (k:=m) (by omega);have q:=kg.cell m;rw[hc] at q;obtain ⟨z,hz⟩:∃ z,z=s.heap[m]'(by omega):=⟨_,rfl⟩;rw[←hz] at q;have fq:=kg.frozen m;have hgvl:=kg.lt;have hne:g≠gv:=kMX.ne_ kg (by decide);have HSET:=ax (hset (-1));have hml:(m:Int)<(s.heap.length:Int):=by omega
 clear hset hc hz hvl;(go_wp2_with fail);go_ret;rw[E.o];refine ⟨rfl,⟨hBg,_,_,kMX.far (p:=⟨gv,m,none⟩) hne _,_,_,rfl,oX1.o.set_ne (q:=⟨gv,m,none⟩) (fun e=>dj.o gv e rfl) _,?_,dj.o⟩,hBB.set (p:=⟨gv,m,none⟩) kg (by decide) hgv _⟩;exact HSET.o
theorem basic_new (w:World) (B g:Nat) (s:Ste) (f:Nat) (m:Nat) (hm:m<4) (t:Fct) (vF vA vB vE:Value) (hM:Mach w B g s f) (hs:s.valid=true) :
  Calls Tryz.prog 109 #[.pointer (some ⟨g,0,none⟩),.agg #[.int .i64 4,.int .i64 ((m:Int)+1),.int .i64 0,.bool t.eq,.int .i64 t.a,.int .i64 t.b,vF,vA,vB,vE]] w fun e w'=>e=.returned (.int .i64 (basicF s 4 ((m:Int)+1) 0).2)∧Mach w' B g (basicF s 4 ((m:Int)+1) 0).1 f∧Rf B w w':=by
 have hm4:(m:Int)<4:=by omega
 have hm8:(m:Int)<8:=by omega
 obtain ⟨F,e1,G,e2,hBg,kM,o1,o2,dj⟩:=hM.form;have hgl:=kM.lt;have h8:=ax (Ste.valid_len hs);have HS:=ax hs;have V1:=ax (o1.readsI.2);obtain ⟨x,hx⟩:∃ x,x=tval s.values ((m:Int)+1):=⟨_,rfl⟩;obtain ⟨y,hy⟩:∃ x,x=tval s.values 0:=⟨_,rfl⟩;have hxv:0≤x∧x≤8:=by rw[hx];exact tval_le (Ste.all_vals hs) _
 have hyv:0≤y∧y≤8:=by rw[hy];exact tval_le (Ste.all_vals hs) _
 replace hx:=ax hx;replace hy:=ax hy;replace o1:=ax o1;replace o2:=ax o2;replace dj:=ax dj;clear hM hs;have hgne:g≠w.heap.size:=by omega
 (go_enter Tryz.func109,Tryz.ntmps109);have k00:Blk (w.alloc (.cells #[.int .i64 4,.int .i64 ((m:Int)+1),.int .i64 0,.bool t.eq,.int .i64 t.a,.int .i64 t.b,vF,vA,vB,vE] tC)) w.heap.size tC #[.int .i64 4,.int .i64 ((m:Int)+1),.int .i64 0,.bool t.eq,.int .i64 t.a,.int .i64 t.b,vF,vA,vB,vE]:=Blk.new _ _ _;have kM0:Blk (w.alloc (.cells #[.int .i64 4,.int .i64 ((m:Int)+1),.int .i64 0,.bool t.eq,.int .i64 t.a,.int .i64 t.b,vF,vA,vB,vE] tC)) g tM #[.slice F s.values.length e1,.slice G s.heap.length e2,.int .i64 (f:Int)]:=kM.alloc _;(go_wp2_with fail);refine wp_region_noPanic ?_;refine wp_region_held_drew (S:=(fun w'=>(∀ j,w'.cell? ⟨w.heap.size,j,none⟩=#[.int .i64 4,.int .i64 ((m:Int)+1),.int .i64 0,.bool t.eq,.int .i64 t.a,.int .i64 t.b,vF,vA,vB,vE][j]?)∧(∀ j,w'.cell? ⟨g,j,none⟩=#[.slice F s.values.length e1,.slice G s.heap.length e2,.int .i64 (f:Int)][j]?))) (by kernel_rfl) (⟨k00.cell,kM0.cell⟩) (fun hHeld=>?_);refine tk2 0 rfl hHeld (h:=tk2 1 rfl hHeld (h:=tk2 2 rfl hHeld (h:=?_)));(try simp only[zz]);refine tk2 3 rfl hHeld (h:=tk2 4 rfl hHeld (h:=tk2 5 rfl hHeld (h:=?_)));(try simp only[zz]);refine tk2 6 rfl hHeld (h:=tk2 8 rfl hHeld (h:=tk2 9 rfl hHeld (h:=?_)));(try simp only[zz]);refine tk2 10 rfl hHeld (h:=tk2 11 rfl hHeld (h:=tk2 12 rfl hHeld (h:=?_)));(try simp only[zz]);refine tk2 13 rfl hHeld (h:=tk2 14 rfl hHeld (h:=?_));refine rdc 7 rfl fun K hK=>?_;(try simp only[zz]);(go_simp;refine (c_impl_termValue F e1 s.values ((m:Int)+1) _ (V1.o.bz bel) (by omega) (by rw[h8.o.1];exact (by omega))).mono ?_;rintro e w3 ⟨rfl,rfl⟩;rw[←hx.o]);refine hK.out _ _ (⟨k00.cell,kM0.cell⟩) ?_;clear hHeld hK K;intro hHeld;refine rdc 15 rfl fun K hK=>?_;(try simp only[zz]);(go_simp;refine (c_impl_termValue F e1 s.values 0 _ (V1.o.bz bel) (by omega) (by rw[h8.o.1];exact (by omega))).mono ?_;rintro e w3 ⟨rfl,rfl⟩;rw[←hy.o]);refine hK.out _ _ (⟨k00.cell,kM0.cell⟩) ?_;clear hHeld hK K;intro hHeld;(try simp only[zz]);refine tk2 16 rfl hHeld (h:=tk2 17 rfl hHeld (h:=?_));(try simp only[zz]);refine dn1 ?_;obtain ⟨X,hX⟩:∃ X,X=(w.alloc (.cells #[.int .i64 4,.int .i64 ((m:Int)+1),.int .i64 0,.bool t.eq,.int .i64 t.a,.int .i64 t.b,vF,vA,vB,vE] tC)).drew:=⟨_,rfl⟩;have hBX:Below w.heap.size w X:=by rw[hX];exact bel
 have kX:Blk X w.heap.size tC #[.int .i64 4,.int .i64 ((m:Int)+1),.int .i64 0,.bool t.eq,.int .i64 t.a,.int .i64 t.b,vF,vA,vB,vE]:=by rw[hX];exact k00.drew
 have kMX:Blk X g tM #[.slice F s.values.length e1,.slice G s.heap.length e2,.int .i64 (f:Int)]:=by rw[hX];exact kM0.drew
 have oX1:=ax (o1.o.bz hBX);have oX2:=ax (o2.o.bz hBX);have hBw:B≤w.heap.size:=by omega
 have hBB:Rf B w X:=Rf.of hBX hBw;rw[←hX];clear hX k00 kM0 kM V1 hHeld o1 o2;(replace qkX:=kX.z;replace qkMX:=kMX.z);have hSV:aJ (StateV X B X.heap.size (.agg #[.slice F s.values.length e1,.slice G s.heap.length e2]) s):=⟨_,_,_,_,rfl,oX1.o.readsI.2,oX2.o.readsI.2⟩;have rM:=kMX.frozen;(go_wp2_with fail);refine (c_impl_AllocX _ s _ hSV.o HS.o).mono ?_;rintro e w2 ⟨hor,hB2⟩;have hXs:=kMX.lt;replace hBB:=hBB.go hB2 hBw;replace kX:=kX.nz hB2;replace kMX:=kMX.nz hB2;replace oX1:=ax (oX1.o.bz hB2);replace oX2:=ax (oX2.o.bz hB2);(replace qkX:=kX.z;replace qkMX:=kMX.z);clear hSV;rcases hor with ⟨hf,rfl⟩|⟨n,r,hf,rfl,o⟩
 ·have E:aJ (basicF s 4 ((m:Int)+1) 0=(s,2)):=by
   show _=_;unfold basicF;rw[if_neg (by decide),if_neg (by decide),if_neg (by decide),if_pos rfl,hf]
  clear hf;(go_wp2_with fail);go_ret;rw[E.o];exact ⟨rfl,⟨hBg,_,_,kMX.alloc _,_,_,rfl,oX1.o.bz (bbox (Below.refl _ _) _),oX2.o.bz (bbox (Below.refl _ _) _),dj.o⟩,hBB.alloc hBw _⟩
 have E:aJ (basicF s 4 ((m:Int)+1) 0=(⟨s.values.set m ((n:Int)+1),s.heap.set n 0⟩,0)):=by
  show _=_;unfold basicF;rw[if_neg (by decide),if_neg (by decide),if_neg (by decide),if_pos rfl,hf,show ((m:Int)+1 - 1).toNat=m by omega]
 have hn8:=freeK_lt hf;have hn8':(n:Int)<8:=by omega
 clear hf oX1 oX2 dj;obtain ⟨nf,nh,rfl,p1,p2,dj⟩:=o;obtain ⟨NF,d1,rfl,-⟩:=p1.reads;obtain ⟨NH,d2,rfl,-⟩:=p2.reads;simp only[List.length_set] at p1 p2 dj;replace p1:=ax (p1.lower (base':=B) (by omega));replace p2:=ax (p2.lower (base':=B) (by omega));replace dj:=ax dj;have hvl:=h8.o.1;obtain ⟨gv,cur,-,rfl,hgv,kg,hc,hset⟩:=p1.o.cell_ (k:=m) (by first|omega|(simp;omega));have q:=kg.cell m;rw[hc] at q;obtain ⟨z,hz⟩:∃ z,z=s.values[m]'(by omega):=⟨_,rfl⟩;rw[←hz] at q;have fq:=kg.frozen m;have hgvl:=kg.lt;have hne:g≠gv:=kMX.ne_ kg (by decide);have hne2:w.heap.size≠gv:=kX.ne_ kg (by decide);have hml:(m:Int)<(s.values.length:Int):=by omega
 clear hset hc hz hvl;(go_wp2_with fail);obtain ⟨V,hV⟩:∃ V,V=(((w2.setCell ⟨g,0,none⟩ (.slice (some ⟨gv,0,none⟩) s.values.length d1)).setCell ⟨g,1,none⟩ (.slice NH s.heap.length d2)).alloc (.cells #[.slice (some ⟨gv,0,none⟩) s.values.length d1,.slice NH s.heap.length d2] 79)):=⟨_,rfl⟩;have kMV:Blk V g tM #[.slice (some ⟨gv,0,none⟩) s.values.length d1,.slice NH s.heap.length d2,.int .i64 (f:Int)]:=by rw[hV];exact ((kMX.set_ 0 _).set_ 1 _).alloc _
 have kXV:Blk V w.heap.size tC #[.int .i64 4,.int .i64 ((m:Int)+1),.int .i64 0,.bool t.eq,.int .i64 t.a,.int .i64 t.b,vF,vA,vB,vE]:=by rw[hV];exact ((kX.far (p:=⟨g,0,none⟩) (Ne.symm hgne) _).far (p:=⟨g,1,none⟩) (Ne.symm hgne) _).alloc _
 have kgV:Blk V gv tI cur:=by rw[hV];exact ((kg.far (p:=⟨g,0,none⟩) (Ne.symm hne) _).far (p:=⟨g,1,none⟩) (Ne.symm hne) _).alloc _
 have q1:V.cell? ⟨gv,m,none⟩=some (.int .i64 z):=(kgV.cell m).trans ((kg.cell m).symm.trans q);have fq1:=kgV.frozen m;have hgvl1:=kgV.lt;have pV1:IntsO V B (.slice (some ⟨gv,0,none⟩) s.values.length d1) s.values:=by rw[hV];exact ((p1.o.setT kMX (by decide) 0 _).setT (kMX.set_ 0 _) (by decide) 1 _).bz (bbox (Below.refl _ _) _)
 have pV2:IntsO V B (.slice NH s.heap.length d2) (s.heap.set n 0):=by rw[hV];exact ((p2.o.setT kMX (by decide) 0 _).setT (kMX.set_ 0 _) (by decide) 1 _).bz (bbox (Below.refl _ _) _)
 have hBV:Rf B w V:=by rw[hV];exact ((hBB.set (p:=⟨g,0,none⟩) kMX (by decide) hBg _).set (p:=⟨g,1,none⟩) (kMX.set_ 0 _) (by decide) hBg _).alloc hBw _
 obtain ⟨gv',cur',-,ev,hgv',kg',hc',hset'⟩:=pV1.cell_ (k:=m) (by have:=h8.o.1;omega);injection ev with ev;injection ev with ev;subst ev;have HSET:=ax (hset' ((n:Int)+1));replace pV2:=ax pV2;have hwm:IntKind.i64.wrap (m:Int)=(m:Int):=IntWalk.i64_in _ (by omega);rw[←hV];clear hV kMX kX kg q fq hgvl p1 p2 hBB pV1 hset' kg' hc' qkX qkMX;refine wp_region_noPanic ?_;refine wp_region_last' (S:=(fun w'=>(∀ j,w'.cell? ⟨w.heap.size,j,none⟩=#[.int .i64 4,.int .i64 ((m:Int)+1),.int .i64 0,.bool t.eq,.int .i64 t.a,.int .i64 t.b,vF,vA,vB,vE][j]?)∧(∀ j,w'.cell? ⟨g,j,none⟩=#[.slice (some ⟨gv,0,none⟩) s.values.length d1,.slice NH s.heap.length d2,.int .i64 (f:Int)][j]?)∧w'.cell? ⟨gv,m,none⟩=some (.int .i64 z)∧w'.frozen? ⟨gv,m,none⟩=false)) (by simp) (by kernel_rfl) (by kernel_rfl) (⟨kXV.cell,kMV.cell,q1,fq1⟩) (fun hHeld=>?_);simp only[List.dropLast,List.getLast,nopOf,List.cons_append,List.nil_append,List.length_cons,List.length_nil,Nat.zero_add,Nat.reduceAdd];refine tk2 0 rfl hHeld (h:=tk2 1 rfl hHeld (h:=tk2 2 rfl hHeld (h:=?_)));(try simp only[zz]);refine tk2 3 rfl hHeld (h:=tk2 4 rfl hHeld (h:=tk2 5 rfl hHeld (h:=?_)));(try simp only[zz]);refine tk2 6 rfl hHeld (h:=tk2 7 rfl hHeld (h:=tk2 8 rfl hHeld (h:=?_)));(try simp only[zz]);refine tk2 9 rfl hHeld (h:=?_);(try simp only[zz]);refine rdc 10 rfl fun K hK=>?_;go_simp;refine hK.out _ _ (⟨kXV.cell,kMV.cell,q1,fq1⟩) (fun hHeld=>?_);clear hK K;refine wpAnyH_done (by kernel_rfl) ?_ _;unfold lastQ;go_simp;refine NoPanic.normal ?_;(go_wp2_with fail);go_ret;rw[E.o];refine ⟨rfl,⟨hBg,_,_,kMV.drewX.far (p:=⟨gv,m,none⟩) hne _,_,_,rfl,HSET.o,?_,dj.o⟩,hBV.drew.set (p:=⟨gv,m,none⟩) kgV.drewX (by decide) hgv _⟩;exact pV2.o.set_ne (q:=⟨gv,m,none⟩) (dj.o gv rfl) _
theorem c_impl_basic (w:World) (B g:Nat) (s:Ste) (f:Nat) (k a b:Int) (t:Fct) (vF vA vB vE:Value) (hM:Mach w B g s f) (hs:s.valid=true) (hf:fieldsB k a b=true) :
  Calls Tryz.prog 109 #[.pointer (some ⟨g,0,none⟩),.agg #[.int .i64 k,.int .i64 a,.int .i64 b,.bool t.eq,.int .i64 t.a,.int .i64 t.b,vF,vA,vB,vE]] w fun e w'=>e=.returned (.int .i64 (basicF s k a b).2)∧Mach w' B g (basicF s k a b).1 f∧Rf B w w':=by
 have hk:=fieldsB_basic hf;unfold fieldsB at hf
 have hP:∀ {x:Int},isProgB x=true→∃ m:Nat,x=(m:Int)+1∧m<4:=fun {x} h=>by
  simp[isProgB] at h;exact ⟨(x - 1).toNat,by omega,by omega⟩
 by_cases k1:k=1
 ·subst k1;rw[if_pos (Or.inl rfl),Bool.and_eq_true] at hf;obtain ⟨m,rfl,hm⟩:=hP hf.1;exact basic_set w B g s f m b hm (isTermB_iff.1 hf.2) t vF vA vB vE hM hs
 by_cases k2:k=2
 ·subst k2;rw[if_pos (Or.inr rfl),Bool.and_eq_true] at hf;obtain ⟨m,rfl,hm⟩:=hP hf.1;exact basic_load w B g s f m b hm (isTermB_iff.1 hf.2) t vF vA vB vE hM hs
 rw[if_neg (by omega)] at hf;by_cases k3:k=3
 ·subst k3;rw[if_pos rfl,Bool.and_eq_true] at hf;exact basic_store w B g s f a b (isTermB_iff.1 hf.1) (isTermB_iff.1 hf.2) t vF vA vB vE hM hs
 rw[if_neg k3] at hf;by_cases k4:k=4
 ·subst k4;rw[if_pos rfl,Bool.and_eq_true,decide_eq_true_eq] at hf;obtain ⟨hf1,rfl⟩:=hf;obtain ⟨m,rfl,hm⟩:=hP hf1;exact basic_new w B g s f m hm t vF vA vB vE hM hs
 rw[if_neg k4] at hf;obtain rfl:k=5:=by omega
 rw[if_pos rfl,Bool.and_eq_true,decide_eq_true_eq] at hf;obtain ⟨hf1,rfl⟩:=hf;exact basic_free w B g s f a (isTermB_iff.1 hf1) t vF vA vB vE hM hs
end
end Go.Proofs.YtgdfdmjnadnlnaaGreat
