/- Programs: validity, plain. -/
import Derived.Test.YtgdfdmjnadnlnaaGreatCmdH
set_option linter.unusedSimpArgs false
set_option linter.unusedVariables false
set_option maxRecDepth 100000
set_option maxHeartbeats 25600000
namespace Go.Proofs.YtgdfdmjnadnlnaaGreat
section
open Go Go.RowKit Go.Proofs
def fvalB (k a b:Int) (t:Fct) (i:Asn) (body els:Cms):Bool:=
 if k=6 then decide (a=0)&&(decide (b=0)&&(t.valid&&noAsn i))
 else if k=7 then decide (a=0)&&(decide (b=0)&&(t.valid&&(i.valid&&decide (els.len=0))))
 else plainB t i body els&&fieldsB k a b
def Cms.shape:Cms→Nat→Bool
 | .nil,_=>true
 | .cons k a b t i body els r,d=>decide (0<d)&&(fvalB k a b t i body els&&(body.shape (d - 1)&&(els.shape (d - 1)&&r.shape d)))
def Cms.count:Cms→Nat→Nat
 | .nil,_=>0
 | .cons _ _ _ _ _ body els r,d=>if 0<d then body.count (d - 1)+els.count (d - 1)+1+r.count d else 0
theorem Cms.count_shape:∀ {L:Cms} {d:Nat},L.shape d=true→L.count d=L.sz
 | .nil,_,_=>rfl
 | .cons k a b t i body els r,d,h=>by
  simp only[Cms.shape,Bool.and_eq_true,decide_eq_true_eq] at h;obtain ⟨h0,-,h1,h2,h3⟩:=h;simp only[Cms.count,Cms.sz,if_pos h0,Cms.count_shape h1,Cms.count_shape h2,Cms.count_shape h3];omega
theorem Cms.count_le:∀ (L:Cms) (d:Nat),L.count d≤L.sz
 | .nil,_=>Nat.le_refl _
 | .cons k a b t i body els r,d=>by
  simp only[Cms.count,Cms.sz];have h1:=Cms.count_le body (d - 1);have h2:=Cms.count_le els (d - 1);have h3:=Cms.count_le r d
  split<;>omega
theorem Cms.len_sz:∀ (L:Cms),L.len≤L.sz
 | .nil=>Nat.le_refl _
 | .cons k a b t i body els r=>by simp only[Cms.len,Cms.sz];have:=Cms.len_sz r;omega
theorem Cms.sz_cost:∀ (L:Cms),L.sz≤L.len+L.cost
 | .nil=>Nat.le_refl _
 | .cons k a b t i body els r=>by
  simp only[Cms.sz,Cms.len,Cms.cost];have h1:=Cms.sz_cost body;have h2:=Cms.sz_cost els;have h3:=Cms.sz_cost r;omega
def Cms.prog (L:Cms):Bool:=L.shape 4&&decide (L.sz≤16)
theorem fvalB_basic {k a b:Int} {t:Fct} {i:Asn} {body els:Cms} (h6:k≠6) (h7:k≠7):fvalB k a b t i body els=(plainB t i body els&&fieldsB k a b):=by
 unfold fvalB;rw[if_neg h6,if_neg h7]
theorem fieldsB_basic {k a b:Int} (h:fieldsB k a b=true):1≤k∧k≤5:=by
 unfold fieldsB at h
 split at h
 ·rename_i h1;rcases h1 with rfl|rfl<;>omega
 split at h
 ·omega
 split at h
 ·omega
 split at h
 ·omega
 ·cases h
theorem Cms.shape_drop:∀ (n:Nat) {L:Cms} {d:Nat},L.shape d=true→(L.drop n).shape d=true
 | 0,L,d,h=>h
 | n+1,.nil,d,h=>rfl
 | n+1,.cons k a b t i body els r,d,h=>by
  simp only[Cms.shape,Bool.and_eq_true] at h;exact Cms.shape_drop n h.2.2.2.2
def CmsW (w:World) (lo hi:Nat) (A:Option Addr) (L:Cms):Prop:=CmsV w lo hi A L∧L.len+L.cost≤1048576
def CmsR (w:World) (A:Option Addr) (L:Cms):Prop:=L.len≤9223372036854775807∧L.small 9223372036854775807∧CmsV w 0 w.heap.size A L
section
variable {w w':World} {lo hi lo' hi' a b:Nat} {v:Value} {A:Option Addr} {L:Cms}
theorem CmsW.bz (h:CmsW w lo hi A L) (hb:Below w.heap.size w w'):CmsW w' lo hi A L:=⟨h.1.bz hb,h.2⟩
theorem CmsW.mono (h:CmsW w lo hi A L) (e1:lo'≤lo) (e2:hi≤hi'):CmsW w lo' hi' A L:=⟨h.1.mono e1 e2,h.2⟩
theorem CmsW.len (h:CmsW w lo hi A L):L.len≤1049600:=by have:=h.2;omega
theorem CmsW.small (h:CmsW w lo hi A L):L.small 1049600:=Cms.cost_small (by have:=h.2;omega)
theorem CmsW.sz (h:CmsW w lo hi A L):L.sz≤1049600:=by have:=h.2;have:=Cms.sz_cost L;omega
theorem CmsR.toW (h:CmsR w A L) (hl:L.len+L.cost≤1048576):CmsW w 0 w.heap.size A L:=⟨h.2.2,hl⟩
end
def szP (L:Cms) (left:Int):Int:=szL (L.len+L.cost) left
theorem szP_le {L:Cms} {left:Int} (h:¬szP L left<0):0≤szP L left∧szP L left=left - (L.len:Int) - (L.cost:Int)∧0≤left:=by
 unfold szP at h ⊢;have:=szL_le h;omega
theorem c_szP (A:Option Addr) (c:Nat) (L:Cms) (left:Int) (w:World) (h:CmsR w A L) {w':World} (hb:Below w.heap.size w w') (h0:0≤left) (h1:left≤1048576) :
  Calls Tryz.prog 12 #[.slice A L.len c,.int .i64 left] w' fun e w2=>e=.returned (.int .i64 (szP L left))∧Below w'.heap.size w' w2:=
 c_szCmdS L A c left w' ((h.2.2.bz hb).mono (Nat.le_refl _) hb.size) h.1 h.2.1 h0 h1
def CmsI (w:World) (lo hi:Nat) (v:Value) (L:Cms):Prop:=CmsO w lo hi v L∧L.len+L.cost≤1048576
section
variable {w w':World} {lo hi lo' hi' a b:Nat} {v:Value} {A:Option Addr} {L:Cms}
theorem CmsI.bz (h:CmsI w lo hi v L) (hb:Below w.heap.size w w'):CmsI w' lo hi v L:=⟨h.1.bz hb,h.2⟩
theorem CmsI.mk (h:CmsI w lo hi v L) (hb:Mk (fun g=>a≤g∧g<b) w w') (hd:hi≤a∨b≤lo):CmsI w' lo hi v L:=⟨h.1.mk hb hd,h.2⟩
theorem CmsI.form (h:CmsI w lo hi v L):∃ A c,v=.slice A L.len c:=by obtain ⟨A,c,e,-⟩:=h.1.form;exact ⟨A,c,e⟩
theorem CmsI.reads {n c:Nat} (h:CmsI w lo hi (.slice A n c) L):CmsW w lo w.heap.size A L:=by
 obtain ⟨A',c',e,h2⟩:=h.1.form;injection e with e1 e2 e3;subst e1;exact ⟨h2,h.2⟩
theorem CmsI.len (h:CmsI w lo hi v L):L.len≤1049600:=h.1.len
end
theorem to_cmds {lo hi:Nat} (A:Option Addr) (c:Nat) (x:Cms) (w:World) (h:CmsW w lo hi A x):Calls Tryz.prog 15 #[.slice A x.len c] w fun e w'=>∃ r,e=.returned r∧CmsI w' w.heap.size w'.heap.size r x∧Below w.heap.size w w':=by
 refine (toCmdS_go _ x (Nat.lt_succ_self _) A c w lo hi h.1 h.len h.small).mono ?_;rintro e w' ⟨r,rfl,o,hB⟩;exact ⟨r,rfl,⟨o,h.2⟩,hB⟩
theorem t_cmds {lo hi lo' hi':Nat} (A A':Option Addr) (c c':Nat) (x:Cms) (w:World) (h:CmsW w lo hi A x) (h':CmsW w lo' hi' A' x):Calls Tryz.prog 20 #[.slice A x.len c,.slice A' x.len c'] w fun e w'=>e=.returned (.bool true)∧Below w.heap.size w w':=by
 refine (eqCmdS_go _ x x (Nat.lt_succ_self _) A A' c c' w lo hi lo' hi' h.1 h'.1 h.len h'.len h.small h'.small).mono ?_;rintro e w' ⟨rfl,hB⟩;exact ⟨by simp,hB⟩
theorem m_cmds (v:Value) (x:Cms) (k:Int) (lo hi:Nat) (w:World) (h:CmsI w lo hi v x) (h0:0≤k) (h1:k≤549747425280):Calls Tryz.prog 23 #[v,.int .i64 k] w fun e w'=>e=.returned (.int .i64 (k+x.marks))∧True∧Mk (fun g=>lo≤g∧g<hi) w w':=by
 have hm:=Cms.marks_le x;have h2:=h.2;refine (markCmdS_go _ x (Nat.lt_succ_self _) lo hi v k w h.1 h0 (by omega)).mono ?_;rintro e w' ⟨rfl,h3⟩;exact ⟨rfl,trivial,h3⟩
end
section
open Go Go.RowKit Go.Proofs
attribute [local go_sem ↓] Go.wp_at_zero Go.wp_at_succ
structure Cm1 where
 k:Int
 a:Int
 b:Int
 t:Fct
 i:Asn
 body:Cms
 els:Cms
def Cm1.cost (x:Cm1):Nat:=cost1 x.i x.body x.els
def Cm1.marks (x:Cm1):Nat:=3 * x.i.facts.length+3 * x.i.atoms.length+x.body.marks+x.els.marks
theorem Cm1.marks_le (x:Cm1):x.marks≤6 * x.cost:=by
 have h1:=Cms.marks_le x.body;have h2:=Cms.marks_le x.els;unfold Cm1.marks Cm1.cost cost1;omega
section
variable {w w':World} {lo hi lo' hi' a b:Nat} {v:Value} {x:Cm1}
end
end
section
open Go Go.RowKit Go.Proofs
def freeK (h:List Int):Option Nat:=(List.range 8).find? fun k:Nat=>!allocB h ((k:Int)+1)
def basicF (s:Ste) (k a b:Int):Ste×Int:=
 if k=1 then (⟨s.values.set (a - 1).toNat (tval s.values b),s.heap⟩,0)
 else if k=2 then if allocB s.heap (tval s.values b) then (⟨s.values.set (a - 1).toNat (cont s.heap (tval s.values b)),s.heap⟩,0) else (s,1)
 else if k=3 then if allocB s.heap (tval s.values a) then (⟨s.values,s.heap.set (tval s.values a - 1).toNat (tval s.values b)⟩,0) else (s,1)
 else if k=4 then match freeK s.heap with
  | some n=>(⟨s.values.set (a - 1).toNat ((n:Int)+1),s.heap.set n 0⟩,0)
  | none=>(s,2)
 else if allocB s.heap (tval s.values a) then (⟨s.values,s.heap.set (tval s.values a - 1).toNat (-1)⟩,0) else (s,1)
def loopF (R:Ste→Nat→Ste×Int×Nat) (t:Fct):Nat→Ste→Nat→Ste×Int×Nat
 | 0,s,f=>(s,3,f)
 | n+1,s,f=>if t.holds s.values then
   (if (R s f).2.1≠0 then R s f else if (R s f).2.2<1 then ((R s f).1,3,(R s f).2.2) else loopF R t n (R s f).1 ((R s f).2.2 - 1))
  else (s,0,f)
def cmdR (k a b:Int) (t:Fct) (RB RE:Ste→Nat→Ste×Int×Nat) (s:Ste) (f:Nat):Ste×Int×Nat:=
 if k=6 then (if t.holds s.values then RB s f else RE s f) else if k=7 then loopF RB t (f+1) s f else ((basicF s k a b).1,(basicF s k a b).2,f)
def cmdF (k a b:Int) (t:Fct) (RB RE:Ste→Nat→Ste×Int×Nat) (s:Ste) (f:Nat):Ste×Int×Nat:=
 if f<1 then (s,3,f) else cmdR k a b t RB RE s (f - 1)
def Cms.run:Cms→Ste→Nat→Ste×Int×Nat
 | .nil,s,f=>(s,0,f)
 | .cons k a b t _ body els r,s,f=>
  if (cmdF k a b t body.run els.run s f).2.1≠0 then cmdF k a b t body.run els.run s f else r.run (cmdF k a b t body.run els.run s f).1 (cmdF k a b t body.run els.run s f).2.2
end
end Go.Proofs.YtgdfdmjnadnlnaaGreat
