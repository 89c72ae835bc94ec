/- The cells that an assertion describes: in a larger state and in a smaller one, and those of a conjunction. Plain; no program. -/
import Derived.Test.YtmcgbeladjlcpaaGreatMCells
set_option linter.unusedSimpArgs false
set_option linter.unusedVariables false
set_option maxRecDepth 100000
set_option maxHeartbeats 25600000
namespace Go.Proofs.YtmcgbeladjlcpaaGreat
section
open Go Go.RowKit
theorem addAll_spec:∀ (cs seen out:List Int),addAll seen cs=some out→seen.Nodup→out.Nodup:=by
 intro cs
 induction cs with
 | nil=>intro seen out h hn;simp only[addAll,Option.some.injEq] at h;rw[←h];exact hn
 | cons c cs ih=>
  intro seen out h hn
  simp only[addAll] at h
  split at h
  ·cases h
  ·rename_i hc
   refine ih _ _ h ?_
   rw[List.nodup_append]
   exact ⟨hn,by simp,fun x hx y hy e=>by rw[List.mem_singleton] at hy;exact hc (by rw[←hy,←e];exact hx)⟩
theorem addAll_some:∀ (cs seen:List Int),(seen++cs).Nodup→addAll seen cs=some (seen++cs):=by
 intro cs
 induction cs with
 | nil=>intro seen _;simp[addAll]
 | cons c cs ih=>
  intro seen h
  simp only[addAll]
  rw[if_neg]
  ·rw[ih _ (by simpa using h)];simp
  ·intro hc
   rw[List.nodup_append] at h
   exact h.2.2 c hc c List.mem_cons_self rfl
theorem partAtoms_spec {s:Ste} (hs:s.valid=true):∀ (xs:List Atm) (seen out:List Int),partAtoms s seen xs=some out→seen.Nodup→out.Nodup∧∃ new,out=seen++new∧∀ c∈new,addrB c=true∧allocB s.heap c=true:=by
 intro xs
 induction xs with
 | nil=>intro seen out h hn;simp only[partAtoms,Option.some.injEq] at h;subst h;exact ⟨hn,[],by simp,by simp⟩
 | cons x xs ih=>
  intro seen out h hn
  simp only[partAtoms,Option.bind_eq_some_iff] at h
  obtain ⟨cs,h1,seen',h2,h3⟩:=h
  have hn':=addAll_spec _ _ _ h2 hn
  obtain ⟨g1,new,g2,g3⟩:=ih _ _ h3 hn'
  have e:=addAll_mem _ _ _ h2
  refine ⟨g1,cs++new,by rw[g2,e,List.append_assoc],fun c hc=>?_⟩
  rcases List.mem_append.1 hc with h|h
  ·exact (atomCells_addr hs h1).2 c h
  ·exact g3 c h
def Sub (h' h:List Int):Prop:=∀ x,allocB h' x=true→allocB h x=true∧cont h x=cont h' x
theorem walk_up {h' h:List Int} (H:Sub h' h):∀ (n:Nat) (x tz0:Int) (cs:List Int),walkF h' n x tz0=some cs→walkF h n x tz0=some cs:=by
 intro n
 induction n with
 | zero=>intro x tz0 cs hw;exact hw
 | succ n ih=>
  intro x tz0 cs hw
  simp only[walkF] at hw ⊢
  split at hw
  ·rename_i e;rw[if_pos e];exact hw
  ·rename_i e
   rw[if_neg e]
   split at hw
   ·rename_i ha
    obtain ⟨g1,g2⟩:=H x ha
    rw[if_pos g1,g2]
    obtain ⟨ds,hd,rfl⟩:=Option.map_eq_some_iff.1 hw
    rw[ih _ _ _ hd];rfl
   ·cases hw
theorem walk_down {h' h:List Int} (H:Sub h' h):∀ (n:Nat) (x tz0:Int) (cs:List Int),walkF h n x tz0=some cs→(∀ c∈cs,allocB h' c=true)→walkF h' n x tz0=some cs:=by
 intro n
 induction n with
 | zero=>intro x tz0 cs hw _;exact hw
 | succ n ih=>
  intro x tz0 cs hw hc
  simp only[walkF] at hw ⊢
  split at hw
  ·rename_i e;rw[if_pos e];exact hw
  ·rename_i e
   rw[if_neg e]
   split at hw
   ·obtain ⟨ds,hd,rfl⟩:=Option.map_eq_some_iff.1 hw
    have ha:=hc x List.mem_cons_self
    rw[if_pos ha,←(H x ha).2,ih _ _ _ hd fun c h=>hc c (List.mem_cons_of_mem _ h)];rfl
   ·cases hw
theorem tval_val {s:Ste} (hs:s.valid=true) (t:Int):0≤tval s.values t:=by
 have hv:s.values.all valB=true:=by simp only[Ste.valid,Bool.and_eq_true] at hs;exact hs.2.1
 exact (tval_le hv t).1
theorem atom_up {s' s:Ste} (hs:s'.valid=true) (hv:s'.values=s.values) (H:Sub s'.heap s.heap) {x:Atm} {cs:List Int} (h:atomCells s' x=some cs):atomCells s x=some cs:=by
 unfold atomCells at h ⊢
 rw[←hv]
 split at h
 ·rename_i hk;rw[if_pos hk];exact walk_up H _ _ _ _ h
 ·rename_i hk
  rw[if_neg hk]
  split at h
  ·rename_i hc
   have ha:allocB s'.heap (tval s'.values x.a)=true:=by simp only[allocB,decide_eq_true_eq];rw[hc];exact tval_val hs _
   rw[if_pos (by rw[(H _ ha).2];exact hc)];exact h
  ·cases h
theorem atom_down {s' s:Ste} (hv:s'.values=s.values) (H:Sub s'.heap s.heap) {x:Atm} {cs:List Int} (h:atomCells s x=some cs) (hc:∀ c∈cs,allocB s'.heap c=true):atomCells s' x=some cs:=by
 unfold atomCells at h ⊢
 rw[hv]
 split at h
 ·rename_i hk;rw[if_pos hk];exact walk_down H _ _ _ _ h hc
 ·rename_i hk
  rw[if_neg hk]
  split at h
  ·rename_i hcc
   obtain rfl:=Option.some.inj h
   have ha:=hc _ List.mem_cons_self
   rw[if_pos (by rw[←(H _ ha).2];exact hcc)]
  ·cases h
/-! states -/
theorem partOf_some {s:Ste} {a:Asn} {out:List Int}:partOf s a=some out↔s.valid=true∧a.valid=true∧factsHold a.facts s.values=true∧partAtoms s [] a.atoms=some out:=by
 unfold partOf
 split
 ·rename_i h
  simp only[Bool.and_eq_true] at h
  exact ⟨fun e=>⟨h.1.1,h.1.2,h.2,e⟩,fun e=>e.2.2.2⟩
 ·rename_i h
  constructor
  ·intro e;cases e
  ·rintro ⟨h1,h2,h3,-⟩
   exact absurd (by rw[h1,h2,h3];rfl) h
theorem partOf_spec {s:Ste} {a:Asn} {out:List Int} (h:partOf s a=some out):out.Nodup∧∀ c∈out,addrB c=true∧allocB s.heap c=true:=by
 obtain ⟨h1,-,-,h4⟩:=partOf_some.1 h
 obtain ⟨g1,new,g2,g3⟩:=partAtoms_spec h1 _ _ _ h4 List.nodup_nil
 rw[List.nil_append] at g2
 subst g2
 exact ⟨g1,g3⟩
theorem holds_iff {s:Ste} {a:Asn}:holdsF s a=true↔∃ out,partOf s a=some out∧∀ c,allocB s.heap c=true→c∈out:=by
 unfold holdsF
 cases h:partOf s a with
 | none=>simp
 | some out=>
  have hsp:=partOf_spec h
  have h1:∀ x∈out,0≤x:=fun x hx=>by have:=(hsp.2 x hx).1;simp[addrB] at this;omega
  have h2:∀ x∈usedL s.heap 8,0≤x:=fun x hx=>by have:=(usedL_mem _ _ _).1 hx;omega
  simp only[Option.isSome_some,Option.getD_some,Bool.true_and,beq_iff_eq,Int.natCast_inj,Option.some.injEq,exists_eq_left']
  rw[bitsOf_eq h1 h2]
  constructor
  ·intro h3 c hc
   have:=(cont_alloc hc).1
   simp[addrB] at this
   exact (h3 c).2 ((usedL_mem _ _ _).2 ⟨by omega,by omega,hc⟩)
  ·intro h3 x
   rw[usedL_mem]
   constructor
   ·intro hx
    have:=hsp.2 x hx
    have h4:=this.1
    simp[addrB] at h4
    exact ⟨by omega,by omega,this.2⟩
   ·intro hx
    exact h3 x hx.2.2
def keepH (h:List Int) (p:Int→Bool):List Int:=(List.range' 1 8).map fun n:Nat=>if p (n:Int) then cont h n else -1
def keepS (s:Ste) (p:Int→Bool):Ste:=⟨s.values,keepH s.heap p⟩
/-! the laws -/
theorem nodup_le:∀ {l m:List Int},l.Nodup→(∀ x∈l,x∈m)→l.length≤m.length:=by
 intro l
 induction l with
 | nil=>intro m _ _;simp
 | cons x l ih=>
  intro m hn h
  rw[List.nodup_cons] at hn
  have hx:=h x List.mem_cons_self
  have:=ih (m:=m.erase x) hn.2 fun y hy=>(List.mem_erase_of_ne (fun (e:y=x)=>hn.1 (by rw[←e];exact hy))).2 (h y (List.mem_cons_of_mem _ hy))
  rw[List.length_erase_of_mem hx] at this
  have:=List.length_pos_of_mem hx
  rw[List.length_cons]
  omega
theorem Asn.valid_facts {a:Asn} (h:a.valid=true):factsValid a.facts=true:=by
 simp only[Asn.valid,Bool.and_eq_true] at h;exact h.1
end

/- Contracts: impl's changes of cells. -/
section
open Go Go.RowKit Go.Proofs
end

/- Contracts: equal states (impl.StateSame). -/
section
open Go Go.RowKit Go.Proofs
attribute [local go_sem ↓] Go.wp_at_zero Go.wp_at_succ
end

end Go.Proofs.YtmcgbeladjlcpaaGreat
