/- Data that a call has made, in blocks of its own. -/
import Derived.Test.YtjaohekkmlkinaaDoorProg
import Derived.Test.YtjaohekkmlkinaaDoorDef
set_option linter.unusedSimpArgs false
set_option linter.unusedVariables false
namespace Go.Proofs.YtjaohekkmlkinaaDoor
open Go Go.RowKit Go.Proofs
abbrev tF:Nat:=60
abbrev tA:Nat:=103
abbrev tI:Nat:=3
def FactsO (w:World) (base:Nat) (v:Value) (fs:List Fct):Prop:=w.ownsRow base tF 3 v fs.length (encF fs)∧Lim fs.length
def AtomsO (w:World) (base:Nat) (v:Value) (xs:List Atm):Prop:=w.ownsRow base tA 3 v xs.length (encA xs)∧Lim xs.length
def IntsO (w:World) (base:Nat) (v:Value) (xs:List Int):Prop:=w.ownsRow base tI 1 v xs.length (encI xs)∧Lim xs.length
def AsnO (w:World) (base:Nat) (v:Value) (a:Asn):Prop:=∃ fv av,v=.agg #[fv,av]∧FactsO w base fv a.facts∧AtomsO w base av a.atoms
section
variable {w w':World} {base base':Nat} {v:Value}
theorem FactsO.below {fs:List Fct} (h:FactsO w base v fs) (hb:Below w.heap.size w w'):FactsO w' base v fs:=⟨own_below h.1 hb,h.2⟩
theorem AtomsO.below {fs:List Atm} (h:AtomsO w base v fs) (hb:Below w.heap.size w w'):AtomsO w' base v fs:=⟨own_below h.1 hb,h.2⟩
theorem IntsO.below {fs:List Int} (h:IntsO w base v fs) (hb:Below w.heap.size w w'):IntsO w' base v fs:=⟨own_below h.1 hb,h.2⟩
theorem AsnO.below {a:Asn} (h:AsnO w base v a) (hb:Below w.heap.size w w'):AsnO w' base v a:=by
 obtain ⟨fv,av,e,h1,h2⟩:=h
 exact ⟨fv,av,e,h1.below hb,h2.below hb⟩
theorem FactsO.setb {fs:List Fct} (h:FactsO w base v fs) {a:Addr} (ha:a.block<base) (u:Value):FactsO (w.setCell a u) base v fs:=⟨ownsRow_setCell_below h.1 ha u,h.2⟩
theorem AtomsO.setb {fs:List Atm} (h:AtomsO w base v fs) {a:Addr} (ha:a.block<base) (u:Value):AtomsO (w.setCell a u) base v fs:=⟨ownsRow_setCell_below h.1 ha u,h.2⟩
theorem IntsO.setb {fs:List Int} (h:IntsO w base v fs) {a:Addr} (ha:a.block<base) (u:Value):IntsO (w.setCell a u) base v fs:=⟨ownsRow_setCell_below h.1 ha u,h.2⟩
theorem AsnO.setb {a:Asn} (h:AsnO w base v a) {p:Addr} (ha:p.block<base) (u:Value):AsnO (w.setCell p u) base v a:=by
 obtain ⟨fv,av,e,h1,h2⟩:=h
 exact ⟨fv,av,e,h1.setb ha u,h2.setb ha u⟩
theorem FactsO.lower {fs:List Fct} (h:FactsO w base v fs) (hb:base'≤base):FactsO w base' v fs:=⟨own_lower h.1 hb,h.2⟩
theorem AtomsO.lower {fs:List Atm} (h:AtomsO w base v fs) (hb:base'≤base):AtomsO w base' v fs:=⟨own_lower h.1 hb,h.2⟩
theorem IntsO.lower {fs:List Int} (h:IntsO w base v fs) (hb:base'≤base):IntsO w base' v fs:=⟨own_lower h.1 hb,h.2⟩
theorem AsnO.lower {a:Asn} (h:AsnO w base v a) (hb:base'≤base):AsnO w base' v a:=by
 obtain ⟨fv,av,e,h1,h2⟩:=h
 exact ⟨fv,av,e,h1.lower hb,h2.lower hb⟩
theorem FactsO.reads {fs:List Fct} (h:FactsO w base v fs):∃ A c,v=.slice A fs.length c∧FactsV w base w.heap.size A fs:=own_reads h.1 h.2
theorem AtomsO.reads {fs:List Atm} (h:AtomsO w base v fs):∃ A c,v=.slice A fs.length c∧AtomsV w base w.heap.size A fs:=own_reads h.1 h.2
theorem IntsO.reads {fs:List Int} (h:IntsO w base v fs):∃ A c,v=.slice A fs.length c∧IntsV w base w.heap.size A fs:=own_reads h.1 h.2
theorem IntsO.readsI {A:Option Addr} {n c:Nat} {fs:List Int} (h:IntsO w base (.slice A n c) fs):n=fs.length∧IntsV w base w.heap.size A fs:=by
 obtain ⟨A',c',e,h'⟩:=h.reads
 injection e with e1 e2 e3
 subst e1
 exact ⟨e2,h'⟩
theorem FactsO.readsI {A:Option Addr} {n c:Nat} {fs:List Fct} (h:FactsO w base (.slice A n c) fs):n=fs.length∧FactsV w base w.heap.size A fs:=by
 obtain ⟨A',c',e,h'⟩:=h.reads
 injection e with e1 e2 e3
 subst e1
 exact ⟨e2,h'⟩
theorem AtomsO.readsI {A:Option Addr} {n c:Nat} {fs:List Atm} (h:AtomsO w base (.slice A n c) fs):n=fs.length∧AtomsV w base w.heap.size A fs:=by
 obtain ⟨A',c',e,h'⟩:=h.reads
 injection e with e1 e2 e3
 subst e1
 exact ⟨e2,h'⟩
theorem AsnO.reads {a:Asn} (h:AsnO w base v a):AsnV w base w.heap.size v a:=by
 obtain ⟨fv,av,e,h1,h2⟩:=h
 obtain ⟨A1,c1,rfl,g1⟩:=h1.reads
 obtain ⟨A2,c2,rfl,g2⟩:=h2.reads
 exact ⟨A1,c1,A2,c2,e,g1,g2⟩
end
theorem infoF:(Tryd.prog.info? tF).map (fun i=>(i.zero,i.size,i.bytes))=some (some (.agg #[.bool false,.int .i64 0,.int .i64 0]),3,24):=by kernel_rfl
theorem infoA:(Tryd.prog.info? tA).map (fun i=>(i.zero,i.size,i.bytes))=some (some (.agg #[.int .i64 0,.int .i64 0,.int .i64 0]),3,24):=by kernel_rfl
theorem infoI:(Tryd.prog.info? tI).map (fun i=>(i.zero,i.size,i.bytes))=some (some (.int .i64 0),1,8):=by kernel_rfl
abbrev tB:Nat:=4
end Go.Proofs.YtjaohekkmlkinaaDoor
