/- A frame that keeps the reader. -/
import Derived.Test.YtjbboklnegfohaaGreatDoorDrawA
set_option linter.unusedSimpArgs false
set_option linter.unusedVariables false
namespace Go.Proofs.YtjbboklnegfohaaGreatDoor
open Go Go.RowKit Go.Proofs
def Rdf (g q:Nat) (a b:World):Prop:=g<a.heap.size∧Fr g a b∧Rdr b g q
section
variable {g q:Nat} {a b c:World}
theorem Rdf.alloc (h:Rdf g q a b) (o:Obj):Rdf g q a (b.alloc o):=⟨h.1,h.2.1.alloc o,h.2.2.below (bbox (Below.refl _ _) o)⟩
theorem Rdf.drew (h:Rdf g q a b):Rdf g q a b.drew:=⟨h.1,h.2.1.drew,h.2.2.below (Below.refl _ _).drew⟩
theorem Rdf.set_ (h:Rdf g q a b) {p:Addr} (hp:False∨a.heap.size≤p.block) (u:Value):Rdf g q a (b.setCell p u):=by
 rcases hp with hp|hp
 ·exact hp.elim
 ·exact ⟨h.1,h.2.1.set_ (Or.inr hp) u,h.2.2.set_ (Nat.lt_of_lt_of_le h.1 hp) u⟩
theorem Rdf.goB {base:Nat} (h:Rdf g q a b) (k:Below base b c) (hb:a.heap.size≤base):Rdf g q a c:=⟨h.1,h.2.1.goB k hb,h.2.2.belowB k (Nat.lt_of_lt_of_le h.1 hb)⟩
theorem Rdf.pick {q':Nat} (h:Rdf g q a b) (hf:Fr g b c) (hR:Rdr c g q'):Rdf g q' a c:=⟨h.1,h.2.1.trans hf,hR⟩
end
end Go.Proofs.YtjbboklnegfohaaGreatDoor
