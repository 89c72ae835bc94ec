/- Words for regions that allocate a variable beside calls. -/
import Derived.Test.YtlmjjflalmegfaaMKit
set_option linter.unusedSimpArgs false
set_option linter.unusedVariables false
namespace Go.Proofs.Ytlmjjflalmegfaa
open Go Go.RowKit Go.Proofs
theorem Merge {G T : Prop} (h : G) (f : Hid G → T) : T := f h
theorem absThen {K : Act → World → Prop} {Q : Exit → Act → World → Prop} {e : Exit} {a : Act} {V : World} (h : ∀ V', V' = V → Exit.then K Q e a V') : Exit.then K Q e a V := h V rfl
theorem AsnI.setT {w : World} {lo hi : Nat} {v : Value} {x : Asn} (h : AsnI w lo hi v x) {g : Nat} {t : TypeId} {cs : Array Value} (hk : Blk w g t cs) (h1 : t ≠ tF) (h2 : t ≠ tA) (i : Nat) (u : Value) : AsnI (w.setCell ⟨g, i, none⟩ u) lo hi v x := by
  obtain ⟨fv, av, e, p1, p2⟩ := h
  exact ⟨fv, av, e, ⟨p1.1.setT hk h1 i u, p1.2⟩, ⟨p2.1.setT hk h2 i u, p2.2⟩⟩
theorem IntsI.setT {w : World} {lo hi : Nat} {v : Value} {x : List Int} (h : IntsI w lo hi v x) {g : Nat} {t : TypeId} {cs : Array Value} (hk : Blk w g t cs) (h1 : t ≠ tI) (i : Nat) (u : Value) : IntsI (w.setCell ⟨g, i, none⟩ u) lo hi v x := ⟨h.1.setT hk h1 i u, h.2⟩
end Go.Proofs.Ytlmjjflalmegfaa
