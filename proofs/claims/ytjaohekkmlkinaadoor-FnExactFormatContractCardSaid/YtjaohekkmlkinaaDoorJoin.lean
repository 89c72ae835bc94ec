/- append of a whole list; joined lists. -/
import Derived.Test.YtjaohekkmlkinaaDoorApp
import Derived.Test.YtjaohekkmlkinaaDoorVal
import Derived.Deep.RegionHeld3
import Derived.Maps.AppendAt
set_option linter.unusedSimpArgs false
set_option linter.unusedVariables false
set_option maxRecDepth 100000
set_option maxHeartbeats 25600000
namespace Go.Proofs.YtjaohekkmlkinaaDoor
section
open Go Go.RowKit Go.Proofs
section
variable {P:Program} {w:World} {base:Nat} {e:TypeId} {size:Nat}
end
section
variable {ops:Array Oper} {rest:List Oper} {o:Oper} {a:Act} {Q:Exit→Act→World→Prop} {w:World} {base lo hi c:Nat} {v:Value} {A:Option Addr}
end
section
variable {ops:Array Oper} {o:Oper} {a:Act} {K:Act→World→Prop} {Q:Exit→Act→World→Prop} {E:Prop} {w:World} {base lo hi c:Nat} {v:Value} {A:Option Addr}
end
theorem FactsO.made (w:World) (n:Nat) (h:n≤1049600):FactsO (w.alloc (.cells (madeCells #[.bool false,.int .i64 0,.int .i64 0] (n * 3)) tF)) w.heap.size (.slice (some ⟨w.heap.size,0,none⟩) 0 n) []:=
 ⟨World.ownsRow_made w _ n (Nat.le_refl _) (by unfold maxLen;omega) (by rw[size_madeCells]),by simp[Lim]⟩
theorem AtomsO.made (w:World) (n:Nat) (h:n≤1049600):AtomsO (w.alloc (.cells (madeCells #[.int .i64 0,.int .i64 0,.int .i64 0] (n * 3)) tA)) w.heap.size (.slice (some ⟨w.heap.size,0,none⟩) 0 n) []:=
 ⟨World.ownsRow_made w _ n (Nat.le_refl _) (by unfold maxLen;omega) (by rw[size_madeCells]),by simp[Lim]⟩
theorem FactsO.nil (w:World) (base:Nat):FactsO w base (.slice none 0 0) []:=⟨World.ownsRow_nil _ _ _ _,by simp[Lim]⟩
theorem AtomsO.nil (w:World) (base:Nat):AtomsO w base (.slice none 0 0) []:=⟨World.ownsRow_nil _ _ _ _,by simp[Lim]⟩
theorem zjC {a:Asn} (h:a.valid=true):a.facts.length≤12∧a.atoms.length≤6:=by
 simp only[Asn.valid,factsValid,Bool.and_eq_true,decide_eq_true_eq] at h;exact ⟨h.1.1,h.2.1⟩
theorem AsnO.zero (w:World) (base:Nat):AsnO w base (.agg #[.slice none 0 0,.slice none 0 0]) ⟨[],[]⟩:=⟨_,_,rfl,FactsO.nil _ _,AtomsO.nil _ _⟩
end
end Go.Proofs.YtjaohekkmlkinaaDoor
