/- Symbolic execution: impl.accessed. Printed by genSymK.py. -/
import Derived.Test.YtjjokmlmknllhaaGreatMSymJ
import Derived.Test.YtjjokmlmknllhaaGreatCmdJ
import Derived.Test.YtjjokmlmknllhaaGreatMOpnE
import Derived.Deep.DeepCutAuto
set_option linter.unusedSimpArgs false
set_option linter.unusedVariables false
namespace Go.Proofs.YtjjokmlmknllhaaGreat
open Go Go.RowKit Go.Proofs
attribute [local go_sem ↓] Go.wp_at_zero Go.wp_at_succ
end Go.Proofs.YtjjokmlmknllhaaGreat

/- Symbolic execution: impl.symBasic. Printed by genSymL.py. -/
namespace Go.Proofs.YtjjokmlmknllhaaGreat
open Go Go.RowKit Go.Proofs
attribute [local go_sem ↓] Go.wp_at_zero Go.wp_at_succ
end Go.Proofs.YtjjokmlmknllhaaGreat

/- Symbolic execution: spec.l10After, spec.l10Plain. Printed by genSymT.py. -/
namespace Go.Proofs.YtjjokmlmknllhaaGreat
open Go Go.RowKit Go.Proofs
attribute [local go_sem ↓] Go.wp_at_zero Go.wp_at_succ
def okQ (q:Bool) (b:Asn):Option Asn:=if q&&b.valid then some b else none
theorem AsnV.parts {w:World} {lo hi:Nat} {F G:Option Addr} {n m f g:Nat} {b:Asn} (h:AsnV w lo hi (.agg #[.slice F n f,.slice G m g]) b):FactsV w lo hi F b.facts∧AtomsV w lo hi G b.atoms:=by
 obtain ⟨A1,c1,A2,c2,e,h1,h2⟩:=h
 injection e with e
 injection e with e
 injection e with e1 e2
 injection e1 with e1
 injection e2 with e2
 injection e2 with e2
 subst e1 e2
 exact ⟨h1,h2⟩
end Go.Proofs.YtjjokmlmknllhaaGreat

/- Symbolic execution: impl.SymBasic. Printed by genSymM.py. -/
namespace Go.Proofs.YtjjokmlmknllhaaGreat
open Go Go.RowKit Go.Proofs
attribute [local go_sem ↓] Go.wp_at_zero Go.wp_at_succ
def okC (k A B:Int) (t:Fct) (i:Asn) (body els:Cms):Bool:=plainB t i body els&&fieldsB k A B
end Go.Proofs.YtjjokmlmknllhaaGreat
