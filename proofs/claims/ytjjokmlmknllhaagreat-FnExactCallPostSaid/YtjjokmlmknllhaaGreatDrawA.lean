/- What the reader draws: numbers, terms, facts, atoms, lists of terms. -/
import Derived.Test.YtjjokmlmknllhaaGreatDraw
import Derived.Test.YtjjokmlmknllhaaGreatMAppX
set_option linter.unusedSimpArgs false
set_option linter.unusedVariables false
namespace Go.Proofs.YtjjokmlmknllhaaGreat
open Go Go.RowKit Go.Proofs
end Go.Proofs.YtjjokmlmknllhaaGreat
