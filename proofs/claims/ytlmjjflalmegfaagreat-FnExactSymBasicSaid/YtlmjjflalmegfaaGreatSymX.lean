/- The exact words for SymBasic. -/
import Derived.Test.YtlmjjflalmegfaaGreatSymU
import Derived.Test.YtlmjjflalmegfaaGreatMCmdOne
set_option linter.unusedSimpArgs false
set_option linter.unusedVariables false
namespace Go.Proofs.YtlmjjflalmegfaaGreat
open Go Go.RowKit Go.Proofs

def symC (a : Asn) (x : Cm1) (ks : List Int) : Option (List Asn) := symR a (okC x.k x.a x.b x.t x.i x.body x.els) x.k x.a x.b ks
--@ impl.SymBasic
theorem k_impl_SymBasic {lo hi lo1 hi1 lo' hi' : Nat} (v v1 : Value) (a : Asn) (x : Cm1) (A : Option Addr) (c : Nat) (ks : List Int) (w : World) (h : AsnC w lo hi v a) (hhi : hi ≤ w.heap.size) (h1 : C1V w lo1 hi1 v1 x) (hk : IntsV w lo' hi' A ks) :
    Calls Tryz.prog 38 #[v, v1, .slice A ks.length c] w fun e w' => ∃ r, e = .returned (.tuple #[r, .bool (symC a x ks).isSome]) ∧ AsnsR w' w.heap.size r ((symC a x ks).getD []) ∧ Below w.heap.size w w' := by
  obtain ⟨A1, c1, A2, c2, A3, c3, A4, c4, rfl, q1, q2, q3⟩ := h1
  exact c_impl_SymBasic v a x.k x.a x.b x.t x.i x.body x.els A1 A2 A3 A4 c1 c2 c3 c4 A c ks w h hhi q1 q2.len q3.len hk
--@ spec.SymBasic
theorem k_spec_SymBasic {lo hi lo1 hi1 lo' hi' : Nat} (v v1 : Value) (a : Asn) (x : Cm1) (A : Option Addr) (c : Nat) (ks : List Int) (w : World) (h : AsnC w lo hi v a) (hhi : hi ≤ w.heap.size) (h1 : C1V w lo1 hi1 v1 x) (hk : IntsV w lo' hi' A ks) (hl : ks.length ≤ 1048576) :
    Calls Tryz.prog 36 #[v, v1, .slice A ks.length c] w fun e w' => ∃ r, e = .returned (.tuple #[r, .bool (symC a x ks).isSome]) ∧ AsnsR w' w.heap.size r ((symC a x ks).getD []) ∧ Below w.heap.size w w' := by
  obtain ⟨A1, c1, A2, c2, A3, c3, A4, c4, rfl, q1, q2, q3⟩ := h1
  exact c_spec_SymBasic v a x.k x.a x.b x.t x.i x.body x.els A1 A2 A3 A4 c1 c2 c3 c4 A c ks w h hhi q1 q2.len q3.len hk (by omega)
--@
end Go.Proofs.YtlmjjflalmegfaaGreat
