/- Reading an assertion out of a list of our own; comparing lists of assertions (the law's slAssertions). -/
import Derived.Test.YtjjokmlmknllhaaGreatMImpS
import Derived.Test.YtjjokmlmknllhaaGreatSame
import Derived.Test.YtjjokmlmknllhaaGreatMCallI
import Derived.Deep.DeepCutAuto
set_option linter.unusedSimpArgs false
set_option linter.unusedVariables false
namespace Go.Proofs.YtjjokmlmknllhaaGreat
open Go Go.RowKit Go.Proofs
attribute [local go_sem ↓] Go.wp_at_zero Go.wp_at_succ
end Go.Proofs.YtjjokmlmknllhaaGreat

/- Symbolic execution: impl.assigned, impl.allocatedFor. Printed by genSymJ.py. -/
namespace Go.Proofs.YtjjokmlmknllhaaGreat
open Go Go.RowKit Go.Proofs
attribute [local go_sem ↓] Go.wp_at_zero Go.wp_at_succ
theorem AsnO.mkA {w:World} {base:Nat} {F G G':Option Addr} {f g g' n n':Nat} {b:Asn} {ys:List Atm} {m:Nat} (h:AsnO w base (.agg #[.slice F n f,.slice G n' g]) b) (h2:AtomsO w base (.slice G' m g') ys):AsnO w base (.agg #[.slice F n f,.slice G' m g']) ⟨b.facts,ys⟩:=by
 obtain ⟨fv,av,e,p1,p2⟩:=h
 injection e with e
 injection e with e
 injection e with e1 e2
 subst e1
 exact ⟨_,_,rfl,p1,h2⟩
def OptO (w:World) (base:Nat) (r:Value) (o:Option Asn):Prop:=(∃ F n f G m g,r=.agg #[.slice F n f,.slice G m g])∧∀ b,o=some b→AsnO w base r b
theorem OptO.none (w:World) (base:Nat):OptO w base (.agg #[.slice .none 0 0,.slice .none 0 0]) .none:=⟨⟨_,_,_,_,_,_,rfl⟩,fun _ h=>by cases h⟩
theorem OptO.some {w:World} {base:Nat} {r:Value} {a:Asn} (h:AsnO w base r a):OptO w base r (.some a):=by
 refine ⟨?_,fun b e=>by obtain rfl:=Option.some.inj e;exact h⟩
 obtain ⟨F,f,G,g,rfl⟩:=h.I.form
 exact ⟨_,_,_,_,_,_,rfl⟩
theorem OptO.okX {w:World} {base:Nat} {r:Value} {a:Asn} (h:AsnO w base r a):OptO w base r (okX a):=by
 refine ⟨(OptO.some h).1,fun b e=>?_⟩
 rw[(okX_ok e).2];exact h
theorem AsnO.setT2 {w:World} {base:Nat} {v:Value} {a:Asn} (h:AsnO w base v a) {g:Nat} {cs:Array Value} (hk:Blk w g tAs cs) (u u':Value):AsnO ((w.setCell ⟨g,0,none⟩ u).setCell ⟨g,1,none⟩ u') base v a:=by
 obtain ⟨fv,av,e,p1,p2⟩:=h
 exact ⟨fv,av,e,(p1.setT hk (by decide) _ _).setT (hk.set_ _ _) (by decide) _ _,(p2.setT hk (by decide) _ _).setT (hk.set_ _ _) (by decide) _ _⟩
end Go.Proofs.YtjjokmlmknllhaaGreat
