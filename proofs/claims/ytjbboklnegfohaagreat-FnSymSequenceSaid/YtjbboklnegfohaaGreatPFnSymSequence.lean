/- 'laws.FnSymSequence': for every input it returns true. No condition. -/
import Derived.Test.YtjbboklnegfohaaGreatRows
import Derived.Test.YtjbboklnegfohaaGreatMLawSymSequence
import Derived.ShutString
import Derived.ChangeOld
set_option linter.unusedSimpArgs false
set_option linter.unusedVariables false
set_option maxRecDepth 100000
set_option maxHeartbeats 25600000
namespace Go.Proofs.YtjbboklnegfohaaGreat
section
open Go Go.RowKit Go.Proofs Go.ChangeShapes Go.WideShapes Go.ChangeAt
open Go.ChangeMaps (open_string shut_string)
set_option linter.unusedVariables false
theorem own:ownKnob Tryz.prog.godebug=none:=by kernel_rfl
theorem laidOut:laidOutB Tryz.prog=true:=by kernel_rfl
theorem L8:Tryz.checked.prog.mayEnter=true:=by kernel_rfl
theorem TQ:Tryz.checked.prog.stopsHeard=true:=by kernel_rfl
theorem lifted(os:Os)(started:os.Started)(H:Type)(enc:TypeId×Value->H) :
  ReturnsInHanded {} Tryz.checked os 3 .any (Rows.fnSymSequenceSpec.pre6 enc Tryz.prog Tryz.f3 Rows.fnSymSequenceRow.domain false) (Rows.fnSymSequenceSpec.post enc Tryz.prog Tryz.f3 false true false false):=by
 refine returnsInHanded_of_change (C:=Tryz.checked) own started (by kernel_rfl) Tryz.func3
  (ChangeSpec.witness6 (enc:=enc) (C:=Tryz.checked) false ⟨#[],#[.slice none 0 0],[]⟩ 8 (by kernel_rfl) (by kernel_rfl) (by kernel_rfl) (by kernel_rfl)) ?_
 intro W base args ds gs before hval0 hW hcnd _;have hval:∀(j:Nat) t v,Tryz.f3.params[j]? = some t->args[j]? = some v->Value.okWide Tryz.prog W .any base t v:=hval0;have hW':=hW;obtain⟨p,q,hA0,hV,rfl,hfz,hnd⟩:=hW;have hA:DataW.TrodAll enc Tryz.prog W 0 (fun _=>true) true Tryz.f3.params.toList args.toList ds p:=hA0;rw[Tryz.params3] at hA hval;obtain⟨v0,vs0,d0,ds0,p0,q0,hargs,rfl,rfl,h0,r0⟩:=trodAll_cons hA;obtain⟨rfl,rfl,rfl⟩:=trodAll_nil r0;obtain rfl:args=#[v0]:=by cases args;simp_all
 obtain⟨rfl,rfl⟩:=trodVars_none hV;have k0:=h0;have lt0:∀x∈p0,x.block<W.heap.size:=by obtain⟨m,hm⟩:=k0;exact DataW.trod_lt m _ _ _ hm
 obtain⟨a0,g0⟩:=Hr (hval 0 22 v0 rfl rfl) h0;clear hA0 hval0;refine(yB v0 a0 W g0).mono fun e W' ⟨he,aj⟩=>?_;subst he;exact⟨_,rfl,_,_,_,[],_,[],hW',trodAll_mk1 (shut_bool Tryz.underlying4 _),(trodAll_cons_mk (Below.trod laidOut (by kernel_rfl) (of_decide_eq_true (by kernel_rfl)) k0 aj lt0) trodAll_mk0),rfl,aj.frame _,fun h=>by cases h⟩
set_option maxRecDepth 100000
theorem lim0:(Rows.fnSymSequenceRow.inPlace == Tryz.checked.prog.inPlace 3)=true:=by kernel_rfl
theorem lim1:(Rows.fnSymSequenceRow.unfollowed == Tryz.checked.prog.unfollowed 3)=true:=by kernel_rfl
theorem lim2:(Rows.fnSymSequenceRow.recurses == Tryz.checked.prog.recurses 3)=true:=by kernel_rfl
theorem lim3:(Rows.fnSymSequenceRow.named == Tryz.checked.prog.varsNamed 3)=true:=by kernel_rfl
theorem lim4:(Rows.fnSymSequenceRow.lifted == Tryz.checked.prog.liftsFinal)=true:=by kernel_rfl
theorem lim5:(Rows.fnSymSequenceRow.plainKeys == Tryz.checked.prog.plainKeys)=true:=by kernel_rfl
theorem lim6:Rows.fnSymSequenceRow.wf (OpenSpec.ofChange Rows.fnSymSequenceSpec)=true:=by kernel_rfl
theorem closed:joinedFacts Tryz.checked.prog 3 Tryz.f3 Rows.fnSymSequenceSpec Rows.fnSymSequenceRow=true:=by
 unfold joinedFacts;simp only[Bool.and_eq_true]
 repeat' apply And.intro
 all_goals (first|with_reducible exact L8|with_reducible exact TQ|with_reducible exact lim0|with_reducible exact lim1|with_reducible exact lim2|with_reducible exact lim3|with_reducible exact lim4|with_reducible exact lim5|with_reducible exact lim6|with_reducible exact laidOut|kernel_rfl)
theorem proved:Rows.FnSymSequenceSaid:=
 OpenClaim.holds_of_wide 3 Tryz.f3 rfl rfl rfl rfl rfl rfl rfl ⟨rfl,rfl,rfl,rfl,rfl⟩ rfl rfl rfl rfl rfl (by kernel_rfl) Tryz.func3 closed
  (of_decide_eq_true (by kernel_rfl)) (by unfold Func.isWrapper;first|(rw[if_pos (by decide +kernel)];kernel_rfl)|(rw[if_neg (by decide +kernel)];exact⟨rfl,rfl⟩))
  (fun os started H enc _=>lifted os started H enc)
#print axioms proved
end
end Go.Proofs.YtjbboklnegfohaaGreat
