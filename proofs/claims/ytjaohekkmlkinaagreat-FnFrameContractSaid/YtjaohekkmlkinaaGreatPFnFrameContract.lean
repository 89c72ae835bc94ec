/- 'laws.FnFrameContract': for every input it returns true. No condition. -/
import Derived.Test.YtjaohekkmlkinaaGreatRows
import Derived.Test.YtjaohekkmlkinaaGreatMbLawFrameContract
import Derived.ShutString
import Derived.ChangeOld
set_option linter.unusedSimpArgs false
set_option linter.unusedVariables false
set_option maxRecDepth 100000
set_option maxHeartbeats 25600000
namespace Go.Proofs.YtjaohekkmlkinaaGreat
section
open Go Go.RowKit Go.Proofs Go.ChangeShapes Go.WideShapes Go.ChangeAt
open Go.ChangeMaps (open_string shut_string)
set_option linter.unusedVariables false
theorem own:ownKnob Tryz.prog.godebug=none:=by kernel_rfl
theorem laidOut:laidOutB Tryz.prog=true:=by kernel_rfl
theorem mayEnter_:Tryz.checked.prog.mayEnter=true:=by kernel_rfl
theorem heard_:Tryz.checked.prog.stopsHeard=true:=by kernel_rfl
theorem lifted (os:Os) (started:os.Started) (H:Type) (enc:TypeId×Value→H) :
  ReturnsInHanded {} Tryz.checked os 7 .any (Rows.fnFrameContractSpec.pre6 enc Tryz.prog Tryz.f7 Rows.fnFrameContractRow.domain false) (Rows.fnFrameContractSpec.post enc Tryz.prog Tryz.f7 false true false false):=by
 refine returnsInHanded_of_change (C:=Tryz.checked) own started (by kernel_rfl) Tryz.func7
  (ChangeSpec.witness6 (enc:=enc) (C:=Tryz.checked) false ⟨#[],#[.slice none 0 0],[]⟩ 8 (by kernel_rfl) (by kernel_rfl) (by kernel_rfl) (by kernel_rfl)) ?_
 intro W base args ds gs before hval0 hW hcnd _;have hval:∀ (j:Nat) t v,Tryz.f7.params[j]? = some t→args[j]? = some v→Value.okWide Tryz.prog W .any base t v:=hval0;have hW':=hW;obtain ⟨p,q,hA0,hV,rfl,hfz,hnd⟩:=hW;have hA:DataW.TrodAll enc Tryz.prog W 0 (fun _=>true) true Tryz.f7.params.toList args.toList ds p:=hA0;rw[Tryz.params7] at hA hval;obtain ⟨v0,vs0,d0,ds0,p0,q0,hargs,rfl,rfl,h0,r0⟩:=trodAll_cons hA;obtain ⟨rfl,rfl,rfl⟩:=trodAll_nil r0;obtain rfl:args=#[v0]:=by cases args;simp_all
 obtain ⟨rfl,rfl⟩:=trodVars_none hV;have k0:=h0;have lt0:∀ x∈p0,x.block<W.heap.size:=by obtain ⟨m,hm⟩:=k0;exact DataW.trod_lt m _ _ _ hm
 obtain ⟨a0,g0⟩:=open_bytes (hval 0 54 v0 rfl rfl) h0;clear hA0 hval0;refine (c_FnFrameContract v0 a0 W g0).mono fun e W' ⟨he,bel⟩=>?_;subst he;exact ⟨_,rfl,_,_,_,[],_,[],hW',trodAll_mk1 (shut_bool Tryz.underlying4 _),(trodAll_cons_mk (Below.trod laidOut (by kernel_rfl) (of_decide_eq_true (by kernel_rfl)) k0 bel lt0) trodAll_mk0),rfl,bel.frame _,fun h=>by cases h⟩
set_option maxRecDepth 100000
theorem lim0:(Rows.fnFrameContractRow.inPlace == Tryz.checked.prog.inPlace 7)=true:=by kernel_rfl
theorem lim1:(Rows.fnFrameContractRow.unfollowed == Tryz.checked.prog.unfollowed 7)=true:=by kernel_rfl
theorem lim2:(Rows.fnFrameContractRow.recurses == Tryz.checked.prog.recurses 7)=true:=by kernel_rfl
theorem lim3:(Rows.fnFrameContractRow.named == Tryz.checked.prog.varsNamed 7)=true:=by kernel_rfl
theorem lim4:(Rows.fnFrameContractRow.lifted == Tryz.checked.prog.liftsFinal)=true:=by kernel_rfl
theorem lim5:(Rows.fnFrameContractRow.plainKeys == Tryz.checked.prog.plainKeys)=true:=by kernel_rfl
theorem lim6:Rows.fnFrameContractRow.wf (OpenSpec.ofChange Rows.fnFrameContractSpec)=true:=by kernel_rfl
theorem closed:joinedFacts Tryz.checked.prog 7 Tryz.f7 Rows.fnFrameContractSpec Rows.fnFrameContractRow=true:=by
 unfold joinedFacts;simp only[Bool.and_eq_true]
 repeat' apply And.intro
 all_goals (first|with_reducible exact mayEnter_|with_reducible exact heard_|with_reducible exact lim0|with_reducible exact lim1|with_reducible exact lim2|with_reducible exact lim3|with_reducible exact lim4|with_reducible exact lim5|with_reducible exact lim6|with_reducible exact laidOut|kernel_rfl)
theorem proved:Rows.FnFrameContractSaid:=
 OpenClaim.holds_of_wide 7 Tryz.f7 rfl rfl rfl rfl rfl rfl rfl ⟨rfl,rfl,rfl,rfl,rfl⟩ rfl rfl rfl rfl rfl (by kernel_rfl) Tryz.func7 closed
  (of_decide_eq_true (by kernel_rfl)) (by unfold Func.isWrapper;first|(rw[if_pos (by decide +kernel)];kernel_rfl)|(rw[if_neg (by decide +kernel)];exact ⟨rfl,rfl⟩))
  (fun os started H enc _=>lifted os started H enc)
#print axioms proved
end
end Go.Proofs.YtjaohekkmlkinaaGreat
