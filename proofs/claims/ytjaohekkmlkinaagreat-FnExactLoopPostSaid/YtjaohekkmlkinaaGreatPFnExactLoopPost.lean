/- 'laws.FnExactLoopPost': for every input it returns true. No condition. -/
import Derived.Test.YtjaohekkmlkinaaGreatRows
import Derived.Test.YtjaohekkmlkinaaGreatLawExactLoopPost
import Derived.ShutString
import Derived.ChangeOld
set_option linter.unusedSimpArgs false
set_option linter.unusedVariables false
set_option maxRecDepth 100000
set_option maxHeartbeats 25600000
namespace Go.Proofs.YtjaohekkmlkinaaGreat
section
open Go Go.RowKit Go.Proofs Go.ChangeShapes Go.WideShapes Go.ChangeAt
open Go.ChangeMaps (open_string shut_string)
set_option linter.unusedVariables false
theorem own:ownKnob Tryz.prog.godebug=none:=by kernel_rfl
theorem laidOut:laidOutB Tryz.prog=true:=by kernel_rfl
theorem mayEnter_:Tryz.checked.prog.mayEnter=true:=by kernel_rfl
theorem heard_:Tryz.checked.prog.stopsHeard=true:=by kernel_rfl
theorem lifted (os:Os) (started:os.Started) (H:Type) (enc:TypeId×Value→H) :
  ReturnsInHanded {} Tryz.checked os 3 .any (Rows.fnExactLoopPostSpec.pre6 enc Tryz.prog Tryz.f3 Rows.fnExactLoopPostRow.domain false) (Rows.fnExactLoopPostSpec.post enc Tryz.prog Tryz.f3 false true false false):=by
 refine returnsInHanded_of_change (C:=Tryz.checked) own started (by kernel_rfl) Tryz.func3
  (ChangeSpec.witness6 (enc:=enc) (C:=Tryz.checked) false ⟨#[],#[.agg #[.slice none 0 0,.slice none 0 0],.agg #[.int .i64 0,.int .i64 0,.int .i64 0,.bool false,.int .i64 0,.int .i64 0,.slice none 0 0,.slice none 0 0,.slice none 0 0,.slice none 0 0],.slice none 0 0],[]⟩ 8 (by kernel_rfl) (by kernel_rfl) (by kernel_rfl) (by kernel_rfl)) ?_
 intro W base args ds gs before hval0 hW hcnd _;have hval:∀ (j:Nat) t v,Tryz.f3.params[j]? = some t→args[j]? = some v→Value.okWide Tryz.prog W .any base t v:=hval0;have hW':=hW;obtain ⟨p,q,hA0,hV,rfl,hfz,hnd⟩:=hW;have hA:DataW.TrodAll enc Tryz.prog W 0 (fun _=>true) true Tryz.f3.params.toList args.toList ds p:=hA0;rw[Tryz.params3] at hA hval;obtain ⟨v0,vs0,d0,ds0,p0,q0,hargs,rfl,rfl,h0,r0⟩:=trodAll_cons hA;obtain ⟨v1,vs1,d1,ds1,p1,q1,rfl,rfl,rfl,h1,r1⟩:=trodAll_cons r0;obtain ⟨v2,vs2,d2,ds2,p2,q2,rfl,rfl,rfl,h2,r2⟩:=trodAll_cons r1;obtain ⟨rfl,rfl,rfl⟩:=trodAll_nil r2;obtain rfl:args=#[v0,v1,v2]:=by cases args;simp_all
 obtain ⟨rfl,rfl⟩:=trodVars_none hV;have k0:=h0;have lt0:∀ x∈p0,x.block<W.heap.size:=by obtain ⟨m,hm⟩:=k0;exact DataW.trod_lt m _ _ _ hm
 obtain ⟨a0,g0⟩:=open_asn (hval 0 25 v0 rfl rfl) h0;have k1:=h1;have lt1:∀ x∈p1,x.block<W.heap.size:=by obtain ⟨m,hm⟩:=k1;exact DataW.trod_lt m _ _ _ hm
 obtain ⟨a1,g1⟩:∃ a1:Cm1,C1R W v1 a1:=by
  obtain ⟨cs,rfl,k,a,b,t,i,A1,c1,A2,c2,A3,c3,body,A4,c4,els,e,f1,f2,f3,f4,f5,f6,f7,f8⟩:=open_cmd (hval 1 30 v1 rfl rfl) h1;obtain ⟨l⟩:=cs;exact ⟨⟨k,a,b,t,i,body,els⟩,A1,c1,A2,c2,A3,c3,A4,c4,congrArg (fun l=>Value.agg ⟨l⟩) e,f1,f2,⟨f5,f7,f3⟩,⟨f6,f8,f4⟩⟩
 have k2:=h2;have lt2:∀ x∈p2,x.block<W.heap.size:=by obtain ⟨m,hm⟩:=k2;exact DataW.trod_lt m _ _ _ hm
 obtain ⟨a2,g2⟩:=open_ints_ (hval 2 31 v2 rfl rfl) h2;clear hA0 hval0;refine (c_FnExactLoopPost v0 a0 v1 a1 v2 a2 W g0 g1 g2).mono fun e W' ⟨he,bel⟩=>?_;subst he;exact ⟨_,rfl,_,_,_,[],_,[],hW',trodAll_mk1 (shut_bool Tryz.underlying4 _),(trodAll_cons_mk (Below.trod laidOut (by kernel_rfl) (of_decide_eq_true (by kernel_rfl)) k0 bel lt0) (trodAll_cons_mk (Below.trod laidOut (by kernel_rfl) (of_decide_eq_true (by kernel_rfl)) k1 bel lt1) (trodAll_cons_mk (Below.trod laidOut (by kernel_rfl) (of_decide_eq_true (by kernel_rfl)) k2 bel lt2) trodAll_mk0))),rfl,bel.frame _,fun h=>by cases h⟩
set_option maxRecDepth 100000
theorem lim0:(Rows.fnExactLoopPostRow.inPlace == Tryz.checked.prog.inPlace 3)=true:=by kernel_rfl
theorem lim1:(Rows.fnExactLoopPostRow.unfollowed == Tryz.checked.prog.unfollowed 3)=true:=by kernel_rfl
theorem lim2:(Rows.fnExactLoopPostRow.recurses == Tryz.checked.prog.recurses 3)=true:=by kernel_rfl
theorem lim3:(Rows.fnExactLoopPostRow.named == Tryz.checked.prog.varsNamed 3)=true:=by kernel_rfl
theorem lim4:(Rows.fnExactLoopPostRow.lifted == Tryz.checked.prog.liftsFinal)=true:=by kernel_rfl
theorem lim5:(Rows.fnExactLoopPostRow.plainKeys == Tryz.checked.prog.plainKeys)=true:=by kernel_rfl
theorem lim6:Rows.fnExactLoopPostRow.wf (OpenSpec.ofChange Rows.fnExactLoopPostSpec)=true:=by kernel_rfl
theorem closed:joinedFacts Tryz.checked.prog 3 Tryz.f3 Rows.fnExactLoopPostSpec Rows.fnExactLoopPostRow=true:=by
 unfold joinedFacts;simp only[Bool.and_eq_true]
 repeat' apply And.intro
 all_goals (first|with_reducible exact mayEnter_|with_reducible exact heard_|with_reducible exact lim0|with_reducible exact lim1|with_reducible exact lim2|with_reducible exact lim3|with_reducible exact lim4|with_reducible exact lim5|with_reducible exact lim6|with_reducible exact laidOut|kernel_rfl)
theorem proved:Rows.FnExactLoopPostSaid:=
 OpenClaim.holds_of_wide 3 Tryz.f3 rfl rfl rfl rfl rfl rfl rfl ⟨rfl,rfl,rfl,rfl,rfl⟩ rfl rfl rfl rfl rfl (by kernel_rfl) Tryz.func3 closed
  (of_decide_eq_true (by kernel_rfl)) (by unfold Func.isWrapper;first|(rw[if_pos (by decide +kernel)];kernel_rfl)|(rw[if_neg (by decide +kernel)];exact ⟨rfl,rfl⟩))
  (fun os started H enc _=>lifted os started H enc)
#print axioms proved
end
end Go.Proofs.YtjaohekkmlkinaaGreat
