/- 'laws.FnExactParseProgram': for every input it returns true, where 'impl.termNames' holds what the program's text lays (tied). -/
import Derived.Test.YtjbboklnegfohaaDoorRows
import Derived.Test.YtjbboklnegfohaaDoorMBld
import Derived.Test.YtjbboklnegfohaaDoorMLawExactParseProgram
import Derived.Test.YtjbboklnegfohaaDoorTie
import Derived.Test.YtjbboklnegfohaaDoorCards
import Derived.ShutString
import Derived.ChangeSame
import Derived.ChangeVars
import Derived.OpenVars
import Derived.JoinedOf
import Derived.LaidLaws
import Derived.LaidHandle
import Derived.Stop.Joined
import Derived.SevenTiedAt
import Derived.ChangeOld
import Derived.ProofKit
import Derived.OpenShut
import Derived.LaidMore
import Derived.Lay
import Derived.Handed
import Derived.Shelf.Vars
set_option linter.unusedSimpArgs false
set_option linter.unusedVariables false
namespace Go.Proofs.YtjbboklnegfohaaDoor
open Go Go.RowKit Go.Proofs Go.ChangeShapes Go.WideShapes Go.ChangeAt
open Go.ChangeMaps (open_string shut_string)
set_option linter.unusedVariables false
theorem own:ownKnob Tryd.prog.godebug=none:=by kernel_rfl
theorem laidOut:laidOutB Tryd.prog=true:=by kernel_rfl
theorem mayEnter_:Tryd.checked.prog.mayEnter=true:=by kernel_rfl
theorem heard_:Tryd.checked.prog.stopsHeard=true:=by kernel_rfl
theorem gN:Tryd.prog.globalNamed "loop.example/separation/impl.termNames" = some 0:=by kernel_rfl
theorem gNType:(Tryd.prog.globals[0]?).map (·.type)=some 105:=by kernel_rfl
theorem cellsA:Tryd.prog.cellsOf 105=9:=by kernel_rfl
theorem cellsS:Tryd.prog.cellsOf 9=1:=by kernel_rfl
def cells9:Array Value:=#[sv [110,105,108],sv [97],sv [98],sv [99],sv [100],sv [112],sv [113],sv [114],sv [115]]
theorem str_of_trod {H:Type} {enc:TypeId×Value→H} {w:World} {base:Nat} {sp:Nat→Bool} {held:Bool} {fuel:Nat} {c:Value} {y:DataW H×List MemPlace} (h:DataW.trod enc Tryd.prog w base sp held fuel 9 [c]=some y):∃ s:ByteArray,c=.string s∧y=(.lit (.string s.data.toList),[]):=by
 obtain ⟨s,hc,hy,_⟩:=DataW.trod_string Tryd.underlying9 h
 simp only[List.cons.injEq,and_true] at hc
 exact ⟨s,hc,hy⟩
theorem ba_of_list {s:ByteArray} {l:List UInt8} (h:s.data.toList=l):s=⟨l.toArray⟩:=by rw[←h]
theorem cells_of_laid {W:World} (h:laidMet Tryd.prog Rows.fnExactParseProgramRow.laid W):W.var? Tryd.prog "loop.example/separation/impl.termNames" = some cells9:=by
 obtain ⟨ps,⟨g0,t0,cs0,fuel0,p0,q0,_,_,_,_,⟨g,t,cs,fuel,p,q,hg,ht,hvar,hd,_,_⟩,_⟩,_⟩:=h
 obtain rfl:=Option.some.inj (gN.symm.trans hg)
 obtain rfl:=Option.some.inj (gNType.symm.trans ht)
 rw[hvar]
 congr 1
 obtain ⟨l⟩:=cs
 cases fuel with
 | zero=>simp[DataW.trod] at hd
 | succ fuel=>
  simp only[DataW.trod,Tryd.underlying105,cellsA,cellsS] at hd
  split at hd
  ·rename_i hl
   obtain ⟨c0,c1,c2,c3,c4,c5,c6,c7,c8,rfl⟩:∃ c0 c1 c2 c3 c4 c5 c6 c7 c8,l=[c0,c1,c2,c3,c4,c5,c6,c7,c8]:=by
    match l,hl with
    | [a,b,c,d,e,f,g,h,i],_=>exact ⟨a,b,c,d,e,f,g,h,i,rfl⟩
   have e:List.range 9=[0,1,2,3,4,5,6,7,8]:=rfl
   rw[e] at hd
   simp only[Option.map_eq_some_iff,List.mapM_cons,List.mapM_nil,Option.bind_eq_bind,Option.bind_eq_some_iff,Option.pure_def,Option.some.injEq] at hd
   obtain ⟨xs,⟨y0,h0,_,⟨y1,h1,_,⟨y2,h2,_,⟨y3,h3,_,⟨y4,h4,_,⟨y5,h5,_,⟨y6,h6,_,⟨y7,h7,_,⟨y8,h8,_,rfl,rfl⟩,rfl⟩,rfl⟩,rfl⟩,rfl⟩,rfl⟩,rfl⟩,rfl⟩,rfl⟩,hx⟩:=hd
   obtain ⟨n0,rfl,rfl⟩:=str_of_trod h0
   obtain ⟨n1,rfl,rfl⟩:=str_of_trod h1
   obtain ⟨n2,rfl,rfl⟩:=str_of_trod h2
   obtain ⟨n3,rfl,rfl⟩:=str_of_trod h3
   obtain ⟨n4,rfl,rfl⟩:=str_of_trod h4
   obtain ⟨n5,rfl,rfl⟩:=str_of_trod h5
   obtain ⟨n6,rfl,rfl⟩:=str_of_trod h6
   obtain ⟨n7,rfl,rfl⟩:=str_of_trod h7
   obtain ⟨n8,rfl,rfl⟩:=str_of_trod h8
   simp[Rows.laid_loop_example_separation_impl_termNames] at hx
   obtain ⟨⟨e0,e1,e2,e3,e4,e5,e6,e7,e8⟩,_⟩:=hx
   rw[ba_of_list e0,ba_of_list e1,ba_of_list e2,ba_of_list e3,ba_of_list e4,ba_of_list e5,ba_of_list e6,ba_of_list e7,ba_of_list e8]
   rfl
  ·cases hd
theorem tn_of_laid {W:World} (h:laidMetH Tryd.prog Rows.fnExactParseProgramRow.laid W):TN W:=by
 rw[MakeChecks.laidMetH_plain _ _ _ (by kernel_rfl)] at h
 have hv:=cells_of_laid h
 have hc:∀ i,W.cell? ⟨0,i,none⟩=cells9[i]?:=fun i=>World.var?_cell gN hv i
 refine ⟨block_lt_of_cell (hc 0),fun i hi=>?_⟩
 rw[hc i]
 match i,hi with
 | 0,_|1,_|2,_|3,_|4,_|5,_|6,_|7,_|8,_=>rfl
theorem tm_of {W:World} (h:laidMetH Tryd.prog Rows.fnExactParseProgramRow.laid W) (hs:W.ShapedOpen Tryd.prog):TM W:=by
 have hm:=cell_of_shapedOpen_int (g:=1) (t:=3) (zero:=#[.int .i64 0]) (k:=.i64) hs (of_decide_eq_true (by kernel_rfl)) (by kernel_rfl) rfl (by kernel_rfl) (by kernel_rfl) Tryd.underlying3
 exact ⟨tn_of_laid h,by obtain ⟨m,hm⟩:=hm;exact block_lt_of_cell hm,hm⟩
section
variable {H:Type} {enc:TypeId×Value→H}
set_option maxRecDepth 100000 in
theorem main_ (W:World) (base:Nat) (args:Array Value) (ds gs:List (DataW H)) (before:List MemPlace) (hval:∀ (j:Nat) t v,Tryd.f5.params[j]? = some t→args[j]? = some v→Value.okWide Tryd.prog W .any base t v)
  (hW:DataW.Whole enc Tryd.prog Tryd.f5.params.toList Rows.fnExactParseProgramSpec.vars false W args.toList ds gs before) (hL:laidMetH Tryd.prog Rows.fnExactParseProgramRow.laid W) (hs:W.ShapedOpen Tryd.prog) :
  Calls Tryd.prog 5 args W fun e W'=>∃ v,e=.returned v∧Rows.fnExactParseProgramSpec.post enc Tryd.prog Tryd.f5 false true false false W args v W':=by
 have hT:=tm_of hL hs
 have hW':=hW
 obtain ⟨p,q,hA0,hV,rfl,hfz,hnd⟩:=hW
 have hA:DataW.TrodAll enc Tryd.prog W 0 (fun _=>true) true Tryd.f5.params.toList args.toList ds p:=hA0
 rw[Tryd.params5] at hA hval
 obtain ⟨v0,vs0,d0,ds0,p0,q0,hargs,rfl,rfl,h0,r0⟩:=trodAll_cons hA
 obtain ⟨rfl,rfl,rfl⟩:=trodAll_nil r0
 obtain rfl:args=#[v0]:=by cases args;simp_all
 obtain ⟨g9,t9,cs9,fuel9,d9,p9,rfl,-⟩:=id (trodVars_one hV)
 have k0:=h0
 have lt0:∀ x∈p0,x.block<W.heap.size:=by obtain ⟨m,hm⟩:=k0;exact DataW.trod_lt m _ _ _ hm
 obtain ⟨s,hs0,-,-,ws⟩:=open_string Tryd.underlying9 (hval 0 9 v0 rfl rfl) h0
 clear hA0
 refine (c_FnExactParseProgram v0 s.data.toList W hT (by rw[hs0])).mono fun e W' ⟨he,bel⟩=>?_
 subst he
 exact ⟨_,rfl,_,_,_,[],_,_,hW',trodAll_mk1 (shut_bool Tryd.underlying4 _),(trodAll_cons_mk (Below.trod laidOut (by kernel_rfl) (of_decide_eq_true (by kernel_rfl)) k0 bel lt0) trodAll_mk0),Below.trodVars laidOut bel (by kernel_rfl) hV,bel.frame _,fun h=>by cases h⟩
end
set_option maxRecDepth 100000 in
theorem lifted (os:Os) (started:os.Started) (H:Type) (enc:TypeId×Value→H) :
  ReturnsInHanded {} Tryd.checked os 5 .any (fun w args=>(Rows.fnExactParseProgramSpec.pre enc Tryd.prog Tryd.f5 [] false w args∧laidMetH Tryd.prog Rows.fnExactParseProgramRow.laid w)∧sizedMet enc Tryd.prog Tryd.f5 (OpenSpec.ofChange Rows.fnExactParseProgramSpec) false w args) (Rows.fnExactParseProgramSpec.post enc Tryd.prog Tryd.f5 false true false false):=by
 refine returnsInHanded_of_calls own started (by kernel_rfl)
  (ChangeSpec.witness_shaped (enc:=enc) (C:=Tryd.checked) (os:=os) (X:=fun w _=>laidMetH Tryd.prog Rows.fnExactParseProgramRow.laid w) false (World.laidAll Tryd.prog os Rows.fnExactParseProgramRow.laid) #[.string ⟨#[]⟩] 8 (World.laidAll_os _ _ _)
   (World.shaped_of_ZipB (by kernel_rfl) (by kernel_rfl)) (by kernel_rfl) (by kernel_rfl) (by kernel_rfl)
   (by rw[MakeChecks.laidMetH_plain _ _ _ (by kernel_rfl)];exact laidMet_laidAll _ (by kernel_rfl) (by kernel_rfl))) ?_
 intro w tape i _ hs _ hok hpre _
 obtain ⟨_,_,_,fn,hfn,_,_,_,_,hval⟩:=hok
 obtain rfl:fn=Tryd.f5:=(Option.some.inj (Tryd.func5.symm.trans hfn)).symm
 obtain ⟨⟨⟨ds,gs,before,hW,_⟩,hL⟩,_⟩:=hpre
 refine (main_ (w.forCall tape i) w.heap.size i.args ds gs before hval (DataW.Whole.of_heap (w':=w.forCall tape i) (by rfl) hW) (hL.of_heap (by rfl)) hs).mono fun e W' ⟨v,he,hp⟩=>?_
 subst he
 exact ChangeSpec.post_blind hp
set_option maxRecDepth 100000
theorem row_holds:Rows.FnExactParseProgramSaid:=
 OpenClaim.holds_of_wide 5 Tryd.f5 rfl rfl rfl rfl rfl rfl rfl ⟨rfl,rfl,rfl,rfl,rfl⟩ rfl rfl rfl rfl rfl (by kernel_rfl) Tryd.func5 (by kernel_rfl)
  (of_decide_eq_true (by kernel_rfl)) (by unfold Func.isWrapper;first|(rw[if_pos (by decide +kernel)];kernel_rfl)|(rw[if_neg (by decide +kernel)];exact ⟨rfl,rfl⟩))
  (fun os started H enc _=>lifted os started H enc)
theorem proved:Rows.FnExactParseProgramCardSaid:=
 Claim7.holds_tied_plain_at .later [] [.data,.data,.pinned] true (true,"43fe65465a87341e331777c3cb27335340518d3e2bcea84a0871fc2c2df2da27") false
  row_holds (fun _ h=>by cases h) (by kernel_rfl) (fun _ h=>by cases h) fnExactParseProgram_row_tie rfl ⟨rfl,rfl⟩ (by kernel_rfl) rfl
  (fun f fn hf hfn=>by
   obtain rfl:f=5:=Option.some.inj ((show Tryd.prog.funcNamed "loop.example/separation/laws.FnExactParseProgram" = some 5 by kernel_rfl).symm.trans hf) |>.symm
   obtain rfl:fn=Tryd.f5:=(Option.some.inj (Tryd.func5.symm.trans hfn)).symm
   exact ⟨by kernel_rfl,fun j t ht=>by
    rw[Tryd.params5] at ht
    have hm:t∈[9]:=by simpa using Array.mem_of_getElem? ht
    have hall:([9].all fun u=>!Tryd.prog.wantsStandIn u)=true:=by kernel_rfl
    exact (show Tryd.prog.wantsStandIn t=false by simpa using List.all_eq_true.1 hall t hm)⟩)
  (by kernel_rfl)
#print axioms proved
end Go.Proofs.YtjbboklnegfohaaDoor
