/- 'laws.FnProgramText': for every input it returns true, where 'impl.termNames' holds what the program's text lays (tied). -/
import Derived.Test.YtjbboklnegfohaaGreatDoorRows
import Derived.Test.YtjbboklnegfohaaGreatDoorOpenB
import Derived.Test.YtjbboklnegfohaaGreatDoorMLawProgramText
import Derived.Test.YtjbboklnegfohaaGreatDoorTie
import Derived.Test.YtjbboklnegfohaaGreatDoorCards
import Derived.ShutString
import Derived.ChangeSame
import Derived.ChangeVars
import Derived.OpenVars
import Derived.JoinedOf
import Derived.LaidLaws
import Derived.LaidHandle
import Derived.Stop.Joined
import Derived.SevenTiedAt
import Derived.ChangeOld
import Derived.ProofKit
import Derived.OpenShut
import Derived.LaidMore
import Derived.Lay
import Derived.Handed
import Derived.Shelf.Vars
set_option linter.unusedSimpArgs false
set_option linter.unusedVariables false
namespace Go.Proofs.YtjbboklnegfohaaGreatDoor
open Go Go.RowKit Go.Proofs Go.ChangeShapes Go.WideShapes Go.ChangeAt
open Go.ChangeMaps (open_string shut_string)
set_option linter.unusedVariables false
theorem own:ownKnob Tryz.prog.godebug=none:=by kernel_rfl
theorem laidOut:laidOutB Tryz.prog=true:=by kernel_rfl
theorem mayEnter_:Tryz.checked.prog.mayEnter=true:=by kernel_rfl
theorem heard_:Tryz.checked.prog.stopsHeard=true:=by kernel_rfl
theorem gN:Tryz.prog.globalNamed "loop.example/separation/impl.termNames" = some 0:=by kernel_rfl
theorem gNType:(Tryz.prog.globals[0]?).map (·.type)=some 122:=by kernel_rfl
theorem cellsA:Tryz.prog.cellsOf 122=9:=by kernel_rfl
theorem cellsS:Tryz.prog.cellsOf 9=1:=by kernel_rfl
def cells9:Array Value:=#[sv [110,105,108],sv [97],sv [98],sv [99],sv [100],sv [112],sv [113],sv [114],sv [115]]
theorem str_of_trod {H:Type} {enc:TypeId×Value→H} {w:World} {base:Nat} {sp:Nat→Bool} {held:Bool} {fuel:Nat} {c:Value} {y:DataW H×List MemPlace} (h:DataW.trod enc Tryz.prog w base sp held fuel 9 [c]=some y):∃ s:ByteArray,c=.string s∧y=(.lit (.string s.data.toList),[]):=by
 obtain ⟨s,hc,hy,_⟩:=DataW.trod_string Tryz.underlying9 h
 simp only[List.cons.injEq,and_true] at hc
 exact ⟨s,hc,hy⟩
theorem ba_of_list {s:ByteArray} {l:List UInt8} (h:s.data.toList=l):s=⟨l.toArray⟩:=by rw[←h]
theorem cells_of_laid {W:World} (h:laidMet Tryz.prog Rows.fnProgramTextRow.laid W):W.var? Tryz.prog "loop.example/separation/impl.termNames" = some cells9:=by
 obtain ⟨ps,⟨g0,t0,cs0,fuel0,p0,q0,_,_,_,_,⟨g,t,cs,fuel,p,q,hg,ht,hvar,hd,_,_⟩,_⟩,_⟩:=h
 obtain rfl:=Option.some.inj (gN.symm.trans hg)
 obtain rfl:=Option.some.inj (gNType.symm.trans ht)
 rw[hvar]
 congr 1
 obtain ⟨l⟩:=cs
 cases fuel with
 | zero=>simp[DataW.trod] at hd
 | succ fuel=>
  simp only[DataW.trod,Tryz.underlying122,cellsA,cellsS] at hd
  split at hd
  ·rename_i hl
   obtain ⟨c0,c1,c2,c3,c4,c5,c6,c7,c8,rfl⟩:∃ c0 c1 c2 c3 c4 c5 c6 c7 c8,l=[c0,c1,c2,c3,c4,c5,c6,c7,c8]:=by
    match l,hl with
    | [a,b,c,d,e,f,g,h,i],_=>exact ⟨a,b,c,d,e,f,g,h,i,rfl⟩
   have e:List.range 9=[0,1,2,3,4,5,6,7,8]:=rfl
   rw[e] at hd
   simp only[Option.map_eq_some_iff,List.mapM_cons,List.mapM_nil,Option.bind_eq_bind,Option.bind_eq_some_iff,Option.pure_def,Option.some.injEq] at hd
   obtain ⟨xs,⟨y0,h0,_,⟨y1,h1,_,⟨y2,h2,_,⟨y3,h3,_,⟨y4,h4,_,⟨y5,h5,_,⟨y6,h6,_,⟨y7,h7,_,⟨y8,h8,_,rfl,rfl⟩,rfl⟩,rfl⟩,rfl⟩,rfl⟩,rfl⟩,rfl⟩,rfl⟩,rfl⟩,hx⟩:=hd
   obtain ⟨n0,rfl,rfl⟩:=str_of_trod h0
   obtain ⟨n1,rfl,rfl⟩:=str_of_trod h1
   obtain ⟨n2,rfl,rfl⟩:=str_of_trod h2
   obtain ⟨n3,rfl,rfl⟩:=str_of_trod h3
   obtain ⟨n4,rfl,rfl⟩:=str_of_trod h4
   obtain ⟨n5,rfl,rfl⟩:=str_of_trod h5
   obtain ⟨n6,rfl,rfl⟩:=str_of_trod h6
   obtain ⟨n7,rfl,rfl⟩:=str_of_trod h7
   obtain ⟨n8,rfl,rfl⟩:=str_of_trod h8
   simp[Rows.laid_loop_example_separation_impl_termNames] at hx
   obtain ⟨⟨e0,e1,e2,e3,e4,e5,e6,e7,e8⟩,_⟩:=hx
   rw[ba_of_list e0,ba_of_list e1,ba_of_list e2,ba_of_list e3,ba_of_list e4,ba_of_list e5,ba_of_list e6,ba_of_list e7,ba_of_list e8]
   rfl
  ·cases hd
theorem tn_of_laid {W:World} (h:laidMetH Tryz.prog Rows.fnProgramTextRow.laid W):TN W:=by
 rw[MakeChecks.laidMetH_plain _ _ _ (by kernel_rfl)] at h
 have hv:=cells_of_laid h
 have hc:∀ i,W.cell? ⟨0,i,none⟩=cells9[i]?:=fun i=>World.var?_cell gN hv i
 refine ⟨block_lt_of_cell (hc 0),fun i hi=>?_⟩
 rw[hc i]
 match i,hi with
 | 0,_|1,_|2,_|3,_|4,_|5,_|6,_|7,_|8,_=>rfl
theorem tm_of {W:World} (h:laidMetH Tryz.prog Rows.fnProgramTextRow.laid W) (hs:W.ShapedOpen Tryz.prog):TM W:=by
 have hm:=cell_of_shapedOpen_int (g:=1) (t:=3) (zero:=#[.int .i64 0]) (k:=.i64) hs (of_decide_eq_true (by kernel_rfl)) (by kernel_rfl) rfl (by kernel_rfl) (by kernel_rfl) Tryz.underlying3
 exact ⟨tn_of_laid h,by obtain ⟨m,hm⟩:=hm;exact block_lt_of_cell hm,hm⟩
section
variable {H:Type} {enc:TypeId×Value→H}
set_option maxRecDepth 100000 in
theorem main_ (W:World) (base:Nat) (args:Array Value) (ds gs:List (DataW H)) (before:List MemPlace) (hval:∀ (j:Nat) t v,Tryz.f3.params[j]? = some t→args[j]? = some v→Value.okWide Tryz.prog W .any base t v)
  (hW:DataW.Whole enc Tryz.prog Tryz.f3.params.toList Rows.fnProgramTextSpec.vars false W args.toList ds gs before) (hL:laidMetH Tryz.prog Rows.fnProgramTextRow.laid W) (hs:W.ShapedOpen Tryz.prog) :
  Calls Tryz.prog 3 args W fun e W'=>∃ v,e=.returned v∧Rows.fnProgramTextSpec.post enc Tryz.prog Tryz.f3 false true false false W args v W':=by
 have hT:=tm_of hL hs
 have hW':=hW
 obtain ⟨p,q,hA0,hV,rfl,hfz,hnd⟩:=hW
 have hA:DataW.TrodAll enc Tryz.prog W 0 (fun _=>true) true Tryz.f3.params.toList args.toList ds p:=hA0
 rw[Tryz.params3] at hA hval
 obtain ⟨v0,vs0,d0,ds0,p0,q0,hargs,rfl,rfl,h0,r0⟩:=trodAll_cons hA
 obtain ⟨v1,vs1,d1,ds1,p1,q1,rfl,rfl,rfl,h1,r1⟩:=trodAll_cons r0
 obtain ⟨rfl,rfl,rfl⟩:=trodAll_nil r1
 obtain rfl:args=#[v0,v1]:=by cases args;simp_all
 obtain ⟨g9,t9,cs9,fuel9,d9,p9,rfl,-⟩:=id (trodVars_one hV)
 have k0:=h0
 have lt0:∀ x∈p0,x.block<W.heap.size:=by obtain ⟨m,hm⟩:=k0;exact DataW.trod_lt m _ _ _ hm
 obtain ⟨a0,g0⟩:=open_bytes (hval 0 22 v0 rfl rfl) h0
 have k1:=h1
 have lt1:∀ x∈p1,x.block<W.heap.size:=by obtain ⟨m,hm⟩:=k1;exact DataW.trod_lt m _ _ _ hm
 obtain ⟨a1,g1⟩:=open_bytes (hval 1 22 v1 rfl rfl) h1
 clear hA0
 refine (c_FnProgramText v0 a0 v1 a1 W hT g0 g1).mono fun e W' ⟨he,bel⟩=>?_
 subst he
 exact ⟨_,rfl,_,_,_,[],_,_,hW',trodAll_mk1 (shut_bool Tryz.underlying4 _),(trodAll_cons_mk (Below.trod laidOut (by kernel_rfl) (of_decide_eq_true (by kernel_rfl)) k0 bel lt0) (trodAll_cons_mk (Below.trod laidOut (by kernel_rfl) (of_decide_eq_true (by kernel_rfl)) k1 bel lt1) trodAll_mk0)),Below.trodVars laidOut bel (by kernel_rfl) hV,bel.frame _,fun h=>by cases h⟩
end
set_option maxRecDepth 100000 in
theorem lifted (os:Os) (started:os.Started) (H:Type) (enc:TypeId×Value→H) :
  ReturnsInHanded {} Tryz.checked os 3 .any (fun w args=>(Rows.fnProgramTextSpec.pre enc Tryz.prog Tryz.f3 [] false w args∧laidMetH Tryz.prog Rows.fnProgramTextRow.laid w)∧sizedMet enc Tryz.prog Tryz.f3 (OpenSpec.ofChange Rows.fnProgramTextSpec) false w args) (Rows.fnProgramTextSpec.post enc Tryz.prog Tryz.f3 false true false false):=by
 refine returnsInHanded_of_calls own started (by kernel_rfl)
  (ChangeSpec.witness_shaped (enc:=enc) (C:=Tryz.checked) (os:=os) (X:=fun w _=>laidMetH Tryz.prog Rows.fnProgramTextRow.laid w) false (World.laidAll Tryz.prog os Rows.fnProgramTextRow.laid) #[.slice none 0 0,.slice none 0 0] 8 (World.laidAll_os _ _ _)
   (World.shaped_of_ZipB (by kernel_rfl) (by kernel_rfl)) (by kernel_rfl) (by kernel_rfl) (by kernel_rfl)
   (by rw[MakeChecks.laidMetH_plain _ _ _ (by kernel_rfl)];exact laidMet_laidAll _ (by kernel_rfl) (by kernel_rfl))) ?_
 intro w tape i _ hs _ hok hpre _
 obtain ⟨_,_,_,fn,hfn,_,_,_,_,hval⟩:=hok
 obtain rfl:fn=Tryz.f3:=(Option.some.inj (Tryz.func3.symm.trans hfn)).symm
 obtain ⟨⟨⟨ds,gs,before,hW,_⟩,hL⟩,_⟩:=hpre
 refine (main_ (w.forCall tape i) w.heap.size i.args ds gs before hval (DataW.Whole.of_heap (w':=w.forCall tape i) (by rfl) hW) (hL.of_heap (by rfl)) hs).mono fun e W' ⟨v,he,hp⟩=>?_
 subst he
 exact ChangeSpec.post_blind hp
set_option maxRecDepth 100000
theorem row_holds:Rows.FnProgramTextSaid:=
 OpenClaim.holds_of_wide 3 Tryz.f3 rfl rfl rfl rfl rfl rfl rfl ⟨rfl,rfl,rfl,rfl,rfl⟩ rfl rfl rfl rfl rfl (by kernel_rfl) Tryz.func3 (by kernel_rfl)
  (of_decide_eq_true (by kernel_rfl)) (by unfold Func.isWrapper;first|(rw[if_pos (by decide +kernel)];kernel_rfl)|(rw[if_neg (by decide +kernel)];exact ⟨rfl,rfl⟩))
  (fun os started H enc _=>lifted os started H enc)
theorem proved:Rows.FnProgramTextCardSaid:=
 Claim7.holds_tied_plain_at .later [] [.data,.data,.pinned] true (true,"489d4b7ededec5c8cf18a995f0b1eea523ad507910cf01987a4b5588567e4f65") false
  row_holds (fun _ h=>by cases h) (by kernel_rfl) (fun _ h=>by cases h) fnProgramText_row_tie rfl ⟨rfl,rfl⟩ (by kernel_rfl) rfl
  (fun f fn hf hfn=>by
   obtain rfl:f=3:=Option.some.inj ((show Tryz.prog.funcNamed "loop.example/separation/laws.FnProgramText" = some 3 by kernel_rfl).symm.trans hf) |>.symm
   obtain rfl:fn=Tryz.f3:=(Option.some.inj (Tryz.func3.symm.trans hfn)).symm
   exact ⟨by kernel_rfl,fun j t ht=>by
    rw[Tryz.params3] at ht
    have hm:t∈[22]:=by simpa using Array.mem_of_getElem? ht
    have hall:([22].all fun u=>!Tryz.prog.wantsStandIn u)=true:=by kernel_rfl
    exact (show Tryz.prog.wantsStandIn t=false by simpa using List.all_eq_true.1 hall t hm)⟩)
  (by kernel_rfl)
#print axioms proved
end Go.Proofs.YtjbboklnegfohaaGreatDoor
