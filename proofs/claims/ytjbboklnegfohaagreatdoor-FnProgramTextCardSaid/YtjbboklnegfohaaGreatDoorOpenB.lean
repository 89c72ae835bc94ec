/- A list of bytes that is read, opened. -/
import Derived.Test.YtjbboklnegfohaaGreatDoorMRange
import Derived.Test.YtjbboklnegfohaaGreatDoorDrawE
set_option linter.unusedSimpArgs false
set_option linter.unusedVariables false
namespace Go.Proofs.YtjbboklnegfohaaGreatDoor
open Go Go.RowKit Go.Proofs Go.ChangeShapes Go.WideShapes Go.ChangeAt
theorem okWide_le {P:Program} {w:World} {r:Reach} {base:Nat} {t e:TypeId} {a:Option Addr} {len cap:Nat} (ht:P.underlying t=some (.slice e)) (h:Value.okWide P w r base t (.slice a len cap)):len≤cap:=by
 simp only[Value.okWide,ht,Cell.okWide] at h
 cases a with
 | none=>cases len<;>simp_all [Cell.ok]
 | some a=>simp_all [Cell.ok]
theorem cells_u8:Tryz.prog.cellsOf 5=1:=by kernel_rfl
set_option maxRecDepth 100000 in
theorem open_bytes {H:Type} {enc:TypeId×Value→H} {w:World} {v:Value} {d:DataW H} {p:List MemPlace} (hv:Value.okWide Tryz.prog w .any 0 22 v) (h:DataW.Trod enc Tryz.prog w 0 (fun _=>true) true 22 v d p):∃ A:Option Addr×Nat×Nat,v=.slice A.1 A.2.1 A.2.2∧BytesR w A.1 A.2.1 A.2.2:=by
 obtain ⟨a,n,c,rfl⟩:=okWide_slice Tryz.underlying22 hv
 have hle:=okWide_le Tryz.underlying22 hv
 obtain ⟨fuel,hf⟩:=h
 obtain ⟨A,c',xs,e,hl,hr⟩:=tr_slice (fun b:Fin 256=>[Value.int .u8 (b.val:Int)]) 1 (fun _=>rfl) (by omega) cells_u8 Tryz.underlying22 (fun n cs x h=>by
  obtain ⟨m,e,_,hw⟩:=DataW.trod_int Tryz.underlying5 h
  simp[Lit.wf,IntKind.min,IntKind.max,IntKind.signed,IntKind.bits] at hw
  exact ⟨⟨m.toNat,by omega⟩,by rw[e];simp;omega⟩) hf
 have e':[Value.slice a n c]=[.slice A xs.length c']:=by simpa[Value.cells] using e
 injection e' with e'
 injection e' with e1 e2 e3
 subst e1 e2 e3
 refine ⟨(a,xs.length,c),rfl,xs.map Fin.val,by simp,?_,fun b hb=>?_,hle,hl⟩
 ·have:xs.flatMap (fun b:Fin 256=>[Value.int .u8 (b.val:Int)])=encU (xs.map Fin.val):=by
   clear hr hl e hle hv hf
   unfold encU
   induction xs with
   | nil=>rfl
   | cons x xs ih=>rw[List.flatMap_cons,ih];rfl
  rwa [this] at hr
 ·obtain ⟨x,_,rfl⟩:=List.mem_map.1 hb
  exact x.isLt
end Go.Proofs.YtjbboklnegfohaaGreatDoor
