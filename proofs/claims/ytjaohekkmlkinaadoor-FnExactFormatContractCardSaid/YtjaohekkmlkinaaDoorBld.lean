/- Contracts: a strings.Builder of our own: WriteString. -/
import Derived.Test.YtjaohekkmlkinaaDoorStr
import Derived.Shelf.Strings.Builder1
set_option linter.unusedSimpArgs false
set_option linter.unusedVariables false
set_option maxRecDepth 100000
set_option maxHeartbeats 25600000
namespace Go.Proofs.YtjaohekkmlkinaaDoor
section
open Go Go.RowKit Go.Proofs
abbrev tBd:Nat:=88
theorem bld_size:(Tryd.prog.info? tBd).map (·.size)=some 2:=by kernel_rfl
theorem bld_lies:liesAt Tryd.prog Tryd.prog.depth tBd (2 / Tryd.prog.cellsOf tBd) 0 tBd 1=true:=by kernel_rfl
theorem bld_byte:(Tryd.prog.info? 5).map (fun i=>(i.zero,i.size,i.bytes))=some (some (.int .u8 0),1,1):=by kernel_rfl
theorem c_copyCheck {B b:Nat} {bs:List Value} (w:World) (h:Lib.IsBuilder tBd 5 B b bs w):Calls Tryd.prog 87 #[.pointer (some ⟨b,0,none⟩)] w fun e w'=>e=.returned (.tuple #[])∧Lib.BuilderAt tBd 5 B b (.pointer (some ⟨b,0,none⟩)) bs w'∧Below B w w':=by
 obtain ⟨j,hj,hjs⟩:=Option.map_eq_some_iff.1 bld_size;rcases h with h|h
 ·have h0:=h.cell0;have hsh:=h.shape;have hfz:=h.frozen0;have HX:=ax h;clear h;(go_enter Tryd.func87,Tryd.ntmps87);(go_wp2_with fail);rw[Lib.run_to_unsafe w ⟨b,0,none⟩ Tryd.underlying85 Tryd.underlying141 hj (by rw[hjs];decide) hsh (Nat.zero_lt_succ 1)];simp only[Result.andThen];rw[Oper.upon_value];(go_wp2_with fail);rw[run_callFunc_extern Tryd.func115 (by kernel_rfl) (by kernel_rfl) (by kernel_rfl) (e:=Extern.AbiNoEscape.same) (by kernel_rfl)];rw[Lib.run_noEscape];simp only[Result.andThen];rw[Oper.upon_value];(go_wp2_with fail);rw[Lib.run_from_unsafe w ⟨b,0,none⟩ Tryd.underlying141 Tryd.underlying85 hj hsh bld_lies];simp only[Result.andThen];rw[Oper.upon_value];(go_wp2_with fail)
  go_end0
  exact ⟨rfl,HX.o.used _,(Below.refl B w).setCell (p:=⟨b,0,none⟩) HX.o.1 _⟩
 ·have h0:=h.cell0;have HX:=ax h;clear h;(go_enter Tryd.func87,Tryd.ntmps87);(go_wp2_with fail);rw[Lib.run_neq_ptr_same w _ Tryd.underlying85 hj];(go_wp2_with fail)
  go_end0
  exact ⟨rfl,HX.o,Below.refl B _⟩
theorem c_WriteString {B b:Nat} {l:Bs} (x:Bs) (w:World) (h:Lib.IsBuilder tBd 5 B b (Lib.byteCells l) w) (hlen:l.length+x.length≤100000000) (hBw:B≤w.heap.size):Calls Tryd.prog 52 #[.pointer (some ⟨b,0,none⟩),sv x] w fun e w'=>∃ v,e=.returned v∧Lib.IsBuilder tBd 5 B b (Lib.byteCells (l++x)) w'∧Below B w w':=by
 obtain ⟨i0,hi,hz0,hz1,hz2⟩:=info_parts bld_byte;have HX:=ax h;have hll:(Lib.byteCells l).length=l.length:=by simp[Lib.byteCells]
 have hxx:Lib.byteCells (l++x)=Lib.byteCells l++Lib.strCells ⟨x.toArray⟩:=by simp[Lib.byteCells,Lib.strCells]
 rw[hxx];clear h hxx;(go_enter Tryd.func52,Tryd.ntmps52);(go_wp2_with (go_at_call 87;refine (c_copyCheck _ HX.o).mono ?_));rintro e w1 ⟨rfl,h1,hb1⟩;obtain ⟨hB,v,hbk,hown,hne⟩:=h1;have c0:w1.cell? ⟨b,0,none⟩=some (.pointer (some ⟨b,0,none⟩)):=by rw[Lib.cell_of_heap hbk];rfl
 have c1:w1.cell? ⟨b,1,none⟩=some v:=by rw[Lib.cell_of_heap hbk];rfl
 go_wp2_with (at_builtin;refine Lib.wpList_append_own_string _ rfl _ _ 86 9 rfl B 5 i0 Tryd.underlying86 Tryd.underlying9 hi hz0 hz1 hz2 _ _ _ rfl hown ⟨x.toArray⟩ rfl ?c3 ?c4 ?c5 ?_)
 case c3=>unfold maxLen;simp only[ByteArray.size,List.size_toArray];omega
 case c4=>simp only[ByteArray.size,List.size_toArray];omega
 case c5=>have:=hb1.size;omega
 intro v' w2 hown' hgrow _
 have hlt:b<w1.heap.size:=by
  rcases Nat.lt_or_ge b w1.heap.size with h'|h'
  ·exact h'
  ·simp[Array.getElem?_eq_none h'] at hbk
 have hb2:w2.heap[b]? = some (.cells #[.pointer (some ⟨b,0,none⟩),v] tBd (0,0)):=by
  rw[hgrow.block b hlt (fun e=>hne e.symm)];exact hbk
 have d0:w2.cell? ⟨b,0,none⟩=some (.pointer (some ⟨b,0,none⟩)):=by rw[Lib.cell_of_heap hb2];rfl
 have d1:w2.cell? ⟨b,1,none⟩=some v:=by rw[Lib.cell_of_heap hb2];rfl
 have f1:w2.frozen? ⟨b,1,none⟩=false:=Lib.frozen_of_heap hb2 1
 obtain ⟨ao,n',cap,rfl⟩:∃ ao n' cap,v'=.slice ao n' cap:=by
  rcases hown'.2 with ⟨hv,_⟩|⟨g,cap,cur,hv,_⟩
  ·exact ⟨_,_,_,hv⟩
  ·exact ⟨_,_,_,hv⟩
 (go_wp2_with fail);go_ret2;refine ⟨_,rfl,.inr ?_,?_⟩
 ·exact Lib.BuilderAt.put (T:=tBd) (e:=5) hB hb2 (bs':=Lib.byteCells l++Lib.strCells ⟨x.toArray⟩) (by rw[List.length_append,Lib.strCells_length,hll];simpa only[ByteArray.size,List.size_toArray] using hown') (by decide)
 ·exact (hb1.grown hgrow (by have:=hb1.size;omega) (fun k hk=>(hown.lt k hk).1)).setCell (p:=⟨b,1,none⟩) hB _
end
end Go.Proofs.YtjaohekkmlkinaaDoor
