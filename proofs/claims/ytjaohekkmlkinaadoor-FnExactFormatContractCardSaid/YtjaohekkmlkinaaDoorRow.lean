/- Rows that a call changes in place; marks that are held; replaced terms (impl). -/
import Derived.Test.YtjaohekkmlkinaaDoorJoin
import Derived.Test.YtjaohekkmlkinaaDoorSet
import Derived.Test.YtjaohekkmlkinaaDoorArgS
import Derived.Deep.RegionHeld3
import Derived.Deep.DrawnRows
set_option linter.unusedSimpArgs false
set_option linter.unusedVariables false
set_option maxRecDepth 100000
set_option maxHeartbeats 25600000
namespace Go.Proofs.YtjaohekkmlkinaaDoor
section
open Go Go.RowKit Go.Proofs
attribute [local go_sem ↓] Go.wp_at_zero Go.wp_at_succ
theorem FactsV.one {w:World} {g:Nat} {f:Fct} (h:Blk w g tF #[.bool f.eq,.int .i64 f.a,.int .i64 f.b]):FactsV w g (g+1) (some ⟨g,0,none⟩) [f]:=
 ⟨⟨by simp,fun _=>⟨g,0,rfl,Nat.le_refl _,Nat.lt_succ_self _,fun j u hu=>by rw[Nat.zero_add,h.cell];simpa using hu⟩⟩,by simp[Lim]⟩
theorem AtomsV.one {w:World} {g:Nat} {f:Atm} (h:Blk w g tA #[.int .i64 f.kind,.int .i64 f.a,.int .i64 f.b]):AtomsV w g (g+1) (some ⟨g,0,none⟩) [f]:=
 ⟨⟨by simp,fun _=>⟨g,0,rfl,Nat.le_refl _,Nat.lt_succ_self _,fun j u hu=>by rw[Nat.zero_add,h.cell];simpa using hu⟩⟩,by simp[Lim]⟩
theorem FactsV.cl {w:World} {lo hi b o k:Nat} {fs:List Fct} (h:FactsV w lo hi (some ⟨b,o,none⟩) fs) (hk:k<fs.length):w.cell? ⟨b,o+k*3,none⟩=some (.bool fs[k].eq)∧w.cell? ⟨b,o+k*3+1,none⟩=some (.int .i64 fs[k].a)∧w.cell? ⟨b,o+k*3+2,none⟩=some (.int .i64 fs[k].b):=by
 obtain ⟨b',o',e,hc⟩:=h.at hk;simp only[Option.some.injEq,Addr.mk.injEq,and_true] at e;obtain ⟨rfl,rfl⟩:=e;exact hc
theorem AtomsV.cl {w:World} {lo hi b o k:Nat} {fs:List Atm} (h:AtomsV w lo hi (some ⟨b,o,none⟩) fs) (hk:k<fs.length):w.cell? ⟨b,o+k*3,none⟩=some (.int .i64 fs[k].kind)∧w.cell? ⟨b,o+k*3+1,none⟩=some (.int .i64 fs[k].a)∧w.cell? ⟨b,o+k*3+2,none⟩=some (.int .i64 fs[k].b):=by
 obtain ⟨b',o',e,hc⟩:=h.at hk;simp only[Option.some.injEq,Addr.mk.injEq,and_true] at e;obtain ⟨rfl,rfl⟩:=e;exact hc
theorem FactsV.blt {w:World} {lo hi k:Nat} {A:Option Addr} {fs:List Fct} (h:FactsV w lo hi A fs) (hk:k<fs.length):∃ b o,A=some ⟨b,o,none⟩∧b<w.heap.size:=by
 obtain ⟨b,o,e,hc,-⟩:=h.at hk;exact ⟨b,o,e,block_lt_of_cell hc⟩
theorem AtomsV.blt {w:World} {lo hi k:Nat} {A:Option Addr} {fs:List Atm} (h:AtomsV w lo hi A fs) (hk:k<fs.length):∃ b o,A=some ⟨b,o,none⟩∧b<w.heap.size:=by
 obtain ⟨b,o,e,hc,-⟩:=h.at hk;exact ⟨b,o,e,block_lt_of_cell hc⟩
theorem IntsV.blt {w:World} {lo hi k:Nat} {A:Option Addr} {fs:List Int} (h:IntsV w lo hi A fs) (hk:k<fs.length):∃ b o,A=some ⟨b,o,none⟩∧b<w.heap.size:=by
 obtain ⟨b,o,e,hc⟩:=h.at hk;exact ⟨b,o,e,block_lt_of_cell hc⟩
end
end Go.Proofs.YtjaohekkmlkinaaDoor
