/- Contracts: the texts of terms, facts and assertions (spec). -/
import Derived.Test.YtjaohekkmlkinaaDoorStrP
import Derived.BigQuiet
import Derived.Deep.RegionHeld3
import Derived.Deep.QuietTactic
import Derived.Deep.DeepCutAuto
set_option linter.unusedSimpArgs false
set_option linter.unusedVariables false
set_option maxRecDepth 100000
set_option maxHeartbeats 25600000
namespace Go.Proofs.YtjaohekkmlkinaaDoor
section
open Go Go.RowKit Go.Proofs
theorem c_TermName (t:Int) (w:World):Calls Tryd.prog 49 #[.int .i64 t] w fun e w'=>e=.returned (sv (tnameL t))∧w=w':=by
 cases ht:jq t
 ·(go_enter Tryd.func49,Tryd.ntmps49);(go_wp2_with (go_at_call 84;refine (c_spec_l1Is _ _).mono ?_;rintro e w' ⟨rfl,rfl⟩;rw[ht]));go_ret;exact ⟨by rw[tnameL_out ht];rfl,rfl⟩
 ·have hh:=zjA.1 ht;have h9:t=0∨t=1∨t=2∨t=3∨t=4∨t=5∨t=6∨t=7∨t=8:=by omega
  clear hh;rcases h9 with rfl|rfl|rfl|rfl|rfl|rfl|rfl|rfl|rfl
  all_goals
   (go_enter Tryd.func49,Tryd.ntmps49);(go_wp2_with (go_at_call 84;refine (c_spec_l1Is _ _).mono ?_;rintro e w' ⟨rfl,rfl⟩;rw[ht]));go_ret;exact ⟨rfl,rfl⟩
theorem c_l1Text (f:Fct) (w:World):Calls Tryd.prog 83 #[f.val] w fun e w'=>e=.returned (sv (fmtF f))∧Below w.heap.size w w':=by
 have ha:=tnameL_len f.a;have hb:=tnameL_len f.b;obtain ⟨eq,a,b⟩:=f;simp only at ha hb;unfold Fct.val;simp only;cases eq
 ·skip;have h1:=fun w:World=>addS (P:=Tryd.prog) (tnameL a) [33,61] (by simp;omega) w;have h2:=fun w:World=>addS (P:=Tryd.prog) (tnameL a++[33,61]) (tnameL b) (by simp;omega) w;(go_enter Tryd.func83,Tryd.ntmps83);(go_wp2_with fail)
  go_region_held3 (fun w'=>∀ i,w'.cell? ⟨w.heap.size,i,none⟩=#[.bool false,.int .i64 a,.int .i64 b][i]?)
   (exact Blk.cell blks)
   (first|(go_at_call 49;refine (c_TermName _ _).mono ?_;rintro e w' ⟨rfl,rfl⟩))
  all_goals
   (go_wp2_with fail);go_ret;exact ⟨ret_str (by simp[fmtF]),bel⟩
 ·skip;have h1:=fun w:World=>addS (P:=Tryd.prog) (tnameL a) [61] (by simp;omega) w;have h2:=fun w:World=>addS (P:=Tryd.prog) (tnameL a++[61]) (tnameL b) (by simp;omega) w;(go_enter Tryd.func83,Tryd.ntmps83);(go_wp2_with fail)
  go_region_held3 (fun w'=>∀ i,w'.cell? ⟨w.heap.size,i,none⟩=#[.bool true,.int .i64 a,.int .i64 b][i]?)
   (exact Blk.cell blks)
   (first|(go_at_call 49;refine (c_TermName _ _).mono ?_;rintro e w' ⟨rfl,rfl⟩))
  all_goals
   (go_wp2_with fail);go_ret;exact ⟨ret_str (by simp[fmtF]),bel⟩
end
end Go.Proofs.YtjaohekkmlkinaaDoor
