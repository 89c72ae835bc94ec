/- Contracts: the texts of terms, facts and assertions (spec). -/
import Derived.Test.YtjaohekkmlkinaaDoorStrP
import Derived.Test.YtjaohekkmlkinaaDoorVal
import Derived.BigQuiet
import Derived.Deep.RegionHeld3
import Derived.Deep.QuietTactic
import Derived.Deep.DeepCutAuto
set_option linter.unusedSimpArgs false
set_option linter.unusedVariables false
namespace Go.Proofs.YtjaohekkmlkinaaDoor
open Go Go.RowKit Go.Proofs
set_option maxHeartbeats 1600000 in
theorem c_TermName (t:Int) (w:World):Calls Tryd.prog 49 #[.int .i64 t] w fun e w'=>e=.returned (sv (tnameL t))∧w=w':=by
 cases ht:isTermB t
 ·go_enter Tryd.func49,Tryd.ntmps49
  go_wp2_with (go_at_call 84;refine (c_spec_l1Is _ _).mono ?_;rintro e w' ⟨rfl,rfl⟩;rw[ht])
  go_ret
  exact ⟨by rw[tnameL_out ht];rfl,rfl⟩
 ·have hh:=isTermB_iff.1 ht
  have h9:t=0∨t=1∨t=2∨t=3∨t=4∨t=5∨t=6∨t=7∨t=8:=by omega
  clear hh
  rcases h9 with rfl|rfl|rfl|rfl|rfl|rfl|rfl|rfl|rfl
  all_goals
   go_enter Tryd.func49,Tryd.ntmps49
   go_wp2_with (go_at_call 84;refine (c_spec_l1Is _ _).mono ?_;rintro e w' ⟨rfl,rfl⟩;rw[ht])
   go_ret
   exact ⟨rfl,rfl⟩
set_option maxHeartbeats 1600000 in
theorem c_ParseTerm (l:Bs) (w:World):Calls Tryd.prog 33 #[sv l] w fun e w'=>e=.returned (.tuple #[.int .i64 ((parseT l).getD 0:Nat),.bool (parseT l).isSome])∧w=w':=by
 go_enter Tryd.func33,Tryd.ntmps33
 go_wp2_with fail
 go_loopw [4] (fun i wr=>∃ k:Nat,k≤9∧i=.int .i64 k∧Hid (∀ j:Nat,j<k→tnameL j≠l)∧wr=w) (fun i _=>9 - (intOf i).toNat)
 case atStart=>exact ⟨0,by omega,rfl,Lib.hid fun j h=>by omega,rfl⟩
 case round=>
  obtain ⟨k,hk,rfl,HN,rfl⟩:=hrel
  by_cases h9:k<9
  ·have hki:(k:Int)≤8:=by omega
   by_cases he:tnameL k=l
   ·have hb:(tnameL k == l)=true:=by rw[bytes_eq];simpa using he
    have HR:=Lib.hid (parseT_some h9 he HN.out)
    clear he
    go_wp2_with (go_at_call 49;refine (c_TermName _ _).mono ?_;rintro e w' ⟨rfl,rfl⟩)
    refine bodyPost_ret (v:=.tuple #[.int .i64 k,.bool true]) (by simp[results,Tryd.results33,go_sem]) rfl ⟨by rw[HR.out];rfl,rfl⟩
   ·have hb:(tnameL k == l)=false:=by rw[bytes_eq];simpa using he
    have HM:Hid (∀ j:Nat,j<k+1→tnameL j≠l):=Lib.hid fun j hj=>by
     by_cases e:j=k
     ·subst e;exact he
     ·exact HN.out j (by omega)
    clear he
    go_wp2_with (go_at_call 49;refine (c_TermName _ _).mono ?_;rintro e w' ⟨rfl,rfl⟩)
    go_round
    case rel=>exact ⟨k+1,by omega,by go_num,HM,by first|rfl|trivial⟩
    case measure=>simp[intOf];omega
  ·obtain rfl:k=9:=by omega
   have HR:=Lib.hid (parseT_none HN.out)
   go_wp2_with fail
   refine bodyPost_ret (v:=.tuple #[.int .i64 0,.bool false]) (by simp[results,Tryd.results33,go_sem]) rfl ⟨by rw[HR.out];rfl,rfl⟩
theorem c_ParseTermX (l:Bs) (i j:Nat) (w:World):Calls Tryd.prog 33 #[.string ((ByteArray.mk l.toArray).extract i j)] w fun e w'=>e=.returned (.tuple #[.int .i64 ((parseT ((l.drop i).take (j - i))).getD 0:Nat),.bool (parseT ((l.drop i).take (j - i))).isSome])∧w=w':=by
 rw[bext]
 exact c_ParseTerm _ w
set_option maxRecDepth 100000 in
set_option maxHeartbeats 3200000 in
theorem c_l1Text (f:Fct) (w:World):Calls Tryd.prog 83 #[f.val] w fun e w'=>e=.returned (sv (fmtF f))∧Below w.heap.size w w':=by
 have ha:=tnameL_len f.a
 have hb:=tnameL_len f.b
 obtain ⟨eq,a,b⟩:=f
 simp only at ha hb
 unfold Fct.val
 simp only
 cases eq
 ·skip
  have h1:=fun w:World=>addS (P:=Tryd.prog) (tnameL a) [33,61] (by simp;omega) w
  have h2:=fun w:World=>addS (P:=Tryd.prog) (tnameL a++[33,61]) (tnameL b) (by simp;omega) w
  go_enter Tryd.func83,Tryd.ntmps83
  go_wp2_with fail
  go_region_held3 (fun w'=>∀ i,w'.cell? ⟨w.heap.size,i,none⟩=#[.bool false,.int .i64 a,.int .i64 b][i]?)
   (exact Blk.cell blks)
   (first|(go_at_call 49;refine (c_TermName _ _).mono ?_;rintro e w' ⟨rfl,rfl⟩))
  all_goals
   go_wp2_with fail
   go_ret
   exact ⟨ret_str (by simp[fmtF]),bel⟩
 ·skip
  have h1:=fun w:World=>addS (P:=Tryd.prog) (tnameL a) [61] (by simp;omega) w
  have h2:=fun w:World=>addS (P:=Tryd.prog) (tnameL a++[61]) (tnameL b) (by simp;omega) w
  go_enter Tryd.func83,Tryd.ntmps83
  go_wp2_with fail
  go_region_held3 (fun w'=>∀ i,w'.cell? ⟨w.heap.size,i,none⟩=#[.bool true,.int .i64 a,.int .i64 b][i]?)
   (exact Blk.cell blks)
   (first|(go_at_call 49;refine (c_TermName _ _).mono ?_;rintro e w' ⟨rfl,rfl⟩))
  all_goals
   go_wp2_with fail
   go_ret
   exact ⟨ret_str (by simp[fmtF]),bel⟩
end Go.Proofs.YtjaohekkmlkinaaDoor
