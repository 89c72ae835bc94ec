/- Contracts: terms, facts and atoms from texts (impl). -/
import Derived.Test.YtjaohekkmlkinaaDoorFmtI
import Derived.Test.YtjaohekkmlkinaaDoorStrH
import Derived.Test.YtjaohekkmlkinaaDoorShg
set_option linter.unusedSimpArgs false
set_option linter.unusedVariables false
namespace Go.Proofs.YtjaohekkmlkinaaDoor
open Go Go.RowKit Go.Proofs
def TM (w:World):Prop:=TN w∧1<w.heap.size∧∃ m:Int,w.cell? ⟨1,0,none⟩=some (.int .i64 m)
theorem TM.below {w w':World} (h:TM w) (hb:Below w.heap.size w w'):TM w':=⟨h.1.below hb,Nat.lt_of_lt_of_le h.2.1 hb.size,by
 obtain ⟨m,hm⟩:=h.2.2
 exact ⟨m,by rw[(bcell hb).1 1 0 h.2.1];exact hm⟩⟩
def pFactI (l:Bs):Option Fct:=if (Lib.cut l [61]).2.2 then if Lib.hasSuffix (Lib.cut l [61]).1 [33] then pairF false (Lib.trimSuffix (Lib.cut l [61]).1 [33]) (Lib.cut l [61]).2.1 else pairF true (Lib.cut l [61]).1 (Lib.cut l [61]).2.1 else none
def atmI (kd:Int) (c:Bs×Bs×Bool):Option Atm:=pairX kd (parseT c.1) (parseT c.2.1)
def pAtomI (l:Bs):Option Atm:=if (Lib.cut l [62]).2.2 then atmI 1 (Lib.cut l [62]) else if (Lib.cut l [126]).2.2 then atmI 2 (Lib.cut l [126]) else none
set_option maxRecDepth 100000 in
set_option maxHeartbeats 1600000 in
theorem c_iPT (l:Bs) (w:World) (h:TN w):Calls Tryd.prog 74 #[sv l] w fun e w'=>e=.returned (.tuple #[.int .i64 ((parseT l).getD 0:Nat),.bool (parseT l).isSome])∧w=w':=by
 have HT:=Lib.hid h
 clear h
 go_enter Tryd.func74,Tryd.ntmps74
 go_wp2_with fail
 go_loopw [4] (fun i wr=>∃ k:Nat,k≤9∧i=.int .i64 k∧Hid (∀ j:Nat,j<k→tnameL j≠l)∧wr=w) (fun i _=>9 - (intOf i).toNat)
 case atStart=>exact ⟨0,by omega,rfl,Lib.hid fun j h=>by omega,rfl⟩
 case round=>
  obtain ⟨k,hk,rfl,HN,rfl⟩:=hrel
  by_cases h9:k<9
  ·have hki:(k:Int)≤8:=by omega
   have hc:=HT.out.2 k h9
   by_cases he:tnameL k=l
   ·have hb:(tnameL k == l)=true:=by rw[bytes_eq];simpa using he
    have HR:=Lib.hid (parseT_some h9 he HN.out)
    clear he
    go_wp2_with fail
    refine bodyPost_ret (v:=.tuple #[.int .i64 k,.bool true]) (by simp[results,Tryd.results74,go_sem]) rfl ⟨by rw[HR.out];rfl,rfl⟩
   ·have hb:(tnameL k == l)=false:=by rw[bytes_eq];simpa using he
    have HM:Hid (∀ j:Nat,j<k+1→tnameL j≠l):=Lib.hid fun j hj=>by
     by_cases e:j=k
     ·subst e;exact he
     ·exact HN.out j (by omega)
    clear he
    go_wp2_with fail
    go_round
    case rel=>exact ⟨k+1,by omega,by go_num,HM,by first|rfl|trivial⟩
    case measure=>simp[intOf];omega
  ·obtain rfl:k=9:=by omega
   have HR:=Lib.hid (parseT_none HN.out)
   go_wp2_with fail
   refine bodyPost_ret (v:=.tuple #[.int .i64 0,.bool false]) (by simp[results,Tryd.results74,go_sem]) rfl ⟨by rw[HR.out];rfl,rfl⟩
theorem c_Cut (l sep:Bs) (w:World) (h:TM w) (hl:l.length≤2000000):Calls Tryd.prog 70 #[sv l,sv sep] w fun e w'=>e=.returned (.tuple #[sv (Lib.cut l sep).1,sv (Lib.cut l sep).2.1,.bool (Lib.cut l sep).2.2])∧Below w.heap.size w w':=by
 obtain ⟨m,hm⟩:=h.2.2
 refine (shg_strings_Cut ⟨l.toArray⟩ ⟨sep.toArray⟩ m w (by simp only[ByteArray.size,List.size_toArray];omega) hm).mono ?_
 rintro e w' ⟨rfl,n,rfl⟩
 exact ⟨by simp,below_drewN (Below.refl _ _) n⟩
end Go.Proofs.YtjaohekkmlkinaaDoor
