/- Contracts: impl's search for cases, an iterator. -/
import Derived.Test.YtjbboklnegfohaaGreatDoorCaseW
import Derived.Test.YtjbboklnegfohaaGreatDoorMRange
import Derived.Shelf.Abstract
import Derived.Test.YtjbboklnegfohaaGreatDoorMFmtP
set_option linter.unusedSimpArgs false
set_option linter.unusedVariables false
namespace Go.Proofs.YtjbboklnegfohaaGreatDoor
open Go Go.RowKit Go.Proofs
attribute [local go_sem ↓] Go.wp_at_zero Go.wp_at_succ
attribute [local go_sem] Oper.semAt_some
abbrev case9 (c:List Int):Array Value:=#[.int .i64 (cl c 0),.int .i64 (cl c 1),.int .i64 (cl c 2),.int .i64 (cl c 3),.int .i64 (cl c 4),.int .i64 (cl c 5),.int .i64 (cl c 6),.int .i64 (cl c 7),.int .i64 (cl c 8)]
theorem case9_eq {c:List Int} (h:c.length=9):case9 c=(encI c).toArray:=by
 match c,h with
 | [c0,c1,c2,c3,c4,c5,c6,c7,c8],_=>rfl
theorem Blk.case {w:World} {g:Nat} {t:TypeId} {c:List Int} (h:Blk w g t (case9 c)) (hc:c.length=9):Blk w g t (encI c).toArray:=by rw[←case9_eq hc];exact h
theorem Rw.keepB {w w':World} {lo hi size n n₀:Nat} {A:Option Addr} {xs:List Value} (h:Rw w lo hi size A n xs) (hb:Below n₀ w w') (hh:hi≤n₀):Rw w' lo hi size A n xs:=h.keep fun b _ h2=>hb.block b (by omega)
theorem AsnV.keepB {w w':World} {lo hi n₀:Nat} {v:Value} {a:Asn} (h:AsnV w lo hi v a) (hb:Below n₀ w w') (hh:hi≤n₀):AsnV w' lo hi v a:=by
 obtain ⟨A1,c1,A2,c2,e,h1,h2⟩:=h
 exact ⟨A1,c1,A2,c2,e,⟨h1.raw.keepB hb hh,h1.lim⟩,⟨h2.raw.keepB hb hh,h2.lim⟩⟩
end Go.Proofs.YtjbboklnegfohaaGreatDoor

/- Contracts: impl's cases as an iterator value; the first case. -/
namespace Go.Proofs.YtjbboklnegfohaaGreatDoor
open Go Go.RowKit Go.Proofs
attribute [local go_sem ↓] Go.wp_at_zero Go.wp_at_succ
attribute [local go_sem] Oper.semAt_some
abbrev set9 (w:World) (g:Nat) (v0 v1 v2 v3 v4 v5 v6 v7 v8:Value):World:=(((((((((w.setCell ⟨g,0,none⟩ v0).setCell ⟨g,1,none⟩ v1).setCell ⟨g,2,none⟩ v2).setCell ⟨g,3,none⟩ v3).setCell ⟨g,4,none⟩ v4).setCell ⟨g,5,none⟩ v5).setCell ⟨g,6,none⟩ v6).setCell ⟨g,7,none⟩ v7).setCell ⟨g,8,none⟩ v8)
theorem Blk.nine {w:World} {g:Nat} {t:TypeId} {a0 a1 a2 a3 a4 a5 a6 a7 a8 v0 v1 v2 v3 v4 v5 v6 v7 v8:Value} (h:Blk w g t #[a0,a1,a2,a3,a4,a5,a6,a7,a8]):Blk (set9 w g v0 v1 v2 v3 v4 v5 v6 v7 v8) g t #[v0,v1,v2,v3,v4,v5,v6,v7,v8]:=by
 have h0:=h.set_ 0 v0
 simp only[List.setIfInBounds_toArray,List.set_cons_zero] at h0
 have h1:=h0.set_ 1 v1
 simp only[List.setIfInBounds_toArray,List.set_cons_zero,List.set_cons_succ] at h1
 have h2:=h1.set_ 2 v2
 simp only[List.setIfInBounds_toArray,List.set_cons_zero,List.set_cons_succ] at h2
 have h3:=h2.set_ 3 v3
 simp only[List.setIfInBounds_toArray,List.set_cons_zero,List.set_cons_succ] at h3
 have h4:=h3.set_ 4 v4
 simp only[List.setIfInBounds_toArray,List.set_cons_zero,List.set_cons_succ] at h4
 have h5:=h4.set_ 5 v5
 simp only[List.setIfInBounds_toArray,List.set_cons_zero,List.set_cons_succ] at h5
 have h6:=h5.set_ 6 v6
 simp only[List.setIfInBounds_toArray,List.set_cons_zero,List.set_cons_succ] at h6
 have h7:=h6.set_ 7 v7
 simp only[List.setIfInBounds_toArray,List.set_cons_zero,List.set_cons_succ] at h7
 have h8:=h7.set_ 8 v8
 simp only[List.setIfInBounds_toArray,List.set_cons_zero,List.set_cons_succ] at h8
 exact h8
end Go.Proofs.YtjbboklnegfohaaGreatDoor

/- Cases and valuations: an assertion is consistent exactly if some valuation satisfies it; what tidying keeps. Plain; no program. -/
namespace Go.Proofs.YtjbboklnegfohaaGreatDoor
open Go
/-! tidying -/
end Go.Proofs.YtjbboklnegfohaaGreatDoor
