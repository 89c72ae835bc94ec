/- Rows that a call changes in place; marks that are held; replaced terms (impl). -/
import Derived.Test.YtjaohekkmlkinaaDoorJoin
import Derived.Test.YtjaohekkmlkinaaDoorSet
import Derived.Test.YtjaohekkmlkinaaDoorArgS
import Derived.Deep.RegionHeld3
import Derived.Deep.DrawnRows
set_option linter.unusedSimpArgs false
set_option linter.unusedVariables false
namespace Go.Proofs.YtjaohekkmlkinaaDoor
open Go Go.RowKit Go.Proofs
attribute [local go_sem ↓] Go.wp_at_zero Go.wp_at_succ
theorem FactsV.one {w:World} {g:Nat} {f:Fct} (h:Blk w g tF #[.bool f.eq,.int .i64 f.a,.int .i64 f.b]):FactsV w g (g+1) (some ⟨g,0,none⟩) [f]:=
 ⟨⟨by simp,fun _=>⟨g,0,rfl,Nat.le_refl _,Nat.lt_succ_self _,fun j u hu=>by rw[Nat.zero_add,h.cell];simpa using hu⟩⟩,by simp[Lim]⟩
theorem AtomsV.one {w:World} {g:Nat} {f:Atm} (h:Blk w g tA #[.int .i64 f.kind,.int .i64 f.a,.int .i64 f.b]):AtomsV w g (g+1) (some ⟨g,0,none⟩) [f]:=
 ⟨⟨by simp,fun _=>⟨g,0,rfl,Nat.le_refl _,Nat.lt_succ_self _,fun j u hu=>by rw[Nat.zero_add,h.cell];simpa using hu⟩⟩,by simp[Lim]⟩
theorem FactsV.cl {w:World} {lo hi b o k:Nat} {fs:List Fct} (h:FactsV w lo hi (some ⟨b,o,none⟩) fs) (hk:k<fs.length):w.cell? ⟨b,o+k*3,none⟩=some (.bool fs[k].eq)∧w.cell? ⟨b,o+k*3+1,none⟩=some (.int .i64 fs[k].a)∧w.cell? ⟨b,o+k*3+2,none⟩=some (.int .i64 fs[k].b):=by
 obtain ⟨b',o',e,hc⟩:=h.at hk
 simp only[Option.some.injEq,Addr.mk.injEq,and_true] at e
 obtain ⟨rfl,rfl⟩:=e
 exact hc
theorem AtomsV.cl {w:World} {lo hi b o k:Nat} {fs:List Atm} (h:AtomsV w lo hi (some ⟨b,o,none⟩) fs) (hk:k<fs.length):w.cell? ⟨b,o+k*3,none⟩=some (.int .i64 fs[k].kind)∧w.cell? ⟨b,o+k*3+1,none⟩=some (.int .i64 fs[k].a)∧w.cell? ⟨b,o+k*3+2,none⟩=some (.int .i64 fs[k].b):=by
 obtain ⟨b',o',e,hc⟩:=h.at hk
 simp only[Option.some.injEq,Addr.mk.injEq,and_true] at e
 obtain ⟨rfl,rfl⟩:=e
 exact hc
theorem FactsV.blt {w:World} {lo hi k:Nat} {A:Option Addr} {fs:List Fct} (h:FactsV w lo hi A fs) (hk:k<fs.length):∃ b o,A=some ⟨b,o,none⟩∧b<w.heap.size:=by
 obtain ⟨b,o,e,hc,-⟩:=h.at hk
 exact ⟨b,o,e,block_lt_of_cell hc⟩
theorem AtomsV.blt {w:World} {lo hi k:Nat} {A:Option Addr} {fs:List Atm} (h:AtomsV w lo hi A fs) (hk:k<fs.length):∃ b o,A=some ⟨b,o,none⟩∧b<w.heap.size:=by
 obtain ⟨b,o,e,hc,-⟩:=h.at hk
 exact ⟨b,o,e,block_lt_of_cell hc⟩
theorem IntsV.blt {w:World} {lo hi k:Nat} {A:Option Addr} {fs:List Int} (h:IntsV w lo hi A fs) (hk:k<fs.length):∃ b o,A=some ⟨b,o,none⟩∧b<w.heap.size:=by
 obtain ⟨b,o,e,hc⟩:=h.at hk
 exact ⟨b,o,e,block_lt_of_cell hc⟩
theorem Blk.grownO {w w':World} {g base size n:Nat} {t e:TypeId} {cs:Array Value} {v:Value} {xs:List Value} (h:Blk w g t cs) (ho:w.ownsRow base e size v n xs) (hg:w.grownBy w' v.ownBlock) (ht:t≠e):Blk w' g t cs:=by
 refine h.grown hg ?_
 intro he
 rcases ho.2 with ⟨rfl,_⟩|⟨k,cap,cur,rfl,_,hh,_⟩
 ·simp[Value.ownBlock] at he
 ·simp only[Value.ownBlock,Option.some.injEq] at he
  exact Blk.ne_ h hh ht he
theorem own_grownO {w w':World} {base base' size size' n n':Nat} {e e':TypeId} {v v':Value} {xs xs':List Value} (h:w.ownsRow base' e' size' v' n' xs') (ho:w.ownsRow base e size v n xs) (hg:w.grownBy w' v.ownBlock) (ht:e'≠e):w'.ownsRow base' e' size' v' n' xs':=by
 obtain ⟨h1,h2⟩:=h
 refine ⟨h1,?_⟩
 rcases h2 with h2|⟨k,cap,cur,hv,hk,hh,r⟩
 ·exact Or.inl h2
 ·exact Or.inr ⟨k,cap,cur,hv,hk,Blk.grownO hh ho hg ht,r⟩
theorem FactsO.grownA {w w':World} {b b':Nat} {v v':Value} {xs:List Fct} {ys:List Atm} (h:FactsO w b v xs) (ho:AtomsO w b' v' ys) (hg:w.grownBy w' v'.ownBlock):FactsO w' b v xs:=⟨own_grownO h.1 ho.1 hg (by decide),h.2⟩
theorem AtomsO.grownF {w w':World} {b b':Nat} {v v':Value} {xs:List Atm} {ys:List Fct} (h:AtomsO w b v xs) (ho:FactsO w b' v' ys) (hg:w.grownBy w' v'.ownBlock):AtomsO w' b v xs:=⟨own_grownO h.1 ho.1 hg (by decide),h.2⟩
theorem Rd.keepB {w w':World} {lo hi size n B:Nat} {A:Option Addr} {xs:List Value} (h:Rd w lo hi size A n xs) (hb:Below B w w') (hh:hi≤B):Rd w' lo hi size A n xs:=h.keep fun b _ h2=>hb.block b (by omega)
theorem FactsV.keepB {w w':World} {lo hi B:Nat} {A:Option Addr} {xs:List Fct} (h:FactsV w lo hi A xs) (hb:Below B w w') (hh:hi≤B):FactsV w' lo hi A xs:=Rd.keepB h hb hh
theorem AtomsV.keepB {w w':World} {lo hi B:Nat} {A:Option Addr} {xs:List Atm} (h:AtomsV w lo hi A xs) (hb:Below B w w') (hh:hi≤B):AtomsV w' lo hi A xs:=Rd.keepB h hb hh
theorem IntsV.keepB {w w':World} {lo hi B:Nat} {A:Option Addr} {xs:List Int} (h:IntsV w lo hi A xs) (hb:Below B w w') (hh:hi≤B):IntsV w' lo hi A xs:=Rd.keepB h hb hh
set_option maxHeartbeats 800000 in
theorem c_heldFactS {lo hi:Nat} (A:Option Addr) (n c:Nat) (k:Int) (w:World) (h:FactsV w lo hi A (markF k n)) (h0:0≤k) (h1:k≤1099511627776):Calls Tryd.prog 29 #[.slice A n c,.int .i64 k] w fun e w'=>e=.returned (.int .i64 (k+3 * n))∧w=w':=by
 have hL:=h.le
 rw[markF_length] at hL
 go_enter Tryd.func29,Tryd.ntmps29
 go_wp2
 go_loop [1,5] (fun m i=>∃ (j:Nat),j≤n∧i=.int .i64 j∧m=.int .i64 (k+3 * j)) (fun _ i=>n - (intOf i).toNat)
 case atStart=>exact ⟨0,Nat.zero_le _,rfl,by simp⟩
 case round=>
  obtain ⟨j,hj,rfl,rfl⟩:=hrel
  by_cases hlt:j<n
  ·obtain ⟨b,off,rfl,c0,c1,c2⟩:=h.at (k:=j) (by rw[markF_length];exact hlt)
   rw[markF_get _ _ _ hlt] at c0 c1 c2
   dsimp only at c0 c1 c2
   go_wp2_with fail
   go_round
   case rel=>exact ⟨j+1,by omega,by go_num,by push_cast;congr 1;omega⟩
   case measure=>simp[intOf];omega
  ·obtain rfl:j=n:=by omega
   go_wp2
   go_ret
   exact ⟨rfl,rfl⟩
set_option maxHeartbeats 800000 in
theorem c_heldAtomS {lo hi:Nat} (A:Option Addr) (n c:Nat) (k:Int) (w:World) (h:AtomsV w lo hi A (markA k n)) (h0:0≤k) (h1:k≤1099511627776):Calls Tryd.prog 30 #[.slice A n c,.int .i64 k] w fun e w'=>e=.returned (.int .i64 (k+3 * n))∧w=w':=by
 have hL:=h.le
 rw[markA_length] at hL
 go_enter Tryd.func30,Tryd.ntmps30
 go_wp2
 go_loop [1,5] (fun m i=>∃ (j:Nat),j≤n∧i=.int .i64 j∧m=.int .i64 (k+3 * j)) (fun _ i=>n - (intOf i).toNat)
 case atStart=>exact ⟨0,Nat.zero_le _,rfl,by simp⟩
 case round=>
  obtain ⟨j,hj,rfl,rfl⟩:=hrel
  by_cases hlt:j<n
  ·obtain ⟨b,off,rfl,c0,c1,c2⟩:=h.at (k:=j) (by rw[markA_length];exact hlt)
   rw[markA_get _ _ _ hlt] at c0 c1 c2
   dsimp only at c0 c1 c2
   go_wp2_with fail
   go_round
   case rel=>exact ⟨j+1,by omega,by go_num,by push_cast;congr 1;omega⟩
   case measure=>simp[intOf];omega
  ·obtain rfl:j=n:=by omega
   go_wp2
   go_ret
   exact ⟨rfl,rfl⟩
set_option maxHeartbeats 800000 in
theorem c_heldAssertion {lo hi lo' hi':Nat} (A1 A2:Option Addr) (n m c1 c2:Nat) (k:Int) (w:World) (h1:FactsV w lo hi A1 (markF k n)) (h2:AtomsV w lo' hi' A2 (markA (k+3 * n) m)) (h0:0≤k) (hk:k≤549755813888) :
  Calls Tryd.prog 43 #[.agg #[.slice A1 n c1,.slice A2 m c2],.int .i64 k] w fun e w'=>e=.returned (.int .i64 (k+3 * n+3 * m))∧Below w.heap.size w w':=by
 have hL1:=h1.le
 have hL2:=h2.le
 rw[markF_length] at hL1
 rw[markA_length] at hL2
 go_enter Tryd.func43,Tryd.ntmps43
 go_wp2_with (first|(go_at_call 29;refine (c_heldFactS A1 n c1 k _ (h1.below bel) h0 (by omega)).mono ?_;rintro e w' ⟨rfl,rfl⟩)|(go_at_call 30;refine (c_heldAtomS A2 m c2 _ _ (h2.below bel) (by omega) (by omega)).mono ?_;rintro e w' ⟨rfl,rfl⟩))
 go_ret
 exact ⟨rfl,bel⟩
end Go.Proofs.YtjaohekkmlkinaaDoor
