/- What the reader draws: states. -/
import Derived.Test.YteogcababfenfaaDrawB
import Derived.Test.YteogcababfenfaaMSte
import Derived.Test.YteogcababfenfaaMCmdG
set_option linter.unusedSimpArgs false
set_option linter.unusedVariables false
namespace Go.Proofs.Yteogcababfenfaa
open Go Go.RowKit Go.Proofs

--@ spec.l2Blank
abbrev tSt : Nat := 44
def blankS : Ste := ⟨List.replicate 8 0, List.replicate 8 (-1)⟩
set_option maxRecDepth 100000 in
set_option maxHeartbeats 1600000 in
theorem c_l2Blank (w : World) : Calls Try.prog 140 #[] w fun e w' => ∃ r, e = .returned r ∧ StateO w' w.heap.size r blankS ∧ Below w.heap.size w w' := by
  go_enter Try.func140, Try.ntmps140
  have kr : Blk ((w.alloc (.cells #[.slice none 0 0, .slice none 0 0] tSt)).alloc (.cells #[.slice none 0 0, .slice none 0 0] tSt)) w.heap.size tSt #[.slice none 0 0, .slice none 0 0] := blks
  have ks : Blk ((w.alloc (.cells #[.slice none 0 0, .slice none 0 0] tSt)).alloc (.cells #[.slice none 0 0, .slice none 0 0] tSt)) (w.heap.size + 1) tSt #[.slice none 0 0, .slice none 0 0] := blks
  have hB : Below w.heap.size w ((w.alloc (.cells #[.slice none 0 0, .slice none 0 0] tSt)).alloc (.cells #[.slice none 0 0, .slice none 0 0] tSt)) := bel
  go_wp2_with fail
  go_loopw [2] (fun i wr => ∃ (k : Nat) (A : Option Addr) (c : Nat), k ≤ 8 ∧ i = .int .i64 k ∧ IntsO wr w.heap.size (.slice A k c) (List.replicate k 0) ∧ Blk wr w.heap.size tSt #[.slice none 0 0, .slice none 0 0] ∧ Blk wr (w.heap.size + 1) tSt #[.slice A k c, .slice none 0 0] ∧ Hid (Below w.heap.size w wr)) (fun i _ => 8 - (intOf i).toNat)
  case atStart => exact ⟨0, none, 0, by omega, rfl, IntsO.nil _ _, kr, ks, hB⟩
  case round =>
    clear kr ks hB
    obtain ⟨k, A, c, hk, rfl, hO, kr, ks, HB⟩ := hrel
    have HO := Lib.hid hO
    have hsz := HB.out.size
    have ls := ks.lt
    clear hO
    (replace qkr := kr.cell; replace rkr := kr.frozen; replace lkr := kr.lt; replace qks := ks.cell; replace rks := ks.frozen; replace lks := ks.lt)
    by_cases hlt : k < 8
    · have hki : (k : Int) < 8 := by omega
      go_wp2_with (at_builtin; refine appIX (ys := [0]) (base := w.heap.size) rfl _ _ rfl rfl (HO.out.below bel) rfl (Blk.newE rfl) (by rfl) (by simp; omega) (by simp; omega) ?_; intro A4 d4 w4 o4 hg4 hB4 hx4; rw [List.length_append, List.length_replicate, List.length_singleton] at o4 ⊢; have ks4 := Blk.grownO (hg := hg4) (ks.alloc _) (HO.out.below (bbox (Below.refl _ _) _)).1 (by decide); have kr4 := Blk.grownO (hg := hg4) (kr.alloc _) (HO.out.below (bbox (Below.refl _ _) _)).1 (by decide); (replace qks4 := ks4.cell; replace rks4 := ks4.frozen; replace lks4 := ks4.lt; replace qkr4 := kr4.cell; replace rkr4 := kr4.frozen; replace lkr4 := kr4.lt); clear hg4 hx4)
      have hBB : Below w.heap.size w w4 := ((HB.out.alloc hsz _).trans hB4)
      go_round
      case rel => exact ⟨k + 1, A4, d4, by omega, by go_num, by rw [List.replicate_succ']; exact o4.setT ks4 (by decide) 0 _, kr4.far (by simp) _, by simpa using ks4.set_ 0 (.slice A4 (k + 1) d4), hBB.setCell (p := ⟨w.heap.size + 1, 0, none⟩) (by simp only; omega) _⟩
      case measure => simp [intOf]; omega
    · obtain rfl : k = 8 := by omega
      go_wp2_with fail
      go_loopw [3] (fun i wx => ∃ (k : Nat) (B : Option Addr) (d : Nat), k ≤ 8 ∧ i = .int .i64 k ∧ IntsO wx w.heap.size (.slice A 8 c) (List.replicate 8 0) ∧ IntsO wx w.heap.size (.slice B k d) (List.replicate k (-1)) ∧ Hid (∀ g, (Value.slice A 8 c).ownBlock = some g → (Value.slice B k d).ownBlock ≠ some g) ∧ Blk wx w.heap.size tSt #[.slice none 0 0, .slice none 0 0] ∧ Blk wx (w.heap.size + 1) tSt #[.slice A 8 c, .slice B k d] ∧ Hid (Below w.heap.size w wx)) (fun i _ => 8 - (intOf i).toNat)
      case atStart => exact ⟨0, none, 0, by omega, rfl, HO.out, IntsO.nil _ _, (fun g _ h => by simp [Value.ownBlock] at h), kr, ks, HB.out⟩
      case round =>
        clear kr ks HB HO hsz ls qkr rkr lkr qks rks lks
        obtain ⟨k, B, d, hk, rfl, hO, hP, HD, kr, ks, HB⟩ := hrel
        have HO := Lib.hid hO
        have HP := Lib.hid hP
        have hsz := HB.out.size
        have ls := ks.lt
        clear hO hP
        (replace qkr := kr.cell; replace rkr := kr.frozen; replace lkr := kr.lt; replace qks := ks.cell; replace rks := ks.frozen; replace lks := ks.lt)
        by_cases hlt : k < 8
        · have hki : (k : Int) < 8 := by omega
          go_wp2_with (at_builtin; refine appIX (ys := [-1]) (base := w.heap.size) rfl _ _ rfl rfl (HP.out.below bel) rfl (Blk.newE rfl) (by rfl) (by simp; omega) (by simp; omega) ?_; intro A4 d4 w4 o4 hg4 hB4 hx4; have HX4 := Lib.hid hx4; clear hx4; rw [List.length_append, List.length_replicate, List.length_singleton] at o4 ⊢; have ks4 := Blk.grownO (hg := hg4) (ks.alloc _) (HP.out.below (bbox (Below.refl _ _) _)).1 (by decide); have kr4 := Blk.grownO (hg := hg4) (kr.alloc _) (HP.out.below (bbox (Below.refl _ _) _)).1 (by decide); have ov4 := IntsO.grown (HO.out.below (bbox (Below.refl _ _) _)) hg4 HD.out; (replace qks4 := ks4.cell; replace rks4 := ks4.frozen; replace lks4 := ks4.lt; replace qkr4 := kr4.cell; replace rkr4 := kr4.frozen; replace lkr4 := kr4.lt); clear hg4)
          have hBB : Below w.heap.size w w4 := ((HB.out.alloc hsz _).trans hB4)
          have HD4 : Hid (∀ g, (Value.slice A 8 c).ownBlock = some g → (Value.slice A4 (k + 1) d4).ownBlock ≠ some g) := fun g hg e => by
            have hlt2 := (HO.out.1.lt g hg).2
            have hx4 := HX4.out
            rw [List.length_append, List.length_replicate, List.length_singleton] at hx4
            rcases hx4 with h | h
            · rw [h] at e; exact HD.out g hg e
            · rw [h, World.size_alloc] at e; injection e with e; omega
          go_round
          case rel => exact ⟨.int .i64 ((k : Int) + 1), _, _, _, _, _, _, _, _, _, ⟨k + 1, A4, d4, by omega, by go_num, ov4.setT ks4 (by decide) 1 _, by rw [List.replicate_succ']; exact o4.setT ks4 (by decide) 1 _, HD4.out, kr4.far (by simp) _, by simpa using ks4.set_ 1 (.slice A4 (k + 1) d4), hBB.setCell (p := ⟨w.heap.size + 1, 1, none⟩) (by simp only; omega) _⟩, rfl⟩
          case measure => simp [intOf]; omega
        · obtain rfl : k = 8 := by omega
          have hne : w.heap.size ≠ w.heap.size + 1 := by omega
          go_wp2_with fail
          refine bodyPost_ret (v := .agg #[.slice A 8 c, .slice B 8 d]) (by simp [results, Try.results140, go_sem, qkr]) rfl ⟨_, rfl, ⟨_, _, rfl, ?_, ?_, HD.out⟩, ?_⟩
          · exact (HO.out.setT kr (by decide) 0 _).setT (kr.set_ 0 _) (by decide) 1 _
          · exact (HP.out.setT kr (by decide) 0 _).setT (kr.set_ 0 _) (by decide) 1 _
          · exact (HB.out.setCell (p := ⟨w.heap.size, 0, none⟩) (Nat.le_refl _) _).setCell (p := ⟨w.heap.size, 1, none⟩) (Nat.le_refl _) _

--@ spec.l2Copy
/-- two rows lie in different blocks -/
def Dj (v v' : Value) : Prop := ∀ g, v.ownBlock = some g → v'.ownBlock ≠ some g
theorem Dj.symm {v v' : Value} (h : Dj v v') : Dj v' v := fun g h1 h2 => h g h2 h1
theorem Dj.new {w : World} {b : Nat} {v : Value} {xs : List Int} (h : IntsO w b v xs) {v' : Value} {x : Nat} (he : v'.ownBlock = some x) (hx : w.heap.size ≤ x) : Dj v v' := fun g hg e => by
  have := (h.1.lt g hg).2
  rw [he] at e; injection e with e; omega
theorem Dj.step {w : World} {b : Nat} {v u v' : Value} {xs : List Int} (h : IntsO w b v xs) (hd : Dj v u) (h5 : v'.ownBlock = u.ownBlock ∨ v'.ownBlock = some w.heap.size) : Dj v v' := by
  rcases h5 with e | e
  · intro g hg; rw [e]; exact hd g hg
  · exact Dj.new h e (Nat.le_refl _)
end Go.Proofs.Yteogcababfenfaa

/- What the reader draws: states in which an assertion often holds. -/
namespace Go.Proofs.Yteogcababfenfaa
open Go Go.RowKit Go.Proofs

theorem IntsO.cell_ {w : World} {base : Nat} {A : Option Addr} {n c k : Nat} {fs : List Int} (h : IntsO w base (.slice A n c) fs) (hk : k < fs.length) : ∃ g cur, n = fs.length ∧ A = some ⟨g, 0, none⟩ ∧ base ≤ g ∧ Blk w g tI cur ∧ cur[k]? = some (.int .i64 fs[k]) ∧
    (∀ v : Int, IntsO (w.setCell ⟨g, k, none⟩ (.int .i64 v)) base (.slice A n c) (fs.set k v)) := by
  obtain ⟨⟨hl, h2⟩, hL⟩ := h
  rcases h2 with ⟨e, hn⟩ | ⟨g, cap, cur, e, hb, hh, hn, hm, hs, ht⟩
  · omega
  · injection e with e1 e2 e3
    subst e1 e2 e3
    have hK : Blk w g tI cur := hh
    have hP : Pre cur (encI fs) (fs.length * 1) := by
      intro j hj
      rw [← ht, List.getElem?_take, if_pos hj]; simp
    refine ⟨g, cur, rfl, rfl, hb, hK, (hP _ (by omega)).trans (by simp [List.getElem?_eq_getElem hk]), ?_⟩
    intro v
    refine ⟨?_, by rw [List.length_set]; exact hL⟩
    rw [show encI (fs.set k v) = (encI fs).set k (.int .i64 v) from by simp [encI, List.map_set], List.length_set]
    exact own_of_blk (hK.set_ k (.int .i64 v)) hb (by rw [List.length_set, hl]) (hP.setL k (.int .i64 v) (by rw [hs]; exact Nat.mul_le_mul hn (Nat.le_refl _)) (by rw [hl]; exact Nat.le_refl _)) hn hm (by simpa using hs)
theorem IntsO.set_ne {w : World} {b : Nat} {v : Value} {xs : List Int} (h : IntsO w b v xs) {q : Addr} (hq : v.ownBlock ≠ some q.block) (u : Value) : IntsO (w.setCell q u) b v xs := by
  obtain ⟨⟨h1, h2⟩, h3⟩ := h
  refine ⟨⟨h1, ?_⟩, h3⟩
  rcases h2 with h2 | ⟨k, cap, cur, hv, hk, hh, r⟩
  · exact Or.inl h2
  · exact Or.inr ⟨k, cap, cur, hv, hk, (Below.heap_setCell w q u k (fun e => hq (by rw [hv, ← e]; rfl))).trans hh, r⟩

--@ spec.l4Value
def setV (vs : List Int) (t : Nat) (n : Int) : List Int := if t = 0 then vs else vs.set (t - 1) n
--@ spec.l4Known
end Go.Proofs.Yteogcababfenfaa
