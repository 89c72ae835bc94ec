/- Arguments that are states; marks. -/
import Derived.Test.YtcgifoghggajgaaArg
import Derived.Test.YtcgifoghggajgaaMPar
import Derived.Test.YtcgifoghggajgaaMTlist
import Derived.Deep.RegionHeld3
import Derived.Deep.DrawnRows
set_option linter.unusedSimpArgs false
set_option linter.unusedVariables false
namespace Go.Proofs.Ytcgifoghggajgaa
open Go Go.RowKit Go.Proofs

/-- an owned list whose block lies under hi -/
def Und (v : Value) (hi : Nat) : Prop := ∀ g, v.ownBlock = some g → g < hi
theorem IntsO.und {w : World} {base : Nat} {v : Value} {xs : List Int} (h : IntsO w base v xs) : Und v w.heap.size := fun g hg => (h.1.lt g hg).2
theorem FactsO.und {w : World} {base : Nat} {v : Value} {xs : List Fct} (h : FactsO w base v xs) : Und v w.heap.size := fun g hg => (h.1.lt g hg).2
theorem AtomsO.und {w : World} {base : Nat} {v : Value} {xs : List Atm} (h : AtomsO w base v xs) : Und v w.heap.size := fun g hg => (h.1.lt g hg).2
theorem Und.mono {v : Value} {a b : Nat} (h : Und v a) (hab : a ≤ b) : Und v b := fun g hg => Nat.lt_of_lt_of_le (h g hg) hab
/-- only blocks of p have changed; more may have come -/
structure Mk (p : Nat → Prop) (w w' : World) : Prop where
  os : w'.os = w.os
  tape : w'.tape = w.tape
  output : w'.output = w.output
  size : w.heap.size ≤ w'.heap.size
  block : ∀ k, k < w.heap.size → ¬ p k → w'.heap[k]? = w.heap[k]?
section
variable {p q : Nat → Prop} {w a b : World}
theorem Mk.refl (p : Nat → Prop) (w : World) : Mk p w w := ⟨rfl, rfl, rfl, Nat.le_refl _, fun _ _ _ => rfl⟩
theorem Mk.trans (h : Mk p w a) (h2 : Mk p a b) : Mk p w b := ⟨h2.os.trans h.os, h2.tape.trans h.tape, h2.output.trans h.output, Nat.le_trans h.size h2.size, fun k hk hp => (h2.block k (Nat.lt_of_lt_of_le hk h.size) hp).trans (h.block k hk hp)⟩
theorem Mk.mono (h : Mk p w a) (hpq : ∀ k, p k → q k) : Mk q w a := ⟨h.os, h.tape, h.output, h.size, fun k hk hq => h.block k hk fun hp => hq (hpq k hp)⟩
theorem Mk.set (h : Mk p w a) {x : Addr} (hx : p x.block) (u : Value) : Mk p w (a.setCell x u) := h.trans ⟨rfl, rfl, rfl, by simp, fun k _ hk => Below.heap_setCell a x u k (fun e => hk (e ▸ hx))⟩
theorem Mk.below_ (h : Below w.heap.size w a) : Mk p w a := ⟨h.os, h.tape, h.output, h.size, fun k hk _ => h.block k hk⟩
theorem Mk.below {lo : Nat} (h : Mk p w a) (hp : ∀ k, p k → lo ≤ k) (hl : lo ≤ w.heap.size) : Below lo w a := ⟨h.os, h.tape, h.output, h.size, fun k hk => h.block k (by omega) fun hp' => by have := hp k hp'; omega⟩
theorem Mk.abv {hi : Nat} (h : Mk p w a) (hp : ∀ k, p k → k < hi) : Abv hi w a := ⟨h.size, fun k h1 h2 => h.block k h2 fun hp' => by have := hp k hp'; omega⟩
theorem Mk.blk {g : Nat} {t : TypeId} {cs : Array Value} (h : Mk p w a) (hk : Blk w g t cs) (hg : ¬ p g) : Blk a g t cs := (h.block g hk.lt hg).trans hk
end
theorem own_mk {p : Nat → Prop} {w w' : World} {base : Nat} {e : TypeId} {size : Nat} {v : Value} {n : Nat} {xs : List Value} (h : w.ownsRow base e size v n xs) (hb : Mk p w w') (hp : ∀ g, v.ownBlock = some g → ¬ p g) : w'.ownsRow base e size v n xs := by
  obtain ⟨h1, h2⟩ := h
  refine ⟨h1, ?_⟩
  rcases h2 with h2 | ⟨g, cap, cur, hv, hg, hh, r⟩
  · exact Or.inl h2
  · exact Or.inr ⟨g, cap, cur, hv, hg, (hb.block g (Blk.lt hh) (hp g (by rw [hv]; rfl))).trans hh, r⟩
def iota (k : Int) (n : Nat) : List Int := (List.range n).map fun i : Nat => k + i
theorem iota_length (k : Int) (n : Nat) : (iota k n).length = n := by simp [iota]
theorem iota_get (k : Int) (n i : Nat) (h : i < n) : (iota k n)[i]? = some (k + i) := by simp [iota, h]

--@ laws.markIntS
set_option maxHeartbeats 800000 in
theorem c_markIntS (v : Value) (xs : List Int) (k : Int) (base : Nat) (w : World) (h : IntsO w base v xs) (h0 : 0 ≤ k) (h1 : k ≤ 1099511627776) : Calls Try.prog 22 #[v, .int .i64 k] w fun e w' => e = .returned (.int .i64 (k + xs.length)) ∧ IntsO w' base v (iota k xs.length) ∧ Mk (fun g => v.ownBlock = some g) w w' := by
  obtain ⟨⟨hl, h2⟩, hL⟩ := h
  have hL' : xs.length ≤ 1049600 := hL
  rcases h2 with ⟨rfl, hn⟩ | ⟨g, cap, cur, rfl, hb, hh, hn, hm, hs, ht⟩
  · go_enter Try.func22, Try.ntmps22
    go_wp2
    go_loop [1, 5] (fun m i => m = .int .i64 k ∧ i = .int .i64 0) (fun _ i => 0)
    case atStart => exact ⟨rfl, rfl⟩
    case round =>
      obtain ⟨rfl, rfl⟩ := hrel
      go_wp2
      go_ret
      have e : xs = [] := List.length_eq_zero_iff.1 hn
      subst e
      exact ⟨by simp, IntsO.nil _ _, Mk.refl _ _⟩
  · have hK : Blk w g tI cur := hh
    have HS := Lib.hid hs
    clear hs ht hh hl
    go_enter Try.func22, Try.ntmps22
    go_wp2
    go_loopw [1, 5] (fun m i wr => ∃ (j : Nat) (cs : Array Value), j ≤ xs.length ∧ i = .int .i64 j ∧ m = .int .i64 (k + j) ∧ Hid (cs.size = cap * 1) ∧ Hid (Pre cs (encI (iota k xs.length)) j) ∧ Blk wr g tI cs ∧ Mk (fun g' => Value.ownBlock (.slice (some ⟨g, 0, none⟩) xs.length cap) = some g') w wr) (fun _ i _ => xs.length - (intOf i).toNat)
    case atStart => exact ⟨0, cur, Nat.zero_le _, rfl, by simp, HS.out, Pre.zero _ _, hK, Mk.refl _ _⟩
    case round =>
      obtain ⟨j, cs, hj, rfl, rfl, HS2, HP, hK2, hM⟩ := hrel
      by_cases hlt : j < xs.length
      · have hs := HS2.out
        obtain ⟨u, hu⟩ : ∃ u, cs[j]? = some u := ⟨_, Array.getElem?_eq_getElem (by omega)⟩
        have q0 : wr.cell? ⟨g, j, none⟩ = some u := by rw [hK2.cell, hu]
        have r := hK2.frozen
        clear hs hu
        go_wp2_with fail
        have hs := HS2.out
        go_round
        case rel => exact ⟨j + 1, _, by omega, by go_num, by push_cast; congr 1; omega, by show _ = _; simp [hs], HP.out.set1 (by omega) (by rw [List.getElem?_map, iota_get _ _ _ hlt]; rfl), hK2.set_ _ _, hM.set (x := ⟨g, j, none⟩) rfl _⟩
        case measure => simp [intOf]; omega
      · go_wp2
        go_ret
        obtain rfl : j = xs.length := by omega
        have hs := HS2.out
        exact ⟨rfl, ⟨by rw [iota_length]; exact own_of_blk hK2 hb (by simp [iota]) (by simpa using HP.out) hn hm (by simpa using hs), by rw [iota_length]; exact hL⟩, hM⟩

--@ laws.heldIntS
set_option maxHeartbeats 800000 in
theorem c_heldIntS {lo hi : Nat} (A : Option Addr) (n c : Nat) (k : Int) (w : World) (h : IntsV w lo hi A (iota k n)) (h0 : 0 ≤ k) (h1 : k ≤ 1099511627776) : Calls Try.prog 23 #[.slice A n c, .int .i64 k] w fun e w' => e = .returned (.int .i64 (k + n)) ∧ w = w' := by
  have hL := h.le
  rw [iota_length] at hL
  go_enter Try.func23, Try.ntmps23
  go_wp2
  go_loop [1, 5] (fun m i => ∃ (j : Nat), j ≤ n ∧ i = .int .i64 j ∧ m = .int .i64 (k + j)) (fun _ i => n - (intOf i).toNat)
  case atStart => exact ⟨0, Nat.zero_le _, rfl, by simp⟩
  case round =>
    obtain ⟨j, hj, rfl, rfl⟩ := hrel
    by_cases hlt : j < n
    · obtain ⟨b, off, rfl, c0⟩ := h.at (k := j) (by rw [iota_length]; exact hlt)
      have e : (iota k n)[j]'(by rw [iota_length]; exact hlt) = k + j := by simp [iota]
      rw [e] at c0
      clear e
      go_wp2_with fail
      go_round
      case rel => exact ⟨j + 1, by omega, by go_num, by push_cast; congr 1; omega⟩
      case measure => simp [intOf]; omega
    · obtain rfl : j = n := by omega
      go_wp2
      go_ret
      exact ⟨rfl, rfl⟩

--@ laws.markFactS
def markF (k : Int) (n : Nat) : List Fct := (List.range n).map fun i : Nat => ⟨k % 3 == 0, k + 3 * i + 1, k + 3 * i + 1 + 1⟩
theorem markF_length (k : Int) (n : Nat) : (markF k n).length = n := by simp [markF]
theorem markF_get (k : Int) (n i : Nat) (h : i < n) : (markF k n)[i]'(by rw [markF_length]; exact h) = ⟨k % 3 == 0, k + 3 * i + 1, k + 3 * i + 1 + 1⟩ := by simp [markF]
set_option maxHeartbeats 1600000 in
theorem c_markFactS (v : Value) (xs : List Fct) (k : Int) (base : Nat) (w : World) (h : FactsO w base v xs) (h0 : 0 ≤ k) (h1 : k ≤ 1099511627776) : Calls Try.prog 81 #[v, .int .i64 k] w fun e w' => e = .returned (.int .i64 (k + 3 * xs.length)) ∧ FactsO w' base v (markF k xs.length) ∧ Mk (fun g => v.ownBlock = some g) w w' := by
  obtain ⟨⟨hl, h2⟩, hL⟩ := h
  have hL' : xs.length ≤ 1049600 := hL
  rcases h2 with ⟨rfl, hn⟩ | ⟨g, cap, cur, rfl, hb, hh, hn, hm, hs, ht⟩
  · go_enter Try.func81, Try.ntmps81
    go_wp2
    go_loop [1, 5] (fun m i => m = .int .i64 k ∧ i = .int .i64 0) (fun _ i => 0)
    case atStart => exact ⟨rfl, rfl⟩
    case round =>
      obtain ⟨rfl, rfl⟩ := hrel
      go_wp2
      go_ret
      have e : xs = [] := List.length_eq_zero_iff.1 hn
      subst e
      exact ⟨by simp, ⟨World.ownsRow_nil _ _ _ _, by simp [Lim, markF]⟩, Mk.refl _ _⟩
  · have hK : Blk w g tF cur := hh
    have HS := Lib.hid hs
    clear hs ht hh hl
    go_enter Try.func81, Try.ntmps81
    go_wp2
    go_loopw [1, 5] (fun m i wr => ∃ (j : Nat) (cs : Array Value), j ≤ xs.length ∧ i = .int .i64 j ∧ m = .int .i64 (k + 3 * j) ∧ Hid (cs.size = cap * 3) ∧ Hid (Pre cs (encF (markF k xs.length)) (j * 3)) ∧ Blk wr g tF cs ∧ Mk (fun g' => Value.ownBlock (.slice (some ⟨g, 0, none⟩) xs.length cap) = some g') w wr) (fun _ i _ => xs.length - (intOf i).toNat)
    case atStart => exact ⟨0, cur, Nat.zero_le _, rfl, by simp, HS.out, Pre.zero _ _, hK, Mk.refl _ _⟩
    case round =>
      obtain ⟨j, cs, hj, rfl, rfl, HS2, HP, hK2, hM⟩ := hrel
      by_cases hlt : j < xs.length
      · have hs := HS2.out
        obtain ⟨u0, hu0⟩ : ∃ u, cs[j * 3]? = some u := ⟨_, Array.getElem?_eq_getElem (by omega)⟩
        obtain ⟨u1, hu1⟩ : ∃ u, cs[j * 3 + 1]? = some u := ⟨_, Array.getElem?_eq_getElem (by omega)⟩
        obtain ⟨u2, hu2⟩ : ∃ u, cs[j * 3 + 2]? = some u := ⟨_, Array.getElem?_eq_getElem (by omega)⟩
        have q0 : wr.cell? ⟨g, j * 3, none⟩ = some u0 := by rw [hK2.cell, hu0]
        have q1 : wr.cell? ⟨g, j * 3 + 1, none⟩ = some u1 := by rw [hK2.cell, hu1]
        have q2 : wr.cell? ⟨g, j * 3 + 2, none⟩ = some u2 := by rw [hK2.cell, hu2]
        have r := hK2.frozen
        clear hs hu0 hu1 hu2
        go_wp2_with fail
        have hs := HS2.out
        go_round
        case rel =>
          obtain ⟨t0, t1, t2⟩ := flat3 (fun f : Fct => .bool f.eq) (fun f => .int .i64 f.a) (fun f => .int .i64 f.b) (markF k xs.length) j (by rw [markF_length]; exact hlt)
          rw [markF_get _ _ _ hlt] at t0 t1 t2
          refine ⟨j + 1, _, by omega, by go_num, by push_cast; congr 1; omega, ?_, HP.out.set3 (by omega) t0 t1 t2, ((hK2.set_ _ _).set_ _ _).set_ _ _, ((hM.set (x := ⟨g, j * 3, none⟩) rfl _).set (x := ⟨g, j * 3 + 1, none⟩) rfl _).set (x := ⟨g, j * 3 + 2, none⟩) rfl _⟩
          show _ = _; simp [hs]
        case measure => simp [intOf]; omega
      · go_wp2
        go_ret
        obtain rfl : j = xs.length := by omega
        have hs := HS2.out
        exact ⟨rfl, ⟨by rw [markF_length]; exact own_of_blk hK2 hb (by rw [len3, markF_length]) (by simpa using HP.out) hn hm (by simpa using hs), by rw [markF_length]; exact hL⟩, hM⟩

--@ laws.markAtomS
def markA (k : Int) (n : Nat) : List Atm := (List.range n).map fun i : Nat => ⟨k + 3 * i, k + 3 * i + 1, k + 3 * i + 1 + 1⟩
theorem markA_length (k : Int) (n : Nat) : (markA k n).length = n := by simp [markA]
theorem markA_get (k : Int) (n i : Nat) (h : i < n) : (markA k n)[i]'(by rw [markA_length]; exact h) = ⟨k + 3 * i, k + 3 * i + 1, k + 3 * i + 1 + 1⟩ := by simp [markA]
set_option maxHeartbeats 1600000 in
theorem c_markAtomS (v : Value) (xs : List Atm) (k : Int) (base : Nat) (w : World) (h : AtomsO w base v xs) (h0 : 0 ≤ k) (h1 : k ≤ 1099511627776) : Calls Try.prog 82 #[v, .int .i64 k] w fun e w' => e = .returned (.int .i64 (k + 3 * xs.length)) ∧ AtomsO w' base v (markA k xs.length) ∧ Mk (fun g => v.ownBlock = some g) w w' := by
  obtain ⟨⟨hl, h2⟩, hL⟩ := h
  have hL' : xs.length ≤ 1049600 := hL
  rcases h2 with ⟨rfl, hn⟩ | ⟨g, cap, cur, rfl, hb, hh, hn, hm, hs, ht⟩
  · go_enter Try.func82, Try.ntmps82
    go_wp2
    go_loop [1, 5] (fun m i => m = .int .i64 k ∧ i = .int .i64 0) (fun _ i => 0)
    case atStart => exact ⟨rfl, rfl⟩
    case round =>
      obtain ⟨rfl, rfl⟩ := hrel
      go_wp2
      go_ret
      have e : xs = [] := List.length_eq_zero_iff.1 hn
      subst e
      exact ⟨by simp, ⟨World.ownsRow_nil _ _ _ _, by simp [Lim, markA]⟩, Mk.refl _ _⟩
  · have hK : Blk w g tA cur := hh
    have HS := Lib.hid hs
    clear hs ht hh hl
    go_enter Try.func82, Try.ntmps82
    go_wp2
    go_loopw [1, 5] (fun m i wr => ∃ (j : Nat) (cs : Array Value), j ≤ xs.length ∧ i = .int .i64 j ∧ m = .int .i64 (k + 3 * j) ∧ Hid (cs.size = cap * 3) ∧ Hid (Pre cs (encA (markA k xs.length)) (j * 3)) ∧ Blk wr g tA cs ∧ Mk (fun g' => Value.ownBlock (.slice (some ⟨g, 0, none⟩) xs.length cap) = some g') w wr) (fun _ i _ => xs.length - (intOf i).toNat)
    case atStart => exact ⟨0, cur, Nat.zero_le _, rfl, by simp, HS.out, Pre.zero _ _, hK, Mk.refl _ _⟩
    case round =>
      obtain ⟨j, cs, hj, rfl, rfl, HS2, HP, hK2, hM⟩ := hrel
      by_cases hlt : j < xs.length
      · have hs := HS2.out
        obtain ⟨u0, hu0⟩ : ∃ u, cs[j * 3]? = some u := ⟨_, Array.getElem?_eq_getElem (by omega)⟩
        obtain ⟨u1, hu1⟩ : ∃ u, cs[j * 3 + 1]? = some u := ⟨_, Array.getElem?_eq_getElem (by omega)⟩
        obtain ⟨u2, hu2⟩ : ∃ u, cs[j * 3 + 2]? = some u := ⟨_, Array.getElem?_eq_getElem (by omega)⟩
        have q0 : wr.cell? ⟨g, j * 3, none⟩ = some u0 := by rw [hK2.cell, hu0]
        have q1 : wr.cell? ⟨g, j * 3 + 1, none⟩ = some u1 := by rw [hK2.cell, hu1]
        have q2 : wr.cell? ⟨g, j * 3 + 2, none⟩ = some u2 := by rw [hK2.cell, hu2]
        have r := hK2.frozen
        clear hs hu0 hu1 hu2
        go_wp2_with fail
        have hs := HS2.out
        go_round
        case rel =>
          obtain ⟨t0, t1, t2⟩ := flat3 (fun f : Atm => .int .i64 f.kind) (fun f => .int .i64 f.a) (fun f => .int .i64 f.b) (markA k xs.length) j (by rw [markA_length]; exact hlt)
          rw [markA_get _ _ _ hlt] at t0 t1 t2
          refine ⟨j + 1, _, by omega, by go_num, by push_cast; congr 1; omega, ?_, HP.out.set3 (by omega) t0 t1 t2, ((hK2.set_ _ _).set_ _ _).set_ _ _, ((hM.set (x := ⟨g, j * 3, none⟩) rfl _).set (x := ⟨g, j * 3 + 1, none⟩) rfl _).set (x := ⟨g, j * 3 + 2, none⟩) rfl _⟩
          show _ = _; simp [hs]
        case measure => simp [intOf]; omega
      · go_wp2
        go_ret
        obtain rfl : j = xs.length := by omega
        have hs := HS2.out
        exact ⟨rfl, ⟨by rw [markA_length]; exact own_of_blk hK2 hb (by rw [len3, markA_length]) (by simpa using HP.out) hn hm (by simpa using hs), by rw [markA_length]; exact hL⟩, hM⟩

def StateO (w : World) (base : Nat) (v : Value) (s : Ste) : Prop := ∃ fv av, v = .agg #[fv, av] ∧ IntsO w base fv s.values ∧ IntsO w base av s.heap ∧ ∀ g, fv.ownBlock = some g → av.ownBlock ≠ some g
theorem StateO.below {w w' : World} {base : Nat} {v : Value} {s : Ste} (h : StateO w base v s) (hb : Below w.heap.size w w') : StateO w' base v s := by
  obtain ⟨fv, av, e, h1, h2, h3⟩ := h
  exact ⟨fv, av, e, h1.below hb, h2.below hb, h3⟩
theorem StateO.abv {w w' : World} {base lo : Nat} {v : Value} {s : Ste} (h : StateO w base v s) (hb : Abv lo w w') (hl : lo ≤ base) : StateO w' base v s := by
  obtain ⟨fv, av, e, h1, h2, h3⟩ := h
  exact ⟨fv, av, e, h1.abv hb hl, h2.abv hb hl, h3⟩
theorem StateO.lower {w : World} {base base' : Nat} {v : Value} {s : Ste} (h : StateO w base v s) (hb : base' ≤ base) : StateO w base' v s := by
  obtain ⟨fv, av, e, h1, h2, h3⟩ := h
  exact ⟨fv, av, e, h1.lower hb, h2.lower hb, h3⟩
theorem StateO.reads {w : World} {base : Nat} {v : Value} {s : Ste} (h : StateO w base v s) : StateV w base w.heap.size v s := by
  obtain ⟨fv, av, e, h1, h2, h3⟩ := h
  obtain ⟨A1, c1, rfl, g1⟩ := h1.reads
  obtain ⟨A2, c2, rfl, g2⟩ := h2.reads
  exact ⟨A1, c1, A2, c2, e, g1, g2⟩
theorem IntsO.mk {p : Nat → Prop} {w w' : World} {base : Nat} {v : Value} {xs : List Int} (h : IntsO w base v xs) (hb : Mk p w w') (hp : ∀ g, v.ownBlock = some g → ¬ p g) : IntsO w' base v xs := ⟨own_mk h.1 hb hp, h.2⟩
theorem FactsO.mk {p : Nat → Prop} {w w' : World} {base : Nat} {v : Value} {xs : List Fct} (h : FactsO w base v xs) (hb : Mk p w w') (hp : ∀ g, v.ownBlock = some g → ¬ p g) : FactsO w' base v xs := ⟨own_mk h.1 hb hp, h.2⟩
theorem AtomsO.mk {p : Nat → Prop} {w w' : World} {base : Nat} {v : Value} {xs : List Atm} (h : AtomsO w base v xs) (hb : Mk p w w') (hp : ∀ g, v.ownBlock = some g → ¬ p g) : AtomsO w' base v xs := ⟨own_mk h.1 hb hp, h.2⟩
theorem Ste.eq_iff (f g : Ste) : f = g ↔ f.values = g.values ∧ f.heap = g.heap := by cases f; cases g; simp
/-- lists of different types lie in different blocks -/
theorem FactsO.ne_atoms {w : World} {b b' : Nat} {v v' : Value} {xs : List Fct} {ys : List Atm} (h : FactsO w b v xs) (h' : AtomsO w b' v' ys) (g : Nat) (hg : v.ownBlock = some g) : v'.ownBlock ≠ some g := by
  intro hg'
  obtain ⟨_, h2⟩ := h.1
  obtain ⟨_, h2'⟩ := h'.1
  rcases h2 with ⟨rfl, _⟩ | ⟨k, cap, cur, rfl, _, hh, _⟩
  · simp [Value.ownBlock] at hg
  rcases h2' with ⟨rfl, _⟩ | ⟨k', cap', cur', rfl, _, hh', _⟩
  · simp [Value.ownBlock] at hg'
  simp only [Value.ownBlock, Option.some.injEq] at hg hg'
  subst hg
  subst hg'
  exact Blk.ne_ (w := w) hh hh' (by decide) rfl

--@ laws.szState
def szSt (s : Ste) (left : Int) : Int := if szL s.values.length left < 0 then -1 else szL s.heap.length (szL s.values.length left)
set_option maxHeartbeats 400000 in
theorem c_szState (A1 A2 : Option Addr) (c1 c2 : Nat) (s : Ste) (left : Int) (w : World) (hn : s.values.length ≤ 9223372036854775807) (hm : s.heap.length ≤ 9223372036854775807) (h0 : 0 ≤ left) (h1 : left ≤ 1048576) : Calls Try.prog 43 #[.agg #[.slice A1 s.values.length c1, .slice A2 s.heap.length c2], .int .i64 left] w fun e w' => e = .returned (.int .i64 (szSt s left)) ∧ Below w.heap.size w w' := by
  have hle : szL s.values.length left ≤ left := by unfold szL; split <;> omega
  have hH := Lib.hid (show szSt s left = if szL s.values.length left < 0 then -1 else szL s.heap.length (szL s.values.length left) from rfl)
  by_cases h : szL s.values.length left < 0
  · go_enter Try.func43, Try.ntmps43
    go_wp2_with (go_at_call 106; refine (c_szIntS _ _ _ _ _ hn h0 h1).mono ?_; rintro e w' ⟨rfl, rfl⟩)
    go_ret
    exact ⟨ret_int (by rw [hH.out, if_pos h]), bel⟩
  · by_cases h2 : szL s.heap.length (szL s.values.length left) < 0
    all_goals
      go_enter Try.func43, Try.ntmps43
      go_wp2_with fail
      refine (c_szIntS _ _ _ _ _ hn h0 h1).mono ?_; rintro e w' ⟨rfl, rfl⟩
      go_wp2_with fail
      refine (c_szIntS _ _ _ _ _ hm (by omega) (by omega)).mono ?_; rintro e w' ⟨rfl, rfl⟩
      go_wp2_with fail
      go_ret
    · refine ⟨ret_int ?_, bel⟩
      rw [hH.out, if_neg (by omega)]
      exact (szL_neg h2).symm
    · exact ⟨ret_int (by rw [hH.out, if_neg (by omega)]), bel⟩

def StateR (w : World) (v : Value) (a : Ste) : Prop :=
  ∃ A1 c1 A2 c2, v = .agg #[.slice A1 a.values.length c1, .slice A2 a.heap.length c2] ∧ IntsR w A1 a.values ∧ IntsR w A2 a.heap
theorem szSt_le {a : Ste} {left : Int} (h : ¬ szSt a left < 0) : 0 ≤ szSt a left ∧ szSt a left = left - a.values.length - a.heap.length ∧ 0 ≤ left := by
  unfold szSt at h ⊢
  split at h
  · omega
  · rename_i h1
    have e1 := szL_le h1
    have e2 := szL_le h
    rw [if_neg h1]
    omega

--@ laws.toState
set_option maxHeartbeats 800000 in
theorem c_toState {lo hi : Nat} (v : Value) (s : Ste) (w : World) (h : StateV w lo hi v s) : Calls Try.prog 45 #[v] w fun e w' => ∃ v, e = .returned v ∧ StateO w' w.heap.size v s ∧ Below w.heap.size w w' := by
  obtain ⟨A1, c1, A2, c2, rfl, h1, h2⟩ := h
  go_enter Try.func45, Try.ntmps45
  go_wp2_with fail
  refine (c_toIntS A1 c1 s.values _ (h1.below bel)).mono ?_
  rintro e w1 ⟨v1, rfl, ho1, hB1⟩
  obtain ⟨F1, d1, rfl, -⟩ := ho1.reads
  have hB := bgo (w := w) bel hB1
  have k0 := (((Blk.new w _ _).alloc _).alloc _).next hB1
  have k1 := ((Blk.new (w.alloc _) _ _).alloc _).next hB1
  have k2 := (Blk.new ((w.alloc _).alloc _) _ _).next hB1
  simp only [World.size_alloc] at k1 k2 ho1
  have q0 := k0.cell
  have q2 := k2.cell
  have r2 := k2.frozen
  go_wp2_with fail
  refine (c_toIntS A2 c2 s.heap _ (h2.below bel)).mono ?_
  rintro e w2 ⟨v2, rfl, ho2, hB2⟩
  obtain ⟨F2, d2, rfl, -⟩ := ho2.reads
  have g1 := (k1.far (p := ⟨w.heap.size + 1 + 1, 0, none⟩) (by simp) _).next hB2
  have g2 := (k2.set_ 0 (.slice F1 s.values.length d1)).next hB2
  have hlt1 := ho1.und
  clear q0 q2 r2 k0 k1 k2
  have q1 := g1.cell
  have r1 := g1.frozen
  have q2 := g2.cell
  have r2 := g2.frozen
  go_wp2_with fail
  have hz : w.heap.size + 1 + 1 + 1 ≤ w1.heap.size := by have := hB1.size; simpa using this
  have hB3 := bgo (w := w) bel hB2
  have o1 := ((((ho1.setb (a := ⟨w.heap.size + 1 + 1, 0, none⟩) (by simp) (.slice F1 s.values.length d1)).below hB2).setb (a := ⟨w.heap.size + 1 + 1, 1, none⟩) (by simp) (.slice F2 s.heap.length d2)).setb (a := ⟨w.heap.size + 1, 0, none⟩) (by simp only; omega) (.slice F1 s.values.length d1)).setb (a := ⟨w.heap.size + 1, 1, none⟩) (by simp only; omega) (.slice F2 s.heap.length d2)
  have o2 := ((ho2.setb (a := ⟨w.heap.size + 1 + 1, 1, none⟩) (by simp; omega) (.slice F2 s.heap.length d2)).setb (a := ⟨w.heap.size + 1, 0, none⟩) (by simp; omega) (.slice F1 s.values.length d1)).setb (a := ⟨w.heap.size + 1, 1, none⟩) (by simp; omega) (.slice F2 s.heap.length d2)
  have hdis : ∀ g, (Value.slice F1 s.values.length d1).ownBlock = some g → (Value.slice F2 s.heap.length d2).ownBlock ≠ some g := fun g e1 e2 => by
    have t1 := hlt1 g e1
    have t2 := (ho2.1.lt g e2).1
    simp only [World.size_setCell] at t2
    omega
  refine bodyPost_ret (v := .agg #[.slice F1 s.values.length d1, .slice F2 s.heap.length d2]) (by simp [results, Try.results45, go_sem, q1]) rfl ⟨_, rfl, ⟨_, _, rfl, o1.lower (by omega), o2.lower (by simp; omega), hdis⟩, bel⟩

--@ laws.eqState
set_option maxHeartbeats 800000 in
theorem c_eqState {lo hi lo' hi' : Nat} (v v' : Value) (s s' : Ste) (w : World) (h : StateV w lo hi v s) (h' : StateV w lo' hi' v' s') : Calls Try.prog 47 #[v, v'] w fun e w' => e = .returned (.bool (decide (s = s'))) ∧ Below w.heap.size w w' := by
  obtain ⟨A1, c1, A2, c2, rfl, h1, h2⟩ := h
  obtain ⟨A3, c3, A4, c4, rfl, h3, h4⟩ := h'
  have hE : Hid (decide (s = s') = decide (s.values = s'.values ∧ s.heap = s'.heap)) := decide_eq_decide.2 (Ste.eq_iff s s')
  go_enter Try.func47, Try.ntmps47
  go_wp2_with fail
  refine (c_eqIntS A1 A3 c1 c3 s.values s'.values _ (h1.below bel) (h3.below bel)).mono ?_
  rintro e w1 ⟨rfl, hB1⟩
  have hB := bgo (w := w) bel hB1
  have k0 := (Blk.next (g := w.heap.size) (((Blk.new w _ _).alloc _)) hB1).cell
  have k1 := (Blk.next (g := w.heap.size + 1) (by rw [← World.size_alloc]; exact Blk.new (w.alloc _) _ _) hB1).cell
  cases hd : decide (s.values = s'.values)
  · go_wp2_with fail
    go_ret
    exact ⟨ret_bool (by rw [hE.out, Bool.decide_and, hd]; rfl), hB⟩
  · go_wp2_with fail
    refine (c_eqIntS A2 A4 c2 c4 s.heap s'.heap _ (h2.below hB) (h4.below hB)).mono ?_
    rintro e w2 ⟨rfl, hB2⟩
    cases hd2 : decide (s.heap = s'.heap)
    all_goals
      go_wp2_with fail
      go_ret
      exact ⟨ret_bool (by rw [hE.out, Bool.decide_and, hd, hd2]; rfl), bgo hB hB2⟩

--@ laws.markState
def markSt (k : Int) (s : Ste) : Ste := ⟨iota k s.values.length, iota (k + s.values.length) s.heap.length⟩
set_option maxHeartbeats 800000 in
theorem c_markState (v : Value) (s : Ste) (k : Int) (base hi : Nat) (w : World) (h : StateO w base v s) (hhi : ∀ fv av, v = .agg #[fv, av] → Und fv hi ∧ Und av hi) (h0 : 0 ≤ k) (h1 : k ≤ 549755813888) : Calls Try.prog 50 #[v, .int .i64 k] w fun e w' => e = .returned (.int .i64 (k + s.values.length + s.heap.length)) ∧ StateO w' base v (markSt k s) ∧ Mk (fun g => base ≤ g ∧ g < hi) w w' := by
  obtain ⟨fv, av, rfl, o1, o2, hd⟩ := h
  have hU := hhi fv av rfl
  have L1 : s.values.length ≤ 1049600 := o1.2
  obtain ⟨F1, d1, e1, -⟩ := o1.reads
  obtain ⟨F2, d2, e2, -⟩ := o2.reads
  have o1b := o1.below (w' := w.alloc (.cells #[fv, av] 58)) bel
  have o2b := o2.below (w' := w.alloc (.cells #[fv, av] 58)) bel
  subst e1
  subst e2
  go_enter Try.func50, Try.ntmps50
  go_wp2_with fail
  refine (c_markIntS _ s.values k base _ o1b h0 (by omega)).mono ?_
  rintro e w1 ⟨rfl, p1, hM1⟩
  have k0 := hM1.blk (Blk.new w _ _) (fun e => by have := o1.und _ e; omega)
  have q0 := k0.cell
  have o2c := o2b.mk hM1 (fun g e1 e2 => hd g e2 e1)
  have hM1' := (Mk.below_ (p := fun g => base ≤ g ∧ g < hi) (w := w) bel).trans (hM1.mono fun g e => ⟨(o1.1.lt g e).1, hU.1 g e⟩)
  clear hM1
  go_wp2_with fail
  refine (c_markIntS _ s.heap _ base _ o2c (by omega) (by omega)).mono ?_
  rintro e w2 ⟨rfl, p2, hM2⟩
  have p1c := p1.mk hM2 (fun g e1 e2 => hd g e1 e2)
  have hM2' := hM1'.trans (hM2.mono fun g e => ⟨(o2.1.lt g e).1, hU.2 g e⟩)
  go_wp2_with fail
  go_ret
  exact ⟨rfl, ⟨_, _, rfl, by simpa [markSt, iota_length] using p1c, p2, hd⟩, hM2'⟩

--@ laws.markAssertion
def markAs (k : Int) (s : Asn) : Asn := ⟨markF k s.facts.length, markA (k + 3 * s.facts.length) s.atoms.length⟩
set_option maxHeartbeats 800000 in
theorem c_markAssertion (v : Value) (s : Asn) (k : Int) (base hi : Nat) (w : World) (h : AsnO w base v s) (hhi : ∀ fv av, v = .agg #[fv, av] → Und fv hi ∧ Und av hi) (h0 : 0 ≤ k) (h1 : k ≤ 549755813888) : Calls Try.prog 36 #[v, .int .i64 k] w fun e w' => e = .returned (.int .i64 (k + 3 * s.facts.length + 3 * s.atoms.length)) ∧ AsnO w' base v (markAs k s) ∧ Mk (fun g => base ≤ g ∧ g < hi) w w' := by
  obtain ⟨fv, av, rfl, o1, o2⟩ := h
  have hd := o1.ne_atoms o2
  have hU := hhi fv av rfl
  have L1 : s.facts.length ≤ 1049600 := o1.2
  obtain ⟨F1, d1, e1, -⟩ := o1.reads
  obtain ⟨F2, d2, e2, -⟩ := o2.reads
  have o1b := o1.below (w' := w.alloc (.cells #[fv, av] 48)) bel
  have o2b := o2.below (w' := w.alloc (.cells #[fv, av] 48)) bel
  subst e1
  subst e2
  go_enter Try.func36, Try.ntmps36
  go_wp2_with fail
  refine (c_markFactS _ s.facts k base _ o1b h0 (by omega)).mono ?_
  rintro e w1 ⟨rfl, p1, hM1⟩
  have k0 := hM1.blk (Blk.new w _ _) (fun e => by have := o1.und _ e; omega)
  have q0 := k0.cell
  have o2c := o2b.mk hM1 (fun g e1 e2 => hd g e2 e1)
  have hM1' := (Mk.below_ (p := fun g => base ≤ g ∧ g < hi) (w := w) bel).trans (hM1.mono fun g e => ⟨(o1.1.lt g e).1, hU.1 g e⟩)
  clear hM1
  go_wp2_with fail
  refine (c_markAtomS _ s.atoms _ base _ o2c (by omega) (by omega)).mono ?_
  rintro e w2 ⟨rfl, p2, hM2⟩
  have p1c := p1.mk hM2 (fun g e1 e2 => hd g e1 e2)
  have hM2' := hM1'.trans (hM2.mono fun g e => ⟨(o2.1.lt g e).1, hU.2 g e⟩)
  go_wp2_with fail
  go_ret
  exact ⟨rfl, ⟨_, _, rfl, by simpa [markAs, markF_length] using p1c, p2⟩, hM2'⟩
end Go.Proofs.Ytcgifoghggajgaa

/- Rows that a call changes in place; marks that are held; replaced terms (impl). -/
namespace Go.Proofs.Ytcgifoghggajgaa
open Go Go.RowKit Go.Proofs
attribute [local go_sem ↓] Go.wp_at_zero Go.wp_at_succ

theorem set_same {α : Type} {L : List α} {i : Nat} {x : α} (h : L[i]? = some x) : L.set i x = L := by
  apply List.ext_getElem?
  intro k
  rw [List.getElem?_set]
  split
  · rename_i e; subst e
    split
    · exact h.symm
    · rename_i hn; rw [List.getElem?_eq_none (by omega)] at h; cases h
  · rfl
theorem flat3_set {α : Type} (f0 f1 f2 : α → Value) : ∀ (L : List α) (j : Nat) (x : α), j < L.length → ((L.set j x).flatMap fun x => [f0 x, f1 x, f2 x]) = (((L.flatMap fun x => [f0 x, f1 x, f2 x]).set (j*3) (f0 x)).set (j*3+1) (f1 x)).set (j*3+2) (f2 x) := by
  intro L
  induction L with
  | nil => intro j x h; simp at h
  | cons g L ih =>
    intro j x h
    cases j with
    | zero => simp
    | succ j =>
      have e := ih j x (by simpa using h)
      rw [List.set_cons_succ, List.flatMap_cons, e, List.flatMap_cons, show (j+1)*3 = j*3+1+1+1 from by omega, show j*3+1+1+1+1 = (j*3+1)+1+1+1 from by omega, show j*3+1+1+1+2 = (j*3+2)+1+1+1 from by omega]
      simp only [List.cons_append, List.nil_append, List.set_cons_succ]
theorem Pre.setL {cs : Array Value} {L : List Value} {m : Nat} (h : Pre cs L m) (i : Nat) (u : Value) (hs : m ≤ cs.size) (hl : m ≤ L.length) : Pre (cs.setIfInBounds i u) (L.set i u) m := by
  intro j hj
  by_cases e : i = j
  · subst e
    rw [Array.getElem?_setIfInBounds_self, if_pos (by omega), List.getElem?_set_self (by omega)]
  · rw [Array.getElem?_setIfInBounds_ne e, List.getElem?_set_ne e]; exact h j hj
/-- what a row of our own looks like from inside -/
theorem FactsO.open_ {w : World} {base : Nat} {A : Option Addr} {n c k : Nat} {fs : List Fct} (h : FactsO w base (.slice A n c) fs) (hk : k < fs.length) : ∃ g cur, n = fs.length ∧ A = some ⟨g, 0, none⟩ ∧ base ≤ g ∧ Blk w g tF cur ∧ fs.length * 3 ≤ cur.size ∧ cur[k*3]? = some (.bool fs[k].eq) ∧ cur[k*3+1]? = some (.int .i64 fs[k].a) ∧ cur[k*3+2]? = some (.int .i64 fs[k].b) ∧
    (∀ (i : Nat) (u : Value) (gs : List Fct), encF gs = (encF fs).set i u → gs.length = fs.length → FactsO (w.setCell ⟨g, i, none⟩ u) base (.slice A n c) gs) := by
  obtain ⟨⟨hl, h2⟩, hL⟩ := h
  rcases h2 with ⟨e, hn⟩ | ⟨g, cap, cur, e, hb, hh, hn, hm, hs, ht⟩
  · omega
  · injection e with e1 e2 e3
    subst e1 e2 e3
    have hK : Blk w g tF cur := hh
    have hP : Pre cur (encF fs) (fs.length * 3) := by
      intro j hj
      rw [← ht, List.getElem?_take, if_pos hj]; simp
    obtain ⟨t0, t1, t2⟩ := flat3 (fun f : Fct => .bool f.eq) (fun f => .int .i64 f.a) (fun f => .int .i64 f.b) fs k hk
    refine ⟨g, cur, rfl, rfl, hb, hK, by rw [hs]; exact Nat.mul_le_mul hn (Nat.le_refl _), (hP _ (by omega)).trans t0, (hP _ (by omega)).trans t1, (hP _ (by omega)).trans t2, ?_⟩
    intro i u gs he hg
    refine ⟨?_, by rw [hg]; exact hL⟩
    rw [he, hg]
    exact own_of_blk (hK.set_ i u) hb (by rw [List.length_set, hl]) (hP.setL i u (by rw [hs]; exact Nat.mul_le_mul hn (Nat.le_refl _)) (by rw [hl]; exact Nat.le_refl _)) hn hm (by simpa using hs)
theorem AtomsO.open_ {w : World} {base : Nat} {A : Option Addr} {n c k : Nat} {fs : List Atm} (h : AtomsO w base (.slice A n c) fs) (hk : k < fs.length) : ∃ g cur, n = fs.length ∧ A = some ⟨g, 0, none⟩ ∧ base ≤ g ∧ Blk w g tA cur ∧ fs.length * 3 ≤ cur.size ∧ cur[k*3]? = some (.int .i64 fs[k].kind) ∧ cur[k*3+1]? = some (.int .i64 fs[k].a) ∧ cur[k*3+2]? = some (.int .i64 fs[k].b) ∧
    (∀ (i : Nat) (u : Value) (gs : List Atm), encA gs = (encA fs).set i u → gs.length = fs.length → AtomsO (w.setCell ⟨g, i, none⟩ u) base (.slice A n c) gs) := by
  obtain ⟨⟨hl, h2⟩, hL⟩ := h
  rcases h2 with ⟨e, hn⟩ | ⟨g, cap, cur, e, hb, hh, hn, hm, hs, ht⟩
  · omega
  · injection e with e1 e2 e3
    subst e1 e2 e3
    have hK : Blk w g tA cur := hh
    have hP : Pre cur (encA fs) (fs.length * 3) := by
      intro j hj
      rw [← ht, List.getElem?_take, if_pos hj]; simp
    obtain ⟨t0, t1, t2⟩ := flat3 (fun f : Atm => .int .i64 f.kind) (fun f => .int .i64 f.a) (fun f => .int .i64 f.b) fs k hk
    refine ⟨g, cur, rfl, rfl, hb, hK, by rw [hs]; exact Nat.mul_le_mul hn (Nat.le_refl _), (hP _ (by omega)).trans t0, (hP _ (by omega)).trans t1, (hP _ (by omega)).trans t2, ?_⟩
    intro i u gs he hg
    refine ⟨?_, by rw [hg]; exact hL⟩
    rw [he, hg]
    exact own_of_blk (hK.set_ i u) hb (by rw [List.length_set, hl]) (hP.setL i u (by rw [hs]; exact Nat.mul_le_mul hn (Nat.le_refl _)) (by rw [hl]; exact Nat.le_refl _)) hn hm (by simpa using hs)
theorem encF_setA {fs : List Fct} {k : Nat} (hk : k < fs.length) (v : Int) : encF (fs.set k ⟨fs[k].eq, v, fs[k].b⟩) = (encF fs).set (k*3+1) (.int .i64 v) := by
  obtain ⟨t0, t1, t2⟩ := flat3 (fun f : Fct => .bool f.eq) (fun f => .int .i64 f.a) (fun f => .int .i64 f.b) fs k hk
  rw [encF, flat3_set _ _ _ _ _ _ hk, set_same t0, set_same]
  rw [List.getElem?_set_ne (by omega)]; exact t2
theorem encF_setB {fs : List Fct} {k : Nat} (hk : k < fs.length) (v : Int) : encF (fs.set k ⟨fs[k].eq, fs[k].a, v⟩) = (encF fs).set (k*3+2) (.int .i64 v) := by
  obtain ⟨t0, t1, t2⟩ := flat3 (fun f : Fct => .bool f.eq) (fun f => .int .i64 f.a) (fun f => .int .i64 f.b) fs k hk
  rw [encF, flat3_set _ _ _ _ _ _ hk, set_same t0, set_same t1]
theorem encA_setA {fs : List Atm} {k : Nat} (hk : k < fs.length) (v : Int) : encA (fs.set k ⟨fs[k].kind, v, fs[k].b⟩) = (encA fs).set (k*3+1) (.int .i64 v) := by
  obtain ⟨t0, t1, t2⟩ := flat3 (fun f : Atm => .int .i64 f.kind) (fun f => .int .i64 f.a) (fun f => .int .i64 f.b) fs k hk
  rw [encA, flat3_set _ _ _ _ _ _ hk, set_same t0, set_same]
  rw [List.getElem?_set_ne (by omega)]; exact t2
theorem encA_setB {fs : List Atm} {k : Nat} (hk : k < fs.length) (v : Int) : encA (fs.set k ⟨fs[k].kind, fs[k].a, v⟩) = (encA fs).set (k*3+2) (.int .i64 v) := by
  obtain ⟨t0, t1, t2⟩ := flat3 (fun f : Atm => .int .i64 f.kind) (fun f => .int .i64 f.a) (fun f => .int .i64 f.b) fs k hk
  rw [encA, flat3_set _ _ _ _ _ _ hk, set_same t0, set_same t1]
theorem FactsO.setA {w : World} {base g n c k : Nat} {fs : List Fct} (h : FactsO w base (.slice (some ⟨g, 0, none⟩) n c) fs) (hk : k < fs.length) (v : Int) {gs : List Fct} (hgs : gs = fs.set k ⟨fs[k].eq, v, fs[k].b⟩) : FactsO (w.setCell ⟨g, k*3+1, none⟩ (.int .i64 v)) base (.slice (some ⟨g, 0, none⟩) n c) gs := by
  subst hgs
  obtain ⟨g', cur, -, e, -, -, -, -, -, -, hs⟩ := h.open_ hk
  simp only [Option.some.injEq, Addr.mk.injEq, and_true] at e
  subst e
  exact hs _ _ _ (encF_setA hk v) (by simp)
theorem FactsO.setB {w : World} {base g n c k : Nat} {fs : List Fct} (h : FactsO w base (.slice (some ⟨g, 0, none⟩) n c) fs) (hk : k < fs.length) (v : Int) {gs : List Fct} (hgs : gs = fs.set k ⟨fs[k].eq, fs[k].a, v⟩) : FactsO (w.setCell ⟨g, k*3+2, none⟩ (.int .i64 v)) base (.slice (some ⟨g, 0, none⟩) n c) gs := by
  subst hgs
  obtain ⟨g', cur, -, e, -, -, -, -, -, -, hs⟩ := h.open_ hk
  simp only [Option.some.injEq, Addr.mk.injEq, and_true] at e
  subst e
  exact hs _ _ _ (encF_setB hk v) (by simp)
theorem AtomsO.setA {w : World} {base g n c k : Nat} {fs : List Atm} (h : AtomsO w base (.slice (some ⟨g, 0, none⟩) n c) fs) (hk : k < fs.length) (v : Int) {gs : List Atm} (hgs : gs = fs.set k ⟨fs[k].kind, v, fs[k].b⟩) : AtomsO (w.setCell ⟨g, k*3+1, none⟩ (.int .i64 v)) base (.slice (some ⟨g, 0, none⟩) n c) gs := by
  subst hgs
  obtain ⟨g', cur, -, e, -, -, -, -, -, -, hs⟩ := h.open_ hk
  simp only [Option.some.injEq, Addr.mk.injEq, and_true] at e
  subst e
  exact hs _ _ _ (encA_setA hk v) (by simp)
theorem AtomsO.setB {w : World} {base g n c k : Nat} {fs : List Atm} (h : AtomsO w base (.slice (some ⟨g, 0, none⟩) n c) fs) (hk : k < fs.length) (v : Int) {gs : List Atm} (hgs : gs = fs.set k ⟨fs[k].kind, fs[k].a, v⟩) : AtomsO (w.setCell ⟨g, k*3+2, none⟩ (.int .i64 v)) base (.slice (some ⟨g, 0, none⟩) n c) gs := by
  subst hgs
  obtain ⟨g', cur, -, e, -, -, -, -, -, -, hs⟩ := h.open_ hk
  simp only [Option.some.injEq, Addr.mk.injEq, and_true] at e
  subst e
  exact hs _ _ _ (encA_setB hk v) (by simp)
/-- one element in a block of its own reads as a list of one -/
theorem FactsV.one {w : World} {g : Nat} {f : Fct} (h : Blk w g tF #[.bool f.eq, .int .i64 f.a, .int .i64 f.b]) : FactsV w g (g + 1) (some ⟨g, 0, none⟩) [f] :=
  ⟨⟨by simp, fun _ => ⟨g, 0, rfl, Nat.le_refl _, Nat.lt_succ_self _, fun j u hu => by rw [Nat.zero_add, h.cell]; simpa using hu⟩⟩, by simp [Lim]⟩
theorem AtomsV.one {w : World} {g : Nat} {f : Atm} (h : Blk w g tA #[.int .i64 f.kind, .int .i64 f.a, .int .i64 f.b]) : AtomsV w g (g + 1) (some ⟨g, 0, none⟩) [f] :=
  ⟨⟨by simp, fun _ => ⟨g, 0, rfl, Nat.le_refl _, Nat.lt_succ_self _, fun j u hu => by rw [Nat.zero_add, h.cell]; simpa using hu⟩⟩, by simp [Lim]⟩

theorem FactsV.cl {w : World} {lo hi b o k : Nat} {fs : List Fct} (h : FactsV w lo hi (some ⟨b, o, none⟩) fs) (hk : k < fs.length) : w.cell? ⟨b, o + k*3, none⟩ = some (.bool fs[k].eq) ∧ w.cell? ⟨b, o + k*3+1, none⟩ = some (.int .i64 fs[k].a) ∧ w.cell? ⟨b, o + k*3+2, none⟩ = some (.int .i64 fs[k].b) := by
  obtain ⟨b', o', e, hc⟩ := h.at hk
  simp only [Option.some.injEq, Addr.mk.injEq, and_true] at e
  obtain ⟨rfl, rfl⟩ := e
  exact hc
theorem AtomsV.cl {w : World} {lo hi b o k : Nat} {fs : List Atm} (h : AtomsV w lo hi (some ⟨b, o, none⟩) fs) (hk : k < fs.length) : w.cell? ⟨b, o + k*3, none⟩ = some (.int .i64 fs[k].kind) ∧ w.cell? ⟨b, o + k*3+1, none⟩ = some (.int .i64 fs[k].a) ∧ w.cell? ⟨b, o + k*3+2, none⟩ = some (.int .i64 fs[k].b) := by
  obtain ⟨b', o', e, hc⟩ := h.at hk
  simp only [Option.some.injEq, Addr.mk.injEq, and_true] at e
  obtain ⟨rfl, rfl⟩ := e
  exact hc
theorem FactsV.blt {w : World} {lo hi k : Nat} {A : Option Addr} {fs : List Fct} (h : FactsV w lo hi A fs) (hk : k < fs.length) : ∃ b o, A = some ⟨b, o, none⟩ ∧ b < w.heap.size := by
  obtain ⟨b, o, e, hc, -⟩ := h.at hk
  exact ⟨b, o, e, block_lt_of_cell hc⟩
theorem AtomsV.blt {w : World} {lo hi k : Nat} {A : Option Addr} {fs : List Atm} (h : AtomsV w lo hi A fs) (hk : k < fs.length) : ∃ b o, A = some ⟨b, o, none⟩ ∧ b < w.heap.size := by
  obtain ⟨b, o, e, hc, -⟩ := h.at hk
  exact ⟨b, o, e, block_lt_of_cell hc⟩
theorem IntsV.blt {w : World} {lo hi k : Nat} {A : Option Addr} {fs : List Int} (h : IntsV w lo hi A fs) (hk : k < fs.length) : ∃ b o, A = some ⟨b, o, none⟩ ∧ b < w.heap.size := by
  obtain ⟨b, o, e, hc⟩ := h.at hk
  exact ⟨b, o, e, block_lt_of_cell hc⟩
theorem BoolsV.blt {w : World} {lo hi k : Nat} {A : Option Addr} {fs : List Bool} (h : BoolsV w lo hi A fs) (hk : k < fs.length) : ∃ b o, A = some ⟨b, o, none⟩ ∧ b < w.heap.size := by
  obtain ⟨b, o, e, hc⟩ := h.at hk
  exact ⟨b, o, e, block_lt_of_cell hc⟩

theorem own_ofBlk {w : World} {g base size : Nat} {t : TypeId} (h : Blk w g t #[]) (hb : base ≤ g) : w.ownsRow base t size (.slice (some ⟨g, 0, none⟩) 0 0) 0 [] := ⟨by simp, .inr ⟨g, 0, #[], rfl, hb, h, Nat.le_refl _, by decide, by simp, by simp⟩⟩
theorem FactsO.ofBlk {w : World} {g base : Nat} (h : Blk w g tF #[]) (hb : base ≤ g) : FactsO w base (.slice (some ⟨g, 0, none⟩) 0 0) [] := ⟨own_ofBlk h hb, by simp [Lim]⟩
theorem AtomsO.ofBlk {w : World} {g base : Nat} (h : Blk w g tA #[]) (hb : base ≤ g) : AtomsO w base (.slice (some ⟨g, 0, none⟩) 0 0) [] := ⟨own_ofBlk h hb, by simp [Lim]⟩
theorem IntsO.ofBlk {w : World} {g base : Nat} (h : Blk w g tI #[]) (hb : base ≤ g) : IntsO w base (.slice (some ⟨g, 0, none⟩) 0 0) [] := ⟨own_ofBlk h hb, by simp [Lim]⟩
theorem Blk.grownO {w w' : World} {g base size n : Nat} {t e : TypeId} {cs : Array Value} {v : Value} {xs : List Value} (h : Blk w g t cs) (ho : w.ownsRow base e size v n xs) (hg : w.grownBy w' v.ownBlock) (ht : t ≠ e) : Blk w' g t cs := by
  refine h.grown hg ?_
  intro he
  rcases ho.2 with ⟨rfl, _⟩ | ⟨k, cap, cur, rfl, _, hh, _⟩
  · simp [Value.ownBlock] at he
  · simp only [Value.ownBlock, Option.some.injEq] at he
    exact Blk.ne_ h hh ht he
theorem own_grownO {w w' : World} {base base' size size' n n' : Nat} {e e' : TypeId} {v v' : Value} {xs xs' : List Value} (h : w.ownsRow base' e' size' v' n' xs') (ho : w.ownsRow base e size v n xs) (hg : w.grownBy w' v.ownBlock) (ht : e' ≠ e) : w'.ownsRow base' e' size' v' n' xs' := by
  obtain ⟨h1, h2⟩ := h
  refine ⟨h1, ?_⟩
  rcases h2 with h2 | ⟨k, cap, cur, hv, hk, hh, r⟩
  · exact Or.inl h2
  · exact Or.inr ⟨k, cap, cur, hv, hk, Blk.grownO hh ho hg ht, r⟩
theorem FactsO.grownA {w w' : World} {b b' : Nat} {v v' : Value} {xs : List Fct} {ys : List Atm} (h : FactsO w b v xs) (ho : AtomsO w b' v' ys) (hg : w.grownBy w' v'.ownBlock) : FactsO w' b v xs := ⟨own_grownO h.1 ho.1 hg (by decide), h.2⟩
theorem AtomsO.grownF {w w' : World} {b b' : Nat} {v v' : Value} {xs : List Atm} {ys : List Fct} (h : AtomsO w b v xs) (ho : FactsO w b' v' ys) (hg : w.grownBy w' v'.ownBlock) : AtomsO w' b v xs := ⟨own_grownO h.1 ho.1 hg (by decide), h.2⟩


theorem Rd.keepB {w w' : World} {lo hi size n B : Nat} {A : Option Addr} {xs : List Value} (h : Rd w lo hi size A n xs) (hb : Below B w w') (hh : hi ≤ B) : Rd w' lo hi size A n xs := h.keep fun b _ h2 => hb.block b (by omega)
theorem FactsV.keepB {w w' : World} {lo hi B : Nat} {A : Option Addr} {xs : List Fct} (h : FactsV w lo hi A xs) (hb : Below B w w') (hh : hi ≤ B) : FactsV w' lo hi A xs := Rd.keepB h hb hh
theorem AtomsV.keepB {w w' : World} {lo hi B : Nat} {A : Option Addr} {xs : List Atm} (h : AtomsV w lo hi A xs) (hb : Below B w w') (hh : hi ≤ B) : AtomsV w' lo hi A xs := Rd.keepB h hb hh
theorem IntsV.keepB {w w' : World} {lo hi B : Nat} {A : Option Addr} {xs : List Int} (h : IntsV w lo hi A xs) (hb : Below B w w') (hh : hi ≤ B) : IntsV w' lo hi A xs := Rd.keepB h hb hh
theorem BoolsV.keepB {w w' : World} {lo hi B : Nat} {A : Option Addr} {xs : List Bool} (h : BoolsV w lo hi A xs) (hb : Below B w w') (hh : hi ≤ B) : BoolsV w' lo hi A xs := Rd.keepB h hb hh

--@ laws.heldFactS
set_option maxHeartbeats 800000 in
theorem c_heldFactS {lo hi : Nat} (A : Option Addr) (n c : Nat) (k : Int) (w : World) (h : FactsV w lo hi A (markF k n)) (h0 : 0 ≤ k) (h1 : k ≤ 1099511627776) : Calls Try.prog 118 #[.slice A n c, .int .i64 k] w fun e w' => e = .returned (.int .i64 (k + 3 * n)) ∧ w = w' := by
  have hL := h.le
  rw [markF_length] at hL
  go_enter Try.func118, Try.ntmps118
  go_wp2
  go_loop [1, 5] (fun m i => ∃ (j : Nat), j ≤ n ∧ i = .int .i64 j ∧ m = .int .i64 (k + 3 * j)) (fun _ i => n - (intOf i).toNat)
  case atStart => exact ⟨0, Nat.zero_le _, rfl, by simp⟩
  case round =>
    obtain ⟨j, hj, rfl, rfl⟩ := hrel
    by_cases hlt : j < n
    · obtain ⟨b, off, rfl, c0, c1, c2⟩ := h.at (k := j) (by rw [markF_length]; exact hlt)
      rw [markF_get _ _ _ hlt] at c0 c1 c2
      dsimp only at c0 c1 c2
      go_wp2_with fail
      go_round
      case rel => exact ⟨j + 1, by omega, by go_num, by push_cast; congr 1; omega⟩
      case measure => simp [intOf]; omega
    · obtain rfl : j = n := by omega
      go_wp2
      go_ret
      exact ⟨rfl, rfl⟩

--@ laws.heldAtomS
set_option maxHeartbeats 800000 in
theorem c_heldAtomS {lo hi : Nat} (A : Option Addr) (n c : Nat) (k : Int) (w : World) (h : AtomsV w lo hi A (markA k n)) (h0 : 0 ≤ k) (h1 : k ≤ 1099511627776) : Calls Try.prog 119 #[.slice A n c, .int .i64 k] w fun e w' => e = .returned (.int .i64 (k + 3 * n)) ∧ w = w' := by
  have hL := h.le
  rw [markA_length] at hL
  go_enter Try.func119, Try.ntmps119
  go_wp2
  go_loop [1, 5] (fun m i => ∃ (j : Nat), j ≤ n ∧ i = .int .i64 j ∧ m = .int .i64 (k + 3 * j)) (fun _ i => n - (intOf i).toNat)
  case atStart => exact ⟨0, Nat.zero_le _, rfl, by simp⟩
  case round =>
    obtain ⟨j, hj, rfl, rfl⟩ := hrel
    by_cases hlt : j < n
    · obtain ⟨b, off, rfl, c0, c1, c2⟩ := h.at (k := j) (by rw [markA_length]; exact hlt)
      rw [markA_get _ _ _ hlt] at c0 c1 c2
      dsimp only at c0 c1 c2
      go_wp2_with fail
      go_round
      case rel => exact ⟨j + 1, by omega, by go_num, by push_cast; congr 1; omega⟩
      case measure => simp [intOf]; omega
    · obtain rfl : j = n := by omega
      go_wp2
      go_ret
      exact ⟨rfl, rfl⟩
end Go.Proofs.Ytcgifoghggajgaa

/- Words for the exact laws: data that lie in blocks of an interval of their own. -/
namespace Go.Proofs.Ytcgifoghggajgaa
open Go Go.RowKit Go.Proofs

def FactsI (w : World) (lo hi : Nat) (v : Value) (fs : List Fct) : Prop := FactsO w lo v fs ∧ Und v hi
def AtomsI (w : World) (lo hi : Nat) (v : Value) (fs : List Atm) : Prop := AtomsO w lo v fs ∧ Und v hi
def IntsI (w : World) (lo hi : Nat) (v : Value) (fs : List Int) : Prop := IntsO w lo v fs ∧ Und v hi
def AsnI (w : World) (lo hi : Nat) (v : Value) (a : Asn) : Prop := ∃ fv av, v = .agg #[fv, av] ∧ FactsI w lo hi fv a.facts ∧ AtomsI w lo hi av a.atoms
section
variable {w w' : World} {lo hi lo' hi' a b : Nat} {v : Value}
theorem und_range {w : World} {base : Nat} {e : TypeId} {size : Nat} {v : Value} {n : Nat} {xs : List Value} {hi : Nat} (h : w.ownsRow base e size v n xs) (hu : Und v hi) : ∀ g, v.ownBlock = some g → base ≤ g ∧ g < hi := fun g hg => ⟨(h.lt g hg).1, hu g hg⟩
theorem FactsI.below {fs : List Fct} (h : FactsI w lo hi v fs) (hb : Below w.heap.size w w') : FactsI w' lo hi v fs := ⟨h.1.below hb, h.2⟩
theorem AtomsI.below {fs : List Atm} (h : AtomsI w lo hi v fs) (hb : Below w.heap.size w w') : AtomsI w' lo hi v fs := ⟨h.1.below hb, h.2⟩
theorem IntsI.below {fs : List Int} (h : IntsI w lo hi v fs) (hb : Below w.heap.size w w') : IntsI w' lo hi v fs := ⟨h.1.below hb, h.2⟩
theorem AsnI.below {x : Asn} (h : AsnI w lo hi v x) (hb : Below w.heap.size w w') : AsnI w' lo hi v x := by
  obtain ⟨fv, av, e, h1, h2⟩ := h; exact ⟨fv, av, e, h1.below hb, h2.below hb⟩
theorem FactsI.mk {fs : List Fct} (h : FactsI w lo hi v fs) (hb : Mk (fun g => a ≤ g ∧ g < b) w w') (hd : hi ≤ a ∨ b ≤ lo) : FactsI w' lo hi v fs :=
  ⟨h.1.mk hb fun g hg hp => by have := und_range h.1.1 h.2 g hg; omega, h.2⟩
theorem AtomsI.mk {fs : List Atm} (h : AtomsI w lo hi v fs) (hb : Mk (fun g => a ≤ g ∧ g < b) w w') (hd : hi ≤ a ∨ b ≤ lo) : AtomsI w' lo hi v fs :=
  ⟨h.1.mk hb fun g hg hp => by have := und_range h.1.1 h.2 g hg; omega, h.2⟩
theorem IntsI.mk {fs : List Int} (h : IntsI w lo hi v fs) (hb : Mk (fun g => a ≤ g ∧ g < b) w w') (hd : hi ≤ a ∨ b ≤ lo) : IntsI w' lo hi v fs :=
  ⟨h.1.mk hb fun g hg hp => by have := und_range h.1.1 h.2 g hg; omega, h.2⟩
theorem AsnI.mk {x : Asn} (h : AsnI w lo hi v x) (hb : Mk (fun g => a ≤ g ∧ g < b) w w') (hd : hi ≤ a ∨ b ≤ lo) : AsnI w' lo hi v x := by
  obtain ⟨fv, av, e, h1, h2⟩ := h; exact ⟨fv, av, e, h1.mk hb hd, h2.mk hb hd⟩
theorem FactsI.form {fs : List Fct} (h : FactsI w lo hi v fs) : ∃ A c, v = .slice A fs.length c := by obtain ⟨A, c, e, -⟩ := h.1.reads; exact ⟨A, c, e⟩
theorem AtomsI.form {fs : List Atm} (h : AtomsI w lo hi v fs) : ∃ A c, v = .slice A fs.length c := by obtain ⟨A, c, e, -⟩ := h.1.reads; exact ⟨A, c, e⟩
theorem IntsI.form {fs : List Int} (h : IntsI w lo hi v fs) : ∃ A c, v = .slice A fs.length c := by obtain ⟨A, c, e, -⟩ := h.1.reads; exact ⟨A, c, e⟩
theorem AsnI.form {x : Asn} (h : AsnI w lo hi v x) : ∃ A c B d, v = .agg #[.slice A x.facts.length c, .slice B x.atoms.length d] := by
  obtain ⟨fv, av, rfl, h1, h2⟩ := h
  obtain ⟨A, c, rfl⟩ := h1.form
  obtain ⟨B, d, rfl⟩ := h2.form
  exact ⟨A, c, B, d, rfl⟩
theorem IntsI.reads {A : Option Addr} {n c : Nat} {fs : List Int} (h : IntsI w lo hi (.slice A n c) fs) : IntsV w lo w.heap.size A fs := h.1.readsI.2
theorem AsnI.reads {x : Asn} (h : AsnI w lo hi v x) : AsnV w lo w.heap.size v x := by
  obtain ⟨fv, av, e, h1, h2⟩ := h; exact AsnO.reads ⟨fv, av, e, h1.1, h2.1⟩
theorem FactsO.I {fs : List Fct} (h : FactsO w lo v fs) : FactsI w lo w.heap.size v fs := ⟨h, h.und⟩
theorem AtomsO.I {fs : List Atm} (h : AtomsO w lo v fs) : AtomsI w lo w.heap.size v fs := ⟨h, h.und⟩
theorem IntsO.I {fs : List Int} (h : IntsO w lo v fs) : IntsI w lo w.heap.size v fs := ⟨h, h.und⟩
theorem AsnO.I {x : Asn} (h : AsnO w lo v x) : AsnI w lo w.heap.size v x := by
  obtain ⟨fv, av, e, h1, h2⟩ := h; exact ⟨fv, av, e, h1.I, h2.I⟩
theorem AsnI.len {x : Asn} (h : AsnI w lo hi v x) : x.facts.length ≤ 1049600 ∧ x.atoms.length ≤ 1049600 := by
  obtain ⟨fv, av, e, h1, h2⟩ := h; exact ⟨h1.1.2, h2.1.2⟩
theorem IntsI.len {x : List Int} (h : IntsI w lo hi v x) : x.length ≤ 1049600 := h.1.2
theorem Mk.keepB {B : Nat} {w0 : World} (h : Below B w0 w) (hm : Mk (fun g => a ≤ g ∧ g < b) w w') (hB : B ≤ a) (hs : B ≤ w.heap.size) : Below B w0 w' :=
  h.trans (hm.below (fun k hk => by omega) hs)
end
def FactT (_ : World) (v : Value) (f : Fct) : Prop := v = f.val

--@ laws.markIntS
theorem m_ints (v : Value) (xs : List Int) (k : Int) (lo hi : Nat) (w : World) (h : IntsI w lo hi v xs) (h0 : 0 ≤ k) (h1 : k ≤ 549755813888) : Calls Try.prog 22 #[v, .int .i64 k] w fun e w' => e = .returned (.int .i64 (k + xs.length)) ∧ IntsI w' lo hi v (iota k xs.length) ∧ Mk (fun g => lo ≤ g ∧ g < hi) w w' := by
  refine (c_markIntS v xs k lo w h.1 h0 (by omega)).mono ?_
  rintro e w' ⟨rfl, h2, h3⟩
  exact ⟨rfl, ⟨h2, h.2⟩, h3.mono fun g hg => und_range h.1.1 h.2 g hg⟩

--@ laws.markAssertion
theorem m_asn (v : Value) (x : Asn) (k : Int) (lo hi : Nat) (w : World) (h : AsnI w lo hi v x) (h0 : 0 ≤ k) (h1 : k ≤ 549755813888) : Calls Try.prog 36 #[v, .int .i64 k] w fun e w' => e = .returned (.int .i64 (k + 3 * x.facts.length + 3 * x.atoms.length)) ∧ AsnI w' lo hi v (markAs k x) ∧ Mk (fun g => lo ≤ g ∧ g < hi) w w' := by
  obtain ⟨fv, av, rfl, o1, o2⟩ := h
  refine (c_markAssertion _ x k lo hi w ⟨fv, av, rfl, o1.1, o2.1⟩ (fun fv' av' e => by injection e with e; injection e with e; injection e with e1 e2; injection e2 with e2; subst e1; subst e2; exact ⟨o1.2, o2.2⟩) h0 h1).mono ?_
  rintro e w' ⟨rfl, ⟨fv', av', e, p1, p2⟩, h3⟩
  injection e with e; injection e with e; injection e with e1 e2; injection e2 with e2; subst e1; subst e2
  exact ⟨rfl, ⟨_, _, rfl, ⟨p1, o1.2⟩, ⟨p2, o2.2⟩⟩, h3⟩

--@ laws.heldIntS
theorem h_ints {lo hi : Nat} (A : Option Addr) (x : List Int) (c : Nat) (k : Int) (w : World) (h : IntsI w lo hi (.slice A x.length c) (iota k x.length)) (h0 : 0 ≤ k) (hk : k ≤ 549755813888) :
    Calls Try.prog 23 #[.slice A x.length c, .int .i64 k] w fun e w' => e = .returned (.int .i64 (k + x.length)) ∧ Below w.heap.size w w' := by
  refine (c_heldIntS A x.length c k w h.1.readsI.2 h0 (by omega)).mono ?_
  rintro e w' ⟨rfl, rfl⟩
  exact ⟨rfl, Below.refl _ _⟩

--@ laws.eqAssertion
theorem t_asn {lo hi lo' hi' : Nat} (v v' : Value) (x : Asn) (w : World) (h : AsnV w lo hi v x) (h' : AsnV w lo' hi' v' x) : Calls Try.prog 35 #[v, v'] w fun e w' => e = .returned (.bool true) ∧ Below w.heap.size w w' := by
  refine (c_eqAssertion v v' x x w h h').mono ?_
  rintro e w' ⟨rfl, hB⟩
  exact ⟨by simp, hB⟩

--@ laws.eqIntS
theorem t_ints {lo hi lo' hi' : Nat} (A A' : Option Addr) (c c' : Nat) (x : List Int) (w : World) (h : IntsV w lo hi A x) (h' : IntsV w lo' hi' A' x) : Calls Try.prog 19 #[.slice A x.length c, .slice A' x.length c'] w fun e w' => e = .returned (.bool true) ∧ Below w.heap.size w w' := by
  refine (c_eqIntS A A' c c' x x w h h').mono ?_
  rintro e w' ⟨rfl, hB⟩
  exact ⟨by simp, hB⟩

--@ laws.toAssertion
theorem to_asn {lo hi : Nat} (v : Value) (x : Asn) (w : World) (h : AsnV w lo hi v x) : Calls Try.prog 32 #[v] w fun e w' => ∃ r, e = .returned r ∧ AsnI w' w.heap.size w'.heap.size r x ∧ Below w.heap.size w w' := by
  refine (c_toAssertion v x w h).mono ?_
  rintro e w' ⟨r, rfl, o, hB⟩
  exact ⟨r, rfl, o.I, hB⟩

--@ laws.toIntS
theorem to_ints {lo hi : Nat} (A : Option Addr) (c : Nat) (x : List Int) (w : World) (h : IntsV w lo hi A x) : Calls Try.prog 53 #[.slice A x.length c] w fun e w' => ∃ r, e = .returned r ∧ IntsI w' w.heap.size w'.heap.size r x ∧ Below w.heap.size w w' := by
  refine (c_toIntS A c x w h).mono ?_
  rintro e w' ⟨r, rfl, o, hB⟩
  exact ⟨r, rfl, o.I, hB⟩
end Go.Proofs.Ytcgifoghggajgaa

/- Words for the exact laws over states. -/
namespace Go.Proofs.Ytcgifoghggajgaa
open Go Go.RowKit Go.Proofs

def StateI (w : World) (lo hi : Nat) (v : Value) (s : Ste) : Prop := ∃ fv av, v = .agg #[fv, av] ∧ IntsI w lo hi fv s.values ∧ IntsI w lo hi av s.heap ∧ ∀ g, fv.ownBlock = some g → av.ownBlock ≠ some g
section
variable {w w' : World} {lo hi lo' hi' a b : Nat} {v : Value} {s : Ste}
theorem StateI.below (h : StateI w lo hi v s) (hb : Below w.heap.size w w') : StateI w' lo hi v s := by
  obtain ⟨fv, av, e, h1, h2, h3⟩ := h; exact ⟨fv, av, e, h1.below hb, h2.below hb, h3⟩
theorem StateI.mk (h : StateI w lo hi v s) (hb : Mk (fun g => a ≤ g ∧ g < b) w w') (hd : hi ≤ a ∨ b ≤ lo) : StateI w' lo hi v s := by
  obtain ⟨fv, av, e, h1, h2, h3⟩ := h; exact ⟨fv, av, e, h1.mk hb hd, h2.mk hb hd, h3⟩
theorem StateI.form (h : StateI w lo hi v s) : ∃ A c B d, v = .agg #[.slice A s.values.length c, .slice B s.heap.length d] := by
  obtain ⟨fv, av, rfl, h1, h2, -⟩ := h
  obtain ⟨A, c, rfl⟩ := h1.form
  obtain ⟨B, d, rfl⟩ := h2.form
  exact ⟨A, c, B, d, rfl⟩
theorem StateI.reads (h : StateI w lo hi v s) : StateV w lo w.heap.size v s := by
  obtain ⟨fv, av, e, h1, h2, h3⟩ := h; exact StateO.reads ⟨fv, av, e, h1.1, h2.1, h3⟩
theorem StateO.I (h : StateO w lo v s) : StateI w lo w.heap.size v s := by
  obtain ⟨fv, av, e, h1, h2, h3⟩ := h; exact ⟨fv, av, e, h1.I, h2.I, h3⟩
theorem StateI.len (h : StateI w lo hi v s) : s.values.length ≤ 1049600 ∧ s.heap.length ≤ 1049600 := by
  obtain ⟨fv, av, e, h1, h2, h3⟩ := h; exact ⟨h1.1.2, h2.1.2⟩
end
--@ laws.toState
theorem to_ste {lo hi : Nat} (v : Value) (x : Ste) (w : World) (h : StateV w lo hi v x) : Calls Try.prog 45 #[v] w fun e w' => ∃ r, e = .returned r ∧ StateI w' w.heap.size w'.heap.size r x ∧ Below w.heap.size w w' := by
  refine (c_toState v x w h).mono ?_
  rintro e w' ⟨r, rfl, o, hB⟩
  exact ⟨r, rfl, o.I, hB⟩
--@ laws.eqState
theorem t_ste {lo hi lo' hi' : Nat} (v v' : Value) (x : Ste) (w : World) (h : StateV w lo hi v x) (h' : StateV w lo' hi' v' x) : Calls Try.prog 47 #[v, v'] w fun e w' => e = .returned (.bool true) ∧ Below w.heap.size w w' := by
  refine (c_eqState v v' x x w h h').mono ?_
  rintro e w' ⟨rfl, hB⟩
  exact ⟨by simp, hB⟩
--@ laws.markState
theorem m_ste (v : Value) (x : Ste) (k : Int) (lo hi : Nat) (w : World) (h : StateI w lo hi v x) (h0 : 0 ≤ k) (h1 : k ≤ 549755813888) : Calls Try.prog 50 #[v, .int .i64 k] w fun e w' => e = .returned (.int .i64 (k + x.values.length + x.heap.length)) ∧ StateI w' lo hi v (markSt k x) ∧ Mk (fun g => lo ≤ g ∧ g < hi) w w' := by
  obtain ⟨fv, av, rfl, o1, o2, dj⟩ := h
  refine (c_markState _ x k lo hi w ⟨fv, av, rfl, o1.1, o2.1, dj⟩ (fun fv' av' e => by injection e with e; injection e with e; injection e with e1 e2; injection e2 with e2; subst e1; subst e2; exact ⟨o1.2, o2.2⟩) h0 h1).mono ?_
  rintro e w' ⟨rfl, ⟨fv', av', e, p1, p2, -⟩, h3⟩
  injection e with e; injection e with e; injection e with e1 e2; injection e2 with e2; subst e1; subst e2
  exact ⟨rfl, ⟨_, _, rfl, ⟨p1, o1.2⟩, ⟨p2, o2.2⟩, dj⟩, h3⟩
--@ laws.heldState
set_option maxRecDepth 100000 in
set_option maxHeartbeats 1600000 in
theorem h_ste {lo hi : Nat} (A1 A2 : Option Addr) (x : Ste) (c1 c2 : Nat) (k : Int) (w : World) (h : StateI w lo hi (.agg #[.slice A1 x.values.length c1, .slice A2 x.heap.length c2]) (markSt k x)) (h0 : 0 ≤ k) (hk : k ≤ 549755813888) :
    Calls Try.prog 51 #[.agg #[.slice A1 x.values.length c1, .slice A2 x.heap.length c2], .int .i64 k] w fun e w' => e = .returned (.int .i64 (k + x.values.length + x.heap.length)) ∧ Below w.heap.size w w' := by
  have hl := h.len
  simp only [markSt, iota_length] at hl
  obtain ⟨l1, l2⟩ := hl
  obtain ⟨fv, av, e, o1, o2, -⟩ := h
  injection e with e; injection e with e; injection e with e1 e2; injection e2 with e2; subst e1; subst e2
  have g1 := Lib.hid o1.1.readsI.2
  have g2 := Lib.hid o2.1.readsI.2
  clear o1 o2
  go_enter Try.func51, Try.ntmps51
  go_wp2_with fail
  refine (c_heldIntS A1 x.values.length c1 k _ (IntsV.below g1.out bel) h0 (by omega)).mono ?_
  rintro e w1 ⟨rfl, rfl⟩
  have kk : ¬ (k + (x.values.length : Int) < 0) := by omega
  go_wp2_with fail
  refine (c_heldIntS A2 x.heap.length c2 (k + (x.values.length : Int)) _ (IntsV.below g2.out bel) (by omega) (by omega)).mono ?_
  rintro e w2 ⟨rfl, rfl⟩
  have kk2 : ¬ (k + (x.values.length : Int) + (x.heap.length : Int) < 0) := by omega
  go_wp2_with fail
  go_ret
  exact ⟨rfl, bel⟩
--@
end Go.Proofs.Ytcgifoghggajgaa

/- Programs: the laws' own helpers: the size. -/
namespace Go.Proofs.Ytcgifoghggajgaa
open Go Go.RowKit Go.Proofs

def Cms.sz : Cms → Nat
  | .nil => 0
  | .cons _ _ _ _ _ body els r => body.sz + els.sz + r.sz + 1
theorem Cms.sz_drop : ∀ (n : Nat) (L : Cms), (L.drop n).sz ≤ L.sz
  | 0, L => Nat.le_refl _
  | n + 1, .nil => Nat.le_refl _
  | n + 1, .cons _ _ _ _ _ _ _ r => by simp only [Cms.drop, Cms.sz]; have := Cms.sz_drop n r; omega
theorem Cms.cost_drop : ∀ (n : Nat) (L : Cms), (L.drop n).cost ≤ L.cost
  | 0, L => Nat.le_refl _
  | n + 1, .nil => Nat.le_refl _
  | n + 1, .cons _ _ _ _ _ _ _ r => by simp only [Cms.drop, Cms.cost]; have := Cms.cost_drop n r; omega
theorem szL_add {m n : Nat} {left : Int} (h : ¬ szL m left < 0) : szL n (szL m left) = szL (m + n) left := by
  have := szL_le h
  rw [this.1]; unfold szL
  have : left - (m : Int) - n = left - ((m + n : Nat) : Int) := by omega
  rw [this]
theorem szL_more {m n : Nat} {left : Int} (h : szL m left < 0) : szL (m + n) left = -1 := by
  unfold szL at h ⊢; split at h
  · rw [if_pos (by omega)]
  · omega
theorem szA_eq {a : Asn} {left : Int} : szA a left = szL (a.facts.length + a.atoms.length) left := by
  unfold szA; split
  · rename_i h; rw [szL_more h]
  · rename_i h; rw [szL_add h]
/-- one command's own size -/
def cost1 (i : Asn) (body els : Cms) : Nat := i.facts.length + i.atoms.length + (body.len + body.cost) + (els.len + els.cost)

--@ laws.szCmd
set_option maxHeartbeats 1600000 in
theorem c_szCmd (k a b : Int) (t : Fct) (i : Asn) (A1 A2 A3 A4 : Option Addr) (c1 c2 c3 c4 : Nat) (body els : Cms) (left : Int) (w : World)
    (hb : CmsV w 0 w.heap.size A3 body) (he : CmsV w 0 w.heap.size A4 els) (h1 : i.facts.length ≤ 9223372036854775807) (h2 : i.atoms.length ≤ 9223372036854775807) (hl0 : 0 ≤ left) (hl1 : left ≤ 1048576)
    (IB : ∀ (left : Int) (w : World), CmsV w 0 w.heap.size A3 body → 0 ≤ left → left ≤ 1048576 → Calls Try.prog 15 #[.slice A3 body.len c3, .int .i64 left] w fun e w' => e = .returned (.int .i64 (szL (body.len + body.cost) left)) ∧ Below w.heap.size w w')
    (IE : ∀ (left : Int) (w : World), CmsV w 0 w.heap.size A4 els → 0 ≤ left → left ≤ 1048576 → Calls Try.prog 15 #[.slice A4 els.len c4, .int .i64 left] w fun e w' => e = .returned (.int .i64 (szL (els.len + els.cost) left)) ∧ Below w.heap.size w w') :
    Calls Try.prog 73 #[.agg #[.int .i64 k, .int .i64 a, .int .i64 b, .bool t.eq, .int .i64 t.a, .int .i64 t.b, .slice A1 i.facts.length c1, .slice A2 i.atoms.length c2, .slice A3 body.len c3, .slice A4 els.len c4], .int .i64 left] w fun e w' =>
      e = .returned (.int .i64 (szL (cost1 i body els) left)) ∧ Below w.heap.size w w' := by
  obtain ⟨m0, hm0⟩ : ∃ m0, m0 = i.facts.length + i.atoms.length := ⟨_, rfl⟩
  obtain ⟨m1, hm1⟩ : ∃ m1, m1 = body.len + body.cost := ⟨_, rfl⟩
  obtain ⟨m2, hm2⟩ : ∃ m2, m2 = els.len + els.cost := ⟨_, rfl⟩
  rw [← hm1] at IB
  rw [← hm2] at IE
  obtain ⟨x0, hx0⟩ : ∃ x0, x0 = szL m0 left := ⟨_, rfl⟩
  obtain ⟨x1, hx1⟩ : ∃ x1, x1 = szL m1 x0 := ⟨_, rfl⟩
  obtain ⟨x2, hx2⟩ : ∃ x2, x2 = szL m2 x1 := ⟨_, rfl⟩
  have b0 : ¬ x0 < 0 → x0 ≤ 1048576 := fun h => by rw [hx0] at h ⊢; have := szL_le h; omega
  have b1 : ¬ x0 < 0 → ¬ x1 < 0 → x1 ≤ 1048576 := fun h0 h => by have := b0 h0; rw [hx1] at h ⊢; have := szL_le h; omega
  have ea : szA i left = x0 := by rw [szA_eq, hx0, hm0]
  have r1 : x0 < 0 → szL (cost1 i body els) left = -1 := fun h => by
    rw [show cost1 i body els = m0 + (m1 + m2) from by unfold cost1; omega]; exact szL_more (by rw [← hx0]; exact h)
  have r2 : ¬ x0 < 0 → x1 < 0 → szL (cost1 i body els) left = -1 := fun h0 h => by
    rw [show cost1 i body els = m0 + m1 + m2 from by unfold cost1; omega]; refine szL_more ?_
    rw [← szL_add (by rw [← hx0]; exact h0), ← hx0, ← hx1]; exact h
  have r3 : ¬ x0 < 0 → ¬ x1 < 0 → szL (cost1 i body els) left = x2 := fun h0 h => by
    rw [show cost1 i body els = m0 + m1 + m2 from by unfold cost1; omega, ← szL_add, ← szL_add (by rw [← hx0]; exact h0), ← hx0, ← hx1, hx2]
    rw [← szL_add (by rw [← hx0]; exact h0), ← hx0, ← hx1]; exact h
  have r4 : x2 < 0 → x2 = -1 := fun h => by rw [hx2] at h ⊢; exact szL_neg h
  have hz0 := Lib.hid hx0
  have hz1 := Lib.hid hx1
  have hz2 := Lib.hid hx2
  have hr1 := Lib.hid r1
  have hr2 := Lib.hid r2
  have hr3 := Lib.hid r3
  have hr4 := Lib.hid r4
  have hb0 := Lib.hid b0
  have hb1 := Lib.hid b1
  have hIB := Lib.hid IB
  have hIE := Lib.hid IE
  have hea := Lib.hid ea
  clear hm0 hm1 hm2 hx0 hx1 hx2 r1 r2 r3 r4 b0 b1 IB IE ea
  generalize hR : szL (cost1 i body els) left = R at hr1 hr2 hr3 ⊢
  have hRh := Lib.hid hR
  clear hR
  have hHb := Lib.hid hb
  have hHe := Lib.hid he
  clear hb he
  obtain ⟨B0, hB0e⟩ : ∃ B0, B0 = w.heap.size := ⟨_, rfl⟩
  go_enter Try.func73, Try.ntmps73
  go_wp2_with fail
  refine (c_szAssertion _ _ _ _ _ _ _ h1 h2 hl0 hl1).mono ?_
  rintro e w1 ⟨rfl, hB1⟩
  rw [hea.out]
  have hB := bgo (w := w) bel hB1
  have k0 := (Blk.new w _ _).next hB1
  have q := k0.cell
  have r := k0.frozen
  have lt := k0.lt
  by_cases q0 : x0 < 0
  · go_wp2_with fail
    go_ret
    exact ⟨ret_int (by rw [hr1.out (by omega)]), bel⟩
  have g0 := hb0.out (by omega)
  go_wp2_with fail
  refine (hIB.out _ _ (hHb.out.below bel |>.mono (Nat.le_refl _) (by have := hB.size; first | omega | (simp; omega))) (by omega) g0).mono ?_
  rintro e w2 ⟨rfl, hB2⟩
  rw [← hz1.out]
  have hBB := bgo (w := w) bel hB2
  have k1 := k0.next hB2
  clear q r lt
  have q := k1.cell
  have r := k1.frozen
  have lt := k1.lt
  by_cases q1 : x1 < 0
  · go_wp2_with fail
    go_ret
    exact ⟨ret_int (by rw [hr2.out (by omega) (by omega)]), bel⟩
  have g1 := hb1.out (by omega) (by omega)
  go_wp2_with fail
  refine (hIE.out _ _ (hHe.out.below bel |>.mono (Nat.le_refl _) (by have := hBB.size; first | omega | (simp; omega))) (by omega) g1).mono ?_
  rintro e w3 ⟨rfl, hB3⟩
  rw [← hz2.out]
  have hBBB := bgo (w := w) bel hB3
  by_cases q2 : x2 < 0
  · go_wp2_with fail
    go_ret
    exact ⟨ret_int (by rw [hr3.out (by omega) (by omega), hr4.out (by omega)]), bel⟩
  · go_wp2_with fail
    go_ret
    exact ⟨ret_int (by rw [hr3.out (by omega) (by omega)]), bel⟩

--@ laws.szCmdS
set_option maxHeartbeats 1600000 in
theorem szCmdS_go : ∀ (N : Nat) (L : Cms), L.sz < N → ∀ (A : Option Addr) (c : Nat) (left : Int) (w : World), CmsV w 0 w.heap.size A L → L.len ≤ 9223372036854775807 → L.small 9223372036854775807 → 0 ≤ left → left ≤ 1048576 →
    Calls Try.prog 15 #[.slice A L.len c, .int .i64 left] w fun e w' => e = .returned (.int .i64 (szL (L.len + L.cost) left)) ∧ Below w.heap.size w w' := by
  intro N
  induction N with
  | zero => intro L h; omega
  | succ N IH =>
    intro L hsz A c left w hV hlen hsm hl0 hl1
    replace IH := Lib.hid IH
    replace hV := Lib.hid hV
    replace hsm := Lib.hid hsm
    replace hsz := Lib.hid hsz
    obtain ⟨n, hn⟩ : ∃ n, n = L.len := ⟨_, rfl⟩
    obtain ⟨tot, htot⟩ : ∃ tot, tot = n + L.cost := ⟨_, rfl⟩
    obtain ⟨R, hR⟩ : ∃ R, R = szL tot left := ⟨_, rfl⟩
    rw [← hn, ← htot, ← hR]
    rw [← hn] at hlen
    have hRneg : left < tot → R = -1 := fun h => by rw [hR]; unfold szL; rw [if_pos (by omega)]
    have hRpos : ¬ left < tot → R = left - tot := fun h => by rw [hR]; unfold szL; rw [if_neg (by omega)]
    replace htot := Lib.hid htot
    replace hR := Lib.hid hR
    replace hRneg := Lib.hid hRneg
    replace hRpos := Lib.hid hRpos
    replace hn := Lib.hid hn
    by_cases q0 : left - n < 0
    · go_enter Try.func15, Try.ntmps15
      go_wp2_with fail
      go_ret
      exact ⟨ret_int (by rw [hRneg.out (by have := htot.out; omega)]), bel⟩
    go_enter Try.func15, Try.ntmps15
    go_wp2_with fail
    go_loopw [1, 5] (fun x i wr => ∃ (j m : Nat), j ≤ n ∧ i = .int .i64 j ∧ x = .int .i64 (left - m) ∧ 0 ≤ left - m ∧ Hid (m + (L.drop j).cost = tot) ∧ Below w.heap.size w wr) (fun _ i _ => n - (intOf i).toNat)
    case atStart => exact ⟨0, n, Nat.zero_le _, rfl, rfl, by omega, Lib.hid htot.out.symm, bel⟩
    case round =>
      obtain ⟨j, m, hj, rfl, rfl, hm0, hM, hB⟩ := hrel
      by_cases hlt : j < n
      · have hpos : 0 < (L.drop j).len := by rw [Cms.drop_len, ← hn.out]; omega
        obtain ⟨k, a, b, t, i, body, els, r, eL⟩ := Cms.cons_of_len hpos
        obtain ⟨bl, o, rfl, -, -, hAt⟩ := (hV.out.below hB) (by rw [← hn.out]; omega)
        have hD := hAt.drop j
        have hS := Cms.small_drop j hsm.out
        have hZ := Cms.sz_drop j L
        have hDs := Cms.drop_succ j L eL
        have hM' := hM.out
        rw [eL] at hD hS hZ hM'
        obtain ⟨⟨p0, p1, p2, p3, p4, p5⟩, ⟨A6, c6, p6, -⟩, ⟨A7, c7, p7, -⟩, ⟨A8, c8, p8, g8⟩, ⟨A9, c9, p9, g9⟩, -⟩ := hD
        obtain ⟨s1, s2, s3, s4, s5, s6, -⟩ := hS
        simp only [Cms.sz] at hZ
        have hbs : body.sz < N := by have := hsz.out; omega
        have hes : els.sz < N := by have := hsz.out; omega
        have hM2 : m + cost1 i body els + r.cost = tot := by simp only [Cms.cost] at hM'; unfold cost1; omega
        replace hM2 := Lib.hid hM2
        replace hbs := Lib.hid hbs
        replace hes := Lib.hid hes
        replace s3 := Lib.hid s3
        replace s4 := Lib.hid s4
        replace s5 := Lib.hid s5
        replace s6 := Lib.hid s6
        replace g8 := Lib.hid g8
        replace g9 := Lib.hid g9
        replace hDs := Lib.hid hDs
        replace eL := Lib.hid eL
        clear hM' hZ hpos hAt
        go_wp2_with fail
        refine (c_szCmd k a b t i A6 A7 A8 A9 c6 c7 c8 c9 body els (left - m) wr ((show CmsV wr 0 w.heap.size A8 body from g8.out).mono (Nat.le_refl _) hB.size) ((show CmsV wr 0 w.heap.size A9 els from g9.out).mono (Nat.le_refl _) hB.size) s1 s2 (by omega) (by omega) (fun left w h1 h2 h3 => IH.out body hbs.out _ _ _ _ h1 s3.out s5.out h2 h3) (fun left w h1 h2 h3 => IH.out els hes.out _ _ _ _ h1 s4.out s6.out h2 h3)).mono ?_
        rintro e w2 ⟨rfl, hB2⟩
        have hB3 := bgo hB hB2
        clear p0 p1 p2 p3 p4 p5 p6 p7 p8 p9
        by_cases q1 : szL (cost1 i body els) (left - m) < 0
        · go_wp2_with fail
          go_ret
          refine ⟨ret_int ?_, hB3⟩
          rw [hRneg.out ?_]
          have := hM2.out
          unfold szL at q1; split at q1 <;> omega
        · have q2 := szL_le q1
          rw [q2.1] at q1 ⊢
          have q2 := q2.2
          go_wp2_with fail
          go_round
          case rel => exact ⟨j + 1, m + cost1 i body els, by omega, by go_num, by push_cast; congr 1; omega, by push_cast; omega, Lib.hid (by rw [hDs.out]; exact hM2.out), hB3⟩
          case measure => simp [intOf]; omega
      · go_wp2_with fail
        go_ret
        obtain rfl : j = n := by omega
        have e0 : (L.drop j).cost = 0 := by
          have := Cms.drop_len j L
          rw [← hn.out, Nat.sub_self] at this
          cases h : L.drop j with
          | nil => rfl
          | cons => rw [h] at this; simp [Cms.len] at this
        have hM' := hM.out
        rw [e0] at hM'
        exact ⟨ret_int (by rw [hRpos.out (by omega)]; omega), hB⟩
theorem c_szCmdS (L : Cms) (A : Option Addr) (c : Nat) (left : Int) (w : World) (hV : CmsV w 0 w.heap.size A L) (hlen : L.len ≤ 9223372036854775807) (hsm : L.small 9223372036854775807) (h0 : 0 ≤ left) (h1 : left ≤ 1048576) :
    Calls Try.prog 15 #[.slice A L.len c, .int .i64 left] w fun e w' => e = .returned (.int .i64 (szL (L.len + L.cost) left)) ∧ Below w.heap.size w w' :=
  szCmdS_go _ L (Nat.lt_succ_self _) A c left w hV hlen hsm h0 h1
--@
end Go.Proofs.Ytcgifoghggajgaa

/- Programs of our own: rows of commands in blocks of an interval, no two parts of which share a block. -/
namespace Go.Proofs.Ytcgifoghggajgaa
open Go Go.RowKit Go.Proofs

--@ []impl.Cmd
abbrev tC : Nat := 101
theorem infoC : (Try.prog.info? tC).map (fun i => (i.zero, i.size, i.bytes)) = some (some (.agg #[.int .i64 0, .int .i64 0, .int .i64 0, .bool false, .int .i64 0, .int .i64 0, .slice none 0 0, .slice none 0 0, .slice none 0 0, .slice none 0 0]), 10, 144) := by kernel_rfl
/-- the cells of one command -/
def Ten (cs : Array Value) (o : Nat) (k a b : Int) (t : Fct) (vF vA vB vE : Value) : Prop :=
  cs[o]? = some (.int .i64 k) ∧ cs[o + 1]? = some (.int .i64 a) ∧ cs[o + 2]? = some (.int .i64 b) ∧ cs[o + 3]? = some (.bool t.eq) ∧ cs[o + 4]? = some (.int .i64 t.a) ∧ cs[o + 5]? = some (.int .i64 t.b) ∧
    cs[o + 6]? = some vF ∧ cs[o + 7]? = some vA ∧ cs[o + 8]? = some vB ∧ cs[o + 9]? = some vE
def CmsOAt (w : World) : Cms → Array Value → Nat → Nat → Nat → Prop
  | .nil, _, _, lo, hi => lo ≤ hi
  | .cons k a b t i body els r, cs, o, lo, hi => ∃ vF vA gB gE csB csE m1 m2 m3, Ten cs o k a b t vF vA (.slice (some ⟨gB, 0, none⟩) body.len body.len) (.slice (some ⟨gE, 0, none⟩) els.len els.len) ∧
      (lo ≤ m1 ∧ AsnI w lo m1 (.agg #[vF, vA]) i) ∧
      (m1 ≤ gB ∧ Blk w gB tC csB ∧ csB.size = body.len * 10 ∧ body.len ≤ 1049600 ∧ CmsOAt w body csB 0 (gB + 1) m2) ∧
      (m2 ≤ gE ∧ Blk w gE tC csE ∧ csE.size = els.len * 10 ∧ els.len ≤ 1049600 ∧ CmsOAt w els csE 0 (gE + 1) m3) ∧
      CmsOAt w r cs (o + 10) m3 hi
/-- a program of our own -/
def CmsO (w : World) (lo hi : Nat) (v : Value) (L : Cms) : Prop := ∃ g cs, v = .slice (some ⟨g, 0, none⟩) L.len L.len ∧ lo ≤ g ∧ Blk w g tC cs ∧ cs.size = L.len * 10 ∧ L.len ≤ 1049600 ∧ CmsOAt w L cs 0 (g + 1) hi
section
variable {w w' : World} {lo hi lo' hi' : Nat}
theorem CmsOAt.le : ∀ {L : Cms} {cs : Array Value} {o lo hi : Nat}, CmsOAt w L cs o lo hi → lo ≤ hi
  | .nil, _, _, _, _, h => h
  | .cons k a b t i body els r, cs, o, lo, hi, h => by
    obtain ⟨vF, vA, gB, gE, csB, csE, m1, m2, m3, hT, ⟨h1, _⟩, ⟨h2, _, _, _, h3⟩, ⟨h4, _, _, _, h5⟩, h6⟩ := h
    have e1 := CmsOAt.le h3
    have e2 := CmsOAt.le h5
    have e3 := CmsOAt.le h6
    omega
theorem CmsOAt.mono : ∀ {L : Cms} {cs : Array Value} {o lo hi : Nat}, CmsOAt w L cs o lo hi → hi ≤ hi' → CmsOAt w L cs o lo hi'
  | .nil, _, _, _, _, h, e => Nat.le_trans h e
  | .cons k a b t i body els r, cs, o, lo, hi, h, e => by
    obtain ⟨vF, vA, gB, gE, csB, csE, m1, m2, m3, hT, h1, h2, h4, h6⟩ := h
    exact ⟨vF, vA, gB, gE, csB, csE, m1, m2, m3, hT, h1, h2, h4, CmsOAt.mono h6 e⟩
theorem CmsOAt.below (hb : Below w.heap.size w w') : ∀ {L : Cms} {cs : Array Value} {o lo hi : Nat}, CmsOAt w L cs o lo hi → CmsOAt w' L cs o lo hi
  | .nil, _, _, _, _, h => h
  | .cons k a b t i body els r, cs, o, lo, hi, h => by
    obtain ⟨vF, vA, gB, gE, csB, csE, m1, m2, m3, hT, ⟨h1, h1'⟩, ⟨h2, k2, z2, l2, h3⟩, ⟨h4, k4, z4, l4, h5⟩, h6⟩ := h
    exact ⟨vF, vA, gB, gE, csB, csE, m1, m2, m3, hT, ⟨h1, h1'.below hb⟩, ⟨h2, k2.next hb, z2, l2, CmsOAt.below hb h3⟩, ⟨h4, k4.next hb, z4, l4, CmsOAt.below hb h5⟩, CmsOAt.below hb h6⟩
theorem CmsOAt.mk {a b : Nat} (hb : Mk (fun g => a ≤ g ∧ g < b) w w') : ∀ {L : Cms} {cs : Array Value} {o lo hi : Nat}, CmsOAt w L cs o lo hi → (hi ≤ a ∨ b ≤ lo) → CmsOAt w' L cs o lo hi
  | .nil, _, _, _, _, h, _ => h
  | .cons k a' b' t i body els r, cs, o, lo, hi, h, hd => by
    obtain ⟨vF, vA, gB, gE, csB, csE, m1, m2, m3, hT, ⟨h1, h1'⟩, ⟨h2, k2, z2, l2, h3⟩, ⟨h4, k4, z4, l4, h5⟩, h6⟩ := h
    have e1 := CmsOAt.le h3
    have e2 := CmsOAt.le h5
    have e3 := CmsOAt.le h6
    exact ⟨vF, vA, gB, gE, csB, csE, m1, m2, m3, hT, ⟨h1, h1'.mk hb (by omega)⟩, ⟨h2, hb.blk k2 (by omega), z2, l2, CmsOAt.mk hb h3 (by omega)⟩, ⟨h4, hb.blk k4 (by omega), z4, l4, CmsOAt.mk hb h5 (by omega)⟩, CmsOAt.mk hb h6 (by omega)⟩
/-- only the cells behind the offset count -/
theorem CmsOAt.cells {cs' : Array Value} : ∀ {L : Cms} {cs : Array Value} {o lo hi : Nat}, CmsOAt w L cs o lo hi → (∀ j, o ≤ j → j < o + L.len * 10 → cs'[j]? = cs[j]?) → CmsOAt w L cs' o lo hi
  | .nil, _, _, _, _, h, _ => h
  | .cons k a b t i body els r, cs, o, lo, hi, h, hc => by
    obtain ⟨vF, vA, gB, gE, csB, csE, m1, m2, m3, ⟨t0, t1, t2, t3, t4, t5, t6, t7, t8, t9⟩, h1, h2, h4, h6⟩ := h
    have hl : (Cms.cons k a b t i body els r).len = r.len + 1 := rfl
    rw [hl] at hc
    have hx : ∀ j, j < 10 → cs'[o + j]? = cs[o + j]? := fun j hj => hc _ (by omega) (by omega)
    exact ⟨vF, vA, gB, gE, csB, csE, m1, m2, m3, ⟨(hx 0 (by omega)).trans t0, (hx 1 (by omega)).trans t1, (hx 2 (by omega)).trans t2, (hx 3 (by omega)).trans t3, (hx 4 (by omega)).trans t4, (hx 5 (by omega)).trans t5, (hx 6 (by omega)).trans t6, (hx 7 (by omega)).trans t7, (hx 8 (by omega)).trans t8, (hx 9 (by omega)).trans t9⟩, h1, h2, h4, CmsOAt.cells h6 fun j e1 e2 => hc j (by omega) (by omega)⟩
/-- it reads as the program -/
theorem CmsOAt.at_ : ∀ {L : Cms} {cs : Array Value} {g o lo hi : Nat}, CmsOAt w L cs o lo hi → Blk w g tC cs → lo' ≤ lo → CmsAt w lo' w.heap.size L g o
  | .nil, _, _, _, _, _, _, _, _ => trivial
  | .cons k a b t i body els r, cs, g, o, lo, hi, h, hK, hl => by
    obtain ⟨vF, vA, gB, gE, csB, csE, m1, m2, m3, ⟨t0, t1, t2, t3, t4, t5, t6, t7, t8, t9⟩, ⟨h1, h1'⟩, ⟨h2, k2, z2, l2, h3⟩, ⟨h4, k4, z4, l4, h5⟩, h6⟩ := h
    have e1 := CmsOAt.le h3
    have e2 := CmsOAt.le h5
    have hc : ∀ {j : Nat} {v : Value}, cs[j]? = some v → w.cell? ⟨g, j, none⟩ = some v := fun {j v} h => (hK.cell (i := j)).trans h
    obtain ⟨A1, c1, A2, c2, e, f1, f2⟩ := h1'.reads
    have e' : vF = .slice A1 i.facts.length c1 ∧ vA = .slice A2 i.atoms.length c2 := by
      injection e with e; injection e with e; injection e with ea eb; injection eb with eb; exact ⟨ea, eb⟩
    obtain ⟨rfl, rfl⟩ := e'
    exact ⟨⟨hc t0, hc t1, hc t2, hc t3, hc t4, hc t5⟩, ⟨A1, c1, hc t6, f1.1.mono hl (Nat.le_refl _)⟩, ⟨A2, c2, hc t7, f2.1.mono hl (Nat.le_refl _)⟩,
      ⟨_, _, hc t8, fun _ => ⟨gB, 0, rfl, by omega, k2.lt, CmsOAt.at_ h3 k2 (by omega)⟩⟩, ⟨_, _, hc t9, fun _ => ⟨gE, 0, rfl, by omega, k4.lt, CmsOAt.at_ h5 k4 (by omega)⟩⟩, CmsOAt.at_ h6 hK (by omega)⟩
variable {v : Value} {L : Cms}
theorem CmsO.form (h : CmsO w lo hi v L) : ∃ A c, v = .slice A L.len c ∧ CmsV w lo w.heap.size A L := by
  obtain ⟨g, cs, rfl, h1, hK, hs, hl, hc⟩ := h
  exact ⟨_, _, rfl, fun _ => ⟨g, 0, rfl, h1, hK.lt, hc.at_ hK (by omega)⟩⟩
theorem CmsO.below (h : CmsO w lo hi v L) (hb : Below w.heap.size w w') : CmsO w' lo hi v L := by
  obtain ⟨g, cs, rfl, h1, hK, hs, hl, hc⟩ := h
  exact ⟨g, cs, rfl, h1, hK.next hb, hs, hl, hc.below hb⟩
theorem CmsO.mk {a b : Nat} (h : CmsO w lo hi v L) (hb : Mk (fun g => a ≤ g ∧ g < b) w w') (hd : hi ≤ a ∨ b ≤ lo) : CmsO w' lo hi v L := by
  obtain ⟨g, cs, rfl, h1, hK, hs, hl, hc⟩ := h
  have e := hc.le
  exact ⟨g, cs, rfl, h1, hb.blk hK (by omega), hs, hl, hc.mk hb (by omega)⟩
theorem CmsO.mono (h : CmsO w lo hi v L) (e1 : lo' ≤ lo) (e2 : hi ≤ hi') : CmsO w lo' hi' v L := by
  obtain ⟨g, cs, rfl, h1, hK, hs, hl, hc⟩ := h
  exact ⟨g, cs, rfl, by omega, hK, hs, hl, hc.mono e2⟩
theorem CmsO.len (h : CmsO w lo hi v L) : L.len ≤ 1049600 := by
  obtain ⟨g, cs, rfl, h1, hK, hs, hl, hc⟩ := h; exact hl
end
--@
end Go.Proofs.Ytcgifoghggajgaa

/- Programs: the laws' copies. -/
namespace Go.Proofs.Ytcgifoghggajgaa
open Go Go.RowKit Go.Proofs

theorem AsnI.lo_ {w : World} {lo lo' hi : Nat} {v : Value} {x : Asn} (h : AsnI w lo hi v x) (hl : lo' ≤ lo) : AsnI w lo' hi v x := by
  obtain ⟨fv, av, e, h1, h2⟩ := h; exact ⟨fv, av, e, ⟨h1.1.lower hl, h1.2⟩, ⟨h2.1.lower hl, h2.2⟩⟩
--@ laws.toCmd
set_option maxHeartbeats 1600000 in
theorem c_toCmd {lo hi : Nat} (k a b : Int) (t : Fct) (i : Asn) (A1 A2 A3 A4 : Option Addr) (c1 c2 c3 c4 : Nat) (body els : Cms) (w : World)
    (ha : AsnV w lo hi (.agg #[.slice A1 i.facts.length c1, .slice A2 i.atoms.length c2]) i) (hb : CmsV w lo hi A3 body) (he : CmsV w lo hi A4 els)
    (IB : ∀ (w : World), CmsV w lo hi A3 body → Calls Try.prog 17 #[.slice A3 body.len c3] w fun e w' => ∃ v, e = .returned v ∧ CmsO w' w.heap.size w'.heap.size v body ∧ Below w.heap.size w w')
    (IE : ∀ (w : World), CmsV w lo hi A4 els → Calls Try.prog 17 #[.slice A4 els.len c4] w fun e w' => ∃ v, e = .returned v ∧ CmsO w' w.heap.size w'.heap.size v els ∧ Below w.heap.size w w') :
    Calls Try.prog 77 #[.agg #[.int .i64 k, .int .i64 a, .int .i64 b, .bool t.eq, .int .i64 t.a, .int .i64 t.b, .slice A1 i.facts.length c1, .slice A2 i.atoms.length c2, .slice A3 body.len c3, .slice A4 els.len c4]] w fun e w' =>
      ∃ vF vA vB vE m1 m2 m3, e = .returned (.agg #[.int .i64 k, .int .i64 a, .int .i64 b, .bool t.eq, .int .i64 t.a, .int .i64 t.b, vF, vA, vB, vE]) ∧ w.heap.size ≤ m1 ∧ AsnI w' w.heap.size m1 (.agg #[vF, vA]) i ∧ CmsO w' m1 m2 vB body ∧ CmsO w' m2 m3 vE els ∧ m3 ≤ w'.heap.size ∧ Below w.heap.size w w' := by
  replace IB := Lib.hid IB
  replace IE := Lib.hid IE
  replace ha := Lib.hid ha
  replace hb := Lib.hid hb
  replace he := Lib.hid he
  go_enter Try.func77, Try.ntmps77
  go_wp2_with fail
  refine (c_toFact t _).mono ?_
  rintro e w1 ⟨rfl, hB1⟩
  have hz1 := hB1.size
  have hB := bgo (w := w) bel hB1
  have k0 := (((Blk.new w _ _).alloc _).alloc _).next hB1
  have k1 := ((Blk.new (w.alloc _) _ _).alloc _).next hB1
  have k2 := (Blk.new ((w.alloc _).alloc _) _ _).next hB1
  simp only [World.size_alloc] at k1 k2 hz1
  clear hB1
  have q0 := k0.cell
  have q2 := k2.cell
  have r2 := k2.frozen
  have l0 := k0.lt
  go_wp2_with fail
  clear q0 q2 r2
  refine (c_toAssertion _ i _ (ha.out.below bel)).mono ?_
  rintro e w2 ⟨v2, rfl, ho2, hB2⟩
  have hz2 := hB2.size
  simp only [World.size_setCell] at hz2
  have m0 := Blk.next (g := w.heap.size) blks hB2
  have m1 := Blk.next (g := w.heap.size + 1) blks hB2
  have m2 := Blk.next (g := w.heap.size + 1 + 1) blks hB2
  have hBw2 := bgo (w := w) bel hB2
  replace ho2 := ho2.I
  simp only [World.size_setCell] at ho2
  obtain ⟨vF, vA, rfl, oF, oA⟩ := ho2
  obtain ⟨AF, cF, rfl⟩ := oF.form
  obtain ⟨AA, cA, rfl⟩ := oA.form
  clear k0 k1 k2 hB hB2
  have q0 := m0.cell
  have q2 := m2.cell
  have r2 := m2.frozen
  have l0 := m0.lt
  have oa : AsnI w2 w1.heap.size w2.heap.size (.agg #[.slice AF i.facts.length cF, .slice AA i.atoms.length cA]) i := ⟨_, _, rfl, oF, oA⟩
  replace oa := Lib.hid oa
  clear oF oA
  go_wp2_with fail
  clear q0 q2 r2
  refine (IB.out _ (hb.out.below bel)).mono ?_
  rintro e w3 ⟨v3, rfl, ho3, hB3⟩
  have hz3 := hB3.size
  simp only [World.size_setCell] at hz3 ho3
  have n0 := Blk.next (g := w.heap.size) blks hB3
  have n1 := Blk.next (g := w.heap.size + 1) blks hB3
  have n2 := Blk.next (g := w.heap.size + 1 + 1) blks hB3
  have hBw3 := bgo (w := w) bel hB3
  have M3 : Mk (fun g => w.heap.size + 1 ≤ g ∧ g < w.heap.size + 1 + 1 + 1) w2 w3 := Mk.trans (Mk.set (Mk.set (Mk.refl _ _) ⟨by simp, by simp⟩ _) ⟨by simp, by simp⟩ _) (Mk.below_ hB3)
  obtain ⟨g3, cs3, rfl, p3, K3, z3, u3, o3⟩ := ho3
  have ob : CmsO w3 w2.heap.size w3.heap.size (.slice (some ⟨g3, 0, none⟩) body.len body.len) body := ⟨g3, cs3, rfl, p3, K3, z3, u3, o3⟩
  replace ob := Lib.hid ob
  replace M3 := Lib.hid M3
  clear m0 m1 m2 hBw2 hB3 p3 K3 z3 u3 o3
  have q0 := n0.cell
  have q2 := n2.cell
  have r2 := n2.frozen
  have l0 := n0.lt
  go_wp2_with fail
  clear q0 q2 r2
  refine (IE.out _ (he.out.below bel)).mono ?_
  rintro e w4 ⟨v4, rfl, ho4, hB4⟩
  have hz4 := hB4.size
  simp only [World.size_setCell] at hz4 ho4
  have j1 := Blk.next (g := w.heap.size + 1) blks hB4
  have j2 := Blk.next (g := w.heap.size + 1 + 1) blks hB4
  have hBw4 := bgo (w := w) bel hB4
  have M4 : Mk (fun g => w.heap.size + 1 ≤ g ∧ g < w.heap.size + 1 + 1 + 1) w3 w4 := Mk.trans (Mk.set (Mk.refl _ _) ⟨by simp, by simp⟩ _) (Mk.below_ hB4)
  obtain ⟨g4, cs4, rfl, p4, K4, z4, u4, o4⟩ := ho4
  have oe : CmsO w4 w3.heap.size w4.heap.size (.slice (some ⟨g4, 0, none⟩) els.len els.len) els := ⟨g4, cs4, rfl, p4, K4, z4, u4, o4⟩
  replace oe := Lib.hid oe
  replace M4 := Lib.hid M4
  clear n0 n1 n2 hBw3 hB4 p4 K4 z4 u4 o4
  have q1 := j1.cell
  have r1 := j1.frozen
  have q2 := j2.cell
  have r2 := j2.frozen
  go_wp2_with fail
  have M5 : ∀ {w5 : World}, Mk (fun g => w.heap.size + 1 ≤ g ∧ g < w.heap.size + 1 + 1 + 1) w4 w5 → AsnI w5 w.heap.size w2.heap.size (.agg #[.slice AF i.facts.length cF, .slice AA i.atoms.length cA]) i ∧ CmsO w5 w2.heap.size w3.heap.size (.slice (some ⟨g3, 0, none⟩) body.len body.len) body ∧ CmsO w5 w3.heap.size w4.heap.size (.slice (some ⟨g4, 0, none⟩) els.len els.len) els := fun {w5} M => by
    refine ⟨(((oa.out.mk M3.out (by omega)).mk M4.out (by omega)).mk M (by omega)).lo_ (by omega), (ob.out.mk M4.out (by omega)).mk M (by omega), oe.out.mk M (by omega)⟩
  refine bodyPost_ret (v := .agg #[.int .i64 k, .int .i64 a, .int .i64 b, .bool t.eq, .int .i64 t.a, .int .i64 t.b, .slice AF i.facts.length cF, .slice AA i.atoms.length cA, .slice (some ⟨g3, 0, none⟩) body.len body.len, .slice (some ⟨g4, 0, none⟩) els.len els.len]) (by simp [results, Try.results77, go_sem, q1]) rfl ?_
  refine ⟨_, _, _, _, w2.heap.size, w3.heap.size, w4.heap.size, rfl, by omega, (M5 ?_).1, (M5 ?_).2.1, (M5 ?_).2.2, by simp, bel⟩
  all_goals exact Mk.set (Mk.set (Mk.set (Mk.set (Mk.set (Mk.set (Mk.set (Mk.set (Mk.set (Mk.set (Mk.set (Mk.refl _ _) ⟨by simp, by simp⟩ _) ⟨by simp, by simp⟩ _) ⟨by simp, by simp⟩ _) ⟨by simp, by simp⟩ _) ⟨by simp, by simp⟩ _) ⟨by simp, by simp⟩ _) ⟨by simp, by simp⟩ _) ⟨by simp, by simp⟩ _) ⟨by simp, by simp⟩ _) ⟨by simp, by simp⟩ _) ⟨by simp, by simp⟩ _
--@
end Go.Proofs.Ytcgifoghggajgaa
