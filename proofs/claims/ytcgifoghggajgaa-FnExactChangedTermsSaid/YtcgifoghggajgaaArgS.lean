/- Arguments that are states; marks. -/
import Derived.Test.YtcgifoghggajgaaArg
import Derived.Test.YtcgifoghggajgaaApp
import Derived.Test.YtcgifoghggajgaaDefS
set_option linter.unusedSimpArgs false
set_option linter.unusedVariables false
namespace Go.Proofs.Ytcgifoghggajgaa
open Go Go.RowKit Go.Proofs

/-- an owned list whose block lies under hi -/
def Und (v : Value) (hi : Nat) : Prop := ∀ g, v.ownBlock = some g → g < hi
theorem IntsO.und {w : World} {base : Nat} {v : Value} {xs : List Int} (h : IntsO w base v xs) : Und v w.heap.size := fun g hg => (h.1.lt g hg).2
theorem FactsO.und {w : World} {base : Nat} {v : Value} {xs : List Fct} (h : FactsO w base v xs) : Und v w.heap.size := fun g hg => (h.1.lt g hg).2
theorem AtomsO.und {w : World} {base : Nat} {v : Value} {xs : List Atm} (h : AtomsO w base v xs) : Und v w.heap.size := fun g hg => (h.1.lt g hg).2
theorem Und.mono {v : Value} {a b : Nat} (h : Und v a) (hab : a ≤ b) : Und v b := fun g hg => Nat.lt_of_lt_of_le (h g hg) hab
/-- only blocks of p have changed; more may have come -/
structure Mk (p : Nat → Prop) (w w' : World) : Prop where
  os : w'.os = w.os
  tape : w'.tape = w.tape
  output : w'.output = w.output
  size : w.heap.size ≤ w'.heap.size
  block : ∀ k, k < w.heap.size → ¬ p k → w'.heap[k]? = w.heap[k]?
section
variable {p q : Nat → Prop} {w a b : World}
theorem Mk.refl (p : Nat → Prop) (w : World) : Mk p w w := ⟨rfl, rfl, rfl, Nat.le_refl _, fun _ _ _ => rfl⟩
theorem Mk.trans (h : Mk p w a) (h2 : Mk p a b) : Mk p w b := ⟨h2.os.trans h.os, h2.tape.trans h.tape, h2.output.trans h.output, Nat.le_trans h.size h2.size, fun k hk hp => (h2.block k (Nat.lt_of_lt_of_le hk h.size) hp).trans (h.block k hk hp)⟩
theorem Mk.mono (h : Mk p w a) (hpq : ∀ k, p k → q k) : Mk q w a := ⟨h.os, h.tape, h.output, h.size, fun k hk hq => h.block k hk fun hp => hq (hpq k hp)⟩
theorem Mk.set (h : Mk p w a) {x : Addr} (hx : p x.block) (u : Value) : Mk p w (a.setCell x u) := h.trans ⟨rfl, rfl, rfl, by simp, fun k _ hk => Below.heap_setCell a x u k (fun e => hk (e ▸ hx))⟩
theorem Mk.below_ (h : Below w.heap.size w a) : Mk p w a := ⟨h.os, h.tape, h.output, h.size, fun k hk _ => h.block k hk⟩
theorem Mk.below {lo : Nat} (h : Mk p w a) (hp : ∀ k, p k → lo ≤ k) (hl : lo ≤ w.heap.size) : Below lo w a := ⟨h.os, h.tape, h.output, h.size, fun k hk => h.block k (by omega) fun hp' => by have := hp k hp'; omega⟩
theorem Mk.abv {hi : Nat} (h : Mk p w a) (hp : ∀ k, p k → k < hi) : Abv hi w a := ⟨h.size, fun k h1 h2 => h.block k h2 fun hp' => by have := hp k hp'; omega⟩
theorem Mk.blk {g : Nat} {t : TypeId} {cs : Array Value} (h : Mk p w a) (hk : Blk w g t cs) (hg : ¬ p g) : Blk a g t cs := (h.block g hk.lt hg).trans hk
end
theorem own_mk {p : Nat → Prop} {w w' : World} {base : Nat} {e : TypeId} {size : Nat} {v : Value} {n : Nat} {xs : List Value} (h : w.ownsRow base e size v n xs) (hb : Mk p w w') (hp : ∀ g, v.ownBlock = some g → ¬ p g) : w'.ownsRow base e size v n xs := by
  obtain ⟨h1, h2⟩ := h
  refine ⟨h1, ?_⟩
  rcases h2 with h2 | ⟨g, cap, cur, hv, hg, hh, r⟩
  · exact Or.inl h2
  · exact Or.inr ⟨g, cap, cur, hv, hg, (hb.block g (Blk.lt hh) (hp g (by rw [hv]; rfl))).trans hh, r⟩
def iota (k : Int) (n : Nat) : List Int := (List.range n).map fun i : Nat => k + i
theorem iota_length (k : Int) (n : Nat) : (iota k n).length = n := by simp [iota]
theorem iota_get (k : Int) (n i : Nat) (h : i < n) : (iota k n)[i]? = some (k + i) := by simp [iota, h]

--@ laws.markIntS
set_option maxHeartbeats 800000 in
theorem c_markIntS (v : Value) (xs : List Int) (k : Int) (base : Nat) (w : World) (h : IntsO w base v xs) (h0 : 0 ≤ k) (h1 : k ≤ 1099511627776) : Calls Try.prog 22 #[v, .int .i64 k] w fun e w' => e = .returned (.int .i64 (k + xs.length)) ∧ IntsO w' base v (iota k xs.length) ∧ Mk (fun g => v.ownBlock = some g) w w' := by
  obtain ⟨⟨hl, h2⟩, hL⟩ := h
  have hL' : xs.length ≤ 1049600 := hL
  rcases h2 with ⟨rfl, hn⟩ | ⟨g, cap, cur, rfl, hb, hh, hn, hm, hs, ht⟩
  · go_enter Try.func22, Try.ntmps22
    go_wp2
    go_loop [1, 5] (fun m i => m = .int .i64 k ∧ i = .int .i64 0) (fun _ i => 0)
    case atStart => exact ⟨rfl, rfl⟩
    case round =>
      obtain ⟨rfl, rfl⟩ := hrel
      go_wp2
      go_ret
      have e : xs = [] := List.length_eq_zero_iff.1 hn
      subst e
      exact ⟨by simp, IntsO.nil _ _, Mk.refl _ _⟩
  · have hK : Blk w g tI cur := hh
    have HS := Lib.hid hs
    clear hs ht hh hl
    go_enter Try.func22, Try.ntmps22
    go_wp2
    go_loopw [1, 5] (fun m i wr => ∃ (j : Nat) (cs : Array Value), j ≤ xs.length ∧ i = .int .i64 j ∧ m = .int .i64 (k + j) ∧ Hid (cs.size = cap * 1) ∧ Hid (Pre cs (encI (iota k xs.length)) j) ∧ Blk wr g tI cs ∧ Mk (fun g' => Value.ownBlock (.slice (some ⟨g, 0, none⟩) xs.length cap) = some g') w wr) (fun _ i _ => xs.length - (intOf i).toNat)
    case atStart => exact ⟨0, cur, Nat.zero_le _, rfl, by simp, HS.out, Pre.zero _ _, hK, Mk.refl _ _⟩
    case round =>
      obtain ⟨j, cs, hj, rfl, rfl, HS2, HP, hK2, hM⟩ := hrel
      by_cases hlt : j < xs.length
      · have hs := HS2.out
        obtain ⟨u, hu⟩ : ∃ u, cs[j]? = some u := ⟨_, Array.getElem?_eq_getElem (by omega)⟩
        have q0 : wr.cell? ⟨g, j, none⟩ = some u := by rw [hK2.cell, hu]
        have r := hK2.frozen
        clear hs hu
        go_wp2_with fail
        have hs := HS2.out
        go_round
        case rel => exact ⟨j + 1, _, by omega, by go_num, by push_cast; congr 1; omega, by show _ = _; simp [hs], HP.out.set1 (by omega) (by rw [List.getElem?_map, iota_get _ _ _ hlt]; rfl), hK2.set_ _ _, hM.set (x := ⟨g, j, none⟩) rfl _⟩
        case measure => simp [intOf]; omega
      · go_wp2
        go_ret
        obtain rfl : j = xs.length := by omega
        have hs := HS2.out
        exact ⟨rfl, ⟨by rw [iota_length]; exact own_of_blk hK2 hb (by simp [iota]) (by simpa using HP.out) hn hm (by simpa using hs), by rw [iota_length]; exact hL⟩, hM⟩

--@ laws.heldIntS
set_option maxHeartbeats 800000 in
theorem c_heldIntS {lo hi : Nat} (A : Option Addr) (n c : Nat) (k : Int) (w : World) (h : IntsV w lo hi A (iota k n)) (h0 : 0 ≤ k) (h1 : k ≤ 1099511627776) : Calls Try.prog 23 #[.slice A n c, .int .i64 k] w fun e w' => e = .returned (.int .i64 (k + n)) ∧ w = w' := by
  have hL := h.le
  rw [iota_length] at hL
  go_enter Try.func23, Try.ntmps23
  go_wp2
  go_loop [1, 5] (fun m i => ∃ (j : Nat), j ≤ n ∧ i = .int .i64 j ∧ m = .int .i64 (k + j)) (fun _ i => n - (intOf i).toNat)
  case atStart => exact ⟨0, Nat.zero_le _, rfl, by simp⟩
  case round =>
    obtain ⟨j, hj, rfl, rfl⟩ := hrel
    by_cases hlt : j < n
    · obtain ⟨b, off, rfl, c0⟩ := h.at (k := j) (by rw [iota_length]; exact hlt)
      have e : (iota k n)[j]'(by rw [iota_length]; exact hlt) = k + j := by simp [iota]
      rw [e] at c0
      clear e
      go_wp2_with fail
      go_round
      case rel => exact ⟨j + 1, by omega, by go_num, by push_cast; congr 1; omega⟩
      case measure => simp [intOf]; omega
    · obtain rfl : j = n := by omega
      go_wp2
      go_ret
      exact ⟨rfl, rfl⟩

--@ laws.markFactS
def markF (k : Int) (n : Nat) : List Fct := (List.range n).map fun i : Nat => ⟨k % 3 == 0, k + 3 * i + 1, k + 3 * i + 1 + 1⟩
theorem markF_length (k : Int) (n : Nat) : (markF k n).length = n := by simp [markF]
theorem markF_get (k : Int) (n i : Nat) (h : i < n) : (markF k n)[i]'(by rw [markF_length]; exact h) = ⟨k % 3 == 0, k + 3 * i + 1, k + 3 * i + 1 + 1⟩ := by simp [markF]
set_option maxHeartbeats 1600000 in
theorem c_markFactS (v : Value) (xs : List Fct) (k : Int) (base : Nat) (w : World) (h : FactsO w base v xs) (h0 : 0 ≤ k) (h1 : k ≤ 1099511627776) : Calls Try.prog 81 #[v, .int .i64 k] w fun e w' => e = .returned (.int .i64 (k + 3 * xs.length)) ∧ FactsO w' base v (markF k xs.length) ∧ Mk (fun g => v.ownBlock = some g) w w' := by
  obtain ⟨⟨hl, h2⟩, hL⟩ := h
  have hL' : xs.length ≤ 1049600 := hL
  rcases h2 with ⟨rfl, hn⟩ | ⟨g, cap, cur, rfl, hb, hh, hn, hm, hs, ht⟩
  · go_enter Try.func81, Try.ntmps81
    go_wp2
    go_loop [1, 5] (fun m i => m = .int .i64 k ∧ i = .int .i64 0) (fun _ i => 0)
    case atStart => exact ⟨rfl, rfl⟩
    case round =>
      obtain ⟨rfl, rfl⟩ := hrel
      go_wp2
      go_ret
      have e : xs = [] := List.length_eq_zero_iff.1 hn
      subst e
      exact ⟨by simp, ⟨World.ownsRow_nil _ _ _ _, by simp [Lim, markF]⟩, Mk.refl _ _⟩
  · have hK : Blk w g tF cur := hh
    have HS := Lib.hid hs
    clear hs ht hh hl
    go_enter Try.func81, Try.ntmps81
    go_wp2
    go_loopw [1, 5] (fun m i wr => ∃ (j : Nat) (cs : Array Value), j ≤ xs.length ∧ i = .int .i64 j ∧ m = .int .i64 (k + 3 * j) ∧ Hid (cs.size = cap * 3) ∧ Hid (Pre cs (encF (markF k xs.length)) (j * 3)) ∧ Blk wr g tF cs ∧ Mk (fun g' => Value.ownBlock (.slice (some ⟨g, 0, none⟩) xs.length cap) = some g') w wr) (fun _ i _ => xs.length - (intOf i).toNat)
    case atStart => exact ⟨0, cur, Nat.zero_le _, rfl, by simp, HS.out, Pre.zero _ _, hK, Mk.refl _ _⟩
    case round =>
      obtain ⟨j, cs, hj, rfl, rfl, HS2, HP, hK2, hM⟩ := hrel
      by_cases hlt : j < xs.length
      · have hs := HS2.out
        obtain ⟨u0, hu0⟩ : ∃ u, cs[j * 3]? = some u := ⟨_, Array.getElem?_eq_getElem (by omega)⟩
        obtain ⟨u1, hu1⟩ : ∃ u, cs[j * 3 + 1]? = some u := ⟨_, Array.getElem?_eq_getElem (by omega)⟩
        obtain ⟨u2, hu2⟩ : ∃ u, cs[j * 3 + 2]? = some u := ⟨_, Array.getElem?_eq_getElem (by omega)⟩
        have q0 : wr.cell? ⟨g, j * 3, none⟩ = some u0 := by rw [hK2.cell, hu0]
        have q1 : wr.cell? ⟨g, j * 3 + 1, none⟩ = some u1 := by rw [hK2.cell, hu1]
        have q2 : wr.cell? ⟨g, j * 3 + 2, none⟩ = some u2 := by rw [hK2.cell, hu2]
        have r := hK2.frozen
        clear hs hu0 hu1 hu2
        go_wp2_with fail
        have hs := HS2.out
        go_round
        case rel =>
          obtain ⟨t0, t1, t2⟩ := flat3 (fun f : Fct => .bool f.eq) (fun f => .int .i64 f.a) (fun f => .int .i64 f.b) (markF k xs.length) j (by rw [markF_length]; exact hlt)
          rw [markF_get _ _ _ hlt] at t0 t1 t2
          refine ⟨j + 1, _, by omega, by go_num, by push_cast; congr 1; omega, ?_, HP.out.set3 (by omega) t0 t1 t2, ((hK2.set_ _ _).set_ _ _).set_ _ _, ((hM.set (x := ⟨g, j * 3, none⟩) rfl _).set (x := ⟨g, j * 3 + 1, none⟩) rfl _).set (x := ⟨g, j * 3 + 2, none⟩) rfl _⟩
          show _ = _; simp [hs]
        case measure => simp [intOf]; omega
      · go_wp2
        go_ret
        obtain rfl : j = xs.length := by omega
        have hs := HS2.out
        exact ⟨rfl, ⟨by rw [markF_length]; exact own_of_blk hK2 hb (by rw [len3, markF_length]) (by simpa using HP.out) hn hm (by simpa using hs), by rw [markF_length]; exact hL⟩, hM⟩

--@ laws.markAtomS
def markA (k : Int) (n : Nat) : List Atm := (List.range n).map fun i : Nat => ⟨k + 3 * i, k + 3 * i + 1, k + 3 * i + 1 + 1⟩
theorem markA_length (k : Int) (n : Nat) : (markA k n).length = n := by simp [markA]
theorem markA_get (k : Int) (n i : Nat) (h : i < n) : (markA k n)[i]'(by rw [markA_length]; exact h) = ⟨k + 3 * i, k + 3 * i + 1, k + 3 * i + 1 + 1⟩ := by simp [markA]
set_option maxHeartbeats 1600000 in
theorem c_markAtomS (v : Value) (xs : List Atm) (k : Int) (base : Nat) (w : World) (h : AtomsO w base v xs) (h0 : 0 ≤ k) (h1 : k ≤ 1099511627776) : Calls Try.prog 82 #[v, .int .i64 k] w fun e w' => e = .returned (.int .i64 (k + 3 * xs.length)) ∧ AtomsO w' base v (markA k xs.length) ∧ Mk (fun g => v.ownBlock = some g) w w' := by
  obtain ⟨⟨hl, h2⟩, hL⟩ := h
  have hL' : xs.length ≤ 1049600 := hL
  rcases h2 with ⟨rfl, hn⟩ | ⟨g, cap, cur, rfl, hb, hh, hn, hm, hs, ht⟩
  · go_enter Try.func82, Try.ntmps82
    go_wp2
    go_loop [1, 5] (fun m i => m = .int .i64 k ∧ i = .int .i64 0) (fun _ i => 0)
    case atStart => exact ⟨rfl, rfl⟩
    case round =>
      obtain ⟨rfl, rfl⟩ := hrel
      go_wp2
      go_ret
      have e : xs = [] := List.length_eq_zero_iff.1 hn
      subst e
      exact ⟨by simp, ⟨World.ownsRow_nil _ _ _ _, by simp [Lim, markA]⟩, Mk.refl _ _⟩
  · have hK : Blk w g tA cur := hh
    have HS := Lib.hid hs
    clear hs ht hh hl
    go_enter Try.func82, Try.ntmps82
    go_wp2
    go_loopw [1, 5] (fun m i wr => ∃ (j : Nat) (cs : Array Value), j ≤ xs.length ∧ i = .int .i64 j ∧ m = .int .i64 (k + 3 * j) ∧ Hid (cs.size = cap * 3) ∧ Hid (Pre cs (encA (markA k xs.length)) (j * 3)) ∧ Blk wr g tA cs ∧ Mk (fun g' => Value.ownBlock (.slice (some ⟨g, 0, none⟩) xs.length cap) = some g') w wr) (fun _ i _ => xs.length - (intOf i).toNat)
    case atStart => exact ⟨0, cur, Nat.zero_le _, rfl, by simp, HS.out, Pre.zero _ _, hK, Mk.refl _ _⟩
    case round =>
      obtain ⟨j, cs, hj, rfl, rfl, HS2, HP, hK2, hM⟩ := hrel
      by_cases hlt : j < xs.length
      · have hs := HS2.out
        obtain ⟨u0, hu0⟩ : ∃ u, cs[j * 3]? = some u := ⟨_, Array.getElem?_eq_getElem (by omega)⟩
        obtain ⟨u1, hu1⟩ : ∃ u, cs[j * 3 + 1]? = some u := ⟨_, Array.getElem?_eq_getElem (by omega)⟩
        obtain ⟨u2, hu2⟩ : ∃ u, cs[j * 3 + 2]? = some u := ⟨_, Array.getElem?_eq_getElem (by omega)⟩
        have q0 : wr.cell? ⟨g, j * 3, none⟩ = some u0 := by rw [hK2.cell, hu0]
        have q1 : wr.cell? ⟨g, j * 3 + 1, none⟩ = some u1 := by rw [hK2.cell, hu1]
        have q2 : wr.cell? ⟨g, j * 3 + 2, none⟩ = some u2 := by rw [hK2.cell, hu2]
        have r := hK2.frozen
        clear hs hu0 hu1 hu2
        go_wp2_with fail
        have hs := HS2.out
        go_round
        case rel =>
          obtain ⟨t0, t1, t2⟩ := flat3 (fun f : Atm => .int .i64 f.kind) (fun f => .int .i64 f.a) (fun f => .int .i64 f.b) (markA k xs.length) j (by rw [markA_length]; exact hlt)
          rw [markA_get _ _ _ hlt] at t0 t1 t2
          refine ⟨j + 1, _, by omega, by go_num, by push_cast; congr 1; omega, ?_, HP.out.set3 (by omega) t0 t1 t2, ((hK2.set_ _ _).set_ _ _).set_ _ _, ((hM.set (x := ⟨g, j * 3, none⟩) rfl _).set (x := ⟨g, j * 3 + 1, none⟩) rfl _).set (x := ⟨g, j * 3 + 2, none⟩) rfl _⟩
          show _ = _; simp [hs]
        case measure => simp [intOf]; omega
      · go_wp2
        go_ret
        obtain rfl : j = xs.length := by omega
        have hs := HS2.out
        exact ⟨rfl, ⟨by rw [markA_length]; exact own_of_blk hK2 hb (by rw [len3, markA_length]) (by simpa using HP.out) hn hm (by simpa using hs), by rw [markA_length]; exact hL⟩, hM⟩

def StateO (w : World) (base : Nat) (v : Value) (s : Ste) : Prop := ∃ fv av, v = .agg #[fv, av] ∧ IntsO w base fv s.values ∧ IntsO w base av s.heap ∧ ∀ g, fv.ownBlock = some g → av.ownBlock ≠ some g
theorem StateO.below {w w' : World} {base : Nat} {v : Value} {s : Ste} (h : StateO w base v s) (hb : Below w.heap.size w w') : StateO w' base v s := by
  obtain ⟨fv, av, e, h1, h2, h3⟩ := h
  exact ⟨fv, av, e, h1.below hb, h2.below hb, h3⟩
theorem StateO.abv {w w' : World} {base lo : Nat} {v : Value} {s : Ste} (h : StateO w base v s) (hb : Abv lo w w') (hl : lo ≤ base) : StateO w' base v s := by
  obtain ⟨fv, av, e, h1, h2, h3⟩ := h
  exact ⟨fv, av, e, h1.abv hb hl, h2.abv hb hl, h3⟩
theorem StateO.lower {w : World} {base base' : Nat} {v : Value} {s : Ste} (h : StateO w base v s) (hb : base' ≤ base) : StateO w base' v s := by
  obtain ⟨fv, av, e, h1, h2, h3⟩ := h
  exact ⟨fv, av, e, h1.lower hb, h2.lower hb, h3⟩
theorem StateO.reads {w : World} {base : Nat} {v : Value} {s : Ste} (h : StateO w base v s) : StateV w base w.heap.size v s := by
  obtain ⟨fv, av, e, h1, h2, h3⟩ := h
  obtain ⟨A1, c1, rfl, g1⟩ := h1.reads
  obtain ⟨A2, c2, rfl, g2⟩ := h2.reads
  exact ⟨A1, c1, A2, c2, e, g1, g2⟩
theorem IntsO.mk {p : Nat → Prop} {w w' : World} {base : Nat} {v : Value} {xs : List Int} (h : IntsO w base v xs) (hb : Mk p w w') (hp : ∀ g, v.ownBlock = some g → ¬ p g) : IntsO w' base v xs := ⟨own_mk h.1 hb hp, h.2⟩
theorem FactsO.mk {p : Nat → Prop} {w w' : World} {base : Nat} {v : Value} {xs : List Fct} (h : FactsO w base v xs) (hb : Mk p w w') (hp : ∀ g, v.ownBlock = some g → ¬ p g) : FactsO w' base v xs := ⟨own_mk h.1 hb hp, h.2⟩
theorem AtomsO.mk {p : Nat → Prop} {w w' : World} {base : Nat} {v : Value} {xs : List Atm} (h : AtomsO w base v xs) (hb : Mk p w w') (hp : ∀ g, v.ownBlock = some g → ¬ p g) : AtomsO w' base v xs := ⟨own_mk h.1 hb hp, h.2⟩
theorem Ste.eq_iff (f g : Ste) : f = g ↔ f.values = g.values ∧ f.heap = g.heap := by cases f; cases g; simp
/-- lists of different types lie in different blocks -/
theorem FactsO.ne_atoms {w : World} {b b' : Nat} {v v' : Value} {xs : List Fct} {ys : List Atm} (h : FactsO w b v xs) (h' : AtomsO w b' v' ys) (g : Nat) (hg : v.ownBlock = some g) : v'.ownBlock ≠ some g := by
  intro hg'
  obtain ⟨_, h2⟩ := h.1
  obtain ⟨_, h2'⟩ := h'.1
  rcases h2 with ⟨rfl, _⟩ | ⟨k, cap, cur, rfl, _, hh, _⟩
  · simp [Value.ownBlock] at hg
  rcases h2' with ⟨rfl, _⟩ | ⟨k', cap', cur', rfl, _, hh', _⟩
  · simp [Value.ownBlock] at hg'
  simp only [Value.ownBlock, Option.some.injEq] at hg hg'
  subst hg
  subst hg'
  exact Blk.ne_ (w := w) hh hh' (by decide) rfl

--@ laws.szState
def szSt (s : Ste) (left : Int) : Int := if szL s.values.length left < 0 then -1 else szL s.heap.length (szL s.values.length left)
set_option maxHeartbeats 400000 in
theorem c_szState (A1 A2 : Option Addr) (c1 c2 : Nat) (s : Ste) (left : Int) (w : World) (hn : s.values.length ≤ 9223372036854775807) (hm : s.heap.length ≤ 9223372036854775807) (h0 : 0 ≤ left) (h1 : left ≤ 1048576) : Calls Try.prog 43 #[.agg #[.slice A1 s.values.length c1, .slice A2 s.heap.length c2], .int .i64 left] w fun e w' => e = .returned (.int .i64 (szSt s left)) ∧ Below w.heap.size w w' := by
  have hle : szL s.values.length left ≤ left := by unfold szL; split <;> omega
  have hH := Lib.hid (show szSt s left = if szL s.values.length left < 0 then -1 else szL s.heap.length (szL s.values.length left) from rfl)
  by_cases h : szL s.values.length left < 0
  · go_enter Try.func43, Try.ntmps43
    go_wp2_with (go_at_call 106; refine (c_szIntS _ _ _ _ _ hn h0 h1).mono ?_; rintro e w' ⟨rfl, rfl⟩)
    go_ret
    exact ⟨ret_int (by rw [hH.out, if_pos h]), bel⟩
  · by_cases h2 : szL s.heap.length (szL s.values.length left) < 0
    all_goals
      go_enter Try.func43, Try.ntmps43
      go_wp2_with fail
      refine (c_szIntS _ _ _ _ _ hn h0 h1).mono ?_; rintro e w' ⟨rfl, rfl⟩
      go_wp2_with fail
      refine (c_szIntS _ _ _ _ _ hm (by omega) (by omega)).mono ?_; rintro e w' ⟨rfl, rfl⟩
      go_wp2_with fail
      go_ret
    · refine ⟨ret_int ?_, bel⟩
      rw [hH.out, if_neg (by omega)]
      exact (szL_neg h2).symm
    · exact ⟨ret_int (by rw [hH.out, if_neg (by omega)]), bel⟩

def StateR (w : World) (v : Value) (a : Ste) : Prop :=
  ∃ A1 c1 A2 c2, v = .agg #[.slice A1 a.values.length c1, .slice A2 a.heap.length c2] ∧ IntsR w A1 a.values ∧ IntsR w A2 a.heap
theorem szSt_le {a : Ste} {left : Int} (h : ¬ szSt a left < 0) : 0 ≤ szSt a left ∧ szSt a left = left - a.values.length - a.heap.length ∧ 0 ≤ left := by
  unfold szSt at h ⊢
  split at h
  · omega
  · rename_i h1
    have e1 := szL_le h1
    have e2 := szL_le h
    rw [if_neg h1]
    omega

--@ laws.toState
set_option maxHeartbeats 800000 in
theorem c_toState {lo hi : Nat} (v : Value) (s : Ste) (w : World) (h : StateV w lo hi v s) : Calls Try.prog 45 #[v] w fun e w' => ∃ v, e = .returned v ∧ StateO w' w.heap.size v s ∧ Below w.heap.size w w' := by
  obtain ⟨A1, c1, A2, c2, rfl, h1, h2⟩ := h
  go_enter Try.func45, Try.ntmps45
  go_wp2_with fail
  refine (c_toIntS A1 c1 s.values _ (h1.below bel)).mono ?_
  rintro e w1 ⟨v1, rfl, ho1, hB1⟩
  obtain ⟨F1, d1, rfl, -⟩ := ho1.reads
  have hB := bgo (w := w) bel hB1
  have k0 := (((Blk.new w _ _).alloc _).alloc _).next hB1
  have k1 := ((Blk.new (w.alloc _) _ _).alloc _).next hB1
  have k2 := (Blk.new ((w.alloc _).alloc _) _ _).next hB1
  simp only [World.size_alloc] at k1 k2 ho1
  have q0 := k0.cell
  have q2 := k2.cell
  have r2 := k2.frozen
  go_wp2_with fail
  refine (c_toIntS A2 c2 s.heap _ (h2.below bel)).mono ?_
  rintro e w2 ⟨v2, rfl, ho2, hB2⟩
  obtain ⟨F2, d2, rfl, -⟩ := ho2.reads
  have g1 := (k1.far (p := ⟨w.heap.size + 1 + 1, 0, none⟩) (by simp) _).next hB2
  have g2 := (k2.set_ 0 (.slice F1 s.values.length d1)).next hB2
  have hlt1 := ho1.und
  clear q0 q2 r2 k0 k1 k2
  have q1 := g1.cell
  have r1 := g1.frozen
  have q2 := g2.cell
  have r2 := g2.frozen
  go_wp2_with fail
  have hz : w.heap.size + 1 + 1 + 1 ≤ w1.heap.size := by have := hB1.size; simpa using this
  have hB3 := bgo (w := w) bel hB2
  have o1 := ((((ho1.setb (a := ⟨w.heap.size + 1 + 1, 0, none⟩) (by simp) (.slice F1 s.values.length d1)).below hB2).setb (a := ⟨w.heap.size + 1 + 1, 1, none⟩) (by simp) (.slice F2 s.heap.length d2)).setb (a := ⟨w.heap.size + 1, 0, none⟩) (by simp only; omega) (.slice F1 s.values.length d1)).setb (a := ⟨w.heap.size + 1, 1, none⟩) (by simp only; omega) (.slice F2 s.heap.length d2)
  have o2 := ((ho2.setb (a := ⟨w.heap.size + 1 + 1, 1, none⟩) (by simp; omega) (.slice F2 s.heap.length d2)).setb (a := ⟨w.heap.size + 1, 0, none⟩) (by simp; omega) (.slice F1 s.values.length d1)).setb (a := ⟨w.heap.size + 1, 1, none⟩) (by simp; omega) (.slice F2 s.heap.length d2)
  have hdis : ∀ g, (Value.slice F1 s.values.length d1).ownBlock = some g → (Value.slice F2 s.heap.length d2).ownBlock ≠ some g := fun g e1 e2 => by
    have t1 := hlt1 g e1
    have t2 := (ho2.1.lt g e2).1
    simp only [World.size_setCell] at t2
    omega
  refine bodyPost_ret (v := .agg #[.slice F1 s.values.length d1, .slice F2 s.heap.length d2]) (by simp [results, Try.results45, go_sem, q1]) rfl ⟨_, rfl, ⟨_, _, rfl, o1.lower (by omega), o2.lower (by simp; omega), hdis⟩, bel⟩

--@ laws.eqState
set_option maxHeartbeats 800000 in
theorem c_eqState {lo hi lo' hi' : Nat} (v v' : Value) (s s' : Ste) (w : World) (h : StateV w lo hi v s) (h' : StateV w lo' hi' v' s') : Calls Try.prog 47 #[v, v'] w fun e w' => e = .returned (.bool (decide (s = s'))) ∧ Below w.heap.size w w' := by
  obtain ⟨A1, c1, A2, c2, rfl, h1, h2⟩ := h
  obtain ⟨A3, c3, A4, c4, rfl, h3, h4⟩ := h'
  have hE : Hid (decide (s = s') = decide (s.values = s'.values ∧ s.heap = s'.heap)) := decide_eq_decide.2 (Ste.eq_iff s s')
  go_enter Try.func47, Try.ntmps47
  go_wp2_with fail
  refine (c_eqIntS A1 A3 c1 c3 s.values s'.values _ (h1.below bel) (h3.below bel)).mono ?_
  rintro e w1 ⟨rfl, hB1⟩
  have hB := bgo (w := w) bel hB1
  have k0 := (Blk.next (g := w.heap.size) (((Blk.new w _ _).alloc _)) hB1).cell
  have k1 := (Blk.next (g := w.heap.size + 1) (by rw [← World.size_alloc]; exact Blk.new (w.alloc _) _ _) hB1).cell
  cases hd : decide (s.values = s'.values)
  · go_wp2_with fail
    go_ret
    exact ⟨ret_bool (by rw [hE.out, Bool.decide_and, hd]; rfl), hB⟩
  · go_wp2_with fail
    refine (c_eqIntS A2 A4 c2 c4 s.heap s'.heap _ (h2.below hB) (h4.below hB)).mono ?_
    rintro e w2 ⟨rfl, hB2⟩
    cases hd2 : decide (s.heap = s'.heap)
    all_goals
      go_wp2_with fail
      go_ret
      exact ⟨ret_bool (by rw [hE.out, Bool.decide_and, hd, hd2]; rfl), bgo hB hB2⟩

--@ laws.markState
def markSt (k : Int) (s : Ste) : Ste := ⟨iota k s.values.length, iota (k + s.values.length) s.heap.length⟩
set_option maxHeartbeats 800000 in
theorem c_markState (v : Value) (s : Ste) (k : Int) (base hi : Nat) (w : World) (h : StateO w base v s) (hhi : ∀ fv av, v = .agg #[fv, av] → Und fv hi ∧ Und av hi) (h0 : 0 ≤ k) (h1 : k ≤ 549755813888) : Calls Try.prog 50 #[v, .int .i64 k] w fun e w' => e = .returned (.int .i64 (k + s.values.length + s.heap.length)) ∧ StateO w' base v (markSt k s) ∧ Mk (fun g => base ≤ g ∧ g < hi) w w' := by
  obtain ⟨fv, av, rfl, o1, o2, hd⟩ := h
  have hU := hhi fv av rfl
  have L1 : s.values.length ≤ 1049600 := o1.2
  obtain ⟨F1, d1, e1, -⟩ := o1.reads
  obtain ⟨F2, d2, e2, -⟩ := o2.reads
  have o1b := o1.below (w' := w.alloc (.cells #[fv, av] 58)) bel
  have o2b := o2.below (w' := w.alloc (.cells #[fv, av] 58)) bel
  subst e1
  subst e2
  go_enter Try.func50, Try.ntmps50
  go_wp2_with fail
  refine (c_markIntS _ s.values k base _ o1b h0 (by omega)).mono ?_
  rintro e w1 ⟨rfl, p1, hM1⟩
  have k0 := hM1.blk (Blk.new w _ _) (fun e => by have := o1.und _ e; omega)
  have q0 := k0.cell
  have o2c := o2b.mk hM1 (fun g e1 e2 => hd g e2 e1)
  have hM1' := (Mk.below_ (p := fun g => base ≤ g ∧ g < hi) (w := w) bel).trans (hM1.mono fun g e => ⟨(o1.1.lt g e).1, hU.1 g e⟩)
  clear hM1
  go_wp2_with fail
  refine (c_markIntS _ s.heap _ base _ o2c (by omega) (by omega)).mono ?_
  rintro e w2 ⟨rfl, p2, hM2⟩
  have p1c := p1.mk hM2 (fun g e1 e2 => hd g e1 e2)
  have hM2' := hM1'.trans (hM2.mono fun g e => ⟨(o2.1.lt g e).1, hU.2 g e⟩)
  go_wp2_with fail
  go_ret
  exact ⟨rfl, ⟨_, _, rfl, by simpa [markSt, iota_length] using p1c, p2, hd⟩, hM2'⟩

--@ laws.markAssertion
def markAs (k : Int) (s : Asn) : Asn := ⟨markF k s.facts.length, markA (k + 3 * s.facts.length) s.atoms.length⟩
set_option maxHeartbeats 800000 in
theorem c_markAssertion (v : Value) (s : Asn) (k : Int) (base hi : Nat) (w : World) (h : AsnO w base v s) (hhi : ∀ fv av, v = .agg #[fv, av] → Und fv hi ∧ Und av hi) (h0 : 0 ≤ k) (h1 : k ≤ 549755813888) : Calls Try.prog 36 #[v, .int .i64 k] w fun e w' => e = .returned (.int .i64 (k + 3 * s.facts.length + 3 * s.atoms.length)) ∧ AsnO w' base v (markAs k s) ∧ Mk (fun g => base ≤ g ∧ g < hi) w w' := by
  obtain ⟨fv, av, rfl, o1, o2⟩ := h
  have hd := o1.ne_atoms o2
  have hU := hhi fv av rfl
  have L1 : s.facts.length ≤ 1049600 := o1.2
  obtain ⟨F1, d1, e1, -⟩ := o1.reads
  obtain ⟨F2, d2, e2, -⟩ := o2.reads
  have o1b := o1.below (w' := w.alloc (.cells #[fv, av] 48)) bel
  have o2b := o2.below (w' := w.alloc (.cells #[fv, av] 48)) bel
  subst e1
  subst e2
  go_enter Try.func36, Try.ntmps36
  go_wp2_with fail
  refine (c_markFactS _ s.facts k base _ o1b h0 (by omega)).mono ?_
  rintro e w1 ⟨rfl, p1, hM1⟩
  have k0 := hM1.blk (Blk.new w _ _) (fun e => by have := o1.und _ e; omega)
  have q0 := k0.cell
  have o2c := o2b.mk hM1 (fun g e1 e2 => hd g e2 e1)
  have hM1' := (Mk.below_ (p := fun g => base ≤ g ∧ g < hi) (w := w) bel).trans (hM1.mono fun g e => ⟨(o1.1.lt g e).1, hU.1 g e⟩)
  clear hM1
  go_wp2_with fail
  refine (c_markAtomS _ s.atoms _ base _ o2c (by omega) (by omega)).mono ?_
  rintro e w2 ⟨rfl, p2, hM2⟩
  have p1c := p1.mk hM2 (fun g e1 e2 => hd g e1 e2)
  have hM2' := hM1'.trans (hM2.mono fun g e => ⟨(o2.1.lt g e).1, hU.2 g e⟩)
  go_wp2_with fail
  go_ret
  exact ⟨rfl, ⟨_, _, rfl, by simpa [markAs, markF_length] using p1c, p2⟩, hM2'⟩
end Go.Proofs.Ytcgifoghggajgaa
