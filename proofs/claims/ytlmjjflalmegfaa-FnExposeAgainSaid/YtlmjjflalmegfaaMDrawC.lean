/- The reader that draws: words, and its own functions. -/
import Derived.Test.YtlmjjflalmegfaaMDefS
import Derived.Deep.QuietTactic
import Derived.Test.YtlmjjflalmegfaaMSte
import Derived.Test.YtlmjjflalmegfaaMKit
set_option linter.unusedSimpArgs false
set_option linter.unusedVariables false
namespace Go.Proofs.Ytlmjjflalmegfaa
open Go Go.RowKit Go.Proofs

/-- all blocks that were lie as they lay, but for g -/
structure Fr (g : Nat) (w w' : World) : Prop where
  os : w'.os = w.os
  tape : w'.tape = w.tape
  output : w'.output = w.output
  size : w.heap.size ≤ w'.heap.size
  block : ∀ k, k < w.heap.size → k ≠ g → w'.heap[k]? = w.heap[k]?
section
variable {g : Nat} {w a b c : World}
theorem Fr.refl (g : Nat) (w : World) : Fr g w w := ⟨rfl, rfl, rfl, Nat.le_refl _, fun _ _ _ => rfl⟩
theorem Fr.trans (h : Fr g a b) (k : Fr g b c) : Fr g a c :=
  ⟨k.os.trans h.os, k.tape.trans h.tape, k.output.trans h.output, Nat.le_trans h.size k.size, fun i h1 h2 => (k.block i (Nat.lt_of_lt_of_le h1 h.size) h2).trans (h.block i h1 h2)⟩
theorem Fr.ofBelow (h : Below a.heap.size a b) : Fr g a b := ⟨h.os, h.tape, h.output, h.size, fun k h1 _ => h.block k h1⟩
theorem Fr.go (h : Fr g a b) (k : Below b.heap.size b c) : Fr g a c := h.trans (.ofBelow k)
theorem Fr.alloc (h : Fr g a b) (o : Obj) : Fr g a (b.alloc o) := h.go (bbox (Below.refl _ _) o)
theorem Fr.drew (h : Fr g a b) : Fr g a b.drew := h.go (Below.refl _ _).drew
theorem Fr.set_ (h : Fr g a b) {p : Addr} (hp : p.block = g ∨ a.heap.size ≤ p.block) (u : Value) : Fr g a (b.setCell p u) :=
  ⟨h.os, h.tape, h.output, by have := h.size; simp; exact this, fun k h1 h2 => (Below.heap_setCell b p u k (by rcases hp with e | e <;> omega)).trans (h.block k h1 h2)⟩
theorem Fr.below {B : Nat} (h : Fr g a b) (hg : B ≤ g) (hB : B ≤ a.heap.size) : Below B a b := ⟨h.os, h.tape, h.output, h.size, fun k hk => h.block k (by omega) (by omega)⟩
theorem Blk.fr {x : Nat} {t : TypeId} {cs : Array Value} (h : Blk a x t cs) (hf : Fr g a b) (hx : x ≠ g) : Blk b x t cs := (hf.block x h.lt hx).trans h
theorem Rw.fr {lo hi size n : Nat} {A : Option Addr} {xs : List Value} (h : Rw a lo hi size A n xs) (hf : Fr g a b) (hg : g < lo ∨ hi ≤ g) : Rw b lo hi size A n xs :=
  ⟨h.1, fun hn => by
    obtain ⟨k, o, e, h1, h2, hc⟩ := h.2 hn
    have h0 := h.1
    have hx : xs[0]? = some (xs[0]'(by omega)) := List.getElem?_eq_getElem (by omega)
    have hlt : k < a.heap.size := block_lt_of_cell (hc 0 _ hx)
    exact ⟨k, o, e, h1, h2, fun j u hu => (World.cell?_of_block (a := ⟨k, o + j, none⟩) (hf.block k hlt (by omega))).trans (hc j u hu)⟩⟩
theorem Rd.fr {lo hi size n : Nat} {A : Option Addr} {xs : List Value} (h : Rd a lo hi size A n xs) (hf : Fr g a b) (hg : g < lo ∨ hi ≤ g) : Rd b lo hi size A n xs := ⟨h.raw.fr hf hg, h.lim⟩
theorem own_fr {base : Nat} {e : TypeId} {size : Nat} {v : Value} {n : Nat} {xs : List Value} (h : a.ownsRow base e size v n xs) (hf : Fr g a b) (hg : g < base) : b.ownsRow base e size v n xs := by
  obtain ⟨h1, h2⟩ := h
  refine ⟨h1, ?_⟩
  rcases h2 with h2 | ⟨k, cap, cur, hv, hk, hh, r⟩
  · exact Or.inl h2
  · exact Or.inr ⟨k, cap, cur, hv, hk, (hf.block k (Blk.lt hh) (by omega)).trans hh, r⟩
variable {base : Nat} {v : Value}
theorem FactsO.fr {fs : List Fct} (h : FactsO a base v fs) (hf : Fr g a b) (hg : g < base) : FactsO b base v fs := ⟨own_fr h.1 hf hg, h.2⟩
theorem AtomsO.fr {fs : List Atm} (h : AtomsO a base v fs) (hf : Fr g a b) (hg : g < base) : AtomsO b base v fs := ⟨own_fr h.1 hf hg, h.2⟩
theorem IntsO.fr {fs : List Int} (h : IntsO a base v fs) (hf : Fr g a b) (hg : g < base) : IntsO b base v fs := ⟨own_fr h.1 hf hg, h.2⟩
theorem AsnO.fr {x : Asn} (h : AsnO a base v x) (hf : Fr g a b) (hg : g < base) : AsnO b base v x := by
  obtain ⟨fv, av, e, h1, h2⟩ := h
  exact ⟨fv, av, e, h1.fr hf hg, h2.fr hf hg⟩
end

--@ spec.l18Open
abbrev tR : Nat := 123
def encU (bs : List Nat) : List Value := bs.map fun b : Nat => .int .u8 (b : Int)
/-- block g is a reader behind p picks; its bytes lie below it -/
def Rdr (w : World) (g p : Nat) : Prop := ∃ A c bs, Blk w g tR #[.slice A bs.length c, .int .i64 (p : Int)] ∧ Rw w 0 g 1 A bs.length (encU bs) ∧ (∀ b ∈ bs, b < 256) ∧ bs.length ≤ 2000
theorem Rdr.lt {w : World} {g p : Nat} (h : Rdr w g p) : g < w.heap.size := by obtain ⟨_, _, _, h, -⟩ := h; exact h.lt
theorem Rdr.below {w w' : World} {g p : Nat} (h : Rdr w g p) (hb : Below w.heap.size w w') : Rdr w' g p := by
  obtain ⟨A, c, bs, h1, h2, h3⟩ := h
  exact ⟨A, c, bs, h1.next hb, h2.below hb, h3⟩
theorem Rdr.set_ {w : World} {g p : Nat} (h : Rdr w g p) {q : Addr} (hq : g < q.block) (u : Value) : Rdr (w.setCell q u) g p := by
  obtain ⟨A, c, bs, h1, h2, h3⟩ := h
  exact ⟨A, c, bs, h1.far (by omega) u, h2.keep fun b _ hb => Below.heap_setCell w q u b (by omega), h3⟩

--@ (*spec.l18Rd).pick
theorem ofInt_i64n (a : Nat) (ha : a < 9223372036854775808) : (BitVec.ofInt 64 (a : Int)).toNat = a := by
  rw [BitVec.ofInt_natCast, BitVec.toNat_ofNat]; exact Nat.mod_eq_of_lt (by omega)
theorem wrap_i64n (a : Nat) (ha : a < 9223372036854775808) : IntKind.i64.wrap (a : Int) = a := by
  simp [IntKind.wrap, IntKind.bits, IntKind.signed]; omega
theorem i64_xor_nat (a b : Nat) (ha : a < 9223372036854775808) (hb : b < 9223372036854775808) : bits .xor .i64 (a : Int) (b : Int) = ((a ^^^ b : Nat) : Int) := by
  have hx : a ^^^ b < 2 ^ 63 := Nat.xor_lt_two_pow (by omega) (by omega)
  show IntKind.i64.wrap ((BitVec.ofInt 64 (a : Int) ^^^ BitVec.ofInt 64 (b : Int)).toNat : Int) = _
  rw [BitVec.toNat_xor, ofInt_i64n a ha, ofInt_i64n b hb, wrap_i64n _ (by omega)]
theorem encU_at {w : World} {lo hi : Nat} {A : Option Addr} {bs : List Nat} (h : Rw w lo hi 1 A bs.length (encU bs)) {k : Nat} (hk : k < bs.length) : ∃ b o, A = some ⟨b, o, none⟩ ∧ b < hi ∧ w.cell? ⟨b, o + k, none⟩ = some (.int .u8 (bs[k] : Int)) := by
  obtain ⟨b, o, u, e, h1, h2, h3, h4⟩ := h.at1 hk
  refine ⟨b, o, e, h2, ?_⟩
  rw [h4, ← h3]
  simp [encU, hk]
theorem pick_mod {n : Int} (h : 1 ≤ n) {x : Nat} : ((x % n.toNat : Nat) : Int) = (x : Int) % n := by
  rw [Int.natCast_emod, Int.toNat_of_nonneg (by omega)]
theorem pick_lt {n : Int} (h : 1 ≤ n) {x : Nat} : ((x % n.toNat : Nat) : Int) < n := by
  rw [pick_mod h]; exact Int.emod_lt_of_pos _ (by omega)
set_option maxRecDepth 100000 in
set_option maxHeartbeats 3200000 in
theorem c_pick (g p : Nat) (n : Int) (w : World) (h : Rdr w g p) (hp : p ≤ 1000000) :
    Calls Try.prog 89 #[.pointer (some ⟨g, 0, none⟩), .int .i64 n] w fun e w' => ∃ m : Nat, e = .returned (.int .i64 (m : Int)) ∧ (m = 0 ∨ (m : Int) < n) ∧ Rdr w' g (p + 1) ∧ Fr g w w' := by
  obtain ⟨A, c, bs, k0, hR, hU, hl⟩ := h
  have hpi : (p : Int) ≤ 1000000 := by omega
  have hli : (bs.length : Int) ≤ 2000 := by omega
  have HRD : Hid (Rdr (w.setCell ⟨g, 1, none⟩ (.int .i64 ((p : Int) + 1))) g (p + 1)) := by
    refine ⟨A, c, bs, ?_, hR.keep fun b _ hb => Below.heap_setCell w _ _ b (by simp only; omega), hU, hl⟩
    have := k0.set_ 1 (.int .i64 ((p : Int) + 1))
    simpa using this
  have HFR : Hid (Fr g w (w.setCell ⟨g, 1, none⟩ (.int .i64 ((p : Int) + 1)))) := (Fr.refl g w).set_ (Or.inl rfl) _
  have q0 := k0.cell
  have f0 := k0.frozen
  have hRR := Lib.hid hR
  have HU := Lib.hid hU
  clear hR hU hp hl
  by_cases hn : n < 1
  · go_enter Try.func89, Try.ntmps89
    go_wp2_with fail
    go_ret
    exact ⟨0, rfl, Or.inl rfl, HRD.out, HFR.out⟩
  · have hn' : 1 ≤ n := by omega
    by_cases he : bs.length = 0
    · have he' : ((bs.length : Int) == 0) = true := by simp [he]
      clear he
      go_enter Try.func89, Try.ntmps89
      go_wp2_with fail
      go_ret
      exact ⟨0, rfl, Or.inl rfl, HRD.out, HFR.out⟩
    · have he' : ((bs.length : Int) == 0) = false := by simpa using he
      by_cases hlt : p < bs.length
      · obtain ⟨b, o, rfl, hb, c0⟩ := encU_at hRR.out hlt
        have hlti : (p : Int) < (bs.length : Int) := by omega
        have hbv := HU.out _ (List.getElem_mem hlt)
        obtain ⟨x, hx⟩ : ∃ x, x = bs[p] := ⟨_, rfl⟩
        rw [← hx] at c0 hbv
        have hbl := block_lt_of_cell c0
        have hbg : b ≠ g := by omega
        clear hx he
        go_enter Try.func89, Try.ntmps89
        go_wp2_with fail
        go_ret
        exact ⟨x % n.toNat, ret_int (pick_mod hn').symm, Or.inr (pick_lt hn'), HRD.out, HFR.out⟩
      · have hle : (bs.length : Int) ≤ (p : Int) := by omega
        have hpos : 0 < bs.length := by omega
        obtain ⟨b, o, rfl, hb, c0⟩ := encU_at hRR.out (Nat.mod_lt p hpos)
        obtain ⟨b', o', e', hb', c1⟩ := encU_at hRR.out (Nat.mod_lt (p * 7 + 3) hpos)
        injection e' with e'
        injection e' with e1 e2
        subst e1 e2
        have hbv := HU.out _ (List.getElem_mem (Nat.mod_lt p hpos))
        have hbw := HU.out _ (List.getElem_mem (Nat.mod_lt (p * 7 + 3) hpos))
        obtain ⟨x, hx⟩ : ∃ x, x = bs[p % bs.length]'(Nat.mod_lt p hpos) := ⟨_, rfl⟩
        obtain ⟨y, hy⟩ : ∃ y, y = bs[(p * 7 + 3) % bs.length]'(Nat.mod_lt (p * 7 + 3) hpos) := ⟨_, rfl⟩
        rw [← hx] at c0 hbv
        rw [← hy] at c1 hbw
        have hbl := block_lt_of_cell c0
        have hbg : b ≠ g := by omega
        have hnil : ¬ bs = [] := fun e => by rw [e] at he; exact he rfl
        have t1 : (p : Int).tmod (bs.length : Int) = ((p % bs.length : Nat) : Int) := by rw [Int.tmod_eq_emod_of_nonneg (by omega)]; exact (Int.natCast_emod _ _).symm
        have t2 : ((p : Int) * 7 + 3).tmod (bs.length : Int) = (((p * 7 + 3) % bs.length : Nat) : Int) := by rw [Int.tmod_eq_emod_of_nonneg (by omega)]; exact (Int.natCast_emod _ _).symm
        have t3 : (p : Int).tdiv (bs.length : Int) = ((p / bs.length : Nat) : Int) := by rw [Int.tdiv_eq_ediv_of_nonneg (by omega)]; exact (Int.natCast_ediv _ _).symm
        have t4 : ((p / bs.length : Nat) : Int) ≤ 1000000 := by have := Nat.div_le_self p bs.length; omega
        have l1 : ((p % bs.length : Nat) : Int) < (bs.length : Int) := by have := Nat.mod_lt p hpos; omega
        have l2 : (((p * 7 + 3) % bs.length : Nat) : Int) < (bs.length : Int) := by have := Nat.mod_lt (p * 7 + 3) hpos; omega
        obtain ⟨i, hi⟩ : ∃ i, i = p % bs.length := ⟨_, rfl⟩
        obtain ⟨j, hj⟩ : ∃ j, j = (p * 7 + 3) % bs.length := ⟨_, rfl⟩
        obtain ⟨d, hd⟩ : ∃ d, d = p / bs.length := ⟨_, rfl⟩
        rw [← hi] at c0 t1 l1
        rw [← hj] at c1 t2 l2
        rw [← hd] at t3 t4
        clear hx hy he hlt hi hj hd hpos
        go_enter Try.func89, Try.ntmps89
        go_wp2_with fail
        have hX : Hid (bits .xor .i64 ((x : Int) * 131 + (y : Int) * 1117 + (p : Int) * 29 + (d : Int) * 53) (((x : Int) * 131 + (y : Int) * 1117 + (p : Int) * 29 + (d : Int) * 53) / 64) = (((x * 131 + y * 1117 + p * 29 + d * 53) ^^^ ((x * 131 + y * 1117 + p * 29 + d * 53) / 64) : Nat) : Int)) := by
          have := i64_xor_nat (x * 131 + y * 1117 + p * 29 + d * 53) ((x * 131 + y * 1117 + p * 29 + d * 53) / 64) (by omega) (by omega)
          show _ = _
          rw [← this]
          congr 1
        go_quiet (fail)
        go_wp2_with fail
        have hRD : Rdr ((w.setCell ⟨g, 1, none⟩ (.int .i64 ((p : Int) + 1))).drewN nq) g (p + 1) := HRD.out.below (below_drewN (Below.refl _ _) nq)
        have hFR : Fr g w ((w.setCell ⟨g, 1, none⟩ (.int .i64 ((p : Int) + 1))).drewN nq) := HFR.out.go (below_drewN (Below.refl _ _) nq)
        go_ret
        exact ⟨((x * 131 + y * 1117 + p * 29 + d * 53) ^^^ ((x * 131 + y * 1117 + p * 29 + d * 53) / 64)) % n.toNat, ret_int (by rw [hX.out, Int.tmod_eq_emod_of_nonneg (Int.natCast_nonneg _), pick_mod hn']), Or.inr (pick_lt hn'), hRD, hFR⟩
end Go.Proofs.Ytlmjjflalmegfaa

/- What the reader draws: numbers, terms, facts, atoms, lists of terms. -/
namespace Go.Proofs.Ytlmjjflalmegfaa
open Go Go.RowKit Go.Proofs


theorem Fr.goB {g base : Nat} {a b c : World} (h : Fr g a b) (k : Below base b c) (hb : a.heap.size ≤ base) : Fr g a c :=
  ⟨k.os.trans h.os, k.tape.trans h.tape, k.output.trans h.output, Nat.le_trans h.size k.size, fun i h1 h2 => (k.block i (by omega)).trans (h.block i h1 h2)⟩

--@ spec.l18Open
theorem Rdr.belowB {w w' : World} {g p base : Nat} (h : Rdr w g p) (hb : Below base w w') (hg : g < base) : Rdr w' g p := by
  obtain ⟨A, c, bs, h1, h2, h3⟩ := h
  exact ⟨A, c, bs, h1.below hb hg, h2.keep fun b _ hlt => hb.block b (by omega), h3⟩

--@ (*spec.l18Rd).num
set_option maxRecDepth 100000 in
set_option maxHeartbeats 1600000 in
theorem c_num {lo hi : Nat} (g p : Nat) (A : Option Addr) (c : Nat) (xs : List Int) (w : World) (h : Rdr w g p) (hp : p ≤ 1000000) (hx : IntsV w lo hi A xs) (hg : g < lo ∨ hi ≤ g) (hn : 0 < xs.length) :
    Calls Try.prog 51 #[.pointer (some ⟨g, 0, none⟩), .slice A xs.length c] w fun e w' => ∃ m ∈ xs, e = .returned (.int .i64 m) ∧ Rdr w' g (p + 1) ∧ Fr g w w' := by
  have H := Lib.hid h
  have HX := Lib.hid hx
  clear h hx
  go_enter Try.func51, Try.ntmps51
  go_wp2_with fail
  refine (c_pick g p _ _ H.out hp).mono ?_
  rintro e w1 ⟨m, rfl, hm, hR, hF⟩
  have hlt : m < xs.length := by omega
  obtain ⟨b, o, rfl, c0⟩ := IntsV.at (Rd.fr HX.out hF hg) hlt
  have hmi : (m : Int) < (xs.length : Int) := by omega
  have HRF := Lib.hid (And.intro hR hF)
  clear hm hR hF
  go_wp2_with fail
  go_ret
  exact ⟨xs[m], List.getElem_mem hlt, rfl, HRF.out.1, HRF.out.2⟩
theorem c_numL (g p : Nat) (xs : List Int) (x n : Nat) (cs : Array Value) (w : World) (h : Rdr w g p) (hp : p ≤ 1000000) (hk : Blk w x tI cs) (hcs : cs = (encI xs).toArray) (hg : g < x) (hn : n = xs.length) (h0 : 0 < xs.length) (hl : xs.length ≤ 100) :
    Calls Try.prog 51 #[.pointer (some ⟨g, 0, none⟩), .slice (some ⟨x, 0, none⟩) n n] w fun e w' => ∃ m ∈ xs, e = .returned (.int .i64 m) ∧ Rdr w' g (p + 1) ∧ Fr g w w' := by
  subst hn
  refine c_num (lo := x) (hi := x + 1) g p _ _ xs w h hp ⟨⟨by simp [encI], fun _ => ⟨x, 0, rfl, Nat.le_refl _, Nat.lt_succ_self _, fun j u hu => ?_⟩⟩, by unfold Lim; omega⟩ (Or.inl hg) h0
  rw [Nat.zero_add, hk.cell, hcs]
  simpa using hu

--@ spec.l1Term
--@ spec.l1Fact
--@ spec.l3Point
end Go.Proofs.Ytlmjjflalmegfaa

/- What the reader draws: assertions. -/
namespace Go.Proofs.Ytlmjjflalmegfaa
open Go Go.RowKit Go.Proofs

theorem IntsV.lit {w : World} {x : Nat} {cs : Array Value} {xs : List Int} (hk : Blk w x tI cs) (hcs : cs = (encI xs).toArray) (hl : xs.length ≤ 100) : IntsV w x (x + 1) (some ⟨x, 0, none⟩) xs :=
  ⟨⟨by simp [encI], fun _ => ⟨x, 0, rfl, Nat.le_refl _, Nat.lt_succ_self _, fun j u hu => by rw [Nat.zero_add, hk.cell, hcs]; simpa using hu⟩⟩, by unfold Lim; omega⟩
theorem FactsV.oneB {w : World} {g : Nat} {e : Bool} {x y : Int} (h : Blk w g tF #[.bool e, .int .i64 x, .int .i64 y]) : FactsV w g (g + 1) (some ⟨g, 0, none⟩) [⟨e, x, y⟩] := FactsV.one (f := ⟨e, x, y⟩) h
theorem AtomsV.oneB {w : World} {g : Nat} {e : Int} {x y : Int} (h : Blk w g tA #[.int .i64 e, .int .i64 x, .int .i64 y]) : AtomsV w g (g + 1) (some ⟨g, 0, none⟩) [⟨e, x, y⟩] := AtomsV.one (f := ⟨e, x, y⟩) h

--@ spec.l10Keep
set_option maxRecDepth 100000 in
set_option maxHeartbeats 1600000 in
theorem c_l10Keep (g p : Nat) (w : World) (h : Rdr w g p) (hp : p ≤ 999990) :
    Calls Try.prog 52 #[.pointer (some ⟨g, 0, none⟩)] w fun e w' => ∃ r xs q, e = .returned r ∧ IntsO w' w.heap.size r xs ∧ xs.length ≤ 2 ∧ Rdr w' g q ∧ q ≤ p + 3 ∧ Fr g w w' := by
  have H := Lib.hid h
  have hlt := h.lt
  clear h
  go_enter Try.func52, Try.ntmps52
  go_wp2_with fail
  refine (c_numL g p [0, 1, 0, 2] _ _ _ _ (H.out.below bel) (by omega) blks (by rfl) (by first | omega | (simp; omega)) (by rfl) (by decide) (by decide)).mono ?_
  rintro e w1 ⟨m, hm, rfl, hR, hF⟩
  have o0 : IntsO w1 w.heap.size (.slice (some ⟨w.heap.size, 0, none⟩) 0 0) [] := ((IntsO.empty w rfl).below (bbox (Below.refl _ _) _)).fr hF hlt
  have HF1 : Hid (Fr g w w1) := (((Fr.refl g w).alloc _).alloc _).trans hF
  obtain ⟨k0, rfl⟩ := Int.eq_ofNat_of_zero_le ((by decide : ∀ m ∈ [(0 : Int), 1, 0, 2], 0 ≤ m) m hm)
  have hk2 : k0 ≤ 2 := by have := (by decide : ∀ m ∈ [(0 : Int), 1, 0, 2], m ≤ 2) _ hm; omega
  have HR1 := Lib.hid hR
  clear hm hR hF
  go_wp2_with fail
  go_loopw [3, 4] (fun o i wr => ∃ (k : Nat) (xs : List Int) (A : Option Addr) (c q : Nat), i = .int .i64 k ∧ o = .slice A xs.length c ∧ k + xs.length ≤ 2 ∧ IntsO wr w.heap.size (.slice A xs.length c) xs ∧ Rdr wr g q ∧ q + k ≤ p + 3 ∧ Hid (Fr g w wr)) (fun _ i _ => (intOf i).toNat)
  case atStart => exact ⟨k0, [], _, _, p + 1, rfl, rfl, by simpa using hk2, o0, HR1.out, by omega, HF1⟩
  case round =>
    clear o0 HF1 HR1 hk2
    obtain ⟨k, xs, A, c, q, rfl, rfl, hkx, hO, hR, hq, HF⟩ := hrel
    have HO := Lib.hid hO
    have HRR := Lib.hid hR
    have hsz := HF.out.size
    clear hO hR
    by_cases hk : 0 < k
    · have hki : (0 : Int) < (k : Int) := by omega
      go_wp2_with fail
      refine (c_numL g q [5, 6, 1, 8, 9, -1] _ _ _ _ (HRR.out.below bel) (by omega) blks (by rfl) (by first | omega | (simp; omega)) (by rfl) (by decide) (by decide)).mono ?_
      rintro e w2 ⟨x, -, rfl, hR, hF⟩
      have hF2 := HF.out.alloc (.cells #[.int .i64 5, .int .i64 6, .int .i64 1, .int .i64 8, .int .i64 9, .int .i64 (-1)] tI) |>.trans hF
      have HO2 := Lib.hid ((HO.out.below (bbox (Below.refl _ _) (.cells #[.int .i64 5, .int .i64 6, .int .i64 1, .int .i64 8, .int .i64 9, .int .i64 (-1)] tI))).fr hF hlt)
      have HF2 := Lib.hid hF2
      have HR2 := Lib.hid hR
      have hsz2 := hF2.size
      clear hR hF hF2
      go_wp2_with (at_builtin; refine appIL (ys := [x]) (base := w.heap.size) rfl _ _ rfl rfl (HO2.out.below bel) rfl (IntsV.lit (Blk.newE rfl) rfl (by simp)) (by simp; omega) (by simp; omega) ?_; intro A' c' w3 o3 hg3 hB3)
      have hF3 : Fr g w w3 := (HF2.out.alloc _).goB hB3 (Nat.le_refl _)
      have hR3 : Rdr w3 g (q + 1) := (HR2.out.below (bbox (Below.refl _ _) _)).belowB hB3 hlt
      go_round
      case rel => exact ⟨k - 1, xs ++ [x], A', c', q + 1, by go_num, by simp, by simp; omega, by simpa using o3, hR3, by omega, hF3⟩
      case measure => simp [intOf]; omega
    · obtain rfl : k = 0 := by omega
      go_wp2_with fail
      go_ret
      exact ⟨_, xs, q, rfl, HO.out, by omega, HRR.out, by omega, HF.out⟩

--@ spec.l3Draw
theorem num_pos (L : List Int) (h : ∀ m ∈ L, isTermB m = true) {x : Int} (hx : x ∈ L) : isTermB x = true := h x hx
end Go.Proofs.Ytlmjjflalmegfaa

/- What the reader draws: copies that are changed. -/
namespace Go.Proofs.Ytlmjjflalmegfaa
open Go Go.RowKit Go.Proofs

--@ spec.l3Copy
set_option maxRecDepth 100000 in
set_option maxHeartbeats 1600000 in
theorem c_l3Copy {lo hi : Nat} (v : Value) (a : Asn) (w : World) (h : AsnV w lo hi v a) :
    Calls Try.prog 88 #[v] w fun e w' => ∃ r, e = .returned r ∧ AsnO w' w.heap.size r a ∧ Below w.heap.size w w' := by
  have hV := Lib.hid h
  obtain ⟨A1, c1, A2, c2, rfl, h1, h2⟩ := h
  have HL := Lib.hid (And.intro h1.le h2.le)
  clear h1 h2
  have e0 : Hid (starA a ⟨[], []⟩ = a) := by show _ = _; simp [starA]
  go_enter Try.func88, Try.ntmps88
  have kr : Blk ((w.alloc (.cells #[.slice A1 a.facts.length c1, .slice A2 a.atoms.length c2] 34)).alloc (.cells #[.slice none 0 0, .slice none 0 0] 34)) (w.heap.size + 1) 34 #[.slice none 0 0, .slice none 0 0] := blks
  go_wp2_with fail
  refine (c_spec_l3Star _ _ a ⟨[], []⟩ _ (hV.out.below bel) (⟨none, 0, none, 0, rfl, Rd.nil _ 0 0 _ _, Rd.nil _ 0 0 _ _⟩) (by simpa using HL.out.1) (by simpa using HL.out.2)).mono ?_
  rintro e w1 ⟨r, rfl, o, hB1⟩
  have hB := bgo (w := w) bel hB1
  replace kr := kr.next hB1
  rw [e0.out] at o
  replace o := o.lower (base' := w.heap.size) (by simp; omega)
  obtain ⟨fv, av, rfl, o1, o2⟩ := o
  obtain ⟨F, e1, rfl, -⟩ := o1.reads
  obtain ⟨G, e2, rfl, -⟩ := o2.reads
  have O1 := Lib.hid o1
  have O2 := Lib.hid o2
  (replace qkr := kr.cell; replace rkr := kr.frozen; replace lkr := kr.lt)
  clear o1 o2 hB1
  go_wp2_with fail
  refine bodyPost_ret (v := .agg #[.slice F a.facts.length e1, .slice G a.atoms.length e2]) (by simp [results, Try.results88, go_sem, qkr]) rfl ⟨_, rfl, ⟨_, _, rfl, ?_, ?_⟩, bel⟩
  · exact (O1.out.setT kr (by decide) 0 _).setT (kr.set_ 0 _) (by decide) 1 _
  · exact (O2.out.setT kr (by decide) 0 _).setT (kr.set_ 0 _) (by decide) 1 _

--@ spec.l1Mutate
set_option maxRecDepth 100000 in
set_option maxHeartbeats 3200000 in
theorem c_l1Mutate {lo hi : Nat} (g p : Nat) (A : Option Addr) (c : Nat) (fs : List Fct) (w : World) (h : Rdr w g p) (hp : p ≤ 999990) (hf : FactsV w lo hi A fs) (hl : fs.length ≤ 1000) :
    Calls Try.prog 90 #[.pointer (some ⟨g, 0, none⟩), .slice A fs.length c] w fun e w' => ∃ r fs' q, e = .returned r ∧ FactsO w' w.heap.size r fs' ∧ fs'.length ≤ fs.length + 13 ∧ Rdr w' g q ∧ q ≤ p + 2 ∧ Fr g w w' := by
  have H := Lib.hid h
  have HF := Lib.hid hf
  have hlt := h.lt
  have hli : (fs.length : Int) ≤ 1000 := by omega
  clear h hf
  go_enter Try.func90, Try.ntmps90
  go_wp2_with (at_builtin; refine appFL (xs := []) (ys := fs) rfl _ _ rfl (v := .slice (some ⟨w.heap.size, 0, none⟩) 0 0) rfl (FactsO.empty w) rfl (HF.out.below bel) (by simp; omega) (by simp) ?_; intro A1 d1 w1 o1 hg1 hB1; simp only [List.nil_append] at o1 ⊢)
  have HF1 : Hid (Fr g w w1) := ((Fr.refl g w).alloc _).goB hB1 (Nat.le_refl _)
  have HR1 : Hid (Rdr w1 g p) := (H.out.below (bbox (Below.refl _ _) _)).belowB hB1 hlt
  have HO1 := Lib.hid o1
  clear o1 hg1 hB1
  refine (c_pick g p 40 _ HR1.out (by omega)).mono ?_
  rintro e w2 ⟨m, rfl, -, hR, hF⟩
  have HF2 := Lib.hid (HF1.out.trans hF)
  have HR2 := Lib.hid hR
  have HO2 := Lib.hid (HO1.out.fr hF hlt)
  have hsz2 := HF2.out.size
  clear hR hF HF1 HR1 HO1
  by_cases hm0 : (m : Int) = 0
  · have e0 : ((m : Int) == 0) = true := by simpa using hm0
    clear hm0
    go_wp2_with fail
    refine (c_numL g (p + 1) [-1, 9, 9223372036854775807] _ _ _ _ (HR2.out.below bel) (by omega) blks (by rfl) (by first | omega | (simp; omega)) (by rfl) (by decide) (by decide)).mono ?_
    rintro e w3 ⟨x, -, rfl, hR, hF⟩
    have HF3 := Lib.hid ((HF2.out.alloc _).trans hF)
    have HR3 := Lib.hid hR
    have HO3 := Lib.hid ((HO2.out.below (bbox (Below.refl _ _) (.cells #[.int .i64 (-1), .int .i64 9, .int .i64 9223372036854775807] tI))).fr hF hlt)
    have hsz3 := HF3.out.size
    clear hR hF
    go_wp2_with (at_builtin; refine appFL (ys := [⟨false, x, 0⟩]) (base := w.heap.size) rfl _ _ rfl rfl (HO3.out.below bel) rfl (FactsV.oneB (Blk.newE rfl)) (by simp; omega) (by simp; omega) ?_; intro A4 d4 w4 o4 hg4 hB4; rw [List.length_append, List.length_singleton] at o4 ⊢)
    have hF4 : Fr g w w4 := (HF3.out.alloc _).goB hB4 (Nat.le_refl _)
    have hR4 : Rdr w4 g (p + 1 + 1) := (HR3.out.below (bbox (Below.refl _ _) _)).belowB hB4 hlt
    have HH := Lib.hid (And.intro hF4 (And.intro hR4 o4))
    clear hF4 hR4 o4 hg4 hB4
    go_ret
    exact ⟨.slice A4 (fs.length + 1) d4, fs ++ [⟨false, x, 0⟩], p + 1 + 1, rfl, HH.out.2.2, by simp, HH.out.2.1, by omega, HH.out.1⟩
  · have e0 : ((m : Int) == 0) = false := by simpa using hm0
    clear hm0
    by_cases hm1 : (m : Int) = 1
    · have e1 : ((m : Int) == 1) = true := by simpa using hm1
      clear hm1
      go_wp2_with fail
      go_loopw [5] (fun o wx => ∃ (xs : List Fct) (B : Option Addr) (d : Nat), o = .slice B xs.length d ∧ (xs.length ≤ 13 ∨ xs.length ≤ fs.length) ∧ FactsO wx w.heap.size (.slice B xs.length d) xs ∧ Hid (Rdr wx g (p + 1)) ∧ Hid (Fr g w wx)) (fun o _ => 13 - (match o with | .slice _ n _ => n | _ => 0))
      case atStart => exact ⟨fs, A1, d1, rfl, Or.inr (Nat.le_refl _), HO2.out, HR2.out, HF2.out⟩
      case round =>
        clear HF2 HR2 HO2 hsz2
        obtain ⟨xs, B, d, rfl, hx, hO, HR, HF⟩ := hrel
        have HO := Lib.hid hO
        have hsz := HF.out.size
        have HX := Lib.hid hx
        clear hO hx
        by_cases hle : xs.length ≤ 12
        · have hlei : (xs.length : Int) ≤ 12 := by omega
          go_wp2_with (at_builtin; refine appFL (ys := [⟨true, 1, 2⟩]) (base := w.heap.size) rfl _ _ rfl rfl (HO.out.below bel) rfl (FactsV.oneB (Blk.newE rfl)) (by simp; omega) (by simp; omega) ?_; intro A4 d4 w4 o4 hg4 hB4; rw [List.length_append, List.length_singleton] at o4 ⊢)
          have hF4 : Fr g w w4 := (HF.out.alloc _).goB hB4 (Nat.le_refl _)
          have hR4 : Rdr w4 g (p + 1) := (HR.out.below (bbox (Below.refl _ _) _)).belowB hB4 hlt
          go_round
          case rel => exact ⟨xs ++ [⟨true, 1, 2⟩], A4, d4, by simp, Or.inl (by simp; omega), by simpa using o4, hR4, hF4⟩
          case measure => simp; omega
        · have hlei : ¬ (xs.length : Int) ≤ 12 := by omega
          go_wp2_with fail
          go_ret
          exact ⟨.slice B xs.length d, rfl, xs, HO.out, by have := HX.out; omega, p + 1, HR.out, by omega, HF.out⟩
    · have e1 : ((m : Int) == 1) = false := by simpa using hm1
      clear hm1
      go_wp2_with fail
      go_ret
      exact ⟨_, fs, p + 1, rfl, HO2.out, by omega, HR2.out, by omega, HF2.out⟩
end Go.Proofs.Ytlmjjflalmegfaa
