/- Words for memory: slices that read as lists of cells, whole blocks, prefixes. Plain lemmas; no program. -/
import Derived.WalkKit
import Derived.Lib.Hide
import Derived.BigQuiet
import Derived.Deep.QuietTactic
import Derived.Deep.AppendLies
import Derived.Deep.Draws
import Derived.OwnWalk
import Derived.StillTailTactics
set_option linter.unusedSimpArgs false
set_option linter.unusedVariables false
namespace Go.Proofs.Ytcgifoghggajgaa
open Go Go.RowKit

/-- the longest list that any call here meets -/
abbrev Lim (n : Nat) : Prop := n ≤ 1049600

theorem ret_bool {a b : Bool} (h : a = b) : Ending.returned (.bool a) = .returned (.bool b) := by rw [h]
theorem ret_int {k : IntKind} {a b : Int} (h : a = b) : Ending.returned (.int k a) = .returned (.int k b) := by rw [h]

/-- a slice value with address A and n elements of size cells reads as the cells xs; its block lies in [lo, hi) -/
def Rw (w : World) (lo hi size : Nat) (A : Option Addr) (n : Nat) (xs : List Value) : Prop :=
  xs.length = n * size ∧ (0 < n * size → ∃ b o, A = some ⟨b, o, none⟩ ∧ lo ≤ b ∧ b < hi ∧ ∀ j u, xs[j]? = some u → w.cell? ⟨b, o + j, none⟩ = some u)

/-- as Rw, with a bound on the length -/
structure Rd (w : World) (lo hi size : Nat) (A : Option Addr) (n : Nat) (xs : List Value) : Prop where
  raw : Rw w lo hi size A n xs
  lim : Lim n

section
variable {w w' : World} {lo hi lo' hi' size n : Nat} {A : Option Addr} {xs : List Value}
theorem Rw.keep (h : Rw w lo hi size A n xs) (hk : ∀ b, lo ≤ b → b < hi → w'.heap[b]? = w.heap[b]?) : Rw w' lo hi size A n xs :=
  ⟨h.1, fun hn => by
    obtain ⟨b, o, e, h1, h2, hc⟩ := h.2 hn
    exact ⟨b, o, e, h1, h2, fun j u hu => (World.cell?_of_block (a := ⟨b, o + j, none⟩) (hk b h1 h2)).trans (hc j u hu)⟩⟩
theorem Rw.mono (h : Rw w lo hi size A n xs) (h1 : lo' ≤ lo) (h2 : hi ≤ hi') : Rw w lo' hi' size A n xs :=
  ⟨h.1, fun hn => by
    obtain ⟨b, o, e, g1, g2, hc⟩ := h.2 hn
    exact ⟨b, o, e, by omega, by omega, hc⟩⟩
theorem Rd.keep (h : Rd w lo hi size A n xs) (hk : ∀ b, lo ≤ b → b < hi → w'.heap[b]? = w.heap[b]?) : Rd w' lo hi size A n xs := ⟨h.raw.keep hk, h.lim⟩
theorem Rd.mono (h : Rd w lo hi size A n xs) (h1 : lo' ≤ lo) (h2 : hi ≤ hi') : Rd w lo' hi' size A n xs := ⟨h.raw.mono h1 h2, h.lim⟩
theorem Rd.le (h : Rd w lo hi size A n xs) : n ≤ 1049600 := h.lim
theorem Rd.nil (w : World) (lo hi size : Nat) (A : Option Addr) : Rd w lo hi size A 0 [] := ⟨⟨by simp, fun h => absurd h (by omega)⟩, by simp [Lim]⟩
/-- cells of element k, element of one cell -/
theorem Rw.at1 (h : Rw w lo hi 1 A n xs) {k : Nat} (hk : k < n) : ∃ b o u, A = some ⟨b, o, none⟩ ∧ lo ≤ b ∧ b < hi ∧ xs[k]? = some u ∧ w.cell? ⟨b, o + k, none⟩ = some u := by
  obtain ⟨b, o, e, h1, h2, hc⟩ := h.2 (by omega)
  have hl : k < xs.length := by have := h.1; omega
  exact ⟨b, o, xs[k], e, h1, h2, List.getElem?_eq_getElem hl, hc k _ (List.getElem?_eq_getElem hl)⟩
theorem Rw.form (h : Rw w lo hi size A n xs) (hn : 0 < n * size) : ∃ b o, A = some ⟨b, o, none⟩ ∧ lo ≤ b ∧ b < hi ∧ ∀ j u, xs[j]? = some u → w.cell? ⟨b, o + j, none⟩ = some u := h.2 hn
end

/-- block g is just the cells cs of element type t, none frozen -/
def Blk (w : World) (g : Nat) (t : TypeId) (cs : Array Value) : Prop := w.heap[g]? = some (.cells cs t (0, 0))
section
variable {w w' : World} {g : Nat} {t : TypeId} {cs : Array Value}
theorem Blk.lt (h : Blk w g t cs) : g < w.heap.size := by
  rcases Nat.lt_or_ge g w.heap.size with hlt | hge
  · exact hlt
  · unfold Blk at h; rw [Array.getElem?_eq_none hge] at h; cases h
theorem Blk.cell (h : Blk w g t cs) (i : Nat) : w.cell? ⟨g, i, none⟩ = cs[i]? := cell_of_row w g i cs t (0, 0) h
theorem Blk.frozen (h : Blk w g t cs) (i : Nat) : w.frozen? ⟨g, i, none⟩ = false := by
  unfold Blk at h
  simp [World.frozen?, h]
theorem Blk.new (w : World) (t : TypeId) (cs : Array Value) : Blk (w.alloc (.cells cs t)) w.heap.size t cs := heap_alloc_new w _
theorem Blk.newE {w : World} {g : Nat} {t : TypeId} {cs : Array Value} (hg : g = w.heap.size) : Blk (w.alloc (.cells cs t)) g t cs := by subst hg; exact Blk.new w t cs
theorem Blk.drew (h : Blk w g t cs) : Blk w.drew g t cs := h
theorem Blk.drewN (h : Blk w g t cs) (n : Nat) : Blk (w.drewN n) g t cs := h
theorem Blk.alloc (h : Blk w g t cs) (o : Obj) : Blk (w.alloc o) g t cs := (Below.heap_alloc w o g h.lt).trans h
theorem Blk.set_ (h : Blk w g t cs) (i : Nat) (u : Value) : Blk (w.setCell ⟨g, i, none⟩ u) g t (cs.setIfInBounds i u) := by
  unfold Blk at h ⊢
  simp [World.setCell, Array.getElem?_modify, h]
theorem Blk.far (h : Blk w g t cs) {p : Addr} (hp : g ≠ p.block) (u : Value) : Blk (w.setCell p u) g t cs := (Below.heap_setCell w p u g hp).trans h
theorem Blk.below {B : Nat} (h : Blk w g t cs) (hb : Below B w w') (hg : g < B) : Blk w' g t cs := (hb.block g hg).trans h
theorem Blk.grown {row : Option Nat} (h : Blk w g t cs) (hb : w.grownBy w' row) (hg : some g ≠ row) : Blk w' g t cs := (hb.block g h.lt hg).trans h
/-- two blocks of different element types differ -/
theorem Blk.ne_ {g2 : Nat} {t2 : TypeId} {cs2 : Array Value} (h : Blk w g t cs) (h2 : Blk w g2 t2 cs2) (ht : t ≠ t2) : g ≠ g2 := by
  rintro rfl
  unfold Blk at h h2
  rw [h] at h2
  injection h2 with h2
  injection h2 with _ h3
  exact ht h3
end

/-- the first m cells of cs are those of L -/
def Pre (cs : Array Value) (L : List Value) (m : Nat) : Prop := ∀ j, j < m → cs[j]? = L[j]?
theorem Pre.zero (cs : Array Value) (L : List Value) : Pre cs L 0 := fun j h => absurd h (by omega)
theorem Pre.set1 {cs : Array Value} {L : List Value} {k : Nat} {u : Value} (h : Pre cs L k) (hs : k < cs.size) (h0 : L[k]? = some u) : Pre (cs.setIfInBounds k u) L (k + 1) := by
  intro j hj
  by_cases e : j = k
  · subst e; rw [Array.getElem?_setIfInBounds_self, if_pos hs, h0]
  · rw [Array.getElem?_setIfInBounds_ne (by omega)]; exact h j (by omega)
theorem Pre.set3 {cs : Array Value} {L : List Value} {k : Nat} {u0 u1 u2 : Value} (h : Pre cs L (k * 3)) (hs : k * 3 + 2 < cs.size) (h0 : L[k*3]? = some u0) (h1 : L[k*3+1]? = some u1) (h2 : L[k*3+2]? = some u2) :
    Pre (((cs.setIfInBounds (k*3) u0).setIfInBounds (k*3+1) u1).setIfInBounds (k*3+2) u2) L ((k + 1) * 3) := by
  rw [show (k + 1) * 3 = k * 3 + 1 + 1 + 1 from by omega]
  exact ((h.set1 (by omega) h0).set1 (by simp; omega) h1).set1 (by simp; omega) h2
theorem Pre.take {cs : Array Value} {L : List Value} (h : Pre cs L L.length) : cs.toList.take L.length = L := by
  apply List.ext_getElem?
  intro j
  rw [List.getElem?_take]
  by_cases hj : j < L.length
  · rw [if_pos hj]; simpa using h j hj
  · rw [if_neg hj]; simp; omega
/-- a known block, its first cells those of L, is an owned row -/
theorem own_of_blk {w : World} {g base n size cap : Nat} {t : TypeId} {cs : Array Value} {L : List Value} (h : Blk w g t cs) (hb : base ≤ g) (hL : L.length = n * size) (hp : Pre cs L (n * size)) (hnc : n ≤ cap) (hc : cap ≤ maxLen) (hs : cs.size = cap * size) :
    w.ownsRow base t size (.slice (some ⟨g, 0, none⟩) n cap) n L := by
  refine ⟨hL, .inr ⟨g, cap, cs, rfl, hb, h, hnc, hc, hs, ?_⟩⟩
  rw [← hL] at hp ⊢
  exact hp.take

/-- what a slice of our own reads as -/
theorem own_reads {w : World} {base : Nat} {e : TypeId} {size : Nat} {v : Value} {n : Nat} {xs : List Value} (h : w.ownsRow base e size v n xs) (hl : Lim n) : ∃ A c, v = .slice A n c ∧ Rd w base w.heap.size size A n xs := by
  obtain ⟨h1, h2⟩ := h
  rcases h2 with ⟨rfl, rfl⟩ | ⟨g, cap, cur, rfl, hb, hg, hn, hm, hs, ht⟩
  · exact ⟨none, 0, rfl, ⟨⟨h1, fun hn => absurd hn (by omega)⟩, hl⟩⟩
  · refine ⟨_, _, rfl, ⟨⟨h1, fun hn0 => ⟨g, 0, rfl, hb, Blk.lt hg, fun j u hu => ?_⟩⟩, hl⟩⟩
    rw [Nat.zero_add, cell_of_row w g j cur e (0, 0) hg]
    rw [← ht, List.getElem?_take] at hu
    split at hu
    · simpa using hu
    · cases hu
theorem own_below {w w' : World} {base : Nat} {e : TypeId} {size : Nat} {v : Value} {n : Nat} {xs : List Value} (h : w.ownsRow base e size v n xs) (hb : Below w.heap.size w w') : w'.ownsRow base e size v n xs := by
  obtain ⟨h1, h2⟩ := h
  refine ⟨h1, ?_⟩
  rcases h2 with h2 | ⟨g, cap, cur, hv, hg, hh, r⟩
  · exact Or.inl h2
  · exact Or.inr ⟨g, cap, cur, hv, hg, (hb.block g (Blk.lt hh)).trans hh, r⟩
theorem own_lower {w : World} {base base' : Nat} {e : TypeId} {size : Nat} {v : Value} {n : Nat} {xs : List Value} (h : w.ownsRow base e size v n xs) (hb : base' ≤ base) : w.ownsRow base' e size v n xs := by
  obtain ⟨h1, h2⟩ := h
  refine ⟨h1, ?_⟩
  rcases h2 with h2 | ⟨g, cap, cur, hv, hg, r⟩
  · exact Or.inl h2
  · exact Or.inr ⟨g, cap, cur, hv, by omega, r⟩

theorem below_drewN {B : Nat} {a w : World} (h : Below B a w) (n : Nat) : Below B a (w.drewN n) := ⟨h.os, h.tape, h.output, h.size, h.block⟩
theorem btoB {w w' : World} {B : Nat} (h : Below w.heap.size w w') (hB : B ≤ w.heap.size) : Below B w w' := h.mono hB
/-- a world behind another: all that lay there lies as it lay -/
theorem bgo {w a b : World} (h : Below w.heap.size w a) (h2 : Below a.heap.size a b) : Below w.heap.size w b := h.trans (h2.mono h.size)
theorem bbox {w a : World} (h : Below w.heap.size w a) (o : Obj) : Below w.heap.size w (a.alloc o) := h.alloc h.size o
theorem Rw.below {w w' : World} {lo hi size n : Nat} {A : Option Addr} {xs : List Value} (h : Rw w lo hi size A n xs) (hb : Below w.heap.size w w') : Rw w' lo hi size A n xs :=
  ⟨h.1, fun hn => by
    obtain ⟨b, o, e, h1, h2, hc⟩ := h.2 hn
    have h0 := h.1
    have hx : xs[0]? = some (xs[0]'(by omega)) := List.getElem?_eq_getElem (by omega)
    have hlt : b < w.heap.size := block_lt_of_cell (hc 0 _ hx)
    exact ⟨b, o, e, h1, h2, fun j u hu => (World.cell?_of_block (a := ⟨b, o + j, none⟩) (hb.block b hlt)).trans (hc j u hu)⟩⟩
theorem Rd.below {w w' : World} {lo hi size n : Nat} {A : Option Addr} {xs : List Value} (h : Rd w lo hi size A n xs) (hb : Below w.heap.size w w') : Rd w' lo hi size A n xs := ⟨h.raw.below hb, h.lim⟩
theorem Rd.setb {w : World} {lo hi size n : Nat} {A : Option Addr} {xs : List Value} (h : Rd w lo hi size A n xs) {p : Addr} (hp : p.block < lo ∨ hi ≤ p.block) (u : Value) : Rd (w.setCell p u) lo hi size A n xs :=
  h.keep fun b h1 h2 => Below.heap_setCell w p u b (by omega)
theorem Blk.next {w w' : World} {g : Nat} {t : TypeId} {cs : Array Value} (h : Blk w g t cs) (hb : Below w.heap.size w w') : Blk w' g t cs := h.below hb h.lt
/-- what lies from lo on lies as it lay -/
structure Abv (lo : Nat) (w w' : World) : Prop where
  size : w.heap.size ≤ w'.heap.size
  block : ∀ k, lo ≤ k → k < w.heap.size → w'.heap[k]? = w.heap[k]?
theorem Abv.refl (lo : Nat) (w : World) : Abv lo w w := ⟨Nat.le_refl _, fun _ _ _ => rfl⟩
theorem Abv.trans {lo : Nat} {a b c : World} (h : Abv lo a b) (k : Abv lo b c) : Abv lo a c :=
  ⟨Nat.le_trans h.size k.size, fun i h1 h2 => (k.block i h1 (Nat.lt_of_lt_of_le h2 h.size)).trans (h.block i h1 h2)⟩
theorem Abv.setCell {lo : Nat} {a b : World} (h : Abv lo a b) {p : Addr} (hp : p.block < lo) (u : Value) : Abv lo a (b.setCell p u) :=
  h.trans ⟨by simp, fun k h1 _ => Below.heap_setCell b p u k (by omega)⟩
theorem Abv.alloc {lo : Nat} {a b : World} (h : Abv lo a b) (o : Obj) : Abv lo a (b.alloc o) :=
  h.trans ⟨by simp, fun k _ h2 => Below.heap_alloc b o k h2⟩
theorem Abv.next {lo : Nat} {a b c : World} (h : Abv lo a b) (hb : Below b.heap.size b c) : Abv lo a c :=
  h.trans ⟨hb.size, fun k _ h2 => hb.block k h2⟩
theorem Rw.abv {w w' : World} {lo hi lo' size n : Nat} {A : Option Addr} {xs : List Value} (h : Rw w lo hi size A n xs) (hb : Abv lo' w w') (hl : lo' ≤ lo) : Rw w' lo hi size A n xs :=
  ⟨h.1, fun hn => by
    obtain ⟨b, o, e, h1, h2, hc⟩ := h.2 hn
    have h0 := h.1
    have hx : xs[0]? = some (xs[0]'(by omega)) := List.getElem?_eq_getElem (by omega)
    have hlt : b < w.heap.size := block_lt_of_cell (hc 0 _ hx)
    exact ⟨b, o, e, h1, h2, fun j u hu => (World.cell?_of_block (a := ⟨b, o + j, none⟩) (hb.block b (by omega) hlt)).trans (hc j u hu)⟩⟩
theorem Rd.abv {w w' : World} {lo hi lo' size n : Nat} {A : Option Addr} {xs : List Value} (h : Rd w lo hi size A n xs) (hb : Abv lo' w w') (hl : lo' ≤ lo) : Rd w' lo hi size A n xs := ⟨h.raw.abv hb hl, h.lim⟩
theorem own_abv {w w' : World} {base lo : Nat} {e : TypeId} {size : Nat} {v : Value} {n : Nat} {xs : List Value} (h : w.ownsRow base e size v n xs) (hb : Abv lo w w') (hl : lo ≤ base) : w'.ownsRow base e size v n xs := by
  obtain ⟨h1, h2⟩ := h
  refine ⟨h1, ?_⟩
  rcases h2 with h2 | ⟨g, cap, cur, hv, hg, hh, r⟩
  · exact Or.inl h2
  · exact Or.inr ⟨g, cap, cur, hv, hg, (hb.block g (by omega) (Blk.lt hh)).trans hh, r⟩
/-- old cells and old marks read as before -/
theorem bcell {W w1 : World} (hb : Below W.heap.size W w1) : (∀ b o, b < W.heap.size → w1.cell? ⟨b, o, none⟩ = W.cell? ⟨b, o, none⟩) ∧ (∀ b o, b < W.heap.size → w1.frozen? ⟨b, o, none⟩ = W.frozen? ⟨b, o, none⟩) :=
  ⟨fun b o h => hb.cell (p := ⟨b, o, none⟩) h, fun b o h => hb.frozen (p := ⟨b, o, none⟩) h⟩
/-- found by a tactic where it is used -/
theorem bel {B : Nat} {a w : World} (h : Below B a w := by repeat (first | (with_reducible exact Below.refl _ _) | (with_reducible assumption) | (with_reducible apply bbox) | ((with_reducible apply Below.setCell); (case hp => (first | exact Nat.le_refl _ | (simp; done) | (simp; omega) | (simp only; omega) | omega))) | (with_reducible apply Below.drew) | (with_reducible apply below_drewN))) : Below B a w := h
theorem abv_ {lo : Nat} {a w : World} (h : Abv lo a w := by repeat (first | (with_reducible exact Abv.refl _ _) | ((with_reducible apply Abv.setCell); (case hp => (first | exact Nat.le_refl _ | (simp; done) | (simp; omega) | (simp only; omega) | omega))) | (with_reducible apply Abv.alloc))) : Abv lo a w := h
theorem blks {w : World} {g : Nat} {t : TypeId} {cs : Array Value} (h : Blk w g t cs := by repeat (first | (with_reducible assumption) | (with_reducible exact Blk.new _ _ _) | ((with_reducible apply Blk.far); (case hp => (first | exact Nat.le_refl _ | (simp; done) | (simp; omega) | (simp only; omega) | omega))) | (with_reducible apply Blk.set_) | ((with_reducible refine Blk.newE ?_); (simp; done)) | (with_reducible apply Blk.alloc) | (with_reducible apply Blk.drew) | (with_reducible apply Blk.drewN))) : Blk w g t cs := h
end Go.Proofs.Ytcgifoghggajgaa
