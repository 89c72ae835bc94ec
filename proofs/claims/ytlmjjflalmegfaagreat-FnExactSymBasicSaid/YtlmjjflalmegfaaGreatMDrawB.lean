/- The reader that draws: words, and its own functions. -/
import Derived.Test.YtlmjjflalmegfaaGreatMDefS
import Derived.Deep.QuietTactic
import Derived.Test.YtlmjjflalmegfaaGreatMSte
import Derived.Test.YtlmjjflalmegfaaGreatMIntSS
set_option linter.unusedSimpArgs false
set_option linter.unusedVariables false
namespace Go.Proofs.YtlmjjflalmegfaaGreat
open Go Go.RowKit Go.Proofs

/-- all blocks that were lie as they lay, but for g -/
structure Fr (g : Nat) (w w' : World) : Prop where
  os : w'.os = w.os
  tape : w'.tape = w.tape
  output : w'.output = w.output
  size : w.heap.size ≤ w'.heap.size
  block : ∀ k, k < w.heap.size → k ≠ g → w'.heap[k]? = w.heap[k]?
section
variable {g : Nat} {w a b c : World}
theorem Fr.refl (g : Nat) (w : World) : Fr g w w := ⟨rfl, rfl, rfl, Nat.le_refl _, fun _ _ _ => rfl⟩
theorem Fr.trans (h : Fr g a b) (k : Fr g b c) : Fr g a c :=
  ⟨k.os.trans h.os, k.tape.trans h.tape, k.output.trans h.output, Nat.le_trans h.size k.size, fun i h1 h2 => (k.block i (Nat.lt_of_lt_of_le h1 h.size) h2).trans (h.block i h1 h2)⟩
theorem Fr.ofBelow (h : Below a.heap.size a b) : Fr g a b := ⟨h.os, h.tape, h.output, h.size, fun k h1 _ => h.block k h1⟩
theorem Fr.go (h : Fr g a b) (k : Below b.heap.size b c) : Fr g a c := h.trans (.ofBelow k)
theorem Fr.alloc (h : Fr g a b) (o : Obj) : Fr g a (b.alloc o) := h.go (bbox (Below.refl _ _) o)
theorem Fr.drew (h : Fr g a b) : Fr g a b.drew := h.go (Below.refl _ _).drew
theorem Fr.set_ (h : Fr g a b) {p : Addr} (hp : p.block = g ∨ a.heap.size ≤ p.block) (u : Value) : Fr g a (b.setCell p u) :=
  ⟨h.os, h.tape, h.output, by have := h.size; simp; exact this, fun k h1 h2 => (Below.heap_setCell b p u k (by rcases hp with e | e <;> omega)).trans (h.block k h1 h2)⟩
theorem Fr.below {B : Nat} (h : Fr g a b) (hg : B ≤ g) (hB : B ≤ a.heap.size) : Below B a b := ⟨h.os, h.tape, h.output, h.size, fun k hk => h.block k (by omega) (by omega)⟩
variable {base : Nat} {v : Value}
end

--@ spec.l18Open
abbrev tR : Nat := 156
def encU (bs : List Nat) : List Value := bs.map fun b : Nat => .int .u8 (b : Int)
/-- block g is a reader behind p picks; its bytes lie below it -/
def Rdr (w : World) (g p : Nat) : Prop := ∃ A c bs, Blk w g tR #[.slice A bs.length c, .int .i64 (p : Int)] ∧ Rw w 0 g 1 A bs.length (encU bs) ∧ (∀ b ∈ bs, b < 256) ∧ bs.length ≤ 2000
theorem Rdr.lt {w : World} {g p : Nat} (h : Rdr w g p) : g < w.heap.size := by obtain ⟨_, _, _, h, -⟩ := h; exact h.lt
theorem Rdr.below {w w' : World} {g p : Nat} (h : Rdr w g p) (hb : Below w.heap.size w w') : Rdr w' g p := by
  obtain ⟨A, c, bs, h1, h2, h3⟩ := h
  exact ⟨A, c, bs, h1.next hb, h2.below hb, h3⟩
theorem Rdr.set_ {w : World} {g p : Nat} (h : Rdr w g p) {q : Addr} (hq : g < q.block) (u : Value) : Rdr (w.setCell q u) g p := by
  obtain ⟨A, c, bs, h1, h2, h3⟩ := h
  exact ⟨A, c, bs, h1.far (by omega) u, h2.keep fun b _ hb => Below.heap_setCell w q u b (by omega), h3⟩

--@ (*spec.l18Rd).pick
end Go.Proofs.YtlmjjflalmegfaaGreat

/- What the reader draws: numbers, terms, facts, atoms, lists of terms. -/
namespace Go.Proofs.YtlmjjflalmegfaaGreat
open Go Go.RowKit Go.Proofs


end Go.Proofs.YtlmjjflalmegfaaGreat

/- What the reader draws: assertions. -/
namespace Go.Proofs.YtlmjjflalmegfaaGreat
open Go Go.RowKit Go.Proofs

end Go.Proofs.YtlmjjflalmegfaaGreat
