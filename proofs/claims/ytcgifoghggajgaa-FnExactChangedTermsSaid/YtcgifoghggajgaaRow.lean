/- Rows that a call changes in place; marks that are held; replaced terms (impl). -/
import Derived.Test.YtcgifoghggajgaaJoin
import Derived.Test.YtcgifoghggajgaaSet
import Derived.Test.YtcgifoghggajgaaArgS
import Derived.Deep.RegionHeld3
import Derived.Deep.DrawnRows
set_option linter.unusedSimpArgs false
set_option linter.unusedVariables false
namespace Go.Proofs.Ytcgifoghggajgaa
open Go Go.RowKit Go.Proofs
attribute [local go_sem ↓] Go.wp_at_zero Go.wp_at_succ

theorem set_same {α : Type} {L : List α} {i : Nat} {x : α} (h : L[i]? = some x) : L.set i x = L := by
  apply List.ext_getElem?
  intro k
  rw [List.getElem?_set]
  split
  · rename_i e; subst e
    split
    · exact h.symm
    · rename_i hn; rw [List.getElem?_eq_none (by omega)] at h; cases h
  · rfl
theorem flat3_set {α : Type} (f0 f1 f2 : α → Value) : ∀ (L : List α) (j : Nat) (x : α), j < L.length → ((L.set j x).flatMap fun x => [f0 x, f1 x, f2 x]) = (((L.flatMap fun x => [f0 x, f1 x, f2 x]).set (j*3) (f0 x)).set (j*3+1) (f1 x)).set (j*3+2) (f2 x) := by
  intro L
  induction L with
  | nil => intro j x h; simp at h
  | cons g L ih =>
    intro j x h
    cases j with
    | zero => simp
    | succ j =>
      have e := ih j x (by simpa using h)
      rw [List.set_cons_succ, List.flatMap_cons, e, List.flatMap_cons, show (j+1)*3 = j*3+1+1+1 from by omega, show j*3+1+1+1+1 = (j*3+1)+1+1+1 from by omega, show j*3+1+1+1+2 = (j*3+2)+1+1+1 from by omega]
      simp only [List.cons_append, List.nil_append, List.set_cons_succ]
theorem Pre.setL {cs : Array Value} {L : List Value} {m : Nat} (h : Pre cs L m) (i : Nat) (u : Value) (hs : m ≤ cs.size) (hl : m ≤ L.length) : Pre (cs.setIfInBounds i u) (L.set i u) m := by
  intro j hj
  by_cases e : i = j
  · subst e
    rw [Array.getElem?_setIfInBounds_self, if_pos (by omega), List.getElem?_set_self (by omega)]
  · rw [Array.getElem?_setIfInBounds_ne e, List.getElem?_set_ne e]; exact h j hj
/-- what a row of our own looks like from inside -/
theorem FactsO.open_ {w : World} {base : Nat} {A : Option Addr} {n c k : Nat} {fs : List Fct} (h : FactsO w base (.slice A n c) fs) (hk : k < fs.length) : ∃ g cur, n = fs.length ∧ A = some ⟨g, 0, none⟩ ∧ base ≤ g ∧ Blk w g tF cur ∧ fs.length * 3 ≤ cur.size ∧ cur[k*3]? = some (.bool fs[k].eq) ∧ cur[k*3+1]? = some (.int .i64 fs[k].a) ∧ cur[k*3+2]? = some (.int .i64 fs[k].b) ∧
    (∀ (i : Nat) (u : Value) (gs : List Fct), encF gs = (encF fs).set i u → gs.length = fs.length → FactsO (w.setCell ⟨g, i, none⟩ u) base (.slice A n c) gs) := by
  obtain ⟨⟨hl, h2⟩, hL⟩ := h
  rcases h2 with ⟨e, hn⟩ | ⟨g, cap, cur, e, hb, hh, hn, hm, hs, ht⟩
  · omega
  · injection e with e1 e2 e3
    subst e1 e2 e3
    have hK : Blk w g tF cur := hh
    have hP : Pre cur (encF fs) (fs.length * 3) := by
      intro j hj
      rw [← ht, List.getElem?_take, if_pos hj]; simp
    obtain ⟨t0, t1, t2⟩ := flat3 (fun f : Fct => .bool f.eq) (fun f => .int .i64 f.a) (fun f => .int .i64 f.b) fs k hk
    refine ⟨g, cur, rfl, rfl, hb, hK, by rw [hs]; exact Nat.mul_le_mul hn (Nat.le_refl _), (hP _ (by omega)).trans t0, (hP _ (by omega)).trans t1, (hP _ (by omega)).trans t2, ?_⟩
    intro i u gs he hg
    refine ⟨?_, by rw [hg]; exact hL⟩
    rw [he, hg]
    exact own_of_blk (hK.set_ i u) hb (by rw [List.length_set, hl]) (hP.setL i u (by rw [hs]; exact Nat.mul_le_mul hn (Nat.le_refl _)) (by rw [hl]; exact Nat.le_refl _)) hn hm (by simpa using hs)
theorem AtomsO.open_ {w : World} {base : Nat} {A : Option Addr} {n c k : Nat} {fs : List Atm} (h : AtomsO w base (.slice A n c) fs) (hk : k < fs.length) : ∃ g cur, n = fs.length ∧ A = some ⟨g, 0, none⟩ ∧ base ≤ g ∧ Blk w g tA cur ∧ fs.length * 3 ≤ cur.size ∧ cur[k*3]? = some (.int .i64 fs[k].kind) ∧ cur[k*3+1]? = some (.int .i64 fs[k].a) ∧ cur[k*3+2]? = some (.int .i64 fs[k].b) ∧
    (∀ (i : Nat) (u : Value) (gs : List Atm), encA gs = (encA fs).set i u → gs.length = fs.length → AtomsO (w.setCell ⟨g, i, none⟩ u) base (.slice A n c) gs) := by
  obtain ⟨⟨hl, h2⟩, hL⟩ := h
  rcases h2 with ⟨e, hn⟩ | ⟨g, cap, cur, e, hb, hh, hn, hm, hs, ht⟩
  · omega
  · injection e with e1 e2 e3
    subst e1 e2 e3
    have hK : Blk w g tA cur := hh
    have hP : Pre cur (encA fs) (fs.length * 3) := by
      intro j hj
      rw [← ht, List.getElem?_take, if_pos hj]; simp
    obtain ⟨t0, t1, t2⟩ := flat3 (fun f : Atm => .int .i64 f.kind) (fun f => .int .i64 f.a) (fun f => .int .i64 f.b) fs k hk
    refine ⟨g, cur, rfl, rfl, hb, hK, by rw [hs]; exact Nat.mul_le_mul hn (Nat.le_refl _), (hP _ (by omega)).trans t0, (hP _ (by omega)).trans t1, (hP _ (by omega)).trans t2, ?_⟩
    intro i u gs he hg
    refine ⟨?_, by rw [hg]; exact hL⟩
    rw [he, hg]
    exact own_of_blk (hK.set_ i u) hb (by rw [List.length_set, hl]) (hP.setL i u (by rw [hs]; exact Nat.mul_le_mul hn (Nat.le_refl _)) (by rw [hl]; exact Nat.le_refl _)) hn hm (by simpa using hs)
theorem encF_setA {fs : List Fct} {k : Nat} (hk : k < fs.length) (v : Int) : encF (fs.set k ⟨fs[k].eq, v, fs[k].b⟩) = (encF fs).set (k*3+1) (.int .i64 v) := by
  obtain ⟨t0, t1, t2⟩ := flat3 (fun f : Fct => .bool f.eq) (fun f => .int .i64 f.a) (fun f => .int .i64 f.b) fs k hk
  rw [encF, flat3_set _ _ _ _ _ _ hk, set_same t0, set_same]
  rw [List.getElem?_set_ne (by omega)]; exact t2
theorem encF_setB {fs : List Fct} {k : Nat} (hk : k < fs.length) (v : Int) : encF (fs.set k ⟨fs[k].eq, fs[k].a, v⟩) = (encF fs).set (k*3+2) (.int .i64 v) := by
  obtain ⟨t0, t1, t2⟩ := flat3 (fun f : Fct => .bool f.eq) (fun f => .int .i64 f.a) (fun f => .int .i64 f.b) fs k hk
  rw [encF, flat3_set _ _ _ _ _ _ hk, set_same t0, set_same t1]
theorem encA_setA {fs : List Atm} {k : Nat} (hk : k < fs.length) (v : Int) : encA (fs.set k ⟨fs[k].kind, v, fs[k].b⟩) = (encA fs).set (k*3+1) (.int .i64 v) := by
  obtain ⟨t0, t1, t2⟩ := flat3 (fun f : Atm => .int .i64 f.kind) (fun f => .int .i64 f.a) (fun f => .int .i64 f.b) fs k hk
  rw [encA, flat3_set _ _ _ _ _ _ hk, set_same t0, set_same]
  rw [List.getElem?_set_ne (by omega)]; exact t2
theorem encA_setB {fs : List Atm} {k : Nat} (hk : k < fs.length) (v : Int) : encA (fs.set k ⟨fs[k].kind, fs[k].a, v⟩) = (encA fs).set (k*3+2) (.int .i64 v) := by
  obtain ⟨t0, t1, t2⟩ := flat3 (fun f : Atm => .int .i64 f.kind) (fun f => .int .i64 f.a) (fun f => .int .i64 f.b) fs k hk
  rw [encA, flat3_set _ _ _ _ _ _ hk, set_same t0, set_same t1]
theorem FactsO.setA {w : World} {base g n c k : Nat} {fs : List Fct} (h : FactsO w base (.slice (some ⟨g, 0, none⟩) n c) fs) (hk : k < fs.length) (v : Int) {gs : List Fct} (hgs : gs = fs.set k ⟨fs[k].eq, v, fs[k].b⟩) : FactsO (w.setCell ⟨g, k*3+1, none⟩ (.int .i64 v)) base (.slice (some ⟨g, 0, none⟩) n c) gs := by
  subst hgs
  obtain ⟨g', cur, -, e, -, -, -, -, -, -, hs⟩ := h.open_ hk
  simp only [Option.some.injEq, Addr.mk.injEq, and_true] at e
  subst e
  exact hs _ _ _ (encF_setA hk v) (by simp)
theorem FactsO.setB {w : World} {base g n c k : Nat} {fs : List Fct} (h : FactsO w base (.slice (some ⟨g, 0, none⟩) n c) fs) (hk : k < fs.length) (v : Int) {gs : List Fct} (hgs : gs = fs.set k ⟨fs[k].eq, fs[k].a, v⟩) : FactsO (w.setCell ⟨g, k*3+2, none⟩ (.int .i64 v)) base (.slice (some ⟨g, 0, none⟩) n c) gs := by
  subst hgs
  obtain ⟨g', cur, -, e, -, -, -, -, -, -, hs⟩ := h.open_ hk
  simp only [Option.some.injEq, Addr.mk.injEq, and_true] at e
  subst e
  exact hs _ _ _ (encF_setB hk v) (by simp)
theorem AtomsO.setA {w : World} {base g n c k : Nat} {fs : List Atm} (h : AtomsO w base (.slice (some ⟨g, 0, none⟩) n c) fs) (hk : k < fs.length) (v : Int) {gs : List Atm} (hgs : gs = fs.set k ⟨fs[k].kind, v, fs[k].b⟩) : AtomsO (w.setCell ⟨g, k*3+1, none⟩ (.int .i64 v)) base (.slice (some ⟨g, 0, none⟩) n c) gs := by
  subst hgs
  obtain ⟨g', cur, -, e, -, -, -, -, -, -, hs⟩ := h.open_ hk
  simp only [Option.some.injEq, Addr.mk.injEq, and_true] at e
  subst e
  exact hs _ _ _ (encA_setA hk v) (by simp)
theorem AtomsO.setB {w : World} {base g n c k : Nat} {fs : List Atm} (h : AtomsO w base (.slice (some ⟨g, 0, none⟩) n c) fs) (hk : k < fs.length) (v : Int) {gs : List Atm} (hgs : gs = fs.set k ⟨fs[k].kind, fs[k].a, v⟩) : AtomsO (w.setCell ⟨g, k*3+2, none⟩ (.int .i64 v)) base (.slice (some ⟨g, 0, none⟩) n c) gs := by
  subst hgs
  obtain ⟨g', cur, -, e, -, -, -, -, -, -, hs⟩ := h.open_ hk
  simp only [Option.some.injEq, Addr.mk.injEq, and_true] at e
  subst e
  exact hs _ _ _ (encA_setB hk v) (by simp)
/-- one element in a block of its own reads as a list of one -/
theorem FactsV.one {w : World} {g : Nat} {f : Fct} (h : Blk w g tF #[.bool f.eq, .int .i64 f.a, .int .i64 f.b]) : FactsV w g (g + 1) (some ⟨g, 0, none⟩) [f] :=
  ⟨⟨by simp, fun _ => ⟨g, 0, rfl, Nat.le_refl _, Nat.lt_succ_self _, fun j u hu => by rw [Nat.zero_add, h.cell]; simpa using hu⟩⟩, by simp [Lim]⟩
theorem AtomsV.one {w : World} {g : Nat} {f : Atm} (h : Blk w g tA #[.int .i64 f.kind, .int .i64 f.a, .int .i64 f.b]) : AtomsV w g (g + 1) (some ⟨g, 0, none⟩) [f] :=
  ⟨⟨by simp, fun _ => ⟨g, 0, rfl, Nat.le_refl _, Nat.lt_succ_self _, fun j u hu => by rw [Nat.zero_add, h.cell]; simpa using hu⟩⟩, by simp [Lim]⟩

theorem FactsV.cl {w : World} {lo hi b o k : Nat} {fs : List Fct} (h : FactsV w lo hi (some ⟨b, o, none⟩) fs) (hk : k < fs.length) : w.cell? ⟨b, o + k*3, none⟩ = some (.bool fs[k].eq) ∧ w.cell? ⟨b, o + k*3+1, none⟩ = some (.int .i64 fs[k].a) ∧ w.cell? ⟨b, o + k*3+2, none⟩ = some (.int .i64 fs[k].b) := by
  obtain ⟨b', o', e, hc⟩ := h.at hk
  simp only [Option.some.injEq, Addr.mk.injEq, and_true] at e
  obtain ⟨rfl, rfl⟩ := e
  exact hc
theorem AtomsV.cl {w : World} {lo hi b o k : Nat} {fs : List Atm} (h : AtomsV w lo hi (some ⟨b, o, none⟩) fs) (hk : k < fs.length) : w.cell? ⟨b, o + k*3, none⟩ = some (.int .i64 fs[k].kind) ∧ w.cell? ⟨b, o + k*3+1, none⟩ = some (.int .i64 fs[k].a) ∧ w.cell? ⟨b, o + k*3+2, none⟩ = some (.int .i64 fs[k].b) := by
  obtain ⟨b', o', e, hc⟩ := h.at hk
  simp only [Option.some.injEq, Addr.mk.injEq, and_true] at e
  obtain ⟨rfl, rfl⟩ := e
  exact hc
theorem FactsV.blt {w : World} {lo hi k : Nat} {A : Option Addr} {fs : List Fct} (h : FactsV w lo hi A fs) (hk : k < fs.length) : ∃ b o, A = some ⟨b, o, none⟩ ∧ b < w.heap.size := by
  obtain ⟨b, o, e, hc, -⟩ := h.at hk
  exact ⟨b, o, e, block_lt_of_cell hc⟩
theorem AtomsV.blt {w : World} {lo hi k : Nat} {A : Option Addr} {fs : List Atm} (h : AtomsV w lo hi A fs) (hk : k < fs.length) : ∃ b o, A = some ⟨b, o, none⟩ ∧ b < w.heap.size := by
  obtain ⟨b, o, e, hc, -⟩ := h.at hk
  exact ⟨b, o, e, block_lt_of_cell hc⟩
theorem IntsV.blt {w : World} {lo hi k : Nat} {A : Option Addr} {fs : List Int} (h : IntsV w lo hi A fs) (hk : k < fs.length) : ∃ b o, A = some ⟨b, o, none⟩ ∧ b < w.heap.size := by
  obtain ⟨b, o, e, hc⟩ := h.at hk
  exact ⟨b, o, e, block_lt_of_cell hc⟩
theorem BoolsV.blt {w : World} {lo hi k : Nat} {A : Option Addr} {fs : List Bool} (h : BoolsV w lo hi A fs) (hk : k < fs.length) : ∃ b o, A = some ⟨b, o, none⟩ ∧ b < w.heap.size := by
  obtain ⟨b, o, e, hc⟩ := h.at hk
  exact ⟨b, o, e, block_lt_of_cell hc⟩

theorem own_ofBlk {w : World} {g base size : Nat} {t : TypeId} (h : Blk w g t #[]) (hb : base ≤ g) : w.ownsRow base t size (.slice (some ⟨g, 0, none⟩) 0 0) 0 [] := ⟨by simp, .inr ⟨g, 0, #[], rfl, hb, h, Nat.le_refl _, by decide, by simp, by simp⟩⟩
theorem FactsO.ofBlk {w : World} {g base : Nat} (h : Blk w g tF #[]) (hb : base ≤ g) : FactsO w base (.slice (some ⟨g, 0, none⟩) 0 0) [] := ⟨own_ofBlk h hb, by simp [Lim]⟩
theorem AtomsO.ofBlk {w : World} {g base : Nat} (h : Blk w g tA #[]) (hb : base ≤ g) : AtomsO w base (.slice (some ⟨g, 0, none⟩) 0 0) [] := ⟨own_ofBlk h hb, by simp [Lim]⟩
theorem IntsO.ofBlk {w : World} {g base : Nat} (h : Blk w g tI #[]) (hb : base ≤ g) : IntsO w base (.slice (some ⟨g, 0, none⟩) 0 0) [] := ⟨own_ofBlk h hb, by simp [Lim]⟩
theorem Blk.grownO {w w' : World} {g base size n : Nat} {t e : TypeId} {cs : Array Value} {v : Value} {xs : List Value} (h : Blk w g t cs) (ho : w.ownsRow base e size v n xs) (hg : w.grownBy w' v.ownBlock) (ht : t ≠ e) : Blk w' g t cs := by
  refine h.grown hg ?_
  intro he
  rcases ho.2 with ⟨rfl, _⟩ | ⟨k, cap, cur, rfl, _, hh, _⟩
  · simp [Value.ownBlock] at he
  · simp only [Value.ownBlock, Option.some.injEq] at he
    exact Blk.ne_ h hh ht he
theorem own_grownO {w w' : World} {base base' size size' n n' : Nat} {e e' : TypeId} {v v' : Value} {xs xs' : List Value} (h : w.ownsRow base' e' size' v' n' xs') (ho : w.ownsRow base e size v n xs) (hg : w.grownBy w' v.ownBlock) (ht : e' ≠ e) : w'.ownsRow base' e' size' v' n' xs' := by
  obtain ⟨h1, h2⟩ := h
  refine ⟨h1, ?_⟩
  rcases h2 with h2 | ⟨k, cap, cur, hv, hk, hh, r⟩
  · exact Or.inl h2
  · exact Or.inr ⟨k, cap, cur, hv, hk, Blk.grownO hh ho hg ht, r⟩
theorem FactsO.grownA {w w' : World} {b b' : Nat} {v v' : Value} {xs : List Fct} {ys : List Atm} (h : FactsO w b v xs) (ho : AtomsO w b' v' ys) (hg : w.grownBy w' v'.ownBlock) : FactsO w' b v xs := ⟨own_grownO h.1 ho.1 hg (by decide), h.2⟩
theorem AtomsO.grownF {w w' : World} {b b' : Nat} {v v' : Value} {xs : List Atm} {ys : List Fct} (h : AtomsO w b v xs) (ho : FactsO w b' v' ys) (hg : w.grownBy w' v'.ownBlock) : AtomsO w' b v xs := ⟨own_grownO h.1 ho.1 hg (by decide), h.2⟩


theorem Rd.keepB {w w' : World} {lo hi size n B : Nat} {A : Option Addr} {xs : List Value} (h : Rd w lo hi size A n xs) (hb : Below B w w') (hh : hi ≤ B) : Rd w' lo hi size A n xs := h.keep fun b _ h2 => hb.block b (by omega)
theorem FactsV.keepB {w w' : World} {lo hi B : Nat} {A : Option Addr} {xs : List Fct} (h : FactsV w lo hi A xs) (hb : Below B w w') (hh : hi ≤ B) : FactsV w' lo hi A xs := Rd.keepB h hb hh
theorem AtomsV.keepB {w w' : World} {lo hi B : Nat} {A : Option Addr} {xs : List Atm} (h : AtomsV w lo hi A xs) (hb : Below B w w') (hh : hi ≤ B) : AtomsV w' lo hi A xs := Rd.keepB h hb hh
theorem IntsV.keepB {w w' : World} {lo hi B : Nat} {A : Option Addr} {xs : List Int} (h : IntsV w lo hi A xs) (hb : Below B w w') (hh : hi ≤ B) : IntsV w' lo hi A xs := Rd.keepB h hb hh
theorem BoolsV.keepB {w w' : World} {lo hi B : Nat} {A : Option Addr} {xs : List Bool} (h : BoolsV w lo hi A xs) (hb : Below B w w') (hh : hi ≤ B) : BoolsV w' lo hi A xs := Rd.keepB h hb hh

--@ laws.heldFactS
set_option maxHeartbeats 800000 in
theorem c_heldFactS {lo hi : Nat} (A : Option Addr) (n c : Nat) (k : Int) (w : World) (h : FactsV w lo hi A (markF k n)) (h0 : 0 ≤ k) (h1 : k ≤ 1099511627776) : Calls Try.prog 118 #[.slice A n c, .int .i64 k] w fun e w' => e = .returned (.int .i64 (k + 3 * n)) ∧ w = w' := by
  have hL := h.le
  rw [markF_length] at hL
  go_enter Try.func118, Try.ntmps118
  go_wp2
  go_loop [1, 5] (fun m i => ∃ (j : Nat), j ≤ n ∧ i = .int .i64 j ∧ m = .int .i64 (k + 3 * j)) (fun _ i => n - (intOf i).toNat)
  case atStart => exact ⟨0, Nat.zero_le _, rfl, by simp⟩
  case round =>
    obtain ⟨j, hj, rfl, rfl⟩ := hrel
    by_cases hlt : j < n
    · obtain ⟨b, off, rfl, c0, c1, c2⟩ := h.at (k := j) (by rw [markF_length]; exact hlt)
      rw [markF_get _ _ _ hlt] at c0 c1 c2
      dsimp only at c0 c1 c2
      go_wp2_with fail
      go_round
      case rel => exact ⟨j + 1, by omega, by go_num, by push_cast; congr 1; omega⟩
      case measure => simp [intOf]; omega
    · obtain rfl : j = n := by omega
      go_wp2
      go_ret
      exact ⟨rfl, rfl⟩

--@ laws.heldAtomS
set_option maxHeartbeats 800000 in
theorem c_heldAtomS {lo hi : Nat} (A : Option Addr) (n c : Nat) (k : Int) (w : World) (h : AtomsV w lo hi A (markA k n)) (h0 : 0 ≤ k) (h1 : k ≤ 1099511627776) : Calls Try.prog 119 #[.slice A n c, .int .i64 k] w fun e w' => e = .returned (.int .i64 (k + 3 * n)) ∧ w = w' := by
  have hL := h.le
  rw [markA_length] at hL
  go_enter Try.func119, Try.ntmps119
  go_wp2
  go_loop [1, 5] (fun m i => ∃ (j : Nat), j ≤ n ∧ i = .int .i64 j ∧ m = .int .i64 (k + 3 * j)) (fun _ i => n - (intOf i).toNat)
  case atStart => exact ⟨0, Nat.zero_le _, rfl, by simp⟩
  case round =>
    obtain ⟨j, hj, rfl, rfl⟩ := hrel
    by_cases hlt : j < n
    · obtain ⟨b, off, rfl, c0, c1, c2⟩ := h.at (k := j) (by rw [markA_length]; exact hlt)
      rw [markA_get _ _ _ hlt] at c0 c1 c2
      dsimp only at c0 c1 c2
      go_wp2_with fail
      go_round
      case rel => exact ⟨j + 1, by omega, by go_num, by push_cast; congr 1; omega⟩
      case measure => simp [intOf]; omega
    · obtain rfl : j = n := by omega
      go_wp2
      go_ret
      exact ⟨rfl, rfl⟩
end Go.Proofs.Ytcgifoghggajgaa
