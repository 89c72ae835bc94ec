/- append of a whole list; joined lists. -/
import Derived.Test.YtcgifoghggajgaaApp
import Derived.Test.YtcgifoghggajgaaVal
import Derived.Deep.RegionHeld3
import Derived.Maps.AppendAt
set_option linter.unusedSimpArgs false
set_option linter.unusedVariables false
namespace Go.Proofs.Ytcgifoghggajgaa
open Go Go.RowKit Go.Proofs

section
variable {P : Program} {w : World} {base : Nat} {e : TypeId} {size : Nat}
theorem run_append_none (t ty : TypeId) (i : TypeInfo) (ht : P.underlying t = some (.slice e)) (hi : P.info? e = some i)
    (v : Value) (n c : Nat) (xs : List Value) (hown : w.ownsRow base e size v n xs) :
    (Builtin.append_ #[t, t] ty #[v, .slice none 0 c]).run P w = .ok v w := by
  rcases hown.2 with ⟨rfl, rfl⟩ | ⟨g, cap, cur, rfl, _, _, hnc, _⟩
  · simp [Builtin.append_, run_underlying ht, sizeOf, typeInfo, hi, Builtin.lenOf, Builtin.firstCells]
  · simp [Builtin.append_, run_underlying ht, sizeOf, typeInfo, hi, Builtin.lenOf, Builtin.firstCells, hnc, storeCells]
end
theorem wpList_appL {P : Program} {ops : Array Oper} {rest : List Oper} {o : Oper} {a : Act} {Q : Exit → Act → World → Prop} {w : World} (hgd : o.guard = none) (s x : Operand) (t : TypeId)
    (ho : o.op = .call { callee := .builtin .append, args := #[s, x], argTypes := #[t, t] })
    {base : Nat} {e : TypeId} {z : Value} {size bytes : Nat} (ht : P.underlying t = some (.slice e)) (hinfo : (P.info? e).map (fun i => (i.zero, i.size, i.bytes)) = some (some z, size, bytes)) (hzs : z.cells.size = size) (hsz : 0 < size) (hby : bytes ≤ 200)
    {v : Value} {n : Nat} {xs : List Value} (hs : a.eval s = v) (hown : w.ownsRow base e size v n xs)
    {A : Option Addr} {m c lo hi : Nat} {news : List Value} (hx : a.eval x = .slice A m c) (hR : Rw w lo hi size A m news) (h1 : ∀ u ∈ news, u.oneCell' = true)
    (hn : n + m ≤ 1049600) (hb : base ≤ w.heap.size)
    (h : ∀ v' w', w'.ownsRow base e size v' (n + m) (xs ++ news) → w.grownBy w' v.ownBlock → Below base w w' → wpList P ops Q rest (a.put o.dst v') w') : wpList P ops Q (o :: rest) a w := by
  obtain ⟨i, hi', hz, hsize, hbytes⟩ := info_parts hinfo
  have key : ∀ (ad : Addr), A = some ad → (∀ j u, news[j]? = some u → w.cell? (ad.add j) = some u) → wpList P ops Q (o :: rest) a w := by
    rintro ad rfl hnews
    refine wpList_append_own w hgd s x t ho base e i z size bytes ht hi' hz hsize hbytes hzs hsz v n xs hs hown ad m c news hx hR.1 hnews h1 (by unfold maxLen; omega) (Nat.le_trans (Nat.mul_le_mul hn hby) (by omega)) hb ?_
    intro v' w' ho' hg' _
    exact h v' w' ho' hg' (own_row_below hown hg' hb)
  by_cases hm : m = 0
  · subst hm
    have hnil : news = [] := List.eq_nil_of_length_eq_zero (by simpa using hR.1)
    subst hnil
    cases A with
    | some ad => exact key ad rfl (by simp)
    | none =>
      refine wpList_plain hgd fun K hK => ?_
      have hrun := run_append_none (P := P) t o.type i ht hi' v n c xs hown
      unfold Oper.wp
      simp [execOp, ho, resolve, invoke, builtin, hs, hx, hrun, Result.andThen]
      exact hK _ _ (h v w (by simpa using hown) (World.grownBy.refl _ _) (Below.refl _ _))
  · have h0 : 0 < m * size := Nat.mul_pos (by omega) hsz
    obtain ⟨b, off, rfl, _, _, hc⟩ := hR.2 h0
    exact key _ rfl fun j u hu => by rw [show (⟨b, off, none⟩ : Addr).add j = ⟨b, off + j, none⟩ from by unfold Addr.add; split <;> simp_all]; exact hc j u hu

theorem wp_appL {P : Program} {o : Oper} {a : Act} {K : Act → World → Prop} {Q : Exit → Act → World → Prop} {w : World} (s x : Operand) (t : TypeId)
    (ho : o.op = .call { callee := .builtin .append, args := #[s, x], argTypes := #[t, t] })
    {base : Nat} {e : TypeId} {z : Value} {size bytes : Nat} (ht : P.underlying t = some (.slice e)) (hinfo : (P.info? e).map (fun i => (i.zero, i.size, i.bytes)) = some (some z, size, bytes)) (hzs : z.cells.size = size) (hsz : 0 < size) (hby : bytes ≤ 200)
    {v : Value} {n : Nat} {xs : List Value} (hs : a.eval s = v) (hown : w.ownsRow base e size v n xs)
    {A : Option Addr} {m c lo hi : Nat} {news : List Value} (hx : a.eval x = .slice A m c) (hR : Rw w lo hi size A m news) (h1 : ∀ u ∈ news, u.oneCell' = true)
    (hn : n + m ≤ 1049600) (hb : base ≤ w.heap.size)
    (h : ∀ v' w', w'.ownsRow base e size v' (n + m) (xs ++ news) → w.grownBy w' v.ownBlock → Below base w w' → K (a.put o.dst v') w') : Oper.wp P o a w K Q := by
  obtain ⟨i, hi', hz, hsize, hbytes⟩ := info_parts hinfo
  have key : ∀ (ad : Addr), A = some ad → (∀ j u, news[j]? = some u → w.cell? (ad.add j) = some u) → Oper.wp P o a w K Q := by
    rintro ad rfl hnews
    obtain ⟨v', w', hr, h2, h3, h4, h5⟩ := run_append_own_at (P := P) w base t o.type e i z size bytes ht hi' hz hsize hbytes hzs hsz v n xs hown ad m c news hR.1 hnews h1 (by unfold maxLen; omega) (Nat.le_trans (Nat.mul_le_mul hn hby) (by omega)) hb
    unfold Oper.wp execOp
    simp only [ho, resolve, invoke, builtin, Sem.run_bind, Sem.run_pure, Result.andThen_ok, List.map_toArray, List.map_cons, List.map_nil, hs, hx, hr]
    exact h v' w' h2 h3 (own_row_below hown h3 hb)
  by_cases hm : m = 0
  · subst hm
    have hnil : news = [] := List.eq_nil_of_length_eq_zero (by simpa using hR.1)
    subst hnil
    cases A with
    | some ad => exact key ad rfl (by simp)
    | none =>
      have hrun := run_append_none (P := P) t o.type i ht hi' v n c xs hown
      unfold Oper.wp execOp
      simp only [ho, resolve, invoke, builtin, Sem.run_bind, Sem.run_pure, Result.andThen_ok, List.map_toArray, List.map_cons, List.map_nil, hs, hx, hrun]
      exact h v w (by simpa using hown) (World.grownBy.refl _ _) (Below.refl _ _)
  · have h0 : 0 < m * size := Nat.mul_pos (by omega) hsz
    obtain ⟨b, off, rfl, _, _, hc⟩ := hR.2 h0
    exact key _ rfl fun j u hu => by rw [show (⟨b, off, none⟩ : Addr).add j = ⟨b, off + j, none⟩ from by unfold Addr.add; split <;> simp_all]; exact hc j u hu

theorem encF_one (fs : List Fct) : ∀ u ∈ encF fs, u.oneCell' = true := by
  intro u hu
  simp only [encF, List.mem_flatMap] at hu
  obtain ⟨f, _, hf⟩ := hu
  simp at hf
  rcases hf with rfl | rfl | rfl <;> simp [Value.oneCell']
theorem encA_one (fs : List Atm) : ∀ u ∈ encA fs, u.oneCell' = true := by
  intro u hu
  simp only [encA, List.mem_flatMap] at hu
  obtain ⟨f, _, hf⟩ := hu
  simp at hf
  rcases hf with rfl | rfl | rfl <;> simp [Value.oneCell']
theorem encI_one (fs : List Int) : ∀ u ∈ encI fs, u.oneCell' = true := by
  intro u hu
  simp only [encI, List.mem_map] at hu
  obtain ⟨f, _, rfl⟩ := hu
  simp [Value.oneCell']
section
variable {ops : Array Oper} {rest : List Oper} {o : Oper} {a : Act} {Q : Exit → Act → World → Prop} {w : World} {base lo hi c : Nat} {v : Value} {A : Option Addr}
theorem appFL (hgd : o.guard = none) (s x : Operand) (ho : o.op = .call { callee := .builtin .append, args := #[s, x], argTypes := #[45, 45] })
    {xs ys : List Fct} (hs : a.eval s = v) (hown : FactsO w base v xs) (hx : a.eval x = .slice A ys.length c) (hR : FactsV w lo hi A ys) (hn : xs.length + ys.length ≤ 1049600) (hb : base ≤ w.heap.size)
    (h : ∀ A' c' w', FactsO w' base (.slice A' (xs ++ ys).length c') (xs ++ ys) → w.grownBy w' v.ownBlock → Below base w w' → wpList Try.prog ops Q rest (a.put o.dst (.slice A' (xs ++ ys).length c')) w') : wpList Try.prog ops Q (o :: rest) a w := by
  refine wpList_appL hgd s x 45 ho Try.underlying45 infoF rfl (by decide) (by decide) hs hown.1 hx hR.raw (encF_one _) hn hb ?_
  intro v' w' h1 h2 h3
  have hO : FactsO w' base v' (xs ++ ys) := ⟨by rw [List.length_append, show encF (xs ++ ys) = encF xs ++ encF ys from List.flatMap_append]; exact h1, by simp [Lim]; omega⟩
  obtain ⟨A', c', rfl, -⟩ := hO.reads
  exact h A' c' w' hO h2 h3
theorem appAL (hgd : o.guard = none) (s x : Operand) (ho : o.op = .call { callee := .builtin .append, args := #[s, x], argTypes := #[46, 46] })
    {xs ys : List Atm} (hs : a.eval s = v) (hown : AtomsO w base v xs) (hx : a.eval x = .slice A ys.length c) (hR : AtomsV w lo hi A ys) (hn : xs.length + ys.length ≤ 1049600) (hb : base ≤ w.heap.size)
    (h : ∀ A' c' w', AtomsO w' base (.slice A' (xs ++ ys).length c') (xs ++ ys) → w.grownBy w' v.ownBlock → Below base w w' → wpList Try.prog ops Q rest (a.put o.dst (.slice A' (xs ++ ys).length c')) w') : wpList Try.prog ops Q (o :: rest) a w := by
  refine wpList_appL hgd s x 46 ho Try.underlying46 infoA rfl (by decide) (by decide) hs hown.1 hx hR.raw (encA_one _) hn hb ?_
  intro v' w' h1 h2 h3
  have hO : AtomsO w' base v' (xs ++ ys) := ⟨by rw [List.length_append, show encA (xs ++ ys) = encA xs ++ encA ys from List.flatMap_append]; exact h1, by simp [Lim]; omega⟩
  obtain ⟨A', c', rfl, -⟩ := hO.reads
  exact h A' c' w' hO h2 h3
theorem appIL (hgd : o.guard = none) (s x : Operand) (ho : o.op = .call { callee := .builtin .append, args := #[s, x], argTypes := #[24, 24] })
    {xs ys : List Int} (hs : a.eval s = v) (hown : IntsO w base v xs) (hx : a.eval x = .slice A ys.length c) (hR : IntsV w lo hi A ys) (hn : xs.length + ys.length ≤ 1049600) (hb : base ≤ w.heap.size)
    (h : ∀ A' c' w', IntsO w' base (.slice A' (xs ++ ys).length c') (xs ++ ys) → w.grownBy w' v.ownBlock → Below base w w' → wpList Try.prog ops Q rest (a.put o.dst (.slice A' (xs ++ ys).length c')) w') : wpList Try.prog ops Q (o :: rest) a w := by
  refine wpList_appL hgd s x 24 ho Try.underlying24 infoI rfl (by decide) (by decide) hs hown.1 hx hR.raw (encI_one _) hn hb ?_
  intro v' w' h1 h2 h3
  have hO : IntsO w' base v' (xs ++ ys) := ⟨by rw [List.length_append, show encI (xs ++ ys) = encI xs ++ encI ys from List.map_append]; exact h1, by simp [Lim]; omega⟩
  obtain ⟨A', c', rfl, -⟩ := hO.reads
  exact h A' c' w' hO h2 h3
end
section
variable {ops : Array Oper} {o : Oper} {a : Act} {K : Act → World → Prop} {Q : Exit → Act → World → Prop} {E : Prop} {w : World} {base lo hi c : Nat} {v : Value} {A : Option Addr}
theorem stepFL (hgd : o.guard = none) (s x : Operand) (ho : o.op = .call { callee := .builtin .append, args := #[s, x], argTypes := #[45, 45] })
    {xs ys : List Fct} (hs : a.eval s = v) (hown : FactsO w base v xs) (hx : a.eval x = .slice A ys.length c) (hR : FactsV w lo hi A ys) (hn : xs.length + ys.length ≤ 1049600) (hb : base ≤ w.heap.size)
    (h : ∀ A' c' w', FactsO w' base (.slice A' (xs ++ ys).length c') (xs ++ ys) → w.grownBy w' v.ownBlock → Below base w w' → K (a.put o.dst (.slice A' (xs ++ ys).length c')) w') : if Region.wanted o (yielded ops a.tmps) = true then Oper.wp Try.prog o a w K Q else E := by
  have hw : Region.wanted o (yielded ops a.tmps) = true := by simp [Region.wanted, hgd]
  rw [if_pos hw]
  refine wp_appL s x 45 ho Try.underlying45 infoF rfl (by decide) (by decide) hs hown.1 hx hR.raw (encF_one _) hn hb ?_
  intro v' w' h1 h2 h3
  have hO : FactsO w' base v' (xs ++ ys) := ⟨by rw [List.length_append, show encF (xs ++ ys) = encF xs ++ encF ys from List.flatMap_append]; exact h1, by simp [Lim]; omega⟩
  obtain ⟨A', c', rfl, -⟩ := hO.reads
  exact h A' c' w' hO h2 h3
theorem stepAL (hgd : o.guard = none) (s x : Operand) (ho : o.op = .call { callee := .builtin .append, args := #[s, x], argTypes := #[46, 46] })
    {xs ys : List Atm} (hs : a.eval s = v) (hown : AtomsO w base v xs) (hx : a.eval x = .slice A ys.length c) (hR : AtomsV w lo hi A ys) (hn : xs.length + ys.length ≤ 1049600) (hb : base ≤ w.heap.size)
    (h : ∀ A' c' w', AtomsO w' base (.slice A' (xs ++ ys).length c') (xs ++ ys) → w.grownBy w' v.ownBlock → Below base w w' → K (a.put o.dst (.slice A' (xs ++ ys).length c')) w') : if Region.wanted o (yielded ops a.tmps) = true then Oper.wp Try.prog o a w K Q else E := by
  have hw : Region.wanted o (yielded ops a.tmps) = true := by simp [Region.wanted, hgd]
  rw [if_pos hw]
  refine wp_appL s x 46 ho Try.underlying46 infoA rfl (by decide) (by decide) hs hown.1 hx hR.raw (encA_one _) hn hb ?_
  intro v' w' h1 h2 h3
  have hO : AtomsO w' base v' (xs ++ ys) := ⟨by rw [List.length_append, show encA (xs ++ ys) = encA xs ++ encA ys from List.flatMap_append]; exact h1, by simp [Lim]; omega⟩
  obtain ⟨A', c', rfl, -⟩ := hO.reads
  exact h A' c' w' hO h2 h3
end
theorem mkF0 (n : Nat) (h : Lim n) (w : World) : (Instr.makeSlice 45 (.int .i64 0) (.int .i64 (n : Int))).run Try.prog w = .ok (.slice (some ⟨w.heap.size, 0, none⟩) 0 n) (w.alloc (.cells (madeCells #[.bool false, .int .i64 0, .int .i64 0] (n * 3)) tF)) := by
  obtain ⟨i, hi, hz, hs, hb⟩ := info_parts infoF
  have := run_make_rowN (P := Try.prog) 45 tF i _ Try.underlying45 hi hz .i64 .i64 0 n (Nat.zero_le _) (by rw [hb]; unfold Lim at h; omega) (by unfold Lim at h; omega) w
  rwa [hs] at this
theorem mkA0 (n : Nat) (h : Lim n) (w : World) : (Instr.makeSlice 46 (.int .i64 0) (.int .i64 (n : Int))).run Try.prog w = .ok (.slice (some ⟨w.heap.size, 0, none⟩) 0 n) (w.alloc (.cells (madeCells #[.int .i64 0, .int .i64 0, .int .i64 0] (n * 3)) tA)) := by
  obtain ⟨i, hi, hz, hs, hb⟩ := info_parts infoA
  have := run_make_rowN (P := Try.prog) 46 tA i _ Try.underlying46 hi hz .i64 .i64 0 n (Nat.zero_le _) (by rw [hb]; unfold Lim at h; omega) (by unfold Lim at h; omega) w
  rwa [hs] at this

theorem FactsO.made (w : World) (n : Nat) (h : n ≤ 1049600) : FactsO (w.alloc (.cells (madeCells #[.bool false, .int .i64 0, .int .i64 0] (n * 3)) tF)) w.heap.size (.slice (some ⟨w.heap.size, 0, none⟩) 0 n) [] :=
  ⟨World.ownsRow_made w _ n (Nat.le_refl _) (by unfold maxLen; omega) (by rw [size_madeCells]), by simp [Lim]⟩
theorem AtomsO.made (w : World) (n : Nat) (h : n ≤ 1049600) : AtomsO (w.alloc (.cells (madeCells #[.int .i64 0, .int .i64 0, .int .i64 0] (n * 3)) tA)) w.heap.size (.slice (some ⟨w.heap.size, 0, none⟩) 0 n) [] :=
  ⟨World.ownsRow_made w _ n (Nat.le_refl _) (by unfold maxLen; omega) (by rw [size_madeCells]), by simp [Lim]⟩
theorem FactsO.empty (w : World) : FactsO (w.alloc (.cells #[] tF)) w.heap.size (.slice (some ⟨w.heap.size, 0, none⟩) 0 0) [] := ⟨own_empty w _ _, by simp [Lim]⟩
theorem AtomsO.empty (w : World) : AtomsO (w.alloc (.cells #[] tA)) w.heap.size (.slice (some ⟨w.heap.size, 0, none⟩) 0 0) [] := ⟨own_empty w _ _, by simp [Lim]⟩
theorem FactsO.nil (w : World) (base : Nat) : FactsO w base (.slice none 0 0) [] := ⟨World.ownsRow_nil _ _ _ _, by simp [Lim]⟩
theorem AtomsO.nil (w : World) (base : Nat) : AtomsO w base (.slice none 0 0) [] := ⟨World.ownsRow_nil _ _ _ _, by simp [Lim]⟩

--@ impl.joinLists[impl.Fact]
set_option maxHeartbeats 800000 in
theorem c_joinF {lo hi lo' hi' : Nat} (A A' : Option Addr) (c c' : Nat) (fs gs : List Fct) (w : World) (h : FactsV w lo hi A fs) (h' : FactsV w lo' hi' A' gs) (hn : fs.length + gs.length ≤ 1049600) :
    Calls Try.prog 129 #[.slice A fs.length c, .slice A' gs.length c'] w fun e w' => ∃ r, e = .returned r ∧ FactsO w' w.heap.size r (fs ++ gs) ∧ Below w.heap.size w w' := by
  have hmk := mkF0 (fs.length + gs.length) hn
  simp only [Int.natCast_add] at hmk
  have hO0 := Lib.hid (FactsO.made w (fs.length + gs.length) hn)
  go_enter Try.func129, Try.ntmps129
  go_wp2_with (first
    | (at_builtin; refine appFL rfl _ _ rfl rfl hO0.out rfl (h.below bel) (by simp; omega) (by simp) ?_; intro A1 d1 w1 hO1 hg1 hB1; have hB : Below w.heap.size w w1 := Below.trans bel hB1)
    | (at_builtin; refine appFL rfl _ _ rfl rfl hO1 rfl (h'.below hB) (by simp; omega) hB.size ?_; intro A2 d2 w2 hO2 hg2 hB2))
  go_ret
  exact ⟨_, rfl, by simpa using hO2, hB.trans hB2⟩

--@ impl.joinLists[impl.Atom]
set_option maxHeartbeats 800000 in
theorem c_joinA {lo hi lo' hi' : Nat} (A A' : Option Addr) (c c' : Nat) (fs gs : List Atm) (w : World) (h : AtomsV w lo hi A fs) (h' : AtomsV w lo' hi' A' gs) (hn : fs.length + gs.length ≤ 1049600) :
    Calls Try.prog 130 #[.slice A fs.length c, .slice A' gs.length c'] w fun e w' => ∃ r, e = .returned r ∧ AtomsO w' w.heap.size r (fs ++ gs) ∧ Below w.heap.size w w' := by
  have hmk := mkA0 (fs.length + gs.length) hn
  simp only [Int.natCast_add] at hmk
  have hO0 := Lib.hid (AtomsO.made w (fs.length + gs.length) hn)
  go_enter Try.func130, Try.ntmps130
  go_wp2_with (first
    | (at_builtin; refine appAL rfl _ _ rfl rfl hO0.out rfl (h.below bel) (by simp; omega) (by simp) ?_; intro A1 d1 w1 hO1 hg1 hB1; have hB : Below w.heap.size w w1 := Below.trans bel hB1)
    | (at_builtin; refine appAL rfl _ _ rfl rfl hO1 rfl (h'.below hB) (by simp; omega) hB.size ?_; intro A2 d2 w2 hO2 hg2 hB2))
  go_ret
  exact ⟨_, rfl, by simpa using hO2, hB.trans hB2⟩

--@ impl.StarAssertions
def starA (a b : Asn) : Asn := ⟨a.facts ++ b.facts, a.atoms ++ b.atoms⟩
def starF (a b : Asn) : Option Asn := if a.valid && b.valid && (starA a b).valid then some (starA a b) else none
theorem valid_len {a : Asn} (h : a.valid = true) : a.facts.length ≤ 12 ∧ a.atoms.length ≤ 6 := by
  simp only [Asn.valid, factsValid, Bool.and_eq_true, decide_eq_true_eq] at h
  exact ⟨h.1.1, h.2.1⟩
theorem AsnO.zero (w : World) (base : Nat) : AsnO w base (.agg #[.slice none 0 0, .slice none 0 0]) ⟨[], []⟩ := ⟨_, _, rfl, FactsO.nil _ _, AtomsO.nil _ _⟩
theorem blk2 (w : World) (t1 t2 : TypeId) (a b : Array Value) : Blk ((w.alloc (.cells a t1)).alloc (.cells b t2)) w.heap.size t1 a ∧ Blk ((w.alloc (.cells a t1)).alloc (.cells b t2)) (w.heap.size + 1) t2 b :=
  ⟨(Blk.new w _ _).alloc _, by have := Blk.new (w.alloc (.cells a t1)) t2 b; simpa using this⟩
theorem blk3 (w : World) (t1 t2 t3 : TypeId) (a b c : Array Value) : Blk (((w.alloc (.cells a t1)).alloc (.cells b t2)).alloc (.cells c t3)) w.heap.size t1 a ∧ Blk (((w.alloc (.cells a t1)).alloc (.cells b t2)).alloc (.cells c t3)) (w.heap.size + 1) t2 b ∧ Blk (((w.alloc (.cells a t1)).alloc (.cells b t2)).alloc (.cells c t3)) (w.heap.size + 1 + 1) t3 c :=
  ⟨(blk2 w t1 t2 a b).1.alloc _, (blk2 w t1 t2 a b).2.alloc _, by have := Blk.new ((w.alloc (.cells a t1)).alloc (.cells b t2)) t3 c; simpa using this⟩
/-- what is owned keeps under a store into a block of another element type -/
theorem own_setT {w : World} {base : Nat} {e : TypeId} {size : Nat} {v : Value} {n : Nat} {xs : List Value} (h : w.ownsRow base e size v n xs) {g : Nat} {t : TypeId} {cs : Array Value} (hk : Blk w g t cs) (ht : t ≠ e) (i : Nat) (u : Value) : (w.setCell ⟨g, i, none⟩ u).ownsRow base e size v n xs := by
  obtain ⟨h1, h2⟩ := h
  refine ⟨h1, ?_⟩
  rcases h2 with h2 | ⟨k, cap, cur, hv, hg, hh, r⟩
  · exact Or.inl h2
  · exact Or.inr ⟨k, cap, cur, hv, hg, Blk.far (g := k) hh (fun e => Blk.ne_ hk hh ht e.symm) u, r⟩
theorem FactsO.setT {w : World} {base : Nat} {v : Value} {xs : List Fct} (h : FactsO w base v xs) {g : Nat} {t : TypeId} {cs : Array Value} (hk : Blk w g t cs) (ht : t ≠ tF) (i : Nat) (u : Value) : FactsO (w.setCell ⟨g, i, none⟩ u) base v xs := ⟨own_setT h.1 hk ht i u, h.2⟩
theorem AtomsO.setT {w : World} {base : Nat} {v : Value} {xs : List Atm} (h : AtomsO w base v xs) {g : Nat} {t : TypeId} {cs : Array Value} (hk : Blk w g t cs) (ht : t ≠ tA) (i : Nat) (u : Value) : AtomsO (w.setCell ⟨g, i, none⟩ u) base v xs := ⟨own_setT h.1 hk ht i u, h.2⟩
theorem IntsO.setT {w : World} {base : Nat} {v : Value} {xs : List Int} (h : IntsO w base v xs) {g : Nat} {t : TypeId} {cs : Array Value} (hk : Blk w g t cs) (ht : t ≠ tI) (i : Nat) (u : Value) : IntsO (w.setCell ⟨g, i, none⟩ u) base v xs := ⟨own_setT h.1 hk ht i u, h.2⟩

set_option maxHeartbeats 1600000 in
theorem c_impl_Star {lo hi lo' hi' : Nat} (v v' : Value) (a b : Asn) (w : World) (h : AsnV w lo hi v a) (h' : AsnV w lo' hi' v' b) :
    Calls Try.prog 64 #[v, v'] w fun e w' => ∃ r, e = .returned (.tuple #[r, .bool (starF a b).isSome]) ∧ AsnO w' w.heap.size r ((starF a b).getD ⟨[], []⟩) ∧ Below w.heap.size w w' := by
  have hV := Lib.hid h
  have hV' := Lib.hid h'
  obtain ⟨A1, c1, A2, c2, rfl, h1, h2⟩ := h
  obtain ⟨A3, c3, A4, c4, rfl, h3, h4⟩ := h'
  have HF : Hid (starF a b = if a.valid && b.valid && (starA a b).valid then some (starA a b) else none) := rfl
  go_enter Try.func64, Try.ntmps64
  go_wp2_with fail
  refine (c_impl_AssertionValid _ a _ (hV.out.below bel)).mono ?_
  rintro e w1 ⟨rfl, hB1⟩
  have hB := bgo (w := w) bel hB1
  have kk := blk3 w 48 48 48 #[.slice A1 a.facts.length c1, .slice A2 a.atoms.length c2] #[.slice A3 b.facts.length c3, .slice A4 b.atoms.length c4] #[.slice none 0 0, .slice none 0 0]
  have k0 := kk.1.next hB1
  have k1 := kk.2.1.next hB1
  have k2 := kk.2.2.next hB1
  clear kk hB1
  have q1 := k1.cell
  have q2 := k2.cell
  have r2 := k2.frozen
  cases ha : a.valid
  · have E := Lib.hid (show starF a b = none by rw [HF.out, ha]; rfl)
    clear ha
    go_wp2_with fail
    refine bodyPost_ret (v := .tuple #[.agg #[.slice none 0 0, .slice none 0 0], .bool false]) (by simp [results, Try.results64, go_sem, q2]) rfl ⟨_, by rw [E.out]; rfl, by rw [E.out]; exact AsnO.zero _ _, bel⟩
  have HA := Lib.hid ha
  clear ha q2 r2
  go_wp2_with fail
  refine (c_impl_AssertionValid _ b _ (hV'.out.below hB)).mono ?_
  rintro e w2 ⟨rfl, hB2⟩
  replace hB := bgo hB hB2
  replace k0 := k0.next hB2
  replace k1 := k1.next hB2
  replace k2 := k2.next hB2
  clear q1 hB2
  have q2 := k2.cell
  have r2 := k2.frozen
  cases hb : b.valid
  · have E := Lib.hid (show starF a b = none by rw [HF.out, HA.out, hb]; rfl)
    clear hb
    go_wp2_with fail
    refine bodyPost_ret (v := .tuple #[.agg #[.slice none 0 0, .slice none 0 0], .bool false]) (by simp [results, Try.results64, go_sem, q2]) rfl ⟨_, by rw [E.out]; rfl, by rw [E.out]; exact AsnO.zero _ _, bel⟩
  have HB := Lib.hid hb
  have l1 := valid_len HA.out
  have l2 := valid_len HB.out
  clear hb q2 r2
  go_wp2_with fail
  have lt2 := k2.lt
  go_region_held3 (fun w' => (∀ i, w'.cell? ⟨w.heap.size, i, none⟩ = #[.slice A1 a.facts.length c1, .slice A2 a.atoms.length c2][i]?) ∧ (∀ i, w'.cell? ⟨w.heap.size + 1, i, none⟩ = #[.slice A3 b.facts.length c3, .slice A4 b.atoms.length c4][i]?))
    (exact ⟨Blk.cell blks, Blk.cell blks⟩)
    (first
      | (go_at_call 129; refine (c_joinF _ _ _ _ a.facts b.facts _ (h1.below bel) (h3.below bel) (by omega)).mono ?_; rintro e w3 ⟨r3, rfl, o3, hB3⟩; have hBw3 := bgo (w := w) bel hB3; have m0 := Blk.next (g := w.heap.size) blks hB3; have m1 := Blk.next (g := w.heap.size + 1) blks hB3; have m2 := Blk.next (g := w.heap.size + 1 + 1) blks hB3; have lt3 := m2.lt; obtain ⟨R3, d3, rfl, -⟩ := o3.reads; (try have z3 : Blk w3 w2.heap.size 48 #[.slice none 0 0, .slice none 0 0] := Blk.next (Blk.new w2.drew _ _) hB3))
      | (go_at_call 130; refine (c_joinA _ _ _ _ a.atoms b.atoms _ (h2.below bel) (h4.below bel) (by omega)).mono ?_; rintro e w4 ⟨r4, rfl, o4, hB4⟩; have hBw4 := bgo (w := w) bel hB4; have n0 := Blk.next (g := w.heap.size) blks hB4; have n1 := Blk.next (g := w.heap.size + 1) blks hB4; have n2 := Blk.next (g := w.heap.size + 1 + 1) blks hB4; have o3b := (o3.below bel).below hB4; obtain ⟨R4, d4, rfl, -⟩ := o4.reads; (try have z4 : Blk w4 w2.heap.size 48 #[.slice none 0 0, .slice none 0 0] := z3.next hB4); (try have z4 : Blk w4 w3.heap.size 48 #[.slice none 0 0, .slice none 0 0] := Blk.next (Blk.new w3 _ _) hB4); (try have z4c := z4.cell); (try have z4f := z4.frozen)))
  all_goals
    simp only [List.length_append] at o3b o4
    go_wp2_with fail
    refine (c_impl_AssertionValid (lo := 0) (hi := w4.heap.size + 1) _ (starA a b) _ ?av).mono ?_
    case av =>
      refine ⟨R3, d3, R4, d4, by simp [starA], ?_, ?_⟩
      · exact (FactsO.readsI (by first | exact o3b | exact (o3b.setT z4 (by decide) _ _).setT (z4.set_ _ _) (by decide) _ _ | exact o3b.below bel)).2.mono (Nat.zero_le _) (by simp)
      · exact (AtomsO.readsI (by first | exact o4 | exact (o4.setT z4 (by decide) _ _).setT (z4.set_ _ _) (by decide) _ _ | exact o4.below bel)).2.mono (Nat.zero_le _) (by simp)
    rintro e w5 ⟨rfl, hB5⟩
    have p2 : Blk w5 (w.heap.size + 1 + 1) 48 #[.slice none 0 0, .slice none 0 0] := Blk.next (by first | exact n2 | exact (n2.far (by simp only []; omega) _).far (by simp only []; omega) _ | exact n2.alloc _) hB5
    have hBw5 : Below w.heap.size w w5 := bgo bel hB5
    have hz : w4.heap.size = w4.heap.size := rfl
    have z5 := (by first | exact Blk.next (Blk.new w4 48 #[.slice R3 (a.facts.length + b.facts.length) d3, .slice R4 (a.atoms.length + b.atoms.length) d4]) hB5 | exact Blk.next ((z4.set_ 0 (.slice R3 (a.facts.length + b.facts.length) d3)).set_ 1 (.slice R4 (a.atoms.length + b.atoms.length) d4)) hB5)
    have f3 : FactsO w5 w.heap.size (.slice R3 (a.facts.length + b.facts.length) d3) (a.facts ++ b.facts) := FactsO.lower (FactsO.below (by first | exact o3b | exact (o3b.setT z4 (by decide) _ _).setT (z4.set_ _ _) (by decide) _ _ | exact o3b.below bel) hB5) (by first | omega | (simp; omega))
    have f4 : AtomsO w5 w.heap.size (.slice R4 (a.atoms.length + b.atoms.length) d4) (a.atoms ++ b.atoms) := AtomsO.lower (AtomsO.below (by first | exact o4 | exact (o4.setT z4 (by decide) _ _).setT (z4.set_ _ _) (by decide) _ _ | exact o4.below bel) hB5) (by first | omega | (simp; omega))
    have q5 := z5.cell
    have q2 := p2.cell
    have r2 := p2.frozen
    clear hB5 o3 o3b o4 hB4 hB3
    cases hv : (starA a b).valid
    · have E := Lib.hid (show starF a b = none by rw [HF.out, HA.out, HB.out, hv]; rfl)
      clear hv
      go_wp2_with fail
      refine bodyPost_ret (v := .tuple #[.agg #[.slice none 0 0, .slice none 0 0], .bool false]) (by simp [results, Try.results64, go_sem, q2]) rfl ⟨_, by rw [E.out]; rfl, by rw [E.out]; exact AsnO.zero _ _, bel⟩
    · have E := Lib.hid (show starF a b = some (starA a b) by rw [HF.out, HA.out, HB.out, hv]; rfl)
      clear hv
      go_wp2_with fail
      refine bodyPost_ret (v := .tuple #[.agg #[.slice R3 (a.facts.length + b.facts.length) d3, .slice R4 (a.atoms.length + b.atoms.length) d4], .bool true]) (by simp [results, Try.results64, go_sem, q2]) rfl ⟨_, by rw [E.out]; rfl, ?_, bel⟩
      rw [E.out]
      exact ⟨_, _, rfl, (f3.setT p2 (by decide) _ _).setT (p2.set_ _ _) (by decide) _ _, (f4.setT p2 (by decide) _ _).setT (p2.set_ _ _) (by decide) _ _⟩
end Go.Proofs.Ytcgifoghggajgaa
