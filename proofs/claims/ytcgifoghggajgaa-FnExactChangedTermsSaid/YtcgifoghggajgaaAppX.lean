/- append of a list of ints, told where the new row lies. -/
import Derived.Test.YtcgifoghggajgaaJoin
set_option linter.unusedSimpArgs false
set_option linter.unusedVariables false
namespace Go.Proofs.Ytcgifoghggajgaa
open Go Go.RowKit Go.Proofs

theorem wp_appX {P : Program} {o : Oper} {a : Act} {K : Act → World → Prop} {Q : Exit → Act → World → Prop} {w : World} (s x : Operand) (t : TypeId)
    (ho : o.op = .call { callee := .builtin .append, args := #[s, x], argTypes := #[t, t] })
    {base : Nat} {e : TypeId} {z : Value} {size bytes : Nat} (ht : P.underlying t = some (.slice e)) (hinfo : (P.info? e).map (fun i => (i.zero, i.size, i.bytes)) = some (some z, size, bytes)) (hzs : z.cells.size = size) (hsz : 0 < size) (hby : bytes ≤ 200)
    {v : Value} {n : Nat} {xs : List Value} (hs : a.eval s = v) (hown : w.ownsRow base e size v n xs)
    {ad : Addr} {m c : Nat} {news : List Value} (hx : a.eval x = .slice (some ad) m c) (hl : news.length = m * size) (hnews : ∀ j u, news[j]? = some u → w.cell? (ad.add j) = some u) (h1 : ∀ u ∈ news, u.oneCell' = true)
    (hn : n + m ≤ 1049600) (hb : base ≤ w.heap.size)
    (h : ∀ v' w', w'.ownsRow base e size v' (n + m) (xs ++ news) → w.grownBy w' v.ownBlock → Below base w w' → (v'.ownBlock = v.ownBlock ∨ v'.ownBlock = some w.heap.size) → K (a.put o.dst v') w') : Oper.wp P o a w K Q := by
  obtain ⟨i, hi', hz, hsize, hbytes⟩ := info_parts hinfo
  obtain ⟨v', w', hr, h2, h3, h4, h5⟩ := run_append_own_at (P := P) w base t o.type e i z size bytes ht hi' hz hsize hbytes hzs hsz v n xs hown ad m c news hl hnews h1 (by unfold maxLen; omega) (Nat.le_trans (Nat.mul_le_mul hn hby) (by omega)) hb
  unfold Oper.wp execOp
  simp only [ho, resolve, invoke, builtin, Sem.run_bind, Sem.run_pure, Result.andThen_ok, List.map_toArray, List.map_cons, List.map_nil, hs, hx, hr]
  exact h v' w' h2 h3 (own_row_below hown h3 hb) h5
section
variable {ops : Array Oper} {rest : List Oper} {o : Oper} {a : Act} {K : Act → World → Prop} {Q : Exit → Act → World → Prop} {E : Prop} {w : World} {base : Nat} {v : Value}
theorem wp_appIX (s x : Operand) (ho : o.op = .call { callee := .builtin .append, args := #[s, x], argTypes := #[24, 24] })
    {xs ys : List Int} (hs : a.eval s = v) (hown : IntsO w base v xs) {g0 c : Nat} {cs : Array Value} (hx : a.eval x = .slice (some ⟨g0, 0, none⟩) ys.length c) (hk : Blk w g0 tI cs) (hcs : cs = (encI ys).toArray) (hn : xs.length + ys.length ≤ 1049600) (hb : base ≤ w.heap.size)
    (h : ∀ A' c' w', IntsO w' base (.slice A' (xs ++ ys).length c') (xs ++ ys) → w.grownBy w' v.ownBlock → Below base w w' → ((Value.slice A' (xs ++ ys).length c').ownBlock = v.ownBlock ∨ (Value.slice A' (xs ++ ys).length c').ownBlock = some w.heap.size) → K (a.put o.dst (.slice A' (xs ++ ys).length c')) w') : Oper.wp Try.prog o a w K Q := by
  have hadd : ∀ j, (⟨g0, 0, none⟩ : Addr).add j = ⟨g0, j, none⟩ := fun j => by unfold Addr.add; split <;> simp_all
  refine wp_appX (news := encI ys) s x 24 ho Try.underlying24 infoI rfl (by decide) (by decide) hs hown.1 hx (by simp [encI]) (fun j u hu => ?_) (encI_one _) hn hb ?_
  · rw [hadd, hk.cell, hcs]
    simpa using hu
  · intro v' w' h1 h2 h3 h4
    have hO : IntsO w' base v' (xs ++ ys) := ⟨by rw [List.length_append, show encI (xs ++ ys) = encI xs ++ encI ys from List.map_append]; exact h1, by simp [Lim]; omega⟩
    obtain ⟨A', c', rfl, -⟩ := hO.reads
    exact h A' c' w' hO h2 h3 h4
/-- in a region in order -/
theorem appIX (hgd : o.guard = none) (s x : Operand) (ho : o.op = .call { callee := .builtin .append, args := #[s, x], argTypes := #[24, 24] })
    {xs ys : List Int} (hs : a.eval s = v) (hown : IntsO w base v xs) {g0 c : Nat} {cs : Array Value} (hx : a.eval x = .slice (some ⟨g0, 0, none⟩) ys.length c) (hk : Blk w g0 tI cs) (hcs : cs = (encI ys).toArray) (hn : xs.length + ys.length ≤ 1049600) (hb : base ≤ w.heap.size)
    (h : ∀ A' c' w', IntsO w' base (.slice A' (xs ++ ys).length c') (xs ++ ys) → w.grownBy w' v.ownBlock → Below base w w' → ((Value.slice A' (xs ++ ys).length c').ownBlock = v.ownBlock ∨ (Value.slice A' (xs ++ ys).length c').ownBlock = some w.heap.size) → wpList Try.prog ops Q rest (a.put o.dst (.slice A' (xs ++ ys).length c')) w') : wpList Try.prog ops Q (o :: rest) a w := by
  unfold wpList
  rw [if_pos (show Region.wanted o (yielded ops a.tmps) = true by simp [Region.wanted, hgd])]
  exact Or.inl (wp_appIX s x ho hs hown hx hk hcs hn hb h)
end
theorem wp_appLX {P : Program} {o : Oper} {a : Act} {K : Act → World → Prop} {Q : Exit → Act → World → Prop} {w : World} (s x : Operand) (t : TypeId)
    (ho : o.op = .call { callee := .builtin .append, args := #[s, x], argTypes := #[t, t] })
    {base : Nat} {e : TypeId} {z : Value} {size bytes : Nat} (ht : P.underlying t = some (.slice e)) (hinfo : (P.info? e).map (fun i => (i.zero, i.size, i.bytes)) = some (some z, size, bytes)) (hzs : z.cells.size = size) (hsz : 0 < size) (hby : bytes ≤ 200)
    {v : Value} {n : Nat} {xs : List Value} (hs : a.eval s = v) (hown : w.ownsRow base e size v n xs)
    {A : Option Addr} {m c lo hi : Nat} {news : List Value} (hx : a.eval x = .slice A m c) (hR : Rw w lo hi size A m news) (h1 : ∀ u ∈ news, u.oneCell' = true)
    (hn : n + m ≤ 1049600) (hb : base ≤ w.heap.size)
    (h : ∀ v' w', w'.ownsRow base e size v' (n + m) (xs ++ news) → w.grownBy w' v.ownBlock → Below base w w' → (v'.ownBlock = v.ownBlock ∨ v'.ownBlock = some w.heap.size) → K (a.put o.dst v') w') : Oper.wp P o a w K Q := by
  obtain ⟨i, hi', hz, hsize, hbytes⟩ := info_parts hinfo
  have key : ∀ (ad : Addr), A = some ad → (∀ j u, news[j]? = some u → w.cell? (ad.add j) = some u) → Oper.wp P o a w K Q := by
    rintro ad rfl hnews
    obtain ⟨v', w', hr, h2, h3, h4, h5⟩ := run_append_own_at (P := P) w base t o.type e i z size bytes ht hi' hz hsize hbytes hzs hsz v n xs hown ad m c news hR.1 hnews h1 (by unfold maxLen; omega) (Nat.le_trans (Nat.mul_le_mul hn hby) (by omega)) hb
    unfold Oper.wp execOp
    simp only [ho, resolve, invoke, builtin, Sem.run_bind, Sem.run_pure, Result.andThen_ok, List.map_toArray, List.map_cons, List.map_nil, hs, hx, hr]
    exact h v' w' h2 h3 (own_row_below hown h3 hb) h5
  by_cases hm : m = 0
  · subst hm
    have hnil : news = [] := List.eq_nil_of_length_eq_zero (by simpa using hR.1)
    subst hnil
    cases A with
    | some ad => exact key ad rfl (by simp)
    | none =>
      have hrun := run_append_none (P := P) t o.type i ht hi' v n c xs hown
      unfold Oper.wp execOp
      simp only [ho, resolve, invoke, builtin, Sem.run_bind, Sem.run_pure, Result.andThen_ok, List.map_toArray, List.map_cons, List.map_nil, hs, hx, hrun]
      exact h v w (by simpa using hown) (World.grownBy.refl _ _) (Below.refl _ _) (Or.inl rfl)
  · have h0 : 0 < m * size := Nat.mul_pos (by omega) hsz
    obtain ⟨b, off, rfl, _, _, hc⟩ := hR.2 h0
    exact key _ rfl fun j u hu => by rw [show (⟨b, off, none⟩ : Addr).add j = ⟨b, off + j, none⟩ from by unfold Addr.add; split <;> simp_all]; exact hc j u hu
theorem wp_appIY {o : Oper} {a : Act} {K : Act → World → Prop} {Q : Exit → Act → World → Prop} {w : World} {base lo hi c : Nat} {v : Value} {A : Option Addr} (s x : Operand) (ho : o.op = .call { callee := .builtin .append, args := #[s, x], argTypes := #[24, 24] })
    {xs ys : List Int} (hs : a.eval s = v) (hown : IntsO w base v xs) (hx : a.eval x = .slice A ys.length c) (hR : IntsV w lo hi A ys) (hn : xs.length + ys.length ≤ 1049600) (hb : base ≤ w.heap.size)
    (h : ∀ A' c' w', IntsO w' base (.slice A' (xs ++ ys).length c') (xs ++ ys) → w.grownBy w' v.ownBlock → Below base w w' → ((Value.slice A' (xs ++ ys).length c').ownBlock = v.ownBlock ∨ (Value.slice A' (xs ++ ys).length c').ownBlock = some w.heap.size) → K (a.put o.dst (.slice A' (xs ++ ys).length c')) w') : Oper.wp Try.prog o a w K Q := by
  refine wp_appLX s x 24 ho Try.underlying24 infoI rfl (by decide) (by decide) hs hown.1 hx hR.raw (encI_one _) hn hb ?_
  intro v' w' h1 h2 h3 h4
  have hO : IntsO w' base v' (xs ++ ys) := ⟨by rw [List.length_append, show encI (xs ++ ys) = encI xs ++ encI ys from List.map_append]; exact h1, by simp [Lim]; omega⟩
  obtain ⟨A', c', rfl, -⟩ := hO.reads
  exact h A' c' w' hO h2 h3 h4
/-- another row of ints lies still where its block is another -/
theorem IntsO.grown {w w' : World} {b : Nat} {v v' : Value} {xs : List Int} (h : IntsO w b v' xs) (hg : w.grownBy w' v.ownBlock) (hne : ∀ g, v'.ownBlock = some g → v.ownBlock ≠ some g) : IntsO w' b v' xs := by
  obtain ⟨⟨h1, h2⟩, h3⟩ := h
  refine ⟨⟨h1, ?_⟩, h3⟩
  rcases h2 with h2 | ⟨k, cap, cur, hv, hk, hh, r⟩
  · exact Or.inl h2
  · exact Or.inr ⟨k, cap, cur, hv, hk, Blk.grown hh hg (fun e => hne k (by rw [hv]; rfl) e.symm), r⟩
end Go.Proofs.Ytcgifoghggajgaa
