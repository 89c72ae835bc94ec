/- append of a list of ints, told where the new row lies. -/
import Derived.Test.YtmjgcdolnkdfoaaJoin
import Derived.Test.YtmjgcdolnkdfoaaDrawB
import Derived.Test.YtmjgcdolnkdfoaaArgS
import Derived.Test.YtmjgcdolnkdfoaaFrame
import Derived.Test.YtmjgcdolnkdfoaaMCanon
set_option linter.unusedSimpArgs false
set_option linter.unusedVariables false
namespace Go.Proofs.Ytmjgcdolnkdfoaa
open Go Go.RowKit Go.Proofs

theorem wp_appX {P : Program} {o : Oper} {a : Act} {K : Act → World → Prop} {Q : Exit → Act → World → Prop} {w : World} (s x : Operand) (t : TypeId)
    (ho : o.op = .call { callee := .builtin .append, args := #[s, x], argTypes := #[t, t] })
    {base : Nat} {e : TypeId} {z : Value} {size bytes : Nat} (ht : P.underlying t = some (.slice e)) (hinfo : (P.info? e).map (fun i => (i.zero, i.size, i.bytes)) = some (some z, size, bytes)) (hzs : z.cells.size = size) (hsz : 0 < size) (hby : bytes ≤ 200)
    {v : Value} {n : Nat} {xs : List Value} (hs : a.eval s = v) (hown : w.ownsRow base e size v n xs)
    {ad : Addr} {m c : Nat} {news : List Value} (hx : a.eval x = .slice (some ad) m c) (hl : news.length = m * size) (hnews : ∀ j u, news[j]? = some u → w.cell? (ad.add j) = some u) (h1 : ∀ u ∈ news, u.oneCell' = true)
    (hn : n + m ≤ 1049600) (hb : base ≤ w.heap.size)
    (h : ∀ v' w', w'.ownsRow base e size v' (n + m) (xs ++ news) → w.grownBy w' v.ownBlock → Below base w w' → (v'.ownBlock = v.ownBlock ∨ v'.ownBlock = some w.heap.size) → K (a.put o.dst v') w') : Oper.wp P o a w K Q := by
  obtain ⟨i, hi', hz, hsize, hbytes⟩ := info_parts hinfo
  obtain ⟨v', w', hr, h2, h3, h4, h5⟩ := run_append_own_at (P := P) w base t o.type e i z size bytes ht hi' hz hsize hbytes hzs hsz v n xs hown ad m c news hl hnews h1 (by unfold maxLen; omega) (Nat.le_trans (Nat.mul_le_mul hn hby) (by omega)) hb
  unfold Oper.wp execOp
  simp only [ho, resolve, invoke, builtin, Sem.run_bind, Sem.run_pure, Result.andThen_ok, List.map_toArray, List.map_cons, List.map_nil, hs, hx, hr]
  exact h v' w' h2 h3 (own_row_below hown h3 hb) h5
section
variable {ops : Array Oper} {rest : List Oper} {o : Oper} {a : Act} {K : Act → World → Prop} {Q : Exit → Act → World → Prop} {E : Prop} {w : World} {base : Nat} {v : Value}
theorem wp_appIX (s x : Operand) (ho : o.op = .call { callee := .builtin .append, args := #[s, x], argTypes := #[29, 29] })
    {xs ys : List Int} (hs : a.eval s = v) (hown : IntsO w base v xs) {g0 c : Nat} {cs : Array Value} (hx : a.eval x = .slice (some ⟨g0, 0, none⟩) ys.length c) (hk : Blk w g0 tI cs) (hcs : cs = (encI ys).toArray) (hn : xs.length + ys.length ≤ 1049600) (hb : base ≤ w.heap.size)
    (h : ∀ A' c' w', IntsO w' base (.slice A' (xs ++ ys).length c') (xs ++ ys) → w.grownBy w' v.ownBlock → Below base w w' → ((Value.slice A' (xs ++ ys).length c').ownBlock = v.ownBlock ∨ (Value.slice A' (xs ++ ys).length c').ownBlock = some w.heap.size) → K (a.put o.dst (.slice A' (xs ++ ys).length c')) w') : Oper.wp Try.prog o a w K Q := by
  have hadd : ∀ j, (⟨g0, 0, none⟩ : Addr).add j = ⟨g0, j, none⟩ := fun j => by unfold Addr.add; split <;> simp_all
  refine wp_appX (news := encI ys) s x 29 ho Try.underlying29 infoI rfl (by decide) (by decide) hs hown.1 hx (by simp [encI]) (fun j u hu => ?_) (encI_one _) hn hb ?_
  · rw [hadd, hk.cell, hcs]
    simpa using hu
  · intro v' w' h1 h2 h3 h4
    have hO : IntsO w' base v' (xs ++ ys) := ⟨by rw [List.length_append, show encI (xs ++ ys) = encI xs ++ encI ys from List.map_append]; exact h1, by simp [Lim]; omega⟩
    obtain ⟨A', c', rfl, -⟩ := hO.reads
    exact h A' c' w' hO h2 h3 h4
/-- in a region in order -/
theorem appIX (hgd : o.guard = none) (s x : Operand) (ho : o.op = .call { callee := .builtin .append, args := #[s, x], argTypes := #[29, 29] })
    {xs ys : List Int} (hs : a.eval s = v) (hown : IntsO w base v xs) {g0 c : Nat} {cs : Array Value} (hx : a.eval x = .slice (some ⟨g0, 0, none⟩) ys.length c) (hk : Blk w g0 tI cs) (hcs : cs = (encI ys).toArray) (hn : xs.length + ys.length ≤ 1049600) (hb : base ≤ w.heap.size)
    (h : ∀ A' c' w', IntsO w' base (.slice A' (xs ++ ys).length c') (xs ++ ys) → w.grownBy w' v.ownBlock → Below base w w' → ((Value.slice A' (xs ++ ys).length c').ownBlock = v.ownBlock ∨ (Value.slice A' (xs ++ ys).length c').ownBlock = some w.heap.size) → wpList Try.prog ops Q rest (a.put o.dst (.slice A' (xs ++ ys).length c')) w') : wpList Try.prog ops Q (o :: rest) a w := by
  unfold wpList
  rw [if_pos (show Region.wanted o (yielded ops a.tmps) = true by simp [Region.wanted, hgd])]
  exact Or.inl (wp_appIX s x ho hs hown hx hk hcs hn hb h)
end
theorem wp_appLX {P : Program} {o : Oper} {a : Act} {K : Act → World → Prop} {Q : Exit → Act → World → Prop} {w : World} (s x : Operand) (t : TypeId)
    (ho : o.op = .call { callee := .builtin .append, args := #[s, x], argTypes := #[t, t] })
    {base : Nat} {e : TypeId} {z : Value} {size bytes : Nat} (ht : P.underlying t = some (.slice e)) (hinfo : (P.info? e).map (fun i => (i.zero, i.size, i.bytes)) = some (some z, size, bytes)) (hzs : z.cells.size = size) (hsz : 0 < size) (hby : bytes ≤ 200)
    {v : Value} {n : Nat} {xs : List Value} (hs : a.eval s = v) (hown : w.ownsRow base e size v n xs)
    {A : Option Addr} {m c lo hi : Nat} {news : List Value} (hx : a.eval x = .slice A m c) (hR : Rw w lo hi size A m news) (h1 : ∀ u ∈ news, u.oneCell' = true)
    (hn : n + m ≤ 1049600) (hb : base ≤ w.heap.size)
    (h : ∀ v' w', w'.ownsRow base e size v' (n + m) (xs ++ news) → w.grownBy w' v.ownBlock → Below base w w' → (v'.ownBlock = v.ownBlock ∨ v'.ownBlock = some w.heap.size) → K (a.put o.dst v') w') : Oper.wp P o a w K Q := by
  obtain ⟨i, hi', hz, hsize, hbytes⟩ := info_parts hinfo
  have key : ∀ (ad : Addr), A = some ad → (∀ j u, news[j]? = some u → w.cell? (ad.add j) = some u) → Oper.wp P o a w K Q := by
    rintro ad rfl hnews
    obtain ⟨v', w', hr, h2, h3, h4, h5⟩ := run_append_own_at (P := P) w base t o.type e i z size bytes ht hi' hz hsize hbytes hzs hsz v n xs hown ad m c news hR.1 hnews h1 (by unfold maxLen; omega) (Nat.le_trans (Nat.mul_le_mul hn hby) (by omega)) hb
    unfold Oper.wp execOp
    simp only [ho, resolve, invoke, builtin, Sem.run_bind, Sem.run_pure, Result.andThen_ok, List.map_toArray, List.map_cons, List.map_nil, hs, hx, hr]
    exact h v' w' h2 h3 (own_row_below hown h3 hb) h5
  by_cases hm : m = 0
  · subst hm
    have hnil : news = [] := List.eq_nil_of_length_eq_zero (by simpa using hR.1)
    subst hnil
    cases A with
    | some ad => exact key ad rfl (by simp)
    | none =>
      have hrun := run_append_none (P := P) t o.type i ht hi' v n c xs hown
      unfold Oper.wp execOp
      simp only [ho, resolve, invoke, builtin, Sem.run_bind, Sem.run_pure, Result.andThen_ok, List.map_toArray, List.map_cons, List.map_nil, hs, hx, hrun]
      exact h v w (by simpa using hown) (World.grownBy.refl _ _) (Below.refl _ _) (Or.inl rfl)
  · have h0 : 0 < m * size := Nat.mul_pos (by omega) hsz
    obtain ⟨b, off, rfl, _, _, hc⟩ := hR.2 h0
    exact key _ rfl fun j u hu => by rw [show (⟨b, off, none⟩ : Addr).add j = ⟨b, off + j, none⟩ from by unfold Addr.add; split <;> simp_all]; exact hc j u hu
theorem wp_appIY {o : Oper} {a : Act} {K : Act → World → Prop} {Q : Exit → Act → World → Prop} {w : World} {base lo hi c : Nat} {v : Value} {A : Option Addr} (s x : Operand) (ho : o.op = .call { callee := .builtin .append, args := #[s, x], argTypes := #[29, 29] })
    {xs ys : List Int} (hs : a.eval s = v) (hown : IntsO w base v xs) (hx : a.eval x = .slice A ys.length c) (hR : IntsV w lo hi A ys) (hn : xs.length + ys.length ≤ 1049600) (hb : base ≤ w.heap.size)
    (h : ∀ A' c' w', IntsO w' base (.slice A' (xs ++ ys).length c') (xs ++ ys) → w.grownBy w' v.ownBlock → Below base w w' → ((Value.slice A' (xs ++ ys).length c').ownBlock = v.ownBlock ∨ (Value.slice A' (xs ++ ys).length c').ownBlock = some w.heap.size) → K (a.put o.dst (.slice A' (xs ++ ys).length c')) w') : Oper.wp Try.prog o a w K Q := by
  refine wp_appLX s x 29 ho Try.underlying29 infoI rfl (by decide) (by decide) hs hown.1 hx hR.raw (encI_one _) hn hb ?_
  intro v' w' h1 h2 h3 h4
  have hO : IntsO w' base v' (xs ++ ys) := ⟨by rw [List.length_append, show encI (xs ++ ys) = encI xs ++ encI ys from List.map_append]; exact h1, by simp [Lim]; omega⟩
  obtain ⟨A', c', rfl, -⟩ := hO.reads
  exact h A' c' w' hO h2 h3 h4
/-- another row of ints lies still where its block is another -/
theorem IntsO.grown {w w' : World} {b : Nat} {v v' : Value} {xs : List Int} (h : IntsO w b v' xs) (hg : w.grownBy w' v.ownBlock) (hne : ∀ g, v'.ownBlock = some g → v.ownBlock ≠ some g) : IntsO w' b v' xs := by
  obtain ⟨⟨h1, h2⟩, h3⟩ := h
  refine ⟨⟨h1, ?_⟩, h3⟩
  rcases h2 with h2 | ⟨k, cap, cur, hv, hk, hh, r⟩
  · exact Or.inl h2
  · exact Or.inr ⟨k, cap, cur, hv, hk, Blk.grown hh hg (fun e => hne k (by rw [hv]; rfl) e.symm), r⟩
end Go.Proofs.Ytmjgcdolnkdfoaa

/- What the reader draws: states. -/
namespace Go.Proofs.Ytmjgcdolnkdfoaa
open Go Go.RowKit Go.Proofs

--@ spec.l2Blank
abbrev tSt : Nat := 38
def blankS : Ste := ⟨List.replicate 8 0, List.replicate 8 (-1)⟩
set_option maxRecDepth 100000 in
set_option maxHeartbeats 1600000 in
theorem c_l2Blank (w : World) : Calls Try.prog 199 #[] w fun e w' => ∃ r, e = .returned r ∧ StateO w' w.heap.size r blankS ∧ Below w.heap.size w w' := by
  go_enter Try.func199, Try.ntmps199
  have kr : Blk ((w.alloc (.cells #[.slice none 0 0, .slice none 0 0] tSt)).alloc (.cells #[.slice none 0 0, .slice none 0 0] tSt)) w.heap.size tSt #[.slice none 0 0, .slice none 0 0] := blks
  have ks : Blk ((w.alloc (.cells #[.slice none 0 0, .slice none 0 0] tSt)).alloc (.cells #[.slice none 0 0, .slice none 0 0] tSt)) (w.heap.size + 1) tSt #[.slice none 0 0, .slice none 0 0] := blks
  have hB : Below w.heap.size w ((w.alloc (.cells #[.slice none 0 0, .slice none 0 0] tSt)).alloc (.cells #[.slice none 0 0, .slice none 0 0] tSt)) := bel
  go_wp2_with fail
  go_loopw [2] (fun i wr => ∃ (k : Nat) (A : Option Addr) (c : Nat), k ≤ 8 ∧ i = .int .i64 k ∧ IntsO wr w.heap.size (.slice A k c) (List.replicate k 0) ∧ Blk wr w.heap.size tSt #[.slice none 0 0, .slice none 0 0] ∧ Blk wr (w.heap.size + 1) tSt #[.slice A k c, .slice none 0 0] ∧ Hid (Below w.heap.size w wr)) (fun i _ => 8 - (intOf i).toNat)
  case atStart => exact ⟨0, none, 0, by omega, rfl, IntsO.nil _ _, kr, ks, hB⟩
  case round =>
    clear kr ks hB
    obtain ⟨k, A, c, hk, rfl, hO, kr, ks, HB⟩ := hrel
    have HO := Lib.hid hO
    have hsz := HB.out.size
    have ls := ks.lt
    clear hO
    (replace qkr := kr.cell; replace rkr := kr.frozen; replace lkr := kr.lt; replace qks := ks.cell; replace rks := ks.frozen; replace lks := ks.lt)
    by_cases hlt : k < 8
    · have hki : (k : Int) < 8 := by omega
      go_wp2_with (at_builtin; refine appIX (ys := [0]) (base := w.heap.size) rfl _ _ rfl rfl (HO.out.below bel) rfl (Blk.newE rfl) (by rfl) (by simp; omega) (by simp; omega) ?_; intro A4 d4 w4 o4 hg4 hB4 hx4; rw [List.length_append, List.length_replicate, List.length_singleton] at o4 ⊢; have ks4 := Blk.grownO (hg := hg4) (ks.alloc _) (HO.out.below (bbox (Below.refl _ _) _)).1 (by decide); have kr4 := Blk.grownO (hg := hg4) (kr.alloc _) (HO.out.below (bbox (Below.refl _ _) _)).1 (by decide); (replace qks4 := ks4.cell; replace rks4 := ks4.frozen; replace lks4 := ks4.lt; replace qkr4 := kr4.cell; replace rkr4 := kr4.frozen; replace lkr4 := kr4.lt); clear hg4 hx4)
      have hBB : Below w.heap.size w w4 := ((HB.out.alloc hsz _).trans hB4)
      go_round
      case rel => exact ⟨k + 1, A4, d4, by omega, by go_num, by rw [List.replicate_succ']; exact o4.setT ks4 (by decide) 0 _, kr4.far (by simp) _, by simpa using ks4.set_ 0 (.slice A4 (k + 1) d4), hBB.setCell (p := ⟨w.heap.size + 1, 0, none⟩) (by simp only; omega) _⟩
      case measure => simp [intOf]; omega
    · obtain rfl : k = 8 := by omega
      go_wp2_with fail
      go_loopw [3] (fun i wx => ∃ (k : Nat) (B : Option Addr) (d : Nat), k ≤ 8 ∧ i = .int .i64 k ∧ IntsO wx w.heap.size (.slice A 8 c) (List.replicate 8 0) ∧ IntsO wx w.heap.size (.slice B k d) (List.replicate k (-1)) ∧ Hid (∀ g, (Value.slice A 8 c).ownBlock = some g → (Value.slice B k d).ownBlock ≠ some g) ∧ Blk wx w.heap.size tSt #[.slice none 0 0, .slice none 0 0] ∧ Blk wx (w.heap.size + 1) tSt #[.slice A 8 c, .slice B k d] ∧ Hid (Below w.heap.size w wx)) (fun i _ => 8 - (intOf i).toNat)
      case atStart => exact ⟨0, none, 0, by omega, rfl, HO.out, IntsO.nil _ _, (fun g _ h => by simp [Value.ownBlock] at h), kr, ks, HB.out⟩
      case round =>
        clear kr ks HB HO hsz ls qkr rkr lkr qks rks lks
        obtain ⟨k, B, d, hk, rfl, hO, hP, HD, kr, ks, HB⟩ := hrel
        have HO := Lib.hid hO
        have HP := Lib.hid hP
        have hsz := HB.out.size
        have ls := ks.lt
        clear hO hP
        (replace qkr := kr.cell; replace rkr := kr.frozen; replace lkr := kr.lt; replace qks := ks.cell; replace rks := ks.frozen; replace lks := ks.lt)
        by_cases hlt : k < 8
        · have hki : (k : Int) < 8 := by omega
          go_wp2_with (at_builtin; refine appIX (ys := [-1]) (base := w.heap.size) rfl _ _ rfl rfl (HP.out.below bel) rfl (Blk.newE rfl) (by rfl) (by simp; omega) (by simp; omega) ?_; intro A4 d4 w4 o4 hg4 hB4 hx4; have HX4 := Lib.hid hx4; clear hx4; rw [List.length_append, List.length_replicate, List.length_singleton] at o4 ⊢; have ks4 := Blk.grownO (hg := hg4) (ks.alloc _) (HP.out.below (bbox (Below.refl _ _) _)).1 (by decide); have kr4 := Blk.grownO (hg := hg4) (kr.alloc _) (HP.out.below (bbox (Below.refl _ _) _)).1 (by decide); have ov4 := IntsO.grown (HO.out.below (bbox (Below.refl _ _) _)) hg4 HD.out; (replace qks4 := ks4.cell; replace rks4 := ks4.frozen; replace lks4 := ks4.lt; replace qkr4 := kr4.cell; replace rkr4 := kr4.frozen; replace lkr4 := kr4.lt); clear hg4)
          have hBB : Below w.heap.size w w4 := ((HB.out.alloc hsz _).trans hB4)
          have HD4 : Hid (∀ g, (Value.slice A 8 c).ownBlock = some g → (Value.slice A4 (k + 1) d4).ownBlock ≠ some g) := fun g hg e => by
            have hlt2 := (HO.out.1.lt g hg).2
            have hx4 := HX4.out
            rw [List.length_append, List.length_replicate, List.length_singleton] at hx4
            rcases hx4 with h | h
            · rw [h] at e; exact HD.out g hg e
            · rw [h, World.size_alloc] at e; injection e with e; omega
          go_round
          case rel => exact ⟨.int .i64 ((k : Int) + 1), _, _, _, _, _, _, _, _, _, ⟨k + 1, A4, d4, by omega, by go_num, ov4.setT ks4 (by decide) 1 _, by rw [List.replicate_succ']; exact o4.setT ks4 (by decide) 1 _, HD4.out, kr4.far (by simp) _, by simpa using ks4.set_ 1 (.slice A4 (k + 1) d4), hBB.setCell (p := ⟨w.heap.size + 1, 1, none⟩) (by simp only; omega) _⟩, rfl⟩
          case measure => simp [intOf]; omega
        · obtain rfl : k = 8 := by omega
          have hne : w.heap.size ≠ w.heap.size + 1 := by omega
          go_wp2_with fail
          refine bodyPost_ret (v := .agg #[.slice A 8 c, .slice B 8 d]) (by simp [results, Try.results199, go_sem, qkr]) rfl ⟨_, rfl, ⟨_, _, rfl, ?_, ?_, HD.out⟩, ?_⟩
          · exact (HO.out.setT kr (by decide) 0 _).setT (kr.set_ 0 _) (by decide) 1 _
          · exact (HP.out.setT kr (by decide) 0 _).setT (kr.set_ 0 _) (by decide) 1 _
          · exact (HB.out.setCell (p := ⟨w.heap.size, 0, none⟩) (Nat.le_refl _) _).setCell (p := ⟨w.heap.size, 1, none⟩) (Nat.le_refl _) _

--@ spec.l2Copy
/-- two rows lie in different blocks -/
def Dj (v v' : Value) : Prop := ∀ g, v.ownBlock = some g → v'.ownBlock ≠ some g
theorem Dj.symm {v v' : Value} (h : Dj v v') : Dj v' v := fun g h1 h2 => h g h2 h1
theorem Dj.new {w : World} {b : Nat} {v : Value} {xs : List Int} (h : IntsO w b v xs) {v' : Value} {x : Nat} (he : v'.ownBlock = some x) (hx : w.heap.size ≤ x) : Dj v v' := fun g hg e => by
  have := (h.1.lt g hg).2
  rw [he] at e; injection e with e; omega
theorem Dj.step {w : World} {b : Nat} {v u v' : Value} {xs : List Int} (h : IntsO w b v xs) (hd : Dj v u) (h5 : v'.ownBlock = u.ownBlock ∨ v'.ownBlock = some w.heap.size) : Dj v v' := by
  rcases h5 with e | e
  · intro g hg; rw [e]; exact hd g hg
  · exact Dj.new h e (Nat.le_refl _)
set_option maxRecDepth 100000 in
set_option maxHeartbeats 3200000 in
theorem c_l2Copy {lo hi : Nat} (v : Value) (s : Ste) (w : World) (h : StateV w lo hi v s) : Calls Try.prog 153 #[v] w fun e w' => ∃ r, e = .returned r ∧ StateO w' w.heap.size r s ∧ Below w.heap.size w w' := by
  obtain ⟨A1, c1, A2, c2, rfl, h1, h2⟩ := h
  have H1 := Lib.hid h1
  have H2 := Lib.hid h2
  have hl1 := h1.le
  have hl2 := h2.le
  clear h1 h2
  go_enter Try.func153, Try.ntmps153
  have k0 : Blk ((w.alloc (.cells #[.slice A1 s.values.length c1, .slice A2 s.heap.length c2] tSt)).alloc (.cells #[.slice none 0 0, .slice none 0 0] tSt)) w.heap.size tSt #[.slice A1 s.values.length c1, .slice A2 s.heap.length c2] := blks
  have kr : Blk ((w.alloc (.cells #[.slice A1 s.values.length c1, .slice A2 s.heap.length c2] tSt)).alloc (.cells #[.slice none 0 0, .slice none 0 0] tSt)) (w.heap.size + 1) tSt #[.slice none 0 0, .slice none 0 0] := blks
  have hB : Below w.heap.size w ((w.alloc (.cells #[.slice A1 s.values.length c1, .slice A2 s.heap.length c2] tSt)).alloc (.cells #[.slice none 0 0, .slice none 0 0] tSt)) := bel
  go_wp2_with fail
  generalize ((w.alloc (.cells #[.slice A1 s.values.length c1, .slice A2 s.heap.length c2] tSt)).alloc (.cells #[.slice none 0 0, .slice none 0 0] tSt)) = W at k0 kr hB ⊢
  refine wp_region_noPanic ?_
  refine wp_region_held_drew (S := (fun w' => ∀ i, w'.cell? ⟨w.heap.size, i, none⟩ = #[.slice A1 s.values.length c1, .slice A2 s.heap.length c2][i]?)) (by kernel_rfl) (k0.drew.cell) (fun hHeld => ?_)
  refine wpAnyH_take (i := 1) (v := ?_) rfl (by kernel_rfl) (by kernel_rfl) (by kernel_rfl) (fun _ _ _ h => h) (Or.inl ⟨by rfl, fun w hSw => ?_⟩) hHeld ?_
  rotate_left
  · ((try dsimp only at hSw); go_split_ands; go_simp; (try with_reducible rfl))
  try simp only [Act.put, List.getElem_toArray, List.getElem_cons_zero, List.getElem_cons_succ, List.setIfInBounds_toArray, List.set_cons_zero, List.set_cons_succ]
  refine wpAnyH_take (i := 2) (v := ?_) rfl (by kernel_rfl) (by kernel_rfl) (by kernel_rfl) (fun _ _ _ h => h) (Or.inl ⟨by rfl, fun w hSw => ?_⟩) hHeld ?_
  rotate_left
  · ((try dsimp only at hSw); go_split_ands; go_simp; (try with_reducible rfl))
  try simp only [Act.put, List.getElem_toArray, List.getElem_cons_zero, List.getElem_cons_succ, List.setIfInBounds_toArray, List.set_cons_zero, List.set_cons_succ]
  refine wpAnyH_take (i := 5) (v := ?_) rfl (by kernel_rfl) (by kernel_rfl) (by kernel_rfl) (fun _ _ _ h => h) (Or.inl ⟨by rfl, fun w hSw => ?_⟩) hHeld ?_
  rotate_left
  · ((try dsimp only at hSw); go_split_ands; go_simp; (try with_reducible rfl))
  try simp only [Act.put, List.getElem_toArray, List.getElem_cons_zero, List.getElem_cons_succ, List.setIfInBounds_toArray, List.set_cons_zero, List.set_cons_succ]
  refine wpAnyH_take (i := 6) (v := ?_) rfl (by kernel_rfl) (by kernel_rfl) (by kernel_rfl) (fun _ _ _ h => h) (Or.inl ⟨by rfl, fun w hSw => ?_⟩) hHeld ?_
  rotate_left
  · ((try dsimp only at hSw); go_split_ands; go_simp; (try with_reducible rfl))
  try simp only [Act.put, List.getElem_toArray, List.getElem_cons_zero, List.getElem_cons_succ, List.setIfInBounds_toArray, List.set_cons_zero, List.set_cons_succ]
  refine wpAnyH_par [0, 3, 4, 7] #[true, true, true, true, true, true, true, true, false, false] 4 (by kernel_rfl) hHeld
    (fun a0 D a w' => Hid (Below w.heap.size w w' ∧ Blk w' w.heap.size tSt #[.slice A1 s.values.length c1, .slice A2 s.heap.length c2] ∧ Blk w' (w.heap.size + 1) tSt #[.slice none 0 0, .slice none 0 0]) ∧
      Hid ((dn D 3 = true → dn D 0 = true) ∧ (dn D 7 = true → dn D 3 = true ∧ dn D 4 = true)) ∧
      ∃ v3 v6 v7 v10, a = (((a0.put (some 3) v3).put (some 6) v6).put (some 7) v7).put (some 10) v10 ∧
        Hid (dn D 0 = true → dn D 3 = false → (∃ x, v3 = .slice (some ⟨x, 0, none⟩) 0 0) ∧ IntsO w' w.heap.size v3 []) ∧
        Hid (dn D 3 = true → (∃ A c, v6 = .slice A s.values.length c) ∧ IntsO w' w.heap.size v6 s.values) ∧
        Hid (dn D 4 = true → dn D 7 = false → (∃ x, v7 = .slice (some ⟨x, 0, none⟩) 0 0) ∧ IntsO w' w.heap.size v7 []) ∧
        Hid (dn D 7 = true → (∃ A c, v10 = .slice A s.heap.length c) ∧ IntsO w' w.heap.size v10 s.heap) ∧
        Hid (dn D 0 = true → dn D 3 = false → dn D 4 = true → Dj v3 v7) ∧ Hid (dn D 3 = true → dn D 4 = true → dn D 7 = false → Dj v6 v7) ∧ Hid (dn D 7 = true → Dj v6 v10)) ?start ?steps ?fin
  case start =>
    refine ⟨⟨hB.drew, k0.drew, kr.drew⟩, ⟨fun h => absurd h (by decide), fun h => absurd h (by decide)⟩, undef, undef, undef, undef, rfl, fun h => absurd h (by decide), fun h => absurd h (by decide), fun h => absurd h (by decide), fun h => absurd h (by decide), fun h => absurd h (by decide), fun h => absurd h (by decide), fun h => absurd h (by decide)⟩
  case steps =>
    refine ParSteps.cons rfl (fun D a w' hu hd hI hS K' hK G hG => ?_) (ParSteps.cons rfl (fun D a w' hu hd hI hS K' hK G hG => ?_) (ParSteps.cons rfl (fun D a w' hu hd hI hS K' hK G hG => ?_) (ParSteps.cons rfl (fun D a w' hu hd hI hS K' hK G hG => ?_) ParSteps.nil)))
    · -- the empty list for the values
      obtain ⟨HW, HC, v3, v6, v7, v10, ha, h0, h3, h4, h7, d1, d2, d3⟩ := hI
      rw [ha] at hG
      clear ha a
      have u0 := dn_un hu
      have u3 : dn D 3 = false := by cases e : dn D 3; rfl; have := HC.out.1 e; rw [u0] at this; cases this
      have u7 : dn D 7 = false := by cases e : dn D 7; rfl; have := (HC.out.2 e).1; rw [u3] at this; cases this
      have HU := Lib.hid (And.intro u3 u7)
      clear u0 u3 u7
      refine hG ?_
      clear hG hd
      try simp only [Act.put, List.setIfInBounds_toArray, List.set_cons_zero, List.set_cons_succ]
      go_simp
      have hB2 : Below w.heap.size w (w'.alloc (.cells #[] tI)) := HW.out.1.alloc HW.out.1.size _
      have hBw : Below w'.heap.size w' (w'.alloc (.cells #[] tI)) := bbox (Below.refl _ _) _
      refine hK.out _ _ (HW.out.2.1.alloc _).cell ⟨⟨hB2, HW.out.2.1.alloc _, HW.out.2.2.alloc _⟩, ⟨fun h => ?_, fun h => ?_⟩, .slice (some ⟨w'.heap.size, 0, none⟩) 0 0, v6, v7, v10, rfl, ?_, ?_, ?_, ?_, ?_, ?_, ?_⟩
      · exact dn_self hu
      · rw [dn_ne (by decide)] at h; rw [HU.out.2] at h; cases h
      · exact fun _ _ => ⟨⟨_, rfl⟩, (IntsO.empty w' rfl).lower HW.out.1.size⟩
      · intro h; rw [dn_ne (by decide)] at h; rw [HU.out.1] at h; cases h
      · intro h h'; rw [dn_ne (by decide)] at h h'; exact ⟨(h4.out h h').1, (h4.out h h').2.below hBw⟩
      · intro h; rw [dn_ne (by decide)] at h; rw [HU.out.2] at h; cases h
      · intro _ _ h; rw [dn_ne (by decide)] at h; exact (Dj.new (h4.out h HU.out.2).2 rfl (Nat.le_refl _)).symm
      · intro h; rw [dn_ne (by decide)] at h; rw [HU.out.1] at h; cases h
      · intro h; rw [dn_ne (by decide)] at h; rw [HU.out.2] at h; cases h
    · -- the values appended
      obtain ⟨HW, HC, v3, v6, v7, v10, ha, h0, h3, h4, h7, d1, d2, d3⟩ := hI
      rw [ha] at hG
      clear ha a
      have u3 := dn_un hu
      have u7 : dn D 7 = false := by cases e : dn D 7; rfl; have := (HC.out.2 e).1; rw [u3] at this; cases this
      have t0 : dn D 0 = true := hd ⟨0, .data⟩ (by simp) (by decide)
      obtain ⟨⟨x, rfl⟩, o⟩ := h0.out t0 u3
      have HO := Lib.hid o
      have HU := Lib.hid (And.intro u3 (And.intro u7 t0))
      clear u3 u7 t0 o h0 hd
      refine hG ?_
      clear hG
      try simp only [Act.put, List.setIfInBounds_toArray, List.set_cons_zero, List.set_cons_succ]
      rw [if_pos (by simp [Region.wanted])]
      refine wp_appIY (base := w.heap.size) (xs := []) (ys := s.values) _ _ rfl rfl HO.out rfl (H1.out.below HW.out.1) (by simp; omega) HW.out.1.size ?_
      intro A' c' w2 o2 hg2 hB2 h5
      simp only [List.nil_append] at o2 h5 ⊢
      refine hK.out _ _ (Blk.grownO (hg := hg2) HW.out.2.1 HO.out.1 (by decide)).cell ⟨⟨HW.out.1.trans hB2, Blk.grownO (hg := hg2) HW.out.2.1 HO.out.1 (by decide), Blk.grownO (hg := hg2) HW.out.2.2 HO.out.1 (by decide)⟩, ⟨fun h => ?_, fun h => ?_⟩, .slice (some ⟨x, 0, none⟩) 0 0, .slice A' s.values.length c', v7, v10, rfl, ?_, ?_, ?_, ?_, ?_, ?_, ?_⟩
      · rw [dn_ne (by decide)]; exact HU.out.2.2
      · rw [dn_ne (by decide)] at h; rw [HU.out.2.1] at h; cases h
      · intro _ h; rw [dn_self hu] at h; cases h
      · exact fun _ => ⟨⟨A', c', rfl⟩, o2⟩
      · intro h h'; rw [dn_ne (by decide)] at h h'; exact ⟨(h4.out h h').1, IntsO.grown (h4.out h h').2 hg2 (d1.out HU.out.2.2 HU.out.1 h).symm⟩
      · intro h; rw [dn_ne (by decide)] at h; rw [HU.out.2.1] at h; cases h
      · intro _ h; rw [dn_self hu] at h; cases h
      · intro _ h h'; rw [dn_ne (by decide)] at h h'; exact (Dj.step (h4.out h h').2 (d1.out HU.out.2.2 HU.out.1 h).symm h5).symm
      · intro h; rw [dn_ne (by decide)] at h; rw [HU.out.2.1] at h; cases h
    · -- the empty list for the heap
      obtain ⟨HW, HC, v3, v6, v7, v10, ha, h0, h3, h4, h7, d1, d2, d3⟩ := hI
      rw [ha] at hG
      clear ha a
      have u4 := dn_un hu
      have u7 : dn D 7 = false := by cases e : dn D 7; rfl; have := (HC.out.2 e).2; rw [u4] at this; cases this
      have HU := Lib.hid u7
      clear u4 u7
      refine hG ?_
      clear hG hd
      try simp only [Act.put, List.setIfInBounds_toArray, List.set_cons_zero, List.set_cons_succ]
      go_simp
      have hB2 : Below w.heap.size w (w'.alloc (.cells #[] tI)) := HW.out.1.alloc HW.out.1.size _
      have hBw : Below w'.heap.size w' (w'.alloc (.cells #[] tI)) := bbox (Below.refl _ _) _
      refine hK.out _ _ (HW.out.2.1.alloc _).cell ⟨⟨hB2, HW.out.2.1.alloc _, HW.out.2.2.alloc _⟩, ⟨fun h => ?_, fun h => ?_⟩, v3, v6, .slice (some ⟨w'.heap.size, 0, none⟩) 0 0, v10, rfl, ?_, ?_, ?_, ?_, ?_, ?_, ?_⟩
      · rw [dn_ne (by decide)] at h ⊢; exact HC.out.1 h
      · rw [dn_ne (by decide)] at h; rw [HU.out] at h; cases h
      · intro h h'; rw [dn_ne (by decide)] at h h'; exact ⟨(h0.out h h').1, (h0.out h h').2.below hBw⟩
      · intro h; rw [dn_ne (by decide)] at h; exact ⟨(h3.out h).1, (h3.out h).2.below hBw⟩
      · exact fun _ _ => ⟨⟨_, rfl⟩, (IntsO.empty w' rfl).lower HW.out.1.size⟩
      · intro h; rw [dn_ne (by decide)] at h; rw [HU.out] at h; cases h
      · intro h h' _; rw [dn_ne (by decide)] at h h'; exact Dj.new (h0.out h h').2 rfl (Nat.le_refl _)
      · intro h _ _; rw [dn_ne (by decide)] at h; exact Dj.new (h3.out h).2 rfl (Nat.le_refl _)
      · intro h; rw [dn_ne (by decide)] at h; rw [HU.out] at h; cases h
    · -- the heap appended
      obtain ⟨HW, HC, v3, v6, v7, v10, ha, h0, h3, h4, h7, d1, d2, d3⟩ := hI
      rw [ha] at hG
      clear ha a
      have u7 := dn_un hu
      have t3 : dn D 3 = true := hd ⟨3, .chain⟩ (by simp) (by decide)
      have t4 : dn D 4 = true := hd ⟨4, .data⟩ (by simp) (by decide)
      obtain ⟨⟨x, rfl⟩, o⟩ := h4.out t4 u7
      have HO := Lib.hid o
      have HU := Lib.hid (And.intro u7 (And.intro t3 t4))
      clear u7 t3 t4 o h4 hd
      refine hG ?_
      clear hG
      try simp only [Act.put, List.setIfInBounds_toArray, List.set_cons_zero, List.set_cons_succ]
      rw [if_pos (by simp [Region.wanted])]
      refine wp_appIY (base := w.heap.size) (xs := []) (ys := s.heap) _ _ rfl rfl HO.out rfl (H2.out.below HW.out.1) (by simp; omega) HW.out.1.size ?_
      intro A' c' w2 o2 hg2 hB2 h5
      simp only [List.nil_append] at o2 h5 ⊢
      have hD := d2.out HU.out.2.1 HU.out.2.2 HU.out.1
      have hO3 := h3.out HU.out.2.1
      refine hK.out _ _ (Blk.grownO (hg := hg2) HW.out.2.1 HO.out.1 (by decide)).cell ⟨⟨HW.out.1.trans hB2, Blk.grownO (hg := hg2) HW.out.2.1 HO.out.1 (by decide), Blk.grownO (hg := hg2) HW.out.2.2 HO.out.1 (by decide)⟩, ⟨fun h => ?_, fun h => ?_⟩, v3, v6, .slice (some ⟨x, 0, none⟩) 0 0, .slice A' s.heap.length c', rfl, ?_, ?_, ?_, ?_, ?_, ?_, ?_⟩
      · rw [dn_ne (by decide)] at h ⊢; exact HC.out.1 h
      · rw [dn_ne (by decide), dn_ne (by decide)]; exact HU.out.2
      · intro _ h; rw [dn_ne (by decide)] at h; rw [HU.out.2.1] at h; cases h
      · exact fun _ => ⟨hO3.1, IntsO.grown hO3.2 hg2 hD⟩
      · intro _ h; rw [dn_self hu] at h; cases h
      · exact fun _ => ⟨⟨A', c', rfl⟩, o2⟩
      · intro _ h; rw [dn_ne (by decide)] at h; rw [HU.out.2.1] at h; cases h
      · intro _ _ h; rw [dn_self hu] at h; cases h
      · exact fun _ => Dj.step hO3.2 hD h5
  case fin =>
    rintro a w4 hHeld ⟨HW, -, v3, v6, v7, v10, rfl, -, h3, -, h7, -, -, d3⟩
    obtain ⟨⟨A, c, rfl⟩, o3⟩ := h3.out (by decide)
    obtain ⟨⟨B, d, rfl⟩, o7⟩ := h7.out (by decide)
    have hD := Lib.hid (d3.out (by decide))
    have HO3 := Lib.hid o3
    have HO7 := Lib.hid o7
    have hBf := HW.out.1
    have k4 := HW.out.2.1
    have kr4 := HW.out.2.2
    clear h3 h7 d3 o3 o7 k0 kr hB
    try simp only [Act.put, List.setIfInBounds_toArray, List.set_cons_zero, List.set_cons_succ]
    (replace qk4 := k4.cell; replace rk4 := k4.frozen; replace lk4 := k4.lt; replace qkr4 := kr4.cell; replace rkr4 := kr4.frozen; replace lkr4 := kr4.lt)
    refine wpAnyH_take (i := 8) (v := ?_) rfl (by kernel_rfl) (by kernel_rfl) (by kernel_rfl) (fun _ _ _ h => h) (Or.inl ⟨by rfl, fun w hSw => ?_⟩) hHeld ?_
    rotate_left
    · ((try dsimp only at hSw); go_split_ands; go_simp; (try with_reducible rfl))
    try simp only [Act.put, List.getElem_toArray, List.getElem_cons_zero, List.getElem_cons_succ, List.setIfInBounds_toArray, List.set_cons_zero, List.set_cons_succ]
    refine wpAnyH_ready (rs := [9]) (by kernel_rfl) (by simp) ?_
    refine AllReadyH.cons rfl (fun K hK => ?_) AllReadyH.nil
    try simp only [List.getElem_toArray, List.getElem_cons_zero, List.getElem_cons_succ]
    go_simp
    refine hK.out _ _ (Blk.cell blks) (fun hHeldN => ?_)
    clear hHeld hK K
    have hHeld := hHeldN
    clear hHeldN
    try simp only [Act.put, List.getElem_toArray, List.getElem_cons_zero, List.getElem_cons_succ, List.setIfInBounds_toArray, List.set_cons_zero, List.set_cons_succ]
    refine wpAnyH_done (by kernel_rfl) ?_ _
    refine NoPanic.normal ?_
    go_wp2_with fail
    refine bodyPost_ret (v := .agg #[.slice A s.values.length c, .slice B s.heap.length d]) (by simp [results, Try.results153, go_sem, qkr4]) rfl ⟨_, rfl, ⟨_, _, rfl, ?_, ?_, hD.out⟩, ?_⟩
    · exact (HO3.out.setT kr4 (by decide) 0 _).setT (kr4.set_ 0 _) (by decide) 1 _
    · exact (HO7.out.setT kr4 (by decide) 0 _).setT (kr4.set_ 0 _) (by decide) 1 _
    · exact (hBf.setCell (p := ⟨w.heap.size + 1, 0, none⟩) (by simp only; omega) _).setCell (p := ⟨w.heap.size + 1, 1, none⟩) (by simp only; omega) _
end Go.Proofs.Ytmjgcdolnkdfoaa

/- What the reader draws: states in which an assertion often holds. -/
namespace Go.Proofs.Ytmjgcdolnkdfoaa
open Go Go.RowKit Go.Proofs

theorem IntsO.cell_ {w : World} {base : Nat} {A : Option Addr} {n c k : Nat} {fs : List Int} (h : IntsO w base (.slice A n c) fs) (hk : k < fs.length) : ∃ g cur, n = fs.length ∧ A = some ⟨g, 0, none⟩ ∧ base ≤ g ∧ Blk w g tI cur ∧ cur[k]? = some (.int .i64 fs[k]) ∧
    (∀ v : Int, IntsO (w.setCell ⟨g, k, none⟩ (.int .i64 v)) base (.slice A n c) (fs.set k v)) := by
  obtain ⟨⟨hl, h2⟩, hL⟩ := h
  rcases h2 with ⟨e, hn⟩ | ⟨g, cap, cur, e, hb, hh, hn, hm, hs, ht⟩
  · omega
  · injection e with e1 e2 e3
    subst e1 e2 e3
    have hK : Blk w g tI cur := hh
    have hP : Pre cur (encI fs) (fs.length * 1) := by
      intro j hj
      rw [← ht, List.getElem?_take, if_pos hj]; simp
    refine ⟨g, cur, rfl, rfl, hb, hK, (hP _ (by omega)).trans (by simp [List.getElem?_eq_getElem hk]), ?_⟩
    intro v
    refine ⟨?_, by rw [List.length_set]; exact hL⟩
    rw [show encI (fs.set k v) = (encI fs).set k (.int .i64 v) from by simp [encI, List.map_set], List.length_set]
    exact own_of_blk (hK.set_ k (.int .i64 v)) hb (by rw [List.length_set, hl]) (hP.setL k (.int .i64 v) (by rw [hs]; exact Nat.mul_le_mul hn (Nat.le_refl _)) (by rw [hl]; exact Nat.le_refl _)) hn hm (by simpa using hs)
theorem IntsO.set_ne {w : World} {b : Nat} {v : Value} {xs : List Int} (h : IntsO w b v xs) {q : Addr} (hq : v.ownBlock ≠ some q.block) (u : Value) : IntsO (w.setCell q u) b v xs := by
  obtain ⟨⟨h1, h2⟩, h3⟩ := h
  refine ⟨⟨h1, ?_⟩, h3⟩
  rcases h2 with h2 | ⟨k, cap, cur, hv, hk, hh, r⟩
  · exact Or.inl h2
  · exact Or.inr ⟨k, cap, cur, hv, hk, (Below.heap_setCell w q u k (fun e => hq (by rw [hv, ← e]; rfl))).trans hh, r⟩

--@ spec.l4Value
def setV (vs : List Int) (t : Nat) (n : Int) : List Int := if t = 0 then vs else vs.set (t - 1) n
set_option maxRecDepth 100000 in
set_option maxHeartbeats 1600000 in
theorem c_l4Value {base : Nat} (fv hv : Value) (s : Ste) (t : Nat) (n : Int) (w : World) (h : StateO w base (.agg #[fv, hv]) s) (h8 : s.values.length = 8) (ht : t ≤ 8) :
    Calls Try.prog 272 #[.agg #[fv, hv], .int .i64 (t : Int), .int .i64 n] w fun e w' => e = .returned (.agg #[fv, hv]) ∧ StateO w' base (.agg #[fv, hv]) ⟨setV s.values t n, s.heap⟩ ∧ Mk (fun k => fv.ownBlock = some k) w w' := by
  obtain ⟨fv', hv', e, o1, o2, dj⟩ := h
  injection e with e; injection e with e; injection e with e1 e2; injection e2 with e2
  subst e1 e2
  obtain ⟨A1, c1, rfl, -⟩ := o1.reads
  obtain ⟨A2, c2, rfl, -⟩ := o2.reads
  have hti : (t : Int) ≤ 8 := by omega
  by_cases h0 : t = 0
  · subst h0
    have O1 := Lib.hid o1
    have O2 := Lib.hid o2
    have HD := Lib.hid dj
    clear o1 o2 dj h8
    have hne : w.heap.size ≠ w.heap.size + 1 := by omega
    go_enter Try.func272, Try.ntmps272
    go_wp2_with fail
    refine bodyPost_ret (v := .agg #[.slice A1 s.values.length c1, .slice A2 s.heap.length c2]) (by simp [results, Try.results272, go_sem]) rfl ⟨rfl, ⟨_, _, rfl, ?_, ?_, HD.out⟩, ?_⟩
    · exact O1.out.below bel
    · exact O2.out.below bel
    · exact Mk.below_ bel
  · obtain ⟨m, rfl⟩ : ∃ m, t = m + 1 := ⟨t - 1, by omega⟩
    obtain ⟨g, cur, -, rfl, hg, kg, hc, hset⟩ := o1.cell_ (k := m) (by omega)
    have hgl := kg.lt
    have H8 := Lib.hid h8
    have HSET := Lib.hid (hset n)
    have O2 := Lib.hid o2
    have HD := Lib.hid dj
    have hmi : (m : Int) < (s.values.length : Int) := by omega
    have e0 : ((m + 1 : Nat) : Int) = (m : Int) + 1 := by omega
    rw [e0]
    have hpos : (0 : Int) < (m : Int) + 1 := by omega
    have q := kg.cell m
    rw [hc] at q
    obtain ⟨y, hy⟩ : ∃ y, y = s.values[m]'(by omega) := ⟨_, rfl⟩
    rw [← hy] at q
    have f := kg.frozen m
    clear hset o1 o2 dj hc hti h0 e0 hy h8
    go_enter Try.func272, Try.ntmps272
    go_wp2_with fail
    refine bodyPost_ret (v := .agg #[.slice (some ⟨g, 0, none⟩) s.values.length c1, .slice A2 s.heap.length c2]) (by simp [results, Try.results272, go_sem]) rfl ⟨rfl, ⟨_, _, rfl, ?_, ?_, HD.out⟩, ?_⟩
    · show IntsO _ base _ (setV s.values (m + 1) n)
      unfold setV
      rw [if_neg (by omega), Nat.add_sub_cancel]
      exact HSET.out.below bel
    · exact (O2.out.set_ne (q := ⟨g, m, none⟩) (HD.out g rfl) (.int .i64 n)).below bel
    · refine Mk.trans (a := w.setCell ⟨g, m, none⟩ (.int .i64 n)) ?_ (Mk.below_ bel)
      exact Mk.set (Mk.refl _ w) (x := ⟨g, m, none⟩) (p := fun k => (Value.slice (some ⟨g, 0, none⟩) s.values.length c1).ownBlock = some k) rfl (.int .i64 n)

--@ spec.l4Known
set_option maxRecDepth 100000 in
set_option maxHeartbeats 1600000 in
theorem c_l4Known {lo hi : Nat} (v : Value) (s : Ste) (n : Int) (w : World) (h : StateV w lo hi v s) : Calls Try.prog 273 #[v, .int .i64 n] w fun e w' => ∃ b, e = .returned (.bool b) ∧ Below w.heap.size w w' := by
  obtain ⟨A1, c1, A2, c2, rfl, h1, h2⟩ := h
  have H1 := Lib.hid h1
  have hl1 := h1.le
  clear h1 h2
  go_enter Try.func273, Try.ntmps273
  have k0 : Blk (w.alloc (.cells #[.slice A1 s.values.length c1, .slice A2 s.heap.length c2] 38)) w.heap.size 38 #[.slice A1 s.values.length c1, .slice A2 s.heap.length c2] := blks
  have hB : Below w.heap.size w (w.alloc (.cells #[.slice A1 s.values.length c1, .slice A2 s.heap.length c2] 38)) := bel
  go_wp2_with fail
  generalize (w.alloc (.cells #[.slice A1 s.values.length c1, .slice A2 s.heap.length c2] 38)) = W at k0 hB ⊢
  (replace qk0 := k0.cell; replace rk0 := k0.frozen; replace lk0 := k0.lt)
  go_loop [5] (fun i => ∃ k : Nat, k ≤ s.values.length ∧ i = .int .i64 k) (fun i => s.values.length - (intOf i).toNat)
  case atStart => exact ⟨0, Nat.zero_le _, rfl⟩
  case round =>
    obtain ⟨k, hk, rfl⟩ := hrel
    by_cases hlt : k < s.values.length
    · obtain ⟨b, off, rfl, g0⟩ := (H1.out.below hB).at hlt
      have hki : (k : Int) < (s.values.length : Int) := by omega
      obtain ⟨f, hf⟩ : ∃ f, f = s.values[k] := ⟨_, rfl⟩
      rw [← hf] at g0
      clear hf
      by_cases f1 : f = n
      · have e1 : (f == n) = true := by simpa using f1
        clear f1
        go_wp2_with fail
        go_ret
        exact ⟨Or.inr rfl, bel⟩
      · have e1 : (f == n) = false := by simpa using f1
        clear f1
        go_wp2_with fail
        go_round
        case rel => exact ⟨k + 1, by omega, by go_num⟩
        case measure => simp [intOf]; omega
    · obtain rfl : k = s.values.length := by omega
      go_wp2_with fail
      go_ret
      exact ⟨Or.inl rfl, bel⟩
end Go.Proofs.Ytmjgcdolnkdfoaa

/- Contracts: impl's copies of states. -/
namespace Go.Proofs.Ytmjgcdolnkdfoaa
open Go Go.RowKit Go.Proofs

--@ impl.copyState
set_option maxRecDepth 100000 in
set_option maxHeartbeats 1600000 in
theorem c_impl_copyState {lo hi : Nat} (v : Value) (s : Ste) (w : World) (h : StateV w lo hi v s) : Calls Try.prog 224 #[v] w fun e w' => ∃ r, e = .returned r ∧ StateO w' w.heap.size r s ∧ Below w.heap.size w w' := by
  obtain ⟨A1, c1, A2, c2, rfl, h1, h2⟩ := h
  have H1 := Lib.hid h1
  have H2 := Lib.hid h2
  clear h1 h2
  go_enter Try.func224, Try.ntmps224
  have k0 : Blk ((w.alloc (.cells #[.slice A1 s.values.length c1, .slice A2 s.heap.length c2] tSt)).alloc (.cells #[.slice none 0 0, .slice none 0 0] tSt)) w.heap.size tSt #[.slice A1 s.values.length c1, .slice A2 s.heap.length c2] := blks
  have kr : Blk ((w.alloc (.cells #[.slice A1 s.values.length c1, .slice A2 s.heap.length c2] tSt)).alloc (.cells #[.slice none 0 0, .slice none 0 0] tSt)) (w.heap.size + 1) tSt #[.slice none 0 0, .slice none 0 0] := blks
  go_wp2_with fail
  refine wp_region_noPanic ?_
  refine wp_region_held_drew (S := (fun w' => ∀ i, w'.cell? ⟨w.heap.size, i, none⟩ = #[.slice A1 s.values.length c1, .slice A2 s.heap.length c2][i]?)) (by kernel_rfl) (Blk.cell blks) (fun hHeld => ?_)
  refine wpAnyH_take (i := 0) (v := ?_) rfl (by kernel_rfl) (by kernel_rfl) (by kernel_rfl) (fun _ _ _ h => h) (Or.inl ⟨by rfl, fun w hSw => ?_⟩) hHeld ?_
  rotate_left
  · ((try dsimp only at hSw); go_split_ands; go_simp; (try with_reducible rfl))
  try simp only [Act.put, List.getElem_toArray, List.getElem_cons_zero, List.getElem_cons_succ, List.setIfInBounds_toArray, List.set_cons_zero, List.set_cons_succ]
  refine wpAnyH_take (i := 1) (v := ?_) rfl (by kernel_rfl) (by kernel_rfl) (by kernel_rfl) (fun _ _ _ h => h) (Or.inl ⟨by rfl, fun w hSw => ?_⟩) hHeld ?_
  rotate_left
  · ((try dsimp only at hSw); go_split_ands; go_simp; (try with_reducible rfl))
  try simp only [Act.put, List.getElem_toArray, List.getElem_cons_zero, List.getElem_cons_succ, List.setIfInBounds_toArray, List.set_cons_zero, List.set_cons_succ]
  refine wpAnyH_take (i := 3) (v := ?_) rfl (by kernel_rfl) (by kernel_rfl) (by kernel_rfl) (fun _ _ _ h => h) (Or.inl ⟨by rfl, fun w hSw => ?_⟩) hHeld ?_
  rotate_left
  · ((try dsimp only at hSw); go_split_ands; go_simp; (try with_reducible rfl))
  try simp only [Act.put, List.getElem_toArray, List.getElem_cons_zero, List.getElem_cons_succ, List.setIfInBounds_toArray, List.set_cons_zero, List.set_cons_succ]
  refine wpAnyH_take (i := 4) (v := ?_) rfl (by kernel_rfl) (by kernel_rfl) (by kernel_rfl) (fun _ _ _ h => h) (Or.inl ⟨by rfl, fun w hSw => ?_⟩) hHeld ?_
  rotate_left
  · ((try dsimp only at hSw); go_split_ands; go_simp; (try with_reducible rfl))
  try simp only [Act.put, List.getElem_toArray, List.getElem_cons_zero, List.getElem_cons_succ, List.setIfInBounds_toArray, List.set_cons_zero, List.set_cons_succ]
  refine wpAnyH_ready (rs := [2]) (by kernel_rfl) (by simp) ?_
  refine AllReadyH.cons rfl (fun K hK => ?_) AllReadyH.nil
  try simp only [List.getElem_toArray, List.getElem_cons_zero, List.getElem_cons_succ]
  (go_simp; refine (c_impl_copyInts A1 c1 s.values _ (H1.out.below bel)).mono ?_; rintro e w1 ⟨r1, rfl, o1, hB1⟩; have hB := bgo (w := w) bel hB1; replace k0 := Blk.next (g := w.heap.size) blks hB1; replace kr := Blk.next (g := w.heap.size + 1) blks hB1)
  refine hK.out _ _ (k0.cell) (fun hHeldN => ?_)
  clear hHeld hK K
  have hHeld := hHeldN
  clear hHeldN
  try simp only [Act.put, List.getElem_toArray, List.getElem_cons_zero, List.getElem_cons_succ, List.setIfInBounds_toArray, List.set_cons_zero, List.set_cons_succ]
  refine wpAnyH_ready (rs := [5]) (by kernel_rfl) (by simp) ?_
  refine AllReadyH.cons rfl (fun K hK => ?_) AllReadyH.nil
  try simp only [List.getElem_toArray, List.getElem_cons_zero, List.getElem_cons_succ]
  (go_simp; refine (c_impl_copyInts A2 c2 s.heap _ (H2.out.below hB)).mono ?_; rintro e w2 ⟨r2, rfl, o2, hB2⟩; have hBB := bgo hB hB2; have hz1 := hB.size; replace k0 := k0.next hB2; replace kr := kr.next hB2)
  refine hK.out _ _ (k0.cell) (fun hHeldN => ?_)
  clear hHeld hK K
  have hHeld := hHeldN
  clear hHeldN
  try simp only [Act.put, List.getElem_toArray, List.getElem_cons_zero, List.getElem_cons_succ, List.setIfInBounds_toArray, List.set_cons_zero, List.set_cons_succ]
  have HD := Lib.hid (show ∀ g, r1.ownBlock = some g → r2.ownBlock ≠ some g from fun g hg e => by
    have := (o1.1.lt g hg).2
    have := (o2.1.lt g e).1
    omega)
  have HO1 := Lib.hid ((o1.below hB2).lower (base' := w.heap.size) (by (try simp) <;> omega))
  have HO2 := Lib.hid (o2.lower (base' := w.heap.size) hz1)
  obtain ⟨F, e1, rfl, -⟩ := o1.reads
  obtain ⟨G, e2, rfl, -⟩ := o2.reads
  clear o1 o2 hB1 hB2
  (replace qkr := kr.cell; replace rkr := kr.frozen; replace lkr := kr.lt)
  refine wpAnyH_take (i := 6) (v := ?_) rfl (by kernel_rfl) (by kernel_rfl) (by kernel_rfl) (fun _ _ _ h => h) (Or.inl ⟨by rfl, fun w hSw => ?_⟩) hHeld ?_
  rotate_left
  · ((try dsimp only at hSw); go_split_ands; go_simp; (try with_reducible rfl))
  try simp only [Act.put, List.getElem_toArray, List.getElem_cons_zero, List.getElem_cons_succ, List.setIfInBounds_toArray, List.set_cons_zero, List.set_cons_succ]
  refine wpAnyH_ready (rs := [7]) (by kernel_rfl) (by simp) ?_
  refine AllReadyH.cons rfl (fun K hK => ?_) AllReadyH.nil
  try simp only [List.getElem_toArray, List.getElem_cons_zero, List.getElem_cons_succ]
  go_simp
  refine hK.out _ _ (Blk.cell blks) (fun hHeldN => ?_)
  clear hHeld hK K
  have hHeld := hHeldN
  clear hHeldN
  try simp only [Act.put, List.getElem_toArray, List.getElem_cons_zero, List.getElem_cons_succ, List.setIfInBounds_toArray, List.set_cons_zero, List.set_cons_succ]
  refine wpAnyH_done (by kernel_rfl) ?_ _
  refine NoPanic.normal ?_
  go_wp2_with fail
  refine bodyPost_ret (v := .agg #[.slice F s.values.length e1, .slice G s.heap.length e2]) (by simp [results, Try.results224, go_sem, qkr]) rfl ⟨_, rfl, ⟨_, _, rfl, ?_, ?_, HD.out⟩, bel⟩
  · exact (HO1.out.setT kr (by decide) 0 _).setT (kr.set_ 0 _) (by decide) 1 _
  · exact (HO2.out.setT kr (by decide) 0 _).setT (kr.set_ 0 _) (by decide) 1 _

--@ impl.Holds
/-- a holds in the whole of s -/
def holdsF (s : Ste) (a : Asn) : Bool := (partOf s a).isSome && (((bitsOf ((partOf s a).getD []) : Nat) : Int) == (bitsOf (usedL s.heap 8) : Nat))
theorem partOf_len {s : Ste} {a : Asn} (h : (partOf s a).isSome = true) : s.heap.length = 8 := by
  unfold partOf at h
  split at h
  · rename_i hv
    simp only [Bool.and_eq_true] at hv
    exact (Ste.valid_len hv.1.1).2
  · cases h
set_option maxRecDepth 100000 in
set_option maxHeartbeats 1600000 in
theorem c_impl_Holds {lo hi lo' hi' : Nat} (v v' : Value) (s : Ste) (a : Asn) (w : World) (h : StateV w lo hi v s) (h' : AsnV w lo' hi' v' a) :
    Calls Try.prog 25 #[v, v'] w fun e w' => e = .returned (.bool (holdsF s a)) ∧ Below w.heap.size w w' := by
  have hV := Lib.hid h
  have hV' := Lib.hid h'
  obtain ⟨A1, c1, A2, c2, rfl, -, -⟩ := h
  obtain ⟨A3, c3, A4, c4, rfl, -, -⟩ := h'
  have HE : Hid (holdsF s a = ((partOf s a).isSome && (((bitsOf ((partOf s a).getD []) : Nat) : Int) == (bitsOf (usedL s.heap 8) : Nat)))) := rfl
  go_enter Try.func25, Try.ntmps25
  have k0 : Blk ((w.alloc (.cells #[.slice A1 s.values.length c1, .slice A2 s.heap.length c2] tSt)).alloc (.cells #[.slice A3 a.facts.length c3, .slice A4 a.atoms.length c4] 26)) w.heap.size tSt #[.slice A1 s.values.length c1, .slice A2 s.heap.length c2] := blks
  go_wp2_with fail
  refine (c_impl_partOf _ _ s a _ (hV.out.below bel) (hV'.out.below bel)).mono ?_
  rintro e w1 ⟨rfl, hB1⟩
  have hB := bgo (w := w) bel hB1
  replace k0 := k0.next hB1
  (replace qk0 := k0.cell; replace rk0 := k0.frozen; replace lk0 := k0.lt)
  clear hB1
  cases hp : (partOf s a).isSome
  · have E : Hid (holdsF s a = false) := by show _ = _; rw [HE.out, hp]; rfl
    clear hp
    go_wp2_with fail
    go_ret
    exact ⟨ret_bool E.out.symm, hB⟩
  · have h8 := Lib.hid (partOf_len hp)
    have E : Hid (holdsF s a = (((bitsOf ((partOf s a).getD []) : Nat) : Int) == (bitsOf (usedL s.heap 8) : Nat))) := by show _ = _; rw [HE.out, hp]; rfl
    clear hp HE
    go_wp2_with fail
    refine (c_impl_usedIn _ s _ (hV.out.below hB) h8.out).mono ?_
    rintro e w2 ⟨rfl, hB2⟩
    go_wp2_with fail
    go_ret
    exact ⟨ret_bool E.out.symm, bgo hB hB2⟩
end Go.Proofs.Ytmjgcdolnkdfoaa

/- The cells that an assertion describes: in a larger state and in a smaller one, and those of a conjunction. Plain; no program. -/
namespace Go.Proofs.Ytmjgcdolnkdfoaa
open Go Go.RowKit

theorem addAll_spec : ∀ (cs seen out : List Int), addAll seen cs = some out → seen.Nodup → out.Nodup := by
  intro cs
  induction cs with
  | nil => intro seen out h hn; simp only [addAll, Option.some.injEq] at h; rw [← h]; exact hn
  | cons c cs ih =>
    intro seen out h hn
    simp only [addAll] at h
    split at h
    · cases h
    · rename_i hc
      refine ih _ _ h ?_
      rw [List.nodup_append]
      exact ⟨hn, by simp, fun x hx y hy e => by rw [List.mem_singleton] at hy; exact hc (by rw [← hy, ← e]; exact hx)⟩
theorem addAll_some : ∀ (cs seen : List Int), (seen ++ cs).Nodup → addAll seen cs = some (seen ++ cs) := by
  intro cs
  induction cs with
  | nil => intro seen _; simp [addAll]
  | cons c cs ih =>
    intro seen h
    simp only [addAll]
    rw [if_neg]
    · rw [ih _ (by simpa using h)]; simp
    · intro hc
      rw [List.nodup_append] at h
      exact h.2.2 c hc c List.mem_cons_self rfl
/-- what a part adds: allocated addresses, each once -/
theorem partAtoms_spec {s : Ste} (hs : s.valid = true) : ∀ (xs : List Atm) (seen out : List Int), partAtoms s seen xs = some out → seen.Nodup → out.Nodup ∧ ∃ new, out = seen ++ new ∧ ∀ c ∈ new, addrB c = true ∧ allocB s.heap c = true := by
  intro xs
  induction xs with
  | nil => intro seen out h hn; simp only [partAtoms, Option.some.injEq] at h; subst h; exact ⟨hn, [], by simp, by simp⟩
  | cons x xs ih =>
    intro seen out h hn
    simp only [partAtoms, Option.bind_eq_some_iff] at h
    obtain ⟨cs, h1, seen', h2, h3⟩ := h
    have hn' := addAll_spec _ _ _ h2 hn
    obtain ⟨g1, new, g2, g3⟩ := ih _ _ h3 hn'
    have e := addAll_mem _ _ _ h2
    refine ⟨g1, cs ++ new, by rw [g2, e, List.append_assoc], fun c hc => ?_⟩
    rcases List.mem_append.1 hc with h | h
    · exact (atomCells_addr hs h1).2 c h
    · exact g3 c h

/-- the cells of h' lie in h as they are -/
def Sub (h' h : List Int) : Prop := ∀ x, allocB h' x = true → allocB h x = true ∧ cont h x = cont h' x
theorem walk_up {h' h : List Int} (H : Sub h' h) : ∀ (n : Nat) (x to : Int) (cs : List Int), walkF h' n x to = some cs → walkF h n x to = some cs := by
  intro n
  induction n with
  | zero => intro x to cs hw; exact hw
  | succ n ih =>
    intro x to cs hw
    simp only [walkF] at hw ⊢
    split at hw
    · rename_i e; rw [if_pos e]; exact hw
    · rename_i e
      rw [if_neg e]
      split at hw
      · rename_i ha
        obtain ⟨g1, g2⟩ := H x ha
        rw [if_pos g1, g2]
        obtain ⟨ds, hd, rfl⟩ := Option.map_eq_some_iff.1 hw
        rw [ih _ _ _ hd]; rfl
      · cases hw
theorem walk_down {h' h : List Int} (H : Sub h' h) : ∀ (n : Nat) (x to : Int) (cs : List Int), walkF h n x to = some cs → (∀ c ∈ cs, allocB h' c = true) → walkF h' n x to = some cs := by
  intro n
  induction n with
  | zero => intro x to cs hw _; exact hw
  | succ n ih =>
    intro x to cs hw hc
    simp only [walkF] at hw ⊢
    split at hw
    · rename_i e; rw [if_pos e]; exact hw
    · rename_i e
      rw [if_neg e]
      split at hw
      · obtain ⟨ds, hd, rfl⟩ := Option.map_eq_some_iff.1 hw
        have ha := hc x List.mem_cons_self
        rw [if_pos ha, ← (H x ha).2, ih _ _ _ hd fun c h => hc c (List.mem_cons_of_mem _ h)]; rfl
      · cases hw
theorem tval_val {s : Ste} (hs : s.valid = true) (t : Int) : 0 ≤ tval s.values t := by
  have hv : s.values.all valB = true := by simp only [Ste.valid, Bool.and_eq_true] at hs; exact hs.2.1
  exact (tval_le hv t).1
theorem atom_up {s' s : Ste} (hs : s'.valid = true) (hv : s'.values = s.values) (H : Sub s'.heap s.heap) {x : Atm} {cs : List Int} (h : atomCells s' x = some cs) : atomCells s x = some cs := by
  unfold atomCells at h ⊢
  rw [← hv]
  split at h
  · rename_i hk; rw [if_pos hk]; exact walk_up H _ _ _ _ h
  · rename_i hk
    rw [if_neg hk]
    split at h
    · rename_i hc
      have ha : allocB s'.heap (tval s'.values x.a) = true := by simp only [allocB, decide_eq_true_eq]; rw [hc]; exact tval_val hs _
      rw [if_pos (by rw [(H _ ha).2]; exact hc)]; exact h
    · cases h
theorem atom_down {s' s : Ste} (hv : s'.values = s.values) (H : Sub s'.heap s.heap) {x : Atm} {cs : List Int} (h : atomCells s x = some cs) (hc : ∀ c ∈ cs, allocB s'.heap c = true) : atomCells s' x = some cs := by
  unfold atomCells at h ⊢
  rw [hv]
  split at h
  · rename_i hk; rw [if_pos hk]; exact walk_down H _ _ _ _ h hc
  · rename_i hk
    rw [if_neg hk]
    split at h
    · rename_i hcc
      obtain rfl := Option.some.inj h
      have ha := hc _ List.mem_cons_self
      rw [if_pos (by rw [← (H _ ha).2]; exact hcc)]
    · cases h
theorem part_up {s' s : Ste} (hs : s'.valid = true) (hv : s'.values = s.values) (H : Sub s'.heap s.heap) {pre : List Int} (hp : pre.Nodup) (hd : ∀ c ∈ pre, allocB s'.heap c = false) :
    ∀ (xs : List Atm) (seen out : List Int), seen.Nodup → (∀ c ∈ seen, allocB s'.heap c = true) → partAtoms s' seen xs = some out → partAtoms s (pre ++ seen) xs = some (pre ++ out) := by
  intro xs
  induction xs with
  | nil => intro seen out _ _ h; simp only [partAtoms, Option.some.injEq] at h; subst h; rfl
  | cons x xs ih =>
    intro seen out hn ha h
    simp only [partAtoms, Option.bind_eq_some_iff] at h ⊢
    obtain ⟨cs, h1, seen', h2, h3⟩ := h
    have e := addAll_mem _ _ _ h2
    have hn' := addAll_spec _ _ _ h2 hn
    have ha' : ∀ c ∈ seen', allocB s'.heap c = true := fun c hc => by
      rw [e] at hc
      rcases List.mem_append.1 hc with h | h
      · exact ha c h
      · exact ((atomCells_addr hs h1).2 c h).2
    refine ⟨cs, atom_up hs hv H h1, pre ++ seen', ?_, ih _ _ hn' ha' h3⟩
    rw [e, ← List.append_assoc]
    apply addAll_some
    rw [List.append_assoc, ← e, List.nodup_append]
    refine ⟨hp, hn', fun x hx y hy exy => ?_⟩
    have h4 := hd x hx
    rw [exy, ha' y hy] at h4
    cases h4
theorem part_down {s' s : Ste} (hs : s.valid = true) (hv : s'.values = s.values) (H : Sub s'.heap s.heap) {pre : List Int} :
    ∀ (xs : List Atm) (seen out : List Int), (pre ++ seen).Nodup → partAtoms s (pre ++ seen) xs = some out → (∀ c ∈ out, c ∉ pre → c ∉ seen → allocB s'.heap c = true) → ∃ out', out = pre ++ out' ∧ partAtoms s' seen xs = some out' := by
  intro xs
  induction xs with
  | nil => intro seen out _ h _; simp only [partAtoms, Option.some.injEq] at h; exact ⟨seen, h.symm, rfl⟩
  | cons x xs ih =>
    intro seen out hn h ha
    simp only [partAtoms, Option.bind_eq_some_iff] at h ⊢
    obtain ⟨cs, h1, seen', h2, h3⟩ := h
    have e := addAll_mem _ _ _ h2
    have hn' := addAll_spec _ _ _ h2 hn
    rw [e, List.append_assoc] at h3 hn'
    obtain ⟨g1, new, g2, g3⟩ := partAtoms_spec hs _ _ _ h3 hn'
    have hsub : ∀ c ∈ cs, c ∈ out := fun c hc => by rw [g2]; simp [hc]
    have hcs : ∀ c ∈ cs, c ∉ pre ∧ c ∉ seen := fun c hc => by
      constructor
      · intro hp
        rw [List.nodup_append] at hn'
        exact hn'.2.2 c hp c (List.mem_append_right _ hc) rfl
      · intro hp
        rw [← List.append_assoc, List.nodup_append] at hn'
        exact hn'.2.2 c (List.mem_append_right _ hp) c hc rfl
    obtain ⟨out', g4, g5⟩ := ih _ _ hn' h3 fun c hc h1 h2 => ha c hc h1 fun h => h2 (List.mem_append_left _ h)
    refine ⟨out', g4, cs, atom_down hv H h1 fun c hc => ha c (hsub c hc) (hcs c hc).1 (hcs c hc).2, seen ++ cs, ?_, g5⟩
    apply addAll_some
    rw [List.nodup_append] at hn'
    exact hn'.2.1
theorem partAtoms_append (s : Ste) (ys : List Atm) : ∀ (xs : List Atm) (seen : List Int), partAtoms s seen (xs ++ ys) = (partAtoms s seen xs).bind fun out => partAtoms s out ys := by
  intro xs
  induction xs with
  | nil => intro seen; rfl
  | cons x xs ih =>
    intro seen
    simp only [List.cons_append, partAtoms]
    cases atomCells s x with
    | none => rfl
    | some cs =>
      simp only [Option.bind_some]
      cases addAll seen cs with
      | none => rfl
      | some seen' => exact ih seen'

/-! states -/
/-- part of a valid assertion whose facts hold -/
theorem partOf_some {s : Ste} {a : Asn} {out : List Int} : partOf s a = some out ↔ s.valid = true ∧ a.valid = true ∧ factsHold a.facts s.values = true ∧ partAtoms s [] a.atoms = some out := by
  unfold partOf
  split
  · rename_i h
    simp only [Bool.and_eq_true] at h
    exact ⟨fun e => ⟨h.1.1, h.1.2, h.2, e⟩, fun e => e.2.2.2⟩
  · rename_i h
    constructor
    · intro e; cases e
    · rintro ⟨h1, h2, h3, -⟩
      exact absurd (by rw [h1, h2, h3]; rfl) h
theorem partOf_spec {s : Ste} {a : Asn} {out : List Int} (h : partOf s a = some out) : out.Nodup ∧ ∀ c ∈ out, addrB c = true ∧ allocB s.heap c = true := by
  obtain ⟨h1, -, -, h4⟩ := partOf_some.1 h
  obtain ⟨g1, new, g2, g3⟩ := partAtoms_spec h1 _ _ _ h4 List.nodup_nil
  rw [List.nil_append] at g2
  subst g2
  exact ⟨g1, g3⟩
theorem holds_iff {s : Ste} {a : Asn} : holdsF s a = true ↔ ∃ out, partOf s a = some out ∧ ∀ c, allocB s.heap c = true → c ∈ out := by
  unfold holdsF
  cases h : partOf s a with
  | none => simp
  | some out =>
    have hsp := partOf_spec h
    have h1 : ∀ x ∈ out, 0 ≤ x := fun x hx => by have := (hsp.2 x hx).1; simp [addrB] at this; omega
    have h2 : ∀ x ∈ usedL s.heap 8, 0 ≤ x := fun x hx => by have := (usedL_mem _ _ _).1 hx; omega
    simp only [Option.isSome_some, Option.getD_some, Bool.true_and, beq_iff_eq, Int.natCast_inj, Option.some.injEq, exists_eq_left']
    rw [bitsOf_eq h1 h2]
    constructor
    · intro h3 c hc
      have := (cont_alloc hc).1
      simp [addrB] at this
      exact (h3 c).2 ((usedL_mem _ _ _).2 ⟨by omega, by omega, hc⟩)
    · intro h3 x
      rw [usedL_mem]
      constructor
      · intro hx
        have := hsp.2 x hx
        have h4 := this.1
        simp [addrB] at h4
        exact ⟨by omega, by omega, this.2⟩
      · intro hx
        exact h3 x hx.2.2
theorem cellsL_mem {S : Nat} {x : Int} : x ∈ cellsL S 8 ↔ 1 ≤ x ∧ x ≤ 8 ∧ S.testBit x.toNat = true := by
  unfold cellsL
  simp only [List.mem_map, List.mem_filter, List.mem_range'_1]
  constructor
  · rintro ⟨n, ⟨h1, h2⟩, rfl⟩; exact ⟨by omega, by omega, h2⟩
  · rintro ⟨h1, h2, h3⟩
    obtain ⟨n, rfl⟩ := Int.eq_ofNat_of_zero_le (show 0 ≤ x by omega)
    exact ⟨n, ⟨by omega, h3⟩, rfl⟩
theorem cells_mem {out : List Int} (h : ∀ c ∈ out, addrB c = true) {x : Int} : x ∈ cellsL (bitsOf out) 8 ↔ x ∈ out := by
  have h1 : ∀ c ∈ out, 1 ≤ c ∧ c ≤ 8 := fun c hc => by have := h c hc; simpa [addrB] using this
  rw [cellsL_mem, testBit_bitsOf fun c hc => by have := h1 c hc; omega]
  constructor
  · rintro ⟨g1, g2, g3⟩
    rw [decide_eq_true_eq, Int.toNat_of_nonneg (by omega)] at g3
    exact g3
  · intro hx
    have := h1 x hx
    exact ⟨this.1, this.2, by rw [decide_eq_true_eq, Int.toNat_of_nonneg (by omega)]; exact hx⟩
theorem cellsL_nodup (S : Nat) : (cellsL S 8).Nodup := by
  unfold cellsL
  unfold List.Nodup
  rw [List.pairwise_map]
  refine List.Pairwise.imp (R := fun a b => a < b) (fun h e => by omega) ?_
  exact (List.pairwise_lt_range' (s := 1) (n := 8)).filter _

/-- a state with some cells alone -/
def keepH (h : List Int) (p : Int → Bool) : List Int := (List.range' 1 8).map fun n : Nat => if p (n : Int) then cont h n else -1
def keepS (s : Ste) (p : Int → Bool) : Ste := ⟨s.values, keepH s.heap p⟩
theorem cont_keep {h : List Int} {p : Int → Bool} {x : Int} : cont (keepH h p) x = if p x then cont h x else -1 := by
  unfold cont
  by_cases ha : addrB x = true
  · rw [if_pos ha, if_pos ha]
    have ha' := ha
    simp only [addrB, decide_eq_true_eq] at ha'
    unfold keepH
    rw [List.getElem?_map, List.getElem?_range' (by omega)]
    have e : ((1 + 1 * (x - 1).toNat : Nat) : Int) = x := by omega
    simp only [Option.map_some, Option.getD_some, e]
    unfold cont
    rw [if_pos ha]
  · rw [if_neg ha, if_neg ha]
    split <;> rfl
theorem alloc_keep {h : List Int} {p : Int → Bool} {x : Int} : allocB (keepH h p) x = (p x && allocB h x) := by
  unfold allocB
  rw [cont_keep]
  cases p x <;> simp
theorem keep_sub (h : List Int) (p : Int → Bool) : Sub (keepH h p) h := by
  intro x hx
  rw [alloc_keep, Bool.and_eq_true] at hx
  exact ⟨hx.2, by rw [cont_keep, if_pos hx.1]⟩
theorem keep_valid {s : Ste} (hs : s.valid = true) (p : Int → Bool) : (keepS s p).valid = true := by
  have hs' := hs
  simp only [Ste.valid, Bool.and_eq_true, decide_eq_true_eq] at hs ⊢
  refine ⟨⟨hs.1.1, by simp [keepS, keepH]⟩, hs.2.1, ?_⟩
  rw [List.all_eq_true]
  intro x hx
  obtain ⟨n, hn, rfl⟩ := List.mem_map.1 hx
  split
  · have := cont_le hs.2.2 (n : Int)
    simp [cellB, valB]; omega
  · simp [cellB]

/-! the laws -/
theorem more_law {s : Ste} {a : Asn} {out : List Int} (h : partOf s a = some out) {n v : Int} (hn : addrB n = true) (hfree : allocB s.heap n = false) (hv : 0 ≤ v ∧ v ≤ 8) :
    partOf ⟨s.values, s.heap.set (n - 1).toNat v⟩ a = some out ∧ holdsF ⟨s.values, s.heap.set (n - 1).toNat v⟩ a = false := by
  obtain ⟨h1, h2, h3, h4⟩ := partOf_some.1 h
  have hlen := (Ste.valid_len h1).2
  have hn' := hn
  simp only [addrB, decide_eq_true_eq] at hn'
  have hcont : ∀ x, cont (s.heap.set (n - 1).toNat v) x = if x = n then v else cont s.heap x := by
    intro x
    unfold cont
    by_cases hx : addrB x = true
    · rw [if_pos hx]
      simp only [addrB, decide_eq_true_eq] at hx
      by_cases e : x = n
      · subst e
        rw [if_pos rfl, List.getElem?_set_self (by omega)]; rfl
      · rw [if_neg e, List.getElem?_set_ne (by omega), if_pos (by simp only [addrB, decide_eq_true_eq]; exact hx)]
    · rw [if_neg hx, if_neg hx, if_neg (fun e => hx (by rw [e]; exact hn))]
  have hsub : Sub s.heap (s.heap.set (n - 1).toNat v) := by
    intro x hx
    have hne : x ≠ n := fun e => by rw [e, hfree] at hx; cases hx
    have hc := hcont x
    rw [if_neg hne] at hc
    exact ⟨by unfold allocB at hx ⊢; rw [hc]; exact hx, hc⟩
  have hvalid : (⟨s.values, s.heap.set (n - 1).toNat v⟩ : Ste).valid = true := by
    simp only [Ste.valid, Bool.and_eq_true, decide_eq_true_eq, List.length_set] at h1 ⊢
    refine ⟨h1.1, h1.2.1, ?_⟩
    rw [List.all_eq_true]
    intro x hx
    rcases List.mem_or_eq_of_mem_set hx with hx | rfl
    · exact List.all_eq_true.1 h1.2.2 x hx
    · simp [cellB, valB]; omega
  have hpart : partOf ⟨s.values, s.heap.set (n - 1).toNat v⟩ a = some out := by
    refine partOf_some.2 ⟨hvalid, h2, h3, ?_⟩
    have := part_up (s' := s) (s := ⟨s.values, s.heap.set (n - 1).toNat v⟩) h1 rfl hsub (pre := []) List.nodup_nil (by simp) a.atoms [] out List.nodup_nil (by simp) h4
    simpa using this
  refine ⟨hpart, ?_⟩
  rw [Bool.eq_false_iff]
  intro hh
  obtain ⟨out', g1, g2⟩ := holds_iff.1 hh
  rw [hpart] at g1
  obtain rfl := Option.some.inj g1
  have := g2 n (by unfold allocB; rw [hcont, if_pos rfl]; simp; omega)
  have h5 := ((partOf_spec h).2 n this).2
  rw [hfree] at h5; cases h5
theorem keep_part {s : Ste} {a : Asn} {out : List Int} (h : partOf s a = some out) {p : Int → Bool} (hp : ∀ c ∈ out, p c = true) : partOf (keepS s p) a = some out := by
  obtain ⟨h1, h2, h3, h4⟩ := partOf_some.1 h
  refine partOf_some.2 ⟨keep_valid h1 p, h2, h3, ?_⟩
  obtain ⟨out', e, g⟩ := part_down (s' := keepS s p) (s := s) h1 rfl (keep_sub _ _) (pre := []) a.atoms [] out (by simp) h4 fun c hc _ _ => by
    show allocB (keepH s.heap p) c = true
    rw [alloc_keep, hp c hc, ((partOf_spec h).2 c hc).2]; rfl
  rw [List.nil_append] at e
  subst e; exact g
theorem keep_holds {s : Ste} {a : Asn} {out : List Int} (h : partOf s a = some out) {p : Int → Bool} (hp : ∀ c ∈ out, p c = true) (hq : ∀ c, p c = true → addrB c = true → c ∈ out) : holdsF (keepS s p) a = true := by
  refine holds_iff.2 ⟨out, keep_part h hp, fun c hc => ?_⟩
  have hc' : (p c && allocB s.heap c) = true := by rw [← alloc_keep]; exact hc
  rw [Bool.and_eq_true] at hc'
  exact hq c hc'.1 (cont_alloc hc'.2).1
theorem nodup_le : ∀ {l m : List Int}, l.Nodup → (∀ x ∈ l, x ∈ m) → l.length ≤ m.length := by
  intro l
  induction l with
  | nil => intro m _ _; simp
  | cons x l ih =>
    intro m hn h
    rw [List.nodup_cons] at hn
    have hx := h x List.mem_cons_self
    have := ih (m := m.erase x) hn.2 fun y hy => (List.mem_erase_of_ne (fun (e : y = x) => hn.1 (by rw [← e]; exact hy))).2 (h y (List.mem_cons_of_mem _ hy))
    rw [List.length_erase_of_mem hx] at this
    have := List.length_pos_of_mem hx
    rw [List.length_cons]
    omega
theorem nodup_all : ∀ {l m : List Int}, l.Nodup → (∀ x ∈ l, x ∈ m) → m.length ≤ l.length → ∀ y ∈ m, y ∈ l := by
  intro l
  induction l with
  | nil => intro m _ _ h y hy; have := List.length_pos_of_mem hy; simp at h; rw [h] at this; simp at this
  | cons x l ih =>
    intro m hn h hl y hy
    rw [List.nodup_cons] at hn
    have hx := h x List.mem_cons_self
    by_cases e : y = x
    · rw [e]; exact List.mem_cons_self
    · refine List.mem_cons_of_mem _ (ih (m := m.erase x) hn.2 (fun z hz => (List.mem_erase_of_ne (fun (e : z = x) => hn.1 (by rw [← e]; exact hz))).2 (h z (List.mem_cons_of_mem _ hz))) ?_ y ((List.mem_erase_of_ne e).2 hy))
      rw [List.length_erase_of_mem hx]
      rw [List.length_cons] at hl
      omega
theorem holds_len {s : Ste} {a : Asn} {out : List Int} (h : partOf s a = some out) : holdsF s a = decide ((cellsL (bitsOf out) 8).length = (usedL s.heap 8).length) := by
  have hsp := partOf_spec h
  have hm := fun x => cells_mem (fun c hc => (hsp.2 c hc).1) (x := x)
  have hu : (usedL s.heap 8).Nodup := by
    unfold usedL
    unfold List.Nodup
    rw [List.pairwise_map]
    refine List.Pairwise.imp (R := fun a b => a < b) (fun h e => by omega) ?_
    exact (List.pairwise_lt_range' (s := 1) (n := 8)).filter _
  have hsub : ∀ x ∈ cellsL (bitsOf out) 8, x ∈ usedL s.heap 8 := fun x hx => by
    have hx' := (hm x).1 hx
    have h4 := (hsp.2 x hx').1
    simp only [addrB, decide_eq_true_eq] at h4
    exact (usedL_mem _ _ _).2 ⟨by omega, by omega, (hsp.2 x hx').2⟩
  rw [Bool.eq_iff_iff, decide_eq_true_eq, holds_iff]
  constructor
  · rintro ⟨out', g1, g2⟩
    rw [h] at g1
    obtain rfl := Option.some.inj g1
    have hsub2 : ∀ x ∈ usedL s.heap 8, x ∈ cellsL (bitsOf out) 8 := fun x hx => (hm x).2 (g2 x ((usedL_mem _ _ _).1 hx).2.2)
    exact Nat.le_antisymm (nodup_le (cellsL_nodup _) hsub) (nodup_le hu hsub2)
  · intro e
    refine ⟨out, h, fun c hc => ?_⟩
    have h4 := (cont_alloc hc).1
    simp only [addrB, decide_eq_true_eq] at h4
    exact (hm c).1 (nodup_all (cellsL_nodup _) hsub (by omega) c ((usedL_mem _ _ _).2 ⟨by omega, by omega, hc⟩))
theorem facts_star {a b : Asn} {vs : List Int} (hf : factsValid (a.facts ++ b.facts) = true) (ha : factsValid a.facts = true) (hb : factsValid b.facts = true) : factsHold (a.facts ++ b.facts) vs = (factsHold a.facts vs && factsHold b.facts vs) := by
  unfold factsHold
  rw [hf, ha, hb, List.all_append]
  cases decide (vs.length = 8) <;> cases a.facts.all (Fct.holds vs) <;> simp
theorem Asn.valid_facts {a : Asn} (h : a.valid = true) : factsValid a.facts = true := by
  simp only [Asn.valid, Bool.and_eq_true] at h; exact h.1
theorem star_none {s : Ste} {a b c : Asn} (hc : starF a b = some c) (h : partOf s a = none) : holdsF s c = false := by
  rw [Bool.eq_false_iff]
  intro hh
  obtain ⟨out, g1, -⟩ := holds_iff.1 hh
  obtain ⟨h1, h2, h3, h4⟩ := partOf_some.1 g1
  unfold starF at hc
  split at hc
  · rename_i hv
    obtain rfl := Option.some.inj hc
    simp only [Bool.and_eq_true] at hv
    have hfs : factsHold (a.facts ++ b.facts) s.values = true := h3
    rw [facts_star (Asn.valid_facts hv.2) (Asn.valid_facts hv.1.1) (Asn.valid_facts hv.1.2), Bool.and_eq_true] at hfs
    have h5 : partAtoms s [] (a.atoms ++ b.atoms) = some out := h4
    rw [partAtoms_append, Option.bind_eq_some_iff] at h5
    obtain ⟨o, h6, -⟩ := h5
    have := partOf_some.2 ⟨h1, hv.1.1, hfs.1, h6⟩
    rw [h] at this; cases this
  · cases hc
theorem star_law {s : Ste} {a b c : Asn} (hc : starF a b = some c) {out : List Int} (h : partOf s a = some out) {p : Int → Bool} (hp : ∀ x, addrB x = true → (p x = true ↔ x ∉ out)) : holdsF s c = holdsF (keepS s p) b := by
  unfold starF at hc
  split at hc
  case isFalse => cases hc
  rename_i hv
  obtain rfl := Option.some.inj hc
  simp only [Bool.and_eq_true] at hv
  obtain ⟨h1, h2, h3, h4⟩ := partOf_some.1 h
  have hsp := partOf_spec h
  have hfs := facts_star (vs := s.values) (Asn.valid_facts hv.2) (Asn.valid_facts hv.1.1) (Asn.valid_facts hv.1.2)
  rw [h3, Bool.true_and] at hfs
  have happ : partAtoms s [] (a.atoms ++ b.atoms) = partAtoms s out b.atoms := by rw [partAtoms_append, h4]; rfl
  rw [Bool.eq_iff_iff, holds_iff, holds_iff]
  constructor
  · rintro ⟨o, g1, g2⟩
    obtain ⟨-, -, g3, g4⟩ := partOf_some.1 g1
    have g3' : factsHold (a.facts ++ b.facts) s.values = true := g3
    have g4' : partAtoms s [] (a.atoms ++ b.atoms) = some o := g4
    rw [happ] at g4'
    rw [hfs] at g3'
    have hall := partOf_spec g1
    obtain ⟨o', e, g5⟩ := part_down (s' := keepS s p) (s := s) h1 rfl (keep_sub _ _) (pre := out) b.atoms [] o (by simpa using hsp.1) (by simpa using g4') fun x hx hxo _ => by
      show allocB (keepH s.heap p) x = true
      have := hall.2 x hx
      rw [alloc_keep, (hp x this.1).2 hxo, this.2]; rfl
    refine ⟨o', partOf_some.2 ⟨keep_valid h1 p, hv.1.2, g3', g5⟩, fun x hx => ?_⟩
    have hx' : (p x && allocB s.heap x) = true := by rw [← alloc_keep]; exact hx
    rw [Bool.and_eq_true] at hx'
    have h6 := g2 x hx'.2
    rw [e] at h6
    rcases List.mem_append.1 h6 with h6 | h6
    · exact absurd h6 ((hp x (cont_alloc hx'.2).1).1 hx'.1)
    · exact h6
  · rintro ⟨o, g1, g2⟩
    obtain ⟨-, -, g3, g4⟩ := partOf_some.1 g1
    have hup := part_up (s' := keepS s p) (s := s) (keep_valid h1 p) rfl (keep_sub _ _) hsp.1 (fun x hx => by
      show allocB (keepH s.heap p) x = false
      rw [alloc_keep]
      have := hp x (hsp.2 x hx).1
      cases hpx : p x
      · rfl
      · exact absurd hx (this.1 hpx)) b.atoms [] o List.nodup_nil (by simp) g4
    rw [List.append_nil, ← happ] at hup
    refine ⟨out ++ o, partOf_some.2 ⟨h1, hv.2, ?_, hup⟩, fun x hx => ?_⟩
    · show factsHold (a.facts ++ b.facts) s.values = true
      rw [hfs]; exact g3
    · by_cases hxo : x ∈ out
      · exact List.mem_append_left _ hxo
      · refine List.mem_append_right _ (g2 x ?_)
        show allocB (keepH s.heap p) x = true
        rw [alloc_keep, (hp x (cont_alloc hx).1).2 hxo, hx]; rfl
end Go.Proofs.Ytmjgcdolnkdfoaa

/- A state in which a part holds satisfies the assertion; its case. Plain; no program. -/
namespace Go.Proofs.Ytmjgcdolnkdfoaa
open Go Go.RowKit

theorem walk_head (h : List Int) (n : Nat) {x to : Int} {cs : List Int} (hw : walkF h (n + 1) x to = some cs) (hne : x ≠ to) : x ∈ cs := by
  rw [walkF, if_neg hne] at hw
  split at hw
  · obtain ⟨ds, -, rfl⟩ := Option.map_eq_some_iff.1 hw
    exact List.mem_cons_self
  · cases hw
theorem head_cells {s : Ste} (hs : s.valid = true) {x : Atm} {cs : List Int} (hk : x.kind = 1 ∨ x.kind = 2) (h : atomCells s x = some cs) (hf : fillM (tval s.values) x = true) : tval s.values x.a ∈ cs := by
  unfold atomCells at h
  unfold fillM at hf
  split at h
  · rename_i h2
    have hne : tval s.values x.a ≠ tval s.values x.b := by
      intro e
      rw [decide_eq_false (by omega : ¬ x.kind = 1), decide_eq_true e] at hf
      cases hf
    exact walk_head _ 7 h hne
  · split at h
    · obtain rfl := Option.some.inj h
      exact List.mem_cons_self
    · cases h
theorem part_heads {s : Ste} (hs : s.valid = true) : ∀ (xs : List Atm) (seen out : List Int), (∀ x ∈ xs, x.kind = 1 ∨ x.kind = 2) → partAtoms s seen xs = some out → seen.Nodup →
    (∀ x ∈ xs, fillM (tval s.values) x = true → addrB (tval s.values x.a) = true ∧ tval s.values x.a ∉ seen) ∧ ((xs.filter (fillM (tval s.values))).map fun x => tval s.values x.a).Nodup := by
  intro xs
  induction xs with
  | nil => intro seen out _ _ _; exact ⟨fun x hx => (by cases hx), List.nodup_nil⟩
  | cons x xs ih =>
    intro seen out hk h hn
    simp only [partAtoms, Option.bind_eq_some_iff] at h
    obtain ⟨cs, h1, seen', h2, h3⟩ := h
    have hn' := addAll_spec _ _ _ h2 hn
    have e := addAll_mem _ _ _ h2
    obtain ⟨g1, g2⟩ := ih _ _ (fun y hy => hk y (List.mem_cons_of_mem _ hy)) h3 hn'
    have hx := fun hf => head_cells hs (hk x List.mem_cons_self) h1 hf
    have hfirst : fillM (tval s.values) x = true → addrB (tval s.values x.a) = true ∧ tval s.values x.a ∉ seen := fun hf => by
      refine ⟨((atomCells_addr hs h1).2 _ (hx hf)).1, fun hm => ?_⟩
      rw [e, List.nodup_append] at hn'
      exact hn'.2.2 _ hm _ (hx hf) rfl
    refine ⟨fun y hy hf => ?_, ?_⟩
    · rcases List.mem_cons.1 hy with rfl | hy
      · exact hfirst hf
      · have := g1 y hy hf
        exact ⟨this.1, fun hm => this.2 (by rw [e]; exact List.mem_append_left _ hm)⟩
    · cases hf : fillM (tval s.values) x
      · rw [List.filter_cons_of_neg (by simp [hf])]
        exact g2
      · rw [List.filter_cons_of_pos hf, List.map_cons, List.nodup_cons]
        refine ⟨fun hm => ?_, g2⟩
        obtain ⟨y, hy, ey⟩ := List.mem_map.1 hm
        rw [List.mem_filter] at hy
        have := (g1 y hy.1 hy.2).2
        rw [ey, e] at this
        exact this (List.mem_append_right _ (hx hf))
theorem part_sat {s : Ste} {a : Asn} {out : List Int} (h : partOf s a = some out) : Sat (tval s.values) a := by
  obtain ⟨h1, h2, h3, h4⟩ := partOf_some.1 h
  have hk : ∀ x ∈ a.atoms, x.kind = 1 ∨ x.kind = 2 := fun x hx => by
    have hv := h2
    simp only [Asn.valid, Bool.and_eq_true] at hv
    have := List.all_eq_true.1 hv.2.2 x hx
    simp [Atm.valid] at this
    exact this.1.1
  obtain ⟨g1, g2⟩ := part_heads h1 _ _ _ hk h4 List.nodup_nil
  refine ⟨fun f hf => ?_, fun x hx hfi e => ?_, g2⟩
  · simp only [factsHold, Bool.and_eq_true] at h3
    have := List.all_eq_true.1 h3.2 f hf
    unfold Fct.holds at this
    exact eq_of_beq this
  · have := (g1 x hx hfi).1
    have e0 : tval s.values 0 = 0 := rfl
    rw [e, e0] at this
    simp [addrB] at this
/-- the case of a state -/
def caseOfF (s : Ste) (a : Asn) : List Int := canon (tval s.values) (caseS a 0)
def caseOfL (s : Ste) (a : Asn) : List Int := if s.valid && a.valid then caseOfF s a else []
theorem case_of_law {s : Ste} {a : Asn} (h : holdsF s a = true) : s.valid = true ∧ a.valid = true ∧ caseOfF s a ∈ cases a (caseS a 0) ∧ consB a = true := by
  obtain ⟨out, h1, -⟩ := holds_iff.1 h
  have hv := partOf_some.1 h1
  have hs := part_sat h1
  exact ⟨hv.1, hv.2.1, sat_case hv.2.1 (caseS_zero a 0) (caseS_terms hv.2.1 0) hs, consB_iff.2 ⟨hv.2.1, _, hs⟩⟩
end Go.Proofs.Ytmjgcdolnkdfoaa
