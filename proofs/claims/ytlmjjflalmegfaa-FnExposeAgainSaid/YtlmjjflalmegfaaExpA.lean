/- Exposing cells: the helpers of impl. -/
import Derived.Test.YtlmjjflalmegfaaImpI
set_option linter.unusedSimpArgs false
set_option linter.unusedVariables false
namespace Go.Proofs.Ytlmjjflalmegfaa
open Go Go.RowKit Go.Proofs
attribute [local go_sem ↓] Go.wp_at_zero Go.wp_at_succ

/-- an assertion in slices; the atoms' slice has room for its length -/
def AsnC (w : World) (lo hi : Nat) (v : Value) (a : Asn) : Prop :=
  ∃ A1 c1 A2 c2, v = .agg #[.slice A1 a.facts.length c1, .slice A2 a.atoms.length c2] ∧ FactsV w lo hi A1 a.facts ∧ AtomsV w lo hi A2 a.atoms ∧ a.atoms.length ≤ c2
theorem AsnC.V {w : World} {lo hi : Nat} {v : Value} {a : Asn} (h : AsnC w lo hi v a) : AsnV w lo hi v a := by
  obtain ⟨A1, c1, A2, c2, e, h1, h2, -⟩ := h; exact ⟨A1, c1, A2, c2, e, h1, h2⟩
theorem AsnC.below {w w' : World} {lo hi : Nat} {v : Value} {a : Asn} (h : AsnC w lo hi v a) (hb : Below w.heap.size w w') : AsnC w' lo hi v a := by
  obtain ⟨A1, c1, A2, c2, e, h1, h2, h3⟩ := h; exact ⟨A1, c1, A2, c2, e, h1.below hb, h2.below hb, h3⟩
theorem own_cap {w : World} {base : Nat} {e : TypeId} {size n c : Nat} {A : Option Addr} {xs : List Value} (h : w.ownsRow base e size (.slice A n c) n xs) : n ≤ c := by
  rcases h.2 with ⟨e1, e2⟩ | ⟨g, cap, cur, e1, -, -, hn, -⟩
  · omega
  · injection e1 with e1 e2 e3; omega
theorem AsnO.C {w : World} {base : Nat} {v : Value} {a : Asn} (h : AsnO w base v a) : AsnC w base w.heap.size v a := by
  obtain ⟨fv, av, rfl, h1, h2⟩ := h
  obtain ⟨A1, c1, rfl, f1⟩ := h1.reads
  obtain ⟨A2, c2, rfl, f2⟩ := h2.reads
  exact ⟨A1, c1, A2, c2, rfl, f1, f2, own_cap h2.1⟩
/-- the first logical variable that is not in a set -/
def newT (S : Nat) : Option Nat := (List.range' 5 4).find? fun t => !S.testBit t
def unusedI (S : Nat) : Int := match newT S with | some t => (t : Int) | none => 0
theorem newT_yes {S t : Nat} (h5 : 5 ≤ t) (h8 : t ≤ 8) (h1 : ∀ k, 5 ≤ k → k < t → S.testBit k = true) (h2 : S.testBit t = false) : newT S = some t := by
  unfold newT
  have e : List.range' 5 4 = List.range' 5 (t - 5) ++ t :: List.range' (t + 1) (8 - t) := by
    have : t = 5 ∨ t = 6 ∨ t = 7 ∨ t = 8 := by omega
    rcases this with rfl | rfl | rfl | rfl <;> rfl
  rw [e, List.find?_append]
  have : (List.range' 5 (t - 5)).find? (fun t => !S.testBit t) = none := by
    rw [List.find?_eq_none]
    intro x hx
    have := List.mem_range'_1.1 hx
    simp [h1 x (by omega) (by omega)]
  rw [this, List.find?_cons, h2]; rfl
theorem newT_no {S : Nat} (h1 : ∀ k, 5 ≤ k → k ≤ 8 → S.testBit k = true) : newT S = none := by
  unfold newT
  rw [List.find?_eq_none]
  intro x hx
  have := List.mem_range'_1.1 hx
  simp [h1 x (by omega) (by omega)]
--@ (impl.termSet).unused
set_option maxRecDepth 100000 in
set_option maxHeartbeats 1600000 in
theorem c_impl_unused (S : Nat) (w : World) (hS : S < 512) : Calls Try.prog 143 #[.int .u16 S] w fun e w' => e = .returned (.tuple #[.int .i64 (unusedI S), .bool (newT S).isSome]) ∧ w = w' := by
  go_enter Try.func143, Try.ntmps143
  go_wp2_with fail
  go_loop [4] (fun i => ∃ k : Nat, 5 ≤ k ∧ k ≤ 9 ∧ i = .int .i64 k ∧ Hid (∀ j, 5 ≤ j → j < k → S.testBit j = true)) (fun i => 10 - (intOf i).toNat)
  case atStart => exact ⟨5, by omega, by omega, rfl, Lib.hid fun j h1 h2 => by omega⟩
  case round =>
    obtain ⟨k, h5, h9, rfl, HA⟩ := hrel
    by_cases hlt : k < 9
    · have hki : (k : Int) ≤ 8 := by omega
      have ht : isTermB (k : Int) = true := by simp [isTermB]; omega
      have et : ((k : Int)).toNat = k := by omega
      go_wp2_with fail
      refine (c_impl_tHas S _ _ hS).mono ?_
      rintro e w1 ⟨rfl, rfl⟩
      rw [ht, et]
      clear ht et
      cases hb : S.testBit k
      · have E := Lib.hid (newT_yes h5 (by omega) HA.out hb)
        clear hb
        go_wp2_with fail
        go_ret2
        exact ⟨by unfold unusedI; rw [E.out]; rfl, rfl⟩
      · have HA2 : Hid (∀ j, 5 ≤ j → j < k + 1 → S.testBit j = true) := Lib.hid fun j h1 h2 => by
          by_cases e : j = k
          · rw [e]; exact hb
          · exact HA.out j h1 (by omega)
        clear hb HA
        go_wp2_with fail
        go_round
        case rel => exact ⟨k + 1, by omega, by omega, by go_num, HA2⟩
        case measure => simp [intOf]; omega
    · obtain rfl : k = 9 := by omega
      have E := Lib.hid (newT_no (S := S) fun j h1 h2 => HA.out j h1 (by omega))
      go_wp2_with fail
      go_ret2
      exact ⟨by unfold unusedI; rw [E.out]; rfl, rfl⟩
--@ impl.newVariable
set_option maxRecDepth 100000 in
set_option maxHeartbeats 1600000 in
theorem c_impl_newVariable {lo hi : Nat} (v : Value) (a : Asn) (K : Nat) (w : World) (h : AsnV w lo hi v a) (hK : K < 512) : Calls Try.prog 120 #[v, .int .u16 K] w fun e w' => e = .returned (.tuple #[.int .i64 (unusedI (tset (termsL a) ||| K)), .bool (newT (tset (termsL a) ||| K)).isSome]) ∧ Below w.heap.size w w' := by
  have hV := Lib.hid h
  obtain ⟨A1, c1, A2, c2, rfl, -, -⟩ := h
  have HT := Lib.hid (tset_lt (termsL a))
  have HO : Hid (bits .or .u16 (tset (termsL a) : Int) (K : Int) = ((tset (termsL a) ||| K : Nat) : Int)) := Lib.hid (u16_or_nat _ _ (by have := tset_lt (termsL a); omega) (by omega))
  have HL : Hid (tset (termsL a) ||| K < 512) := Lib.hid (Nat.or_lt_two_pow (n := 9) (tset_lt _) hK)
  go_enter Try.func120, Try.ntmps120
  go_wp2_with fail
  refine (c_impl_termsIn _ a _ (hV.out.below bel)).mono ?_
  rintro e w1 ⟨rfl, hB1⟩
  have hB := bgo (w := w) bel hB1
  clear hB1
  go_wp2_with fail
  rw [HO.out]
  refine (c_impl_unused _ _ HL.out).mono ?_
  rintro e w2 ⟨rfl, rfl⟩
  go_wp2_with fail
  go_ret2
  exact ⟨rfl, hB⟩
--@ impl.withoutAtom
theorem AtomsV.take_ {w : World} {lo hi : Nat} {A : Option Addr} {xs : List Atm} (h : AtomsV w lo hi A xs) {k : Nat} (hk : k ≤ xs.length) : AtomsV w lo hi A (xs.take k) := by
  have hl : (xs.take k).length = k := by rw [List.length_take]; omega
  have e : encA xs = encA (xs.take k) ++ encA (xs.drop k) := by rw [← List.flatMap_append, List.take_append_drop]
  refine ⟨⟨len3 _ _ _ _, fun hn => ?_⟩, by rw [hl]; exact Nat.le_trans hk h.lim⟩
  obtain ⟨b, o, e2, h1, h2, hc⟩ := h.raw.2 (by omega)
  refine ⟨b, o, e2, h1, h2, fun j u hu => hc j u ?_⟩
  rw [e, List.getElem?_append_left ?_]
  · exact hu
  · exact (List.getElem?_eq_some_iff.1 hu).1
theorem AtomsV.drop_ {w : World} {lo hi b o : Nat} {xs : List Atm} (h : AtomsV w lo hi (some ⟨b, o, none⟩) xs) {k : Nat} (hk : k ≤ xs.length) : AtomsV w lo hi (some ⟨b, o + k * 3, none⟩) (xs.drop k) := by
  have hl : (xs.drop k).length = xs.length - k := List.length_drop
  have e : encA xs = encA (xs.take k) ++ encA (xs.drop k) := by rw [← List.flatMap_append, List.take_append_drop]
  have ht : (encA (xs.take k)).length = k * 3 := by rw [len3, List.length_take]; omega
  refine ⟨⟨len3 _ _ _ _, fun hn => ?_⟩, by rw [hl]; exact Nat.le_trans (Nat.sub_le _ _) h.lim⟩
  obtain ⟨b', o', e2, h1, h2, hc⟩ := h.raw.2 (by omega)
  injection e2 with e2
  injection e2 with e3 e4
  subst e3 e4
  refine ⟨_, _, rfl, h1, h2, fun j u hu => ?_⟩
  have := hc (k * 3 + j) u (by rw [e, List.getElem?_append_right (by omega), ht, Nat.add_sub_cancel_left]; exact hu)
  rwa [← Nat.add_assoc] at this
/-- slices of atoms -/
theorem sliceAh (b o M d m : Nat) (hm : m ≤ d) (w : World) : (Instr.slice 32 (.slice (some ⟨b, o, none⟩) M d) none (some (.int .i64 (m : Int))) none).run Try.prog w = .ok (.slice (some ⟨b, o, none⟩) m d) w := by
  have h1 : (0 : Int) ≤ (m : Int) := by omega
  have h2 : (m : Int) ≤ (d : Int) := by omega
  go_simp
theorem sliceAl (b o M d m : Nat) (hm : m ≤ M) (hd : M ≤ d) : ∃ A', (∀ w : World, (Instr.slice 32 (.slice (some ⟨b, o, none⟩) M d) (some (.int .i64 (m : Int))) none none).run Try.prog w = .ok (.slice A' (M - m) (d - m)) w) ∧ (m < d → A' = some ⟨b, o + m * 3, none⟩) := by
  have h1 : (0 : Int) ≤ (m : Int) := by omega
  have h2 : (m : Int) ≤ (M : Int) := by omega
  by_cases hmd : m < d
  · refine ⟨some ⟨b, o + m * 3, none⟩, fun w => ?_, fun _ => rfl⟩
    go_simp
    intro h
    omega
  · obtain rfl : m = d := by omega
    refine ⟨some ⟨b, o, none⟩, fun w => ?_, fun h => by omega⟩
    go_simp
def withoutL (xs : List Atm) (i : Nat) : List Atm := xs.take i ++ xs.drop (i + 1)
theorem withoutL_len {xs : List Atm} {i : Nat} (h : i < xs.length) : (withoutL xs i).length + 1 = xs.length := by
  unfold withoutL; rw [List.length_append, List.length_take, List.length_drop]; omega
set_option maxRecDepth 100000 in
set_option maxHeartbeats 1600000 in
theorem c_impl_without {lo hi : Nat} (v : Value) (a : Asn) (i : Nat) (w : World) (h : AsnC w lo hi v a) (hi : i < a.atoms.length) :
    Calls Try.prog 119 #[v, .int .i64 i] w fun e w' => ∃ r, e = .returned r ∧ AtomsO w' w.heap.size r (withoutL a.atoms i) ∧ Below w.heap.size w w' := by
  obtain ⟨A1, c1, A2, c2, rfl, h1, h2, hcap⟩ := h
  obtain ⟨b, o, rfl, -⟩ := h2.at hi
  have HV := Lib.hid h2
  have hl := h2.le
  have hs1 := sliceAh b o a.atoms.length c2 i (by omega)
  obtain ⟨A', hs2, hA'⟩ := sliceAl b o a.atoms.length c2 (i + 1) (by omega) hcap
  have hT := Lib.hid (h2.take_ (k := i) (by omega))
  have hD : Hid (AtomsV w lo _ A' (a.atoms.drop (i + 1))) := Lib.hid (by
    by_cases hlt : i + 1 < a.atoms.length
    · rw [hA' (by omega)]
      exact h2.drop_ (by omega)
    · rw [List.drop_eq_nil_of_le (by omega)]
      exact Rd.nil _ _ _ _ _)
  have e1 : (a.atoms.take i).length = i := by rw [List.length_take]; omega
  have e2 : (a.atoms.drop (i + 1)).length = a.atoms.length - (i + 1) := List.length_drop
  have hj := Lib.hid (fun (W : World) (hb : Below w.heap.size w W) => (show Calls Try.prog 61 #[.slice (some ⟨b, o, none⟩) i c2, .slice A' (a.atoms.length - (i + 1)) (c2 - (i + 1))] W fun e w' => ∃ r, e = .returned r ∧ AtomsO w' W.heap.size r (withoutL a.atoms i) ∧ Below W.heap.size W w' from by
    have := c_joinA (some ⟨b, o, none⟩) A' c2 (c2 - (i + 1)) (a.atoms.take i) (a.atoms.drop (i + 1)) W (hT.out.below hb) (hD.out.below hb) (by rw [e1, e2]; omega)
    rwa [e1, e2] at this))
  clear h1 h2 hA' e1 e2
  push_cast at hs2
  have hw : IntKind.i64.wrap ((i : Int) + 1) = (i : Int) + 1 := IntWalk.i64_in _ (by omega)
  go_enter Try.func119, Try.ntmps119
  have k0 : Blk (w.alloc (.cells #[.slice A1 a.facts.length c1, .slice (some ⟨b, o, none⟩) a.atoms.length c2] tAs)) w.heap.size tAs #[.slice A1 a.facts.length c1, .slice (some ⟨b, o, none⟩) a.atoms.length c2] := blks
  go_wp2_with fail
  refine wp_region_noPanic ?_
  refine wp_region_held_drew (S := (fun w' => ∀ i, w'.cell? ⟨w.heap.size, i, none⟩ = #[.slice A1 a.facts.length c1, .slice (some ⟨b, o, none⟩) a.atoms.length c2][i]?)) (by kernel_rfl) (Blk.cell blks) (fun hHeld => ?_)
  refine wpAnyH_take (i := 0) (v := ?_) rfl (by kernel_rfl) (by kernel_rfl) (by kernel_rfl) (fun _ _ _ h => h) (Or.inl ⟨by rfl, fun w hSw => ?_⟩) hHeld ?_
  rotate_left
  · ((try dsimp only at hSw); go_split_ands; go_simp; (try with_reducible rfl))
  try simp only [Act.put, List.getElem_toArray, List.getElem_cons_zero, List.getElem_cons_succ, List.setIfInBounds_toArray, List.set_cons_zero, List.set_cons_succ]
  refine wpAnyH_take (i := 1) (v := ?_) rfl (by kernel_rfl) (by kernel_rfl) (by kernel_rfl) (fun _ _ _ h => h) (Or.inl ⟨by rfl, fun w hSw => ?_⟩) hHeld ?_
  rotate_left
  · ((try dsimp only at hSw); go_split_ands; go_simp; (try with_reducible rfl))
  try simp only [Act.put, List.getElem_toArray, List.getElem_cons_zero, List.getElem_cons_succ, List.setIfInBounds_toArray, List.set_cons_zero, List.set_cons_succ]
  refine wpAnyH_take (i := 2) (v := ?_) rfl (by kernel_rfl) (by kernel_rfl) (by kernel_rfl) (fun _ _ _ h => h) (Or.inl ⟨by rfl, fun w hSw => ?_⟩) hHeld ?_
  rotate_left
  · ((try dsimp only at hSw); go_split_ands; go_simp; (try with_reducible rfl))
  try simp only [Act.put, List.getElem_toArray, List.getElem_cons_zero, List.getElem_cons_succ, List.setIfInBounds_toArray, List.set_cons_zero, List.set_cons_succ]
  refine wpAnyH_take (i := 3) (v := ?_) rfl (by kernel_rfl) (by kernel_rfl) (by kernel_rfl) (fun _ _ _ h => h) (Or.inl ⟨by rfl, fun w hSw => ?_⟩) hHeld ?_
  rotate_left
  · ((try dsimp only at hSw); go_split_ands; go_simp; (try with_reducible rfl))
  try simp only [Act.put, List.getElem_toArray, List.getElem_cons_zero, List.getElem_cons_succ, List.setIfInBounds_toArray, List.set_cons_zero, List.set_cons_succ]
  refine wpAnyH_take (i := 4) (v := ?_) rfl (by kernel_rfl) (by kernel_rfl) (by kernel_rfl) (fun _ _ _ h => h) (Or.inl ⟨by rfl, fun w hSw => ?_⟩) hHeld ?_
  rotate_left
  · ((try dsimp only at hSw); go_split_ands; go_simp; (try with_reducible rfl))
  try simp only [Act.put, List.getElem_toArray, List.getElem_cons_zero, List.getElem_cons_succ, List.setIfInBounds_toArray, List.set_cons_zero, List.set_cons_succ]
  refine wpAnyH_take (i := 5) (v := ?_) rfl (by kernel_rfl) (by kernel_rfl) (by kernel_rfl) (fun _ _ _ h => h) (Or.inl ⟨by rfl, fun w hSw => ?_⟩) hHeld ?_
  rotate_left
  · ((try dsimp only at hSw); go_split_ands; go_simp; (try with_reducible rfl))
  try simp only [Act.put, List.getElem_toArray, List.getElem_cons_zero, List.getElem_cons_succ, List.setIfInBounds_toArray, List.set_cons_zero, List.set_cons_succ]
  refine wpAnyH_take (i := 6) (v := ?_) rfl (by kernel_rfl) (by kernel_rfl) (by kernel_rfl) (fun _ _ _ h => h) (Or.inl ⟨by rfl, fun w hSw => ?_⟩) hHeld ?_
  rotate_left
  · ((try dsimp only at hSw); go_split_ands; go_simp; (try with_reducible rfl))
  try simp only [Act.put, List.getElem_toArray, List.getElem_cons_zero, List.getElem_cons_succ, List.setIfInBounds_toArray, List.set_cons_zero, List.set_cons_succ]
  refine wpAnyH_take (i := 7) (v := ?_) rfl (by kernel_rfl) (by kernel_rfl) (by kernel_rfl) (fun _ _ _ h => h) (Or.inl ⟨by rfl, fun w hSw => ?_⟩) hHeld ?_
  rotate_left
  · ((try dsimp only at hSw); go_split_ands; go_simp; (try with_reducible rfl))
  try simp only [Act.put, List.getElem_toArray, List.getElem_cons_zero, List.getElem_cons_succ, List.setIfInBounds_toArray, List.set_cons_zero, List.set_cons_succ]
  refine wpAnyH_take (i := 8) (v := ?_) rfl (by kernel_rfl) (by kernel_rfl) (by kernel_rfl) (fun _ _ _ h => h) (Or.inl ⟨by rfl, fun w hSw => ?_⟩) hHeld ?_
  rotate_left
  · ((try dsimp only at hSw); go_split_ands; go_simp; (try with_reducible rfl))
  try simp only [Act.put, List.getElem_toArray, List.getElem_cons_zero, List.getElem_cons_succ, List.setIfInBounds_toArray, List.set_cons_zero, List.set_cons_succ]
  refine wpAnyH_ready (rs := [9]) (by kernel_rfl) (by simp) ?_
  refine AllReadyH.cons rfl (fun K hK => ?_) AllReadyH.nil
  try simp only [List.getElem_toArray, List.getElem_cons_zero, List.getElem_cons_succ]
  (go_simp; refine (hj.out _ bel).mono ?_; rintro e w1 ⟨r, rfl, o1, hB1⟩; have hB := bgo (w := w) bel hB1; have O1 := Lib.hid (o1.lower (base' := w.heap.size) (by simp)); replace k0 := Blk.next (g := w.heap.size) blks hB1)
  refine hK.out _ _ (k0.cell) (fun hHeldN => ?_)
  clear hHeld hK K
  have hHeld := hHeldN
  clear hHeldN
  try simp only [Act.put, List.getElem_toArray, List.getElem_cons_zero, List.getElem_cons_succ, List.setIfInBounds_toArray, List.set_cons_zero, List.set_cons_succ]
  refine wpAnyH_ready (rs := [10]) (by kernel_rfl) (by simp) ?_
  refine AllReadyH.cons rfl (fun K hK => ?_) AllReadyH.nil
  try simp only [List.getElem_toArray, List.getElem_cons_zero, List.getElem_cons_succ]
  go_simp
  refine hK.out _ _ (k0.cell) (fun hHeldN => ?_)
  clear hHeld hK K
  have hHeld := hHeldN
  clear hHeldN
  try simp only [Act.put, List.getElem_toArray, List.getElem_cons_zero, List.getElem_cons_succ, List.setIfInBounds_toArray, List.set_cons_zero, List.set_cons_succ]
  refine wpAnyH_done (by kernel_rfl) ?_ _
  refine NoPanic.normal ?_
  go_wp2_with fail
  go_ret
  exact ⟨r, rfl, O1.out, hB⟩
--@ impl.firstAtomAt
/-- the first atom of a kind at a term -/
def findP (a : Asn) (kind t : Int) (i : Nat) : Bool := match a.atoms[i]? with
  | some x => decide (x.kind = kind) && impB a ⟨true, x.a, t⟩
  | none => false
def findK (a : Asn) (kind t : Int) : Option Nat := (List.range a.atoms.length).find? (findP a kind t)
def findI (a : Asn) (kind t : Int) : Int := match findK a kind t with | some i => (i : Int) | none => 0
theorem findK_yes {a : Asn} {kind t : Int} {k : Nat} (hk : k < a.atoms.length) (h1 : ∀ j, j < k → findP a kind t j = false) (h2 : findP a kind t k = true) : findK a kind t = some k := by
  unfold findK
  have e : List.range a.atoms.length = List.range k ++ (List.range' k (a.atoms.length - k)) := by
    rw [List.range_eq_range', List.range_eq_range', show a.atoms.length = k + (a.atoms.length - k) by omega, ← List.range'_append]
    simp
  rw [e, List.find?_append]
  have : (List.range k).find? (findP a kind t) = none := by
    rw [List.find?_eq_none]
    intro x hx
    simp [h1 x (List.mem_range.1 hx)]
  rw [this, show a.atoms.length - k = (a.atoms.length - k - 1) + 1 by omega, List.range'_succ, List.find?_cons, h2]; rfl
theorem findK_no {a : Asn} {kind t : Int} (h1 : ∀ j, j < a.atoms.length → findP a kind t j = false) : findK a kind t = none := by
  unfold findK
  rw [List.find?_eq_none]
  intro x hx
  simp [h1 x (List.mem_range.1 hx)]
set_option maxRecDepth 100000 in
set_option maxHeartbeats 1600000 in
theorem c_impl_firstAtomAt {lo hi : Nat} (v : Value) (a : Asn) (kind t : Int) (w : World) (h : AsnV w lo hi v a) (hhi : hi ≤ w.heap.size) :
    Calls Try.prog 82 #[v, .int .i64 kind, .int .i64 t] w fun e w' => e = .returned (.tuple #[.int .i64 (findI a kind t), .bool (findK a kind t).isSome]) ∧ Below w.heap.size w w' := by
  have hV := Lib.hid h
  obtain ⟨A1, c1, A2, c2, rfl, -, h2⟩ := h
  have H2 := Lib.hid h2
  have hl := h2.le
  clear h2
  go_enter Try.func82, Try.ntmps82
  have k0 : Blk (w.alloc (.cells #[.slice A1 a.facts.length c1, .slice A2 a.atoms.length c2] tAs)) w.heap.size tAs #[.slice A1 a.facts.length c1, .slice A2 a.atoms.length c2] := blks
  have hB : Below w.heap.size w (w.alloc (.cells #[.slice A1 a.facts.length c1, .slice A2 a.atoms.length c2] tAs)) := bel
  go_wp2_with fail
  go_loopw [13] (fun i wr => ∃ k : Nat, k ≤ a.atoms.length ∧ i = .int .i64 k ∧ Hid (∀ j, j < k → findP a kind t j = false) ∧ Blk wr w.heap.size tAs #[.slice A1 a.facts.length c1, .slice A2 a.atoms.length c2] ∧ Hid (Below w.heap.size w wr)) (fun i _ => a.atoms.length - (intOf i).toNat)
  case atStart => exact ⟨0, Nat.zero_le _, rfl, Lib.hid fun j h => by omega, k0, hB⟩
  case round =>
    clear k0 hB
    obtain ⟨k, hk, rfl, HA, k0, HB⟩ := hrel
    have hzr := HB.out.size
    by_cases hlt : k < a.atoms.length
    · obtain ⟨b, off, rfl, g0, g1, g2⟩ := (H2.out.below HB.out).at hlt
      have hki : (k : Int) < (a.atoms.length : Int) := by omega
      have HP : Hid (findP a kind t k = (decide (a.atoms[k].kind = kind) && impB a ⟨true, a.atoms[k].a, t⟩)) := Lib.hid (by unfold findP; rw [List.getElem?_eq_getElem hlt])
      obtain ⟨x, hx⟩ : ∃ x, x = a.atoms[k] := ⟨_, rfl⟩
      rw [← hx] at g0 g1 g2 HP
      have hbx : Below wr.heap.size wr (wr.alloc (.cells #[.int .i64 x.kind, .int .i64 x.a, .int .i64 x.b] tA)) := bbox (Below.refl _ _) _
      have k1 := k0.next hbx
      have HB1 := Lib.hid (bgo HB.out hbx)
      have q1 := k1.cell
      have l1 := k1.lt
      have hz1 := hbx.size
      clear hx hbx
      by_cases hkd : x.kind = kind
      case neg =>
        have hkb : (x.kind == kind) = false := by simpa using hkd
        have HA2 : Hid (∀ j, j < k + 1 → findP a kind t j = false) := Lib.hid fun j hj => by
          by_cases e : j = k
          · rw [e, HP.out]; simp [hkd]
          · exact HA.out j (by omega)
        clear HA HP hkd
        go_wp2_with fail
        go_round
        case rel => exact ⟨k + 1, by omega, by go_num, HA2, k1, HB1.out⟩
        case measure => simp [intOf]; omega
      subst hkd
      go_wp2_with fail
      refine (c_impl_Implies _ a ⟨true, x.a, t⟩ _ (hV.out.below HB1.out) (by omega)).mono ?_
      rintro e w3 ⟨rfl, hB3⟩
      replace k1 := k1.next hB3
      have HB3 := Lib.hid (bgo HB1.out hB3)
      clear hB3 q1 l1
      cases hi : impB a ⟨true, x.a, t⟩
      · have HA2 : Hid (∀ j, j < k + 1 → findP a x.kind t j = false) := Lib.hid fun j hj => by
          by_cases e : j = k
          · rw [e, HP.out, hi]; simp
          · exact HA.out j (by omega)
        clear HA HP hi
        go_wp2_with fail
        go_round
        case rel => exact ⟨k + 1, by omega, by go_num, HA2, k1, HB3.out⟩
        case measure => simp [intOf]; omega
      · have E := Lib.hid (findK_yes hlt HA.out (by rw [HP.out, hi]; simp))
        clear HA HP hi
        go_wp2_with fail
        go_ret2
        exact ⟨by unfold findI; rw [E.out]; rfl, HB3.out⟩
    · obtain rfl : k = a.atoms.length := by omega
      have E := Lib.hid (findK_no (fun j hj => HA.out j hj))
      go_wp2_with fail
      go_ret2
      exact ⟨by unfold findI; rw [E.out]; rfl, HB.out⟩
--@
end Go.Proofs.Ytlmjjflalmegfaa
