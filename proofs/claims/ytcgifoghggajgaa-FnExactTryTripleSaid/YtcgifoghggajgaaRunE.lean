/- Running programs: the spec's basic commands. -/
import Derived.Test.YtcgifoghggajgaaMRunA
import Derived.IntWalk
set_option linter.unusedSimpArgs false
set_option linter.unusedVariables false
namespace Go.Proofs.Ytcgifoghggajgaa
open Go Go.RowKit Go.Proofs

theorem Blk.drewY {w : World} {g : Nat} {t : TypeId} {cs : Array Value} (h : Blk w g t cs) : Blk w.drew g t cs := h
theorem zeroO (w : World) {B : Nat} : StateO w B (.agg #[.slice none 0 0, .slice none 0 0]) ⟨[], []⟩ := ⟨_, _, rfl, IntsO.nil _ _, IntsO.nil _ _, fun g hg => by cases hg⟩
def basS (P : Ste × Int) : Ste := if P.2 = 0 then P.1 else ⟨[], []⟩
--@ spec.AllocCell
set_option maxRecDepth 100000 in
set_option maxHeartbeats 3200000 in
theorem c_spec_AllocX {lo hi : Nat} (v : Value) (s : Ste) (w : World) (h : StateV w lo hi v s) (hs : s.valid = true) :
    Calls Try.prog 229 #[v] w fun e w' => ((freeK s.heap = none ∧ e = .returned (.tuple #[.agg #[.slice none 0 0, .slice none 0 0], .int .i64 0, .bool false])) ∨ (∃ (k : Nat) (r : Value), freeK s.heap = some k ∧ e = .returned (.tuple #[r, .int .i64 ((k : Int) + 1), .bool true]) ∧ StateO w' w.heap.size r ⟨s.values, s.heap.set k 0⟩)) ∧ Below w.heap.size w w' := by
  have hV := Lib.hid h
  obtain ⟨A1, c1, A2, c2, rfl, -, -⟩ := h
  have HS := Lib.hid hs
  have H8 := Lib.hid (Ste.valid_len hs)
  clear hs
  go_enter Try.func229, Try.ntmps229
  obtain ⟨k0, k1⟩ := blk2 w tSt tSt #[.slice A1 s.values.length c1, .slice A2 s.heap.length c2] #[.slice none 0 0, .slice none 0 0]
  have hB : Below w.heap.size w ((w.alloc (.cells #[.slice A1 s.values.length c1, .slice A2 s.heap.length c2] tSt)).alloc (.cells #[.slice none 0 0, .slice none 0 0] tSt)) := bel
  go_wp2_with fail
  go_loopw [5] (fun i wr => ∃ k : Nat, k ≤ 8 ∧ i = .int .i64 ((k : Int) + 1) ∧ Hid (∀ j : Nat, j < k → allocB s.heap ((j : Int) + 1) = true) ∧ Blk wr w.heap.size tSt #[.slice A1 s.values.length c1, .slice A2 s.heap.length c2] ∧ Blk wr (w.heap.size + 1) tSt #[.slice none 0 0, .slice none 0 0] ∧ Hid (Below w.heap.size w wr)) (fun i _ => 10 - (intOf i).toNat)
  case atStart => exact ⟨0, by omega, rfl, Lib.hid (fun j hj => by omega), k0, k1, hB⟩
  case round =>
    clear k0 k1 hB
    obtain ⟨k, hk, rfl, HALL, k0, k1, HB⟩ := hrel
    have qk0 := k0.cell
    have rk0 := k0.frozen
    have lk0 := k0.lt
    have qk1 := k1.cell
    have rk1 := k1.frozen
    have lk1 := k1.lt
    have hsz := HB.out.size
    by_cases hlt : k < 8
    · have hki : (k : Int) + 1 ≤ 8 := by omega
      go_wp2_with fail
      refine (c_spec_StateValid _ s _ (hV.out.below HB.out)).mono ?_
      rintro e w1 ⟨rfl, hB1⟩
      rw [HS.out]
      have hB2 : Below w.heap.size w w1 := bgo HB.out hB1
      (replace k0 := k0.next hB1; replace qk0 := k0.cell; replace rk0 := k0.frozen; replace lk0 := k0.lt; replace k1 := k1.next hB1; replace qk1 := k1.cell; replace rk1 := k1.frozen; replace lk1 := k1.lt)
      clear hB1
      go_wp2_with fail
      refine (c_spec_l2Has _ s _ _ (hV.out.below hB2) H8.out.2).mono ?_
      rintro e w2 ⟨rfl, hB3'⟩
      have hB3 : Below w.heap.size w w2 := bgo hB2 hB3'
      (replace k0 := k0.next hB3'; replace qk0 := k0.cell; replace rk0 := k0.frozen; replace lk0 := k0.lt; replace k1 := k1.next hB3'; replace qk1 := k1.cell; replace rk1 := k1.frozen; replace lk1 := k1.lt)
      clear hB3'
      cases ha : allocB s.heap ((k : Int) + 1)
      · have HF := Lib.hid (freeK_some hlt ha HALL.out)
        clear ha HALL
        go_wp2_with fail
        refine (c_l2Copy _ s _ (hV.out.below hB3)).mono ?_
        rintro e w4 ⟨r, rfl, o, hB4⟩
        have hz := hB3.size
        (replace hB3 := bgo hB3 hB4; replace k0 := k0.next hB4; replace qk0 := k0.cell; replace rk0 := k0.frozen; replace lk0 := k0.lt; replace k1 := k1.next hB4; replace qk1 := k1.cell; replace rk1 := k1.frozen; replace lk1 := k1.lt)
        clear hB4
        obtain ⟨fv, av, rfl, o1, o2, dj⟩ := o
        obtain ⟨F, e1, rfl, -⟩ := o1.reads
        obtain ⟨G, e2, rfl, -⟩ := o2.reads
        have hnl : (k : Int) < (s.heap.length : Int) := by have := H8.out.2; omega
        obtain ⟨g, cur, -, rfl, hg, kg, hc, hset⟩ := (o2.lower (base' := w.heap.size) hz).cell_ (k := k) (by omega)
        have q := kg.cell k
        rw [hc] at q
        obtain ⟨y, hy⟩ : ∃ y, y = s.heap[k]'(by omega) := ⟨_, rfl⟩
        rw [← hy] at q
        have f := kg.frozen k
        have hgl := kg.lt
        have HSET := Lib.hid (hset 0)
        have O1 := Lib.hid (o1.lower (base' := w.heap.size) hz)
        have HD := Lib.hid dj
        have hne : w.heap.size + 1 ≠ g := k1.ne_ kg (by decide)
        clear hset o1 o2 dj hc hy
        go_wp2_with fail
        have k6 := k1.far (p := ⟨g, k, none⟩) hne (.int .i64 0)
        refine bodyPost_ret (v := .tuple #[.agg #[.slice F s.values.length e1, .slice (some ⟨g, 0, none⟩) s.heap.length e2], .int .i64 ((k : Int) + 1), .bool true]) (by simp [results, Try.results229, go_sem, qk1, lk1]) rfl ⟨Or.inr ⟨k, _, HF.out, rfl, ⟨_, _, rfl, ?_, ?_, HD.out⟩⟩, ?_⟩
        · exact (((O1.out.set_ne (q := ⟨g, k, none⟩) (fun e => HD.out g e rfl) (.int .i64 0)).setT k6 (by decide) 0 _).setT (k6.set_ 0 _) (by decide) 1 _).below (bbox (Below.refl _ _) _)
        · exact ((HSET.out.setT k6 (by decide) 0 _).setT (k6.set_ 0 _) (by decide) 1 _).below (bbox (Below.refl _ _) _)
        · exact bbox (((hB3.setCell (p := ⟨g, k, none⟩) hg _).setCell (p := ⟨w.heap.size + 1, 0, none⟩) (by simp only; omega) _).setCell (p := ⟨w.heap.size + 1, 1, none⟩) (by simp only; omega) _) _
      · have HA2 : Hid (∀ j : Nat, j < k + 1 → allocB s.heap ((j : Int) + 1) = true) := fun j hj => by
          rcases Nat.lt_or_ge j k with h | h
          · exact HALL.out j h
          · obtain rfl : j = k := by omega
            exact ha
        clear ha HALL
        go_wp2_with fail
        go_round
        case rel => exact ⟨k + 1, by omega, by go_num, HA2, k0, k1, hB3⟩
        case measure => simp [intOf]; omega
    · obtain rfl : k = 8 := by omega
      have hB := HB.out
      have HF := Lib.hid (freeK_none HALL.out)
      clear HALL
      go_wp2_with fail
      refine bodyPost_ret (v := .tuple #[.agg #[.slice none 0 0, .slice none 0 0], .int .i64 0, .bool false]) (by simp [results, Try.results229, go_sem, qk1]) rfl ⟨Or.inl ⟨HF.out, rfl⟩, bel⟩
--@ spec.l9Basic
set_option maxRecDepth 100000 in
set_option maxHeartbeats 3200000 in
theorem sbasic_set {lo hi : Nat} (v : Value) (s : Ste) (w : World) (m : Nat) (b : Int) (hm : m < 4) (hb : 0 ≤ b ∧ b ≤ 8) (t : Fct) (vF vA vB vE : Value) (h : StateV w lo hi v s) (hs : s.valid = true) :
    Calls Try.prog 185 #[v, .agg #[.int .i64 1, .int .i64 ((m : Int) + 1), .int .i64 b, .bool t.eq, .int .i64 t.a, .int .i64 t.b, vF, vA, vB, vE]] w fun e w' => ∃ r, e = .returned (.tuple #[r, .int .i64 (basicF s 1 ((m : Int) + 1) b).2]) ∧ StateO w' w.heap.size r (basS (basicF s 1 ((m : Int) + 1) b)) ∧ Below w.heap.size w w' := by
  have E : Hid (basicF s 1 ((m : Int) + 1) b = (⟨s.values.set m (tval s.values b), s.heap⟩, 0)) := by
    show _ = _
    unfold basicF
    rw [if_pos rfl, show ((m : Int) + 1 - 1).toNat = m by omega]
  have HB := Lib.hid hb
  have hm4 : (m : Int) < 4 := by omega
  clear hb
  have hV := Lib.hid h
  obtain ⟨A1, c1, A2, c2, rfl, h1, h2⟩ := h
  have h8 := Lib.hid (Ste.valid_len hs)
  have HS := Lib.hid hs
  have V1 := Lib.hid h1
  have V2 := Lib.hid h2
  obtain ⟨x, hx⟩ : ∃ x, x = tval s.values ((m : Int) + 1) := ⟨_, rfl⟩
  obtain ⟨y, hy⟩ : ∃ x, x = tval s.values b := ⟨_, rfl⟩
  have hxv : 0 ≤ x ∧ x ≤ 8 := by rw [hx]; exact tval_le (Ste.all_vals hs) _
  have hyv : 0 ≤ y ∧ y ≤ 8 := by rw [hy]; exact tval_le (Ste.all_vals hs) _
  replace hx := Lib.hid hx
  replace hy := Lib.hid hy
  clear hs h1 h2
  obtain ⟨k0, k1, k2⟩ := blk3 w tSt tC tSt #[.slice A1 s.values.length c1, .slice A2 s.heap.length c2] #[.int .i64 1, .int .i64 ((m : Int) + 1), .int .i64 b, .bool t.eq, .int .i64 t.a, .int .i64 t.b, vF, vA, vB, vE] #[.slice none 0 0, .slice none 0 0]
  go_enter Try.func185, Try.ntmps185
  go_wp2_with fail
  refine (c_l2Copy _ s _ (hV.out.below bel)).mono ?_
  rintro e w1 ⟨r, rfl, o, hB1⟩
  have hB := bgo (w := w) bel hB1
  have hz1 := hB1.size
  simp only [World.size_alloc] at hz1
  (replace k0 := k0.next hB1; replace qk0 := k0.cell; replace rk0 := k0.frozen; replace lk0 := k0.lt; replace k1 := k1.next hB1; replace qk1 := k1.cell; replace rk1 := k1.frozen; replace lk1 := k1.lt; replace k2 := k2.next hB1; replace qk2 := k2.cell; replace rk2 := k2.frozen; replace lk2 := k2.lt)
  clear hB1
  obtain ⟨fv, av, rfl, o1, o2, dj⟩ := o
  obtain ⟨F, e1, rfl, -⟩ := o1.reads
  obtain ⟨G, e2, rfl, -⟩ := o2.reads
  replace o1 := Lib.hid (o1.lower (base' := w.heap.size) (by simp; omega))
  replace o2 := Lib.hid (o2.lower (base' := w.heap.size) (by simp; omega))
  replace dj := Lib.hid dj
  go_wp2_with fail
  refine (c_spec_l1Value A1 c1 s.values ((m : Int) + 1) _ (V1.out.below (bbox hB _)) (by omega) (by rw [h8.out.1]; exact (by omega))).mono ?_
  rintro e w2 ⟨rfl, rfl⟩
  rw [← hx.out]
  obtain ⟨X, hX⟩ : ∃ X, X = w1.alloc (.cells #[.slice F s.values.length e1, .slice G s.heap.length e2] tSt) := ⟨_, rfl⟩
  replace hB : Below w.heap.size w X := by rw [hX]; exact bbox hB _
  replace k0 : Blk X w.heap.size tSt #[.slice A1 s.values.length c1, .slice A2 s.heap.length c2] := by rw [hX]; exact k0.alloc _
  replace k1 : Blk X (w.heap.size + 1) tC #[.int .i64 1, .int .i64 ((m : Int) + 1), .int .i64 b, .bool t.eq, .int .i64 t.a, .int .i64 t.b, vF, vA, vB, vE] := by rw [hX]; exact k1.alloc _
  replace k2 : Blk X (w.heap.size + 1 + 1) tSt #[.slice none 0 0, .slice none 0 0] := by rw [hX]; exact k2.alloc _
  have k3 : Blk X w1.heap.size tSt #[.slice F s.values.length e1, .slice G s.heap.length e2] := by rw [hX]; exact Blk.new _ _ _
  replace o1 : Hid (IntsO X w.heap.size (.slice F s.values.length e1) s.values) := by rw [hX]; exact o1.out.below (bbox (Below.refl _ _) _)
  replace o2 : Hid (IntsO X w.heap.size (.slice G s.heap.length e2) s.heap) := by rw [hX]; exact o2.out.below (bbox (Below.refl _ _) _)
  rw [← hX]
  clear hX
  (replace qk0 := k0.cell; replace rk0 := k0.frozen; replace lk0 := k0.lt; replace qk1 := k1.cell; replace rk1 := k1.frozen; replace lk1 := k1.lt; replace qk2 := k2.cell; replace rk2 := k2.frozen; replace lk2 := k2.lt; replace qk3 := k3.cell; replace rk3 := k3.frozen; replace lk3 := k3.lt)
  go_wp2_with fail
  refine (c_spec_l1Value A1 c1 s.values b _ (V1.out.below hB) HB.out.1 (by rw [h8.out.1]; exact HB.out.2)).mono ?_
  rintro e w2 ⟨rfl, rfl⟩
  rw [← hy.out]
  have E2 : Hid (basS (basicF s 1 ((m : Int) + 1) b) = ⟨s.values.set m y, s.heap⟩) := by show _ = _; rw [E.out, hy.out]; rfl
  have hvl := h8.out.1
  obtain ⟨gv, cur, -, rfl, hgv, kg, hc, hset⟩ := o1.out.cell_ (k := m) (by omega)
  have q := kg.cell m
  rw [hc] at q
  obtain ⟨z, hz⟩ : ∃ z, z = s.values[m]'(by omega) := ⟨_, rfl⟩
  rw [← hz] at q
  have fq := kg.frozen m
  have hgvl := kg.lt
  have hne2 : w.heap.size + 1 + 1 ≠ gv := k2.ne_ kg (by decide)
  have hne3 : w1.heap.size ≠ gv := k3.ne_ kg (by decide)
  have HSET := Lib.hid (hset y)
  have hml : (m : Int) < (s.values.length : Int) := by omega
  have hwm : IntKind.i64.wrap (m : Int) = (m : Int) := IntWalk.i64_in _ (by omega)
  clear hset hc hz hvl
  clear hwm
  go_wp2_with fail
  have K2 := k2.far (p := ⟨gv, m, none⟩) hne2 (.int .i64 y)
  refine bodyPost_ret (v := .tuple #[.agg #[.slice (some ⟨gv, 0, none⟩) s.values.length e1, .slice G s.heap.length e2], .int .i64 0]) (by simp [results, Try.results185, go_sem, qk2, lk2]) rfl ⟨_, by rw [E.out], ?_, ?_⟩
  · rw [E2.out]
    exact ⟨_, _, rfl, ((HSET.out.setT K2 (by decide) 0 _).setT (K2.set_ 0 _) (by decide) 1 _), (((o2.out.set_ne (q := ⟨gv, m, none⟩) (dj.out gv rfl) _).setT K2 (by decide) 0 _).setT (K2.set_ 0 _) (by decide) 1 _), dj.out⟩
  · exact ((hB.setCell (p := ⟨gv, m, none⟩) hgv _).setCell (p := ⟨w.heap.size + 1 + 1, 0, none⟩) (by simp only; omega) _).setCell (p := ⟨w.heap.size + 1 + 1, 1, none⟩) (by simp only; omega) _
--@ spec.l9Basic
set_option maxRecDepth 100000 in
set_option maxHeartbeats 3200000 in
theorem sbasic_load {lo hi : Nat} (v : Value) (s : Ste) (w : World) (m : Nat) (b : Int) (hm : m < 4) (hb : 0 ≤ b ∧ b ≤ 8) (t : Fct) (vF vA vB vE : Value) (h : StateV w lo hi v s) (hs : s.valid = true) :
    Calls Try.prog 185 #[v, .agg #[.int .i64 2, .int .i64 ((m : Int) + 1), .int .i64 b, .bool t.eq, .int .i64 t.a, .int .i64 t.b, vF, vA, vB, vE]] w fun e w' => ∃ r, e = .returned (.tuple #[r, .int .i64 (basicF s 2 ((m : Int) + 1) b).2]) ∧ StateO w' w.heap.size r (basS (basicF s 2 ((m : Int) + 1) b)) ∧ Below w.heap.size w w' := by
  have HB := Lib.hid hb
  have hm4 : (m : Int) < 4 := by omega
  clear hb
  have hV := Lib.hid h
  obtain ⟨A1, c1, A2, c2, rfl, h1, h2⟩ := h
  have h8 := Lib.hid (Ste.valid_len hs)
  have HS := Lib.hid hs
  have V1 := Lib.hid h1
  have V2 := Lib.hid h2
  obtain ⟨x, hx⟩ : ∃ x, x = tval s.values ((m : Int) + 1) := ⟨_, rfl⟩
  obtain ⟨y, hy⟩ : ∃ x, x = tval s.values b := ⟨_, rfl⟩
  have hxv : 0 ≤ x ∧ x ≤ 8 := by rw [hx]; exact tval_le (Ste.all_vals hs) _
  have hyv : 0 ≤ y ∧ y ≤ 8 := by rw [hy]; exact tval_le (Ste.all_vals hs) _
  replace hx := Lib.hid hx
  replace hy := Lib.hid hy
  clear hs h1 h2
  obtain ⟨k0, k1, k2⟩ := blk3 w tSt tC tSt #[.slice A1 s.values.length c1, .slice A2 s.heap.length c2] #[.int .i64 2, .int .i64 ((m : Int) + 1), .int .i64 b, .bool t.eq, .int .i64 t.a, .int .i64 t.b, vF, vA, vB, vE] #[.slice none 0 0, .slice none 0 0]
  go_enter Try.func185, Try.ntmps185
  go_wp2_with fail
  refine (c_l2Copy _ s _ (hV.out.below bel)).mono ?_
  rintro e w1 ⟨r, rfl, o, hB1⟩
  have hB := bgo (w := w) bel hB1
  have hz1 := hB1.size
  simp only [World.size_alloc] at hz1
  (replace k0 := k0.next hB1; replace qk0 := k0.cell; replace rk0 := k0.frozen; replace lk0 := k0.lt; replace k1 := k1.next hB1; replace qk1 := k1.cell; replace rk1 := k1.frozen; replace lk1 := k1.lt; replace k2 := k2.next hB1; replace qk2 := k2.cell; replace rk2 := k2.frozen; replace lk2 := k2.lt)
  clear hB1
  obtain ⟨fv, av, rfl, o1, o2, dj⟩ := o
  obtain ⟨F, e1, rfl, -⟩ := o1.reads
  obtain ⟨G, e2, rfl, -⟩ := o2.reads
  replace o1 := Lib.hid (o1.lower (base' := w.heap.size) (by simp; omega))
  replace o2 := Lib.hid (o2.lower (base' := w.heap.size) (by simp; omega))
  replace dj := Lib.hid dj
  go_wp2_with fail
  refine (c_spec_l1Value A1 c1 s.values ((m : Int) + 1) _ (V1.out.below (bbox hB _)) (by omega) (by rw [h8.out.1]; exact (by omega))).mono ?_
  rintro e w2 ⟨rfl, rfl⟩
  rw [← hx.out]
  obtain ⟨X, hX⟩ : ∃ X, X = w1.alloc (.cells #[.slice F s.values.length e1, .slice G s.heap.length e2] tSt) := ⟨_, rfl⟩
  replace hB : Below w.heap.size w X := by rw [hX]; exact bbox hB _
  replace k0 : Blk X w.heap.size tSt #[.slice A1 s.values.length c1, .slice A2 s.heap.length c2] := by rw [hX]; exact k0.alloc _
  replace k1 : Blk X (w.heap.size + 1) tC #[.int .i64 2, .int .i64 ((m : Int) + 1), .int .i64 b, .bool t.eq, .int .i64 t.a, .int .i64 t.b, vF, vA, vB, vE] := by rw [hX]; exact k1.alloc _
  replace k2 : Blk X (w.heap.size + 1 + 1) tSt #[.slice none 0 0, .slice none 0 0] := by rw [hX]; exact k2.alloc _
  have k3 : Blk X w1.heap.size tSt #[.slice F s.values.length e1, .slice G s.heap.length e2] := by rw [hX]; exact Blk.new _ _ _
  replace o1 : Hid (IntsO X w.heap.size (.slice F s.values.length e1) s.values) := by rw [hX]; exact o1.out.below (bbox (Below.refl _ _) _)
  replace o2 : Hid (IntsO X w.heap.size (.slice G s.heap.length e2) s.heap) := by rw [hX]; exact o2.out.below (bbox (Below.refl _ _) _)
  rw [← hX]
  clear hX
  (replace qk0 := k0.cell; replace rk0 := k0.frozen; replace lk0 := k0.lt; replace qk1 := k1.cell; replace rk1 := k1.frozen; replace lk1 := k1.lt; replace qk2 := k2.cell; replace rk2 := k2.frozen; replace lk2 := k2.lt; replace qk3 := k3.cell; replace rk3 := k3.frozen; replace lk3 := k3.lt)
  go_wp2_with fail
  refine (c_spec_l1Value A1 c1 s.values b _ (V1.out.below hB) HB.out.1 (by rw [h8.out.1]; exact HB.out.2)).mono ?_
  rintro e w2 ⟨rfl, rfl⟩
  rw [← hy.out]
  go_wp2_with fail
  refine (c_spec_l2Has _ s y _ (hV.out.below hB) h8.out.2).mono ?_
  rintro e w2 ⟨rfl, hB2⟩
  have hX := k3.lt
  replace o1 := Lib.hid (o1.out.below hB2)
  replace o2 := Lib.hid (o2.out.below hB2)
  (replace hB := bgo hB hB2; replace k0 := k0.next hB2; replace qk0 := k0.cell; replace rk0 := k0.frozen; replace lk0 := k0.lt; replace k1 := k1.next hB2; replace qk1 := k1.cell; replace rk1 := k1.frozen; replace lk1 := k1.lt; replace k2 := k2.next hB2; replace qk2 := k2.cell; replace rk2 := k2.frozen; replace lk2 := k2.lt; replace k3 := k3.next hB2; replace qk3 := k3.cell; replace rk3 := k3.frozen; replace lk3 := k3.lt)
  clear hB2
  cases ha : allocB s.heap y
  · have E : Hid (basicF s 2 ((m : Int) + 1) b = (s, 1)) := by
      show _ = _
      unfold basicF
      rw [if_neg (by decide), if_pos rfl, ← hy.out, ha]; rfl
    have E2 : Hid (basS (basicF s 2 ((m : Int) + 1) b) = ⟨[], []⟩) := by show _ = _; rw [E.out]; rfl
    clear ha
    go_wp2_with fail
    refine bodyPost_ret (v := .tuple #[.agg #[.slice none 0 0, .slice none 0 0], .int .i64 1]) (by simp [results, Try.results185, go_sem, qk2, lk2]) rfl ⟨_, by rw [E.out], ?_, ?_⟩
    · rw [E2.out]; exact zeroO _
    · first
        | exact bel
        | (exact (((hB).setCell (p := ⟨w.heap.size + 1 + 1, 0, none⟩) (by simp only; omega) _).setCell (p := ⟨w.heap.size + 1 + 1, 1, none⟩) (by simp only; omega) _))
        | (exact bbox (((hB).setCell (p := ⟨w.heap.size + 1 + 1, 0, none⟩) (by simp only; omega) _).setCell (p := ⟨w.heap.size + 1 + 1, 1, none⟩) (by simp only; omega) _) _)
  have hya := allocB_addr ha
  obtain ⟨n, rfl⟩ : ∃ n : Nat, y = (n : Int) + 1 := ⟨(y - 1).toNat, by omega⟩
  have E : Hid (basicF s 2 ((m : Int) + 1) b = (⟨s.values.set m (cont s.heap ((n : Int) + 1)), s.heap⟩, 0)) := by
    show _ = _
    unfold basicF
    rw [if_neg (by decide), if_pos rfl, ← hy.out, ha, if_pos rfl, show ((m : Int) + 1 - 1).toNat = m by omega]
  have hn8 : n < 8 := by omega
  obtain ⟨u, hu⟩ : ∃ u, u = cont s.heap ((n : Int) + 1) := ⟨_, rfl⟩
  have hug : u = s.heap[n]'(by have := h8.out.2; omega) := by
    rw [hu, cont, if_pos (by simp [addrB]; omega), show ((n : Int) + 1 - 1).toNat = n by omega, List.getElem?_eq_getElem (by have := h8.out.2; omega)]; rfl
  have E2 : Hid (basS (basicF s 2 ((m : Int) + 1) b) = ⟨s.values.set m u, s.heap⟩) := by show _ = _; rw [E.out, hu]; rfl
  have hnl : (n : Int) < (s.heap.length : Int) := by have := h8.out.2; omega
  obtain ⟨bh, oh, rfl, ph⟩ := (V2.out.below hB).at (k := n) (by omega)
  rw [← hug] at ph
  replace hu := Lib.hid hu
  replace hug := Lib.hid hug
  clear ha
  have hvl := h8.out.1
  obtain ⟨gv, cur, -, rfl, hgv, kg, hc, hset⟩ := o1.out.cell_ (k := m) (by omega)
  have q := kg.cell m
  rw [hc] at q
  obtain ⟨z, hz⟩ : ∃ z, z = s.values[m]'(by omega) := ⟨_, rfl⟩
  rw [← hz] at q
  have fq := kg.frozen m
  have hgvl := kg.lt
  have hne2 : w.heap.size + 1 + 1 ≠ gv := k2.ne_ kg (by decide)
  have hne3 : w1.heap.size ≠ gv := k3.ne_ kg (by decide)
  have HSET := Lib.hid (hset u)
  have hml : (m : Int) < (s.values.length : Int) := by omega
  have hwm : IntKind.i64.wrap (m : Int) = (m : Int) := IntWalk.i64_in _ (by omega)
  clear hset hc hz hvl
  have hwn : IntKind.i64.wrap (n : Int) = (n : Int) := IntWalk.i64_in _ (by omega)
  go_wp2_with fail
  refine wp_region_noPanic ?_
  refine wp_region_last' (S := (fun w' => (∀ j, w'.cell? ⟨w.heap.size, j, none⟩ = #[Value.slice A1 s.values.length c1, .slice (some ⟨bh, oh, none⟩) s.heap.length c2][j]?) ∧ (∀ j, w'.cell? ⟨w.heap.size + 1, j, none⟩ = #[.int .i64 2, .int .i64 ((m : Int) + 1), .int .i64 b, .bool t.eq, .int .i64 t.a, .int .i64 t.b, vF, vA, vB, vE][j]?) ∧ (∀ j, w'.cell? ⟨w1.heap.size, j, none⟩ = #[Value.slice (some ⟨gv, 0, none⟩) s.values.length e1, .slice G s.heap.length e2][j]?) ∧ w'.cell? ⟨bh, oh + n, none⟩ = some (.int .i64 u) ∧ w'.cell? ⟨gv, m, none⟩ = some (.int .i64 z) ∧ w'.frozen? ⟨gv, m, none⟩ = false)) (by simp) (by kernel_rfl) (by kernel_rfl) (⟨k0.cell, k1.cell, k3.cell, ph, q, fq⟩) (fun hHeld => ?_)
  simp only [List.dropLast, List.getLast, nopOf, List.cons_append, List.nil_append, List.length_cons, List.length_nil, Nat.zero_add, Nat.reduceAdd]
  refine wpAnyH_take (i := 0) (v := ?_) rfl (by kernel_rfl) (by kernel_rfl) (by kernel_rfl) (fun _ _ _ h => h) (Or.inl ⟨by rfl, fun w hSw => ?_⟩) hHeld ?_
  rotate_left
  · ((try dsimp only at hSw); go_split_ands; go_simp; (try with_reducible rfl))
  try simp only [Act.put, List.getElem_toArray, List.getElem_cons_zero, List.getElem_cons_succ, List.setIfInBounds_toArray, List.set_cons_zero, List.set_cons_succ]
  refine wpAnyH_take (i := 1) (v := ?_) rfl (by kernel_rfl) (by kernel_rfl) (by kernel_rfl) (fun _ _ _ h => h) (Or.inl ⟨by rfl, fun w hSw => ?_⟩) hHeld ?_
  rotate_left
  · ((try dsimp only at hSw); go_split_ands; go_simp; (try with_reducible rfl))
  try simp only [Act.put, List.getElem_toArray, List.getElem_cons_zero, List.getElem_cons_succ, List.setIfInBounds_toArray, List.set_cons_zero, List.set_cons_succ]
  refine wpAnyH_take (i := 2) (v := ?_) rfl (by kernel_rfl) (by kernel_rfl) (by kernel_rfl) (fun _ _ _ h => h) (Or.inl ⟨by rfl, fun w hSw => ?_⟩) hHeld ?_
  rotate_left
  · ((try dsimp only at hSw); go_split_ands; go_simp; (try with_reducible rfl))
  try simp only [Act.put, List.getElem_toArray, List.getElem_cons_zero, List.getElem_cons_succ, List.setIfInBounds_toArray, List.set_cons_zero, List.set_cons_succ]
  refine wpAnyH_take (i := 3) (v := ?_) rfl (by kernel_rfl) (by kernel_rfl) (by kernel_rfl) (fun _ _ _ h => h) (Or.inl ⟨by rfl, fun w hSw => ?_⟩) hHeld ?_
  rotate_left
  · ((try dsimp only at hSw); go_split_ands; go_simp; (try with_reducible rfl))
  try simp only [Act.put, List.getElem_toArray, List.getElem_cons_zero, List.getElem_cons_succ, List.setIfInBounds_toArray, List.set_cons_zero, List.set_cons_succ]
  refine wpAnyH_take (i := 4) (v := ?_) rfl (by kernel_rfl) (by kernel_rfl) (by kernel_rfl) (fun _ _ _ h => h) (Or.inl ⟨by rfl, fun w hSw => ?_⟩) hHeld ?_
  rotate_left
  · ((try dsimp only at hSw); go_split_ands; go_simp; (try with_reducible rfl))
  try simp only [Act.put, List.getElem_toArray, List.getElem_cons_zero, List.getElem_cons_succ, List.setIfInBounds_toArray, List.set_cons_zero, List.set_cons_succ]
  refine wpAnyH_take (i := 5) (v := ?_) rfl (by kernel_rfl) (by kernel_rfl) (by kernel_rfl) (fun _ _ _ h => h) (Or.inl ⟨by rfl, fun w hSw => ?_⟩) hHeld ?_
  rotate_left
  · ((try dsimp only at hSw); go_split_ands; go_simp; (try with_reducible rfl))
  try simp only [Act.put, List.getElem_toArray, List.getElem_cons_zero, List.getElem_cons_succ, List.setIfInBounds_toArray, List.set_cons_zero, List.set_cons_succ]
  refine wpAnyH_take (i := 6) (v := ?_) rfl (by kernel_rfl) (by kernel_rfl) (by kernel_rfl) (fun _ _ _ h => h) (Or.inl ⟨by rfl, fun w hSw => ?_⟩) hHeld ?_
  rotate_left
  · ((try dsimp only at hSw); go_split_ands; go_simp; (try with_reducible rfl))
  try simp only [Act.put, List.getElem_toArray, List.getElem_cons_zero, List.getElem_cons_succ, List.setIfInBounds_toArray, List.set_cons_zero, List.set_cons_succ]
  refine wpAnyH_take (i := 7) (v := ?_) rfl (by kernel_rfl) (by kernel_rfl) (by kernel_rfl) (fun _ _ _ h => h) (Or.inl ⟨by rfl, fun w hSw => ?_⟩) hHeld ?_
  rotate_left
  · ((try dsimp only at hSw); go_split_ands; go_simp; (try with_reducible rfl))
  try simp only [Act.put, List.getElem_toArray, List.getElem_cons_zero, List.getElem_cons_succ, List.setIfInBounds_toArray, List.set_cons_zero, List.set_cons_succ]
  refine wpAnyH_take (i := 8) (v := ?_) rfl (by kernel_rfl) (by kernel_rfl) (by kernel_rfl) (fun _ _ _ h => h) (Or.inl ⟨by rfl, fun w hSw => ?_⟩) hHeld ?_
  rotate_left
  · ((try dsimp only at hSw); go_split_ands; go_simp; (try with_reducible rfl))
  try simp only [Act.put, List.getElem_toArray, List.getElem_cons_zero, List.getElem_cons_succ, List.setIfInBounds_toArray, List.set_cons_zero, List.set_cons_succ]
  refine wpAnyH_take (i := 9) (v := ?_) rfl (by kernel_rfl) (by kernel_rfl) (by kernel_rfl) (fun _ _ _ h => h) (Or.inl ⟨by rfl, fun w hSw => ?_⟩) hHeld ?_
  rotate_left
  · ((try dsimp only at hSw); go_split_ands; go_simp; (try with_reducible rfl))
  try simp only [Act.put, List.getElem_toArray, List.getElem_cons_zero, List.getElem_cons_succ, List.setIfInBounds_toArray, List.set_cons_zero, List.set_cons_succ]
  refine wpAnyH_take (i := 10) (v := ?_) rfl (by kernel_rfl) (by kernel_rfl) (by kernel_rfl) (fun _ _ _ h => h) (Or.inl ⟨by rfl, fun w hSw => ?_⟩) hHeld ?_
  rotate_left
  · ((try dsimp only at hSw); go_split_ands; go_simp; (try with_reducible rfl))
  try simp only [Act.put, List.getElem_toArray, List.getElem_cons_zero, List.getElem_cons_succ, List.setIfInBounds_toArray, List.set_cons_zero, List.set_cons_succ]
  refine wpAnyH_take (i := 11) (v := ?_) rfl (by kernel_rfl) (by kernel_rfl) (by kernel_rfl) (fun _ _ _ h => h) (Or.inl ⟨by rfl, fun w hSw => ?_⟩) hHeld ?_
  rotate_left
  · ((try dsimp only at hSw); go_split_ands; go_simp; (try with_reducible rfl))
  try simp only [Act.put, List.getElem_toArray, List.getElem_cons_zero, List.getElem_cons_succ, List.setIfInBounds_toArray, List.set_cons_zero, List.set_cons_succ]
  refine wpAnyH_ready (rs := [12]) (by kernel_rfl) (by simp) ?_
  refine AllReadyH.cons rfl (fun K hK => ?_) AllReadyH.nil
  go_simp
  refine hK.out _ _ (⟨k0.cell, k1.cell, k3.cell, ph, q, fq⟩) (fun hHeld => ?_)
  clear hK K
  refine wpAnyH_done (by kernel_rfl) ?_ _
  unfold lastQ
  go_simp
  refine NoPanic.normal ?_
  obtain ⟨X2, hX2⟩ : ∃ W, W = (w2.setCell ⟨gv, m, none⟩ (.int .i64 u)).drew := ⟨_, rfl⟩
  rw [← hX2]
  have hBd : Below w.heap.size w X2 := by rw [hX2]; exact (hB.setCell (p := ⟨gv, m, none⟩) hgv _).drew
  have kd2 : Blk X2 (w.heap.size + 1 + 1) tSt #[.slice none 0 0, .slice none 0 0] := by rw [hX2]; exact (k2.far (p := ⟨gv, m, none⟩) hne2 _).drewY
  have kd3 : Blk X2 w1.heap.size tSt #[.slice (some ⟨gv, 0, none⟩) s.values.length e1, .slice G s.heap.length e2] := by rw [hX2]; exact (k3.far (p := ⟨gv, m, none⟩) hne3 _).drewY
  have HSETd : Hid (IntsO X2 w.heap.size (.slice (some ⟨gv, 0, none⟩) s.values.length e1) (s.values.set m u)) := by rw [hX2]; exact HSET.out
  have od2 : Hid (IntsO X2 w.heap.size (.slice G s.heap.length e2) s.heap) := by rw [hX2]; exact o2.out.set_ne (q := ⟨gv, m, none⟩) (dj.out gv rfl) _
  clear hwm hwn ph q fq hHeld hX2 HSET o1 o2 hB k2 k3 qk0 rk0 lk0 qk1 rk1 lk1 qk2 rk2 lk2 qk3 rk3 lk3 k0 k1 kg hgvl
  have qk2 := kd2.cell
  have rk2 := kd2.frozen
  have lk2 := kd2.lt
  have qk3 := kd3.cell
  have lk3 := kd3.lt
  go_wp2_with fail
  refine bodyPost_ret (v := .tuple #[.agg #[.slice (some ⟨gv, 0, none⟩) s.values.length e1, .slice G s.heap.length e2], .int .i64 0]) (by simp [results, Try.results185, go_sem, qk2, lk2]) rfl ⟨_, by rw [E.out], ?_, ?_⟩
  · rw [E2.out]
    exact ⟨_, _, rfl, ((HSETd.out.setT kd2 (by decide) 0 _).setT (kd2.set_ 0 _) (by decide) 1 _), ((od2.out.setT kd2 (by decide) 0 _).setT (kd2.set_ 0 _) (by decide) 1 _), dj.out⟩
  · exact (hBd.setCell (p := ⟨w.heap.size + 1 + 1, 0, none⟩) (by simp only; omega) _).setCell (p := ⟨w.heap.size + 1 + 1, 1, none⟩) (by simp only; omega) _
--@ spec.l9Basic
set_option maxRecDepth 100000 in
set_option maxHeartbeats 3200000 in
theorem sbasic_store {lo hi : Nat} (v : Value) (s : Ste) (w : World) (a : Int) (b : Int) (ha : 0 ≤ a ∧ a ≤ 8) (hb : 0 ≤ b ∧ b ≤ 8) (t : Fct) (vF vA vB vE : Value) (h : StateV w lo hi v s) (hs : s.valid = true) :
    Calls Try.prog 185 #[v, .agg #[.int .i64 3, .int .i64 a, .int .i64 b, .bool t.eq, .int .i64 t.a, .int .i64 t.b, vF, vA, vB, vE]] w fun e w' => ∃ r, e = .returned (.tuple #[r, .int .i64 (basicF s 3 a b).2]) ∧ StateO w' w.heap.size r (basS (basicF s 3 a b)) ∧ Below w.heap.size w w' := by
  have HA := Lib.hid ha
  have HB : Hid (0 ≤ (b : Int) ∧ b ≤ (8 : Int)) := hb
  clear ha hb
  have hV := Lib.hid h
  obtain ⟨A1, c1, A2, c2, rfl, h1, h2⟩ := h
  have h8 := Lib.hid (Ste.valid_len hs)
  have HS := Lib.hid hs
  have V1 := Lib.hid h1
  have V2 := Lib.hid h2
  obtain ⟨x, hx⟩ : ∃ x, x = tval s.values a := ⟨_, rfl⟩
  obtain ⟨y, hy⟩ : ∃ x, x = tval s.values b := ⟨_, rfl⟩
  have hxv : 0 ≤ x ∧ x ≤ 8 := by rw [hx]; exact tval_le (Ste.all_vals hs) _
  have hyv : 0 ≤ y ∧ y ≤ 8 := by rw [hy]; exact tval_le (Ste.all_vals hs) _
  replace hx := Lib.hid hx
  replace hy := Lib.hid hy
  clear hs h1 h2
  obtain ⟨k0, k1, k2⟩ := blk3 w tSt tC tSt #[.slice A1 s.values.length c1, .slice A2 s.heap.length c2] #[.int .i64 3, .int .i64 a, .int .i64 b, .bool t.eq, .int .i64 t.a, .int .i64 t.b, vF, vA, vB, vE] #[.slice none 0 0, .slice none 0 0]
  go_enter Try.func185, Try.ntmps185
  go_wp2_with fail
  refine (c_l2Copy _ s _ (hV.out.below bel)).mono ?_
  rintro e w1 ⟨r, rfl, o, hB1⟩
  have hB := bgo (w := w) bel hB1
  have hz1 := hB1.size
  simp only [World.size_alloc] at hz1
  (replace k0 := k0.next hB1; replace qk0 := k0.cell; replace rk0 := k0.frozen; replace lk0 := k0.lt; replace k1 := k1.next hB1; replace qk1 := k1.cell; replace rk1 := k1.frozen; replace lk1 := k1.lt; replace k2 := k2.next hB1; replace qk2 := k2.cell; replace rk2 := k2.frozen; replace lk2 := k2.lt)
  clear hB1
  obtain ⟨fv, av, rfl, o1, o2, dj⟩ := o
  obtain ⟨F, e1, rfl, -⟩ := o1.reads
  obtain ⟨G, e2, rfl, -⟩ := o2.reads
  replace o1 := Lib.hid (o1.lower (base' := w.heap.size) (by simp; omega))
  replace o2 := Lib.hid (o2.lower (base' := w.heap.size) (by simp; omega))
  replace dj := Lib.hid dj
  go_wp2_with fail
  refine (c_spec_l1Value A1 c1 s.values a _ (V1.out.below (bbox hB _)) HA.out.1 (by rw [h8.out.1]; exact HA.out.2)).mono ?_
  rintro e w2 ⟨rfl, rfl⟩
  rw [← hx.out]
  obtain ⟨X, hX⟩ : ∃ X, X = w1.alloc (.cells #[.slice F s.values.length e1, .slice G s.heap.length e2] tSt) := ⟨_, rfl⟩
  replace hB : Below w.heap.size w X := by rw [hX]; exact bbox hB _
  replace k0 : Blk X w.heap.size tSt #[.slice A1 s.values.length c1, .slice A2 s.heap.length c2] := by rw [hX]; exact k0.alloc _
  replace k1 : Blk X (w.heap.size + 1) tC #[.int .i64 3, .int .i64 a, .int .i64 b, .bool t.eq, .int .i64 t.a, .int .i64 t.b, vF, vA, vB, vE] := by rw [hX]; exact k1.alloc _
  replace k2 : Blk X (w.heap.size + 1 + 1) tSt #[.slice none 0 0, .slice none 0 0] := by rw [hX]; exact k2.alloc _
  have k3 : Blk X w1.heap.size tSt #[.slice F s.values.length e1, .slice G s.heap.length e2] := by rw [hX]; exact Blk.new _ _ _
  replace o1 : Hid (IntsO X w.heap.size (.slice F s.values.length e1) s.values) := by rw [hX]; exact o1.out.below (bbox (Below.refl _ _) _)
  replace o2 : Hid (IntsO X w.heap.size (.slice G s.heap.length e2) s.heap) := by rw [hX]; exact o2.out.below (bbox (Below.refl _ _) _)
  rw [← hX]
  clear hX
  (replace qk0 := k0.cell; replace rk0 := k0.frozen; replace lk0 := k0.lt; replace qk1 := k1.cell; replace rk1 := k1.frozen; replace lk1 := k1.lt; replace qk2 := k2.cell; replace rk2 := k2.frozen; replace lk2 := k2.lt; replace qk3 := k3.cell; replace rk3 := k3.frozen; replace lk3 := k3.lt)
  go_wp2_with fail
  refine (c_spec_l1Value A1 c1 s.values b _ (V1.out.below hB) HB.out.1 (by rw [h8.out.1]; exact HB.out.2)).mono ?_
  rintro e w2 ⟨rfl, rfl⟩
  rw [← hy.out]
  go_wp2_with fail
  refine (c_spec_l2Has _ s x _ (hV.out.below hB) h8.out.2).mono ?_
  rintro e w2 ⟨rfl, hB2⟩
  have hX := k3.lt
  replace o1 := Lib.hid (o1.out.below hB2)
  replace o2 := Lib.hid (o2.out.below hB2)
  (replace hB := bgo hB hB2; replace k0 := k0.next hB2; replace qk0 := k0.cell; replace rk0 := k0.frozen; replace lk0 := k0.lt; replace k1 := k1.next hB2; replace qk1 := k1.cell; replace rk1 := k1.frozen; replace lk1 := k1.lt; replace k2 := k2.next hB2; replace qk2 := k2.cell; replace rk2 := k2.frozen; replace lk2 := k2.lt; replace k3 := k3.next hB2; replace qk3 := k3.cell; replace rk3 := k3.frozen; replace lk3 := k3.lt)
  clear hB2
  cases ha : allocB s.heap x
  · have E : Hid (basicF s 3 a b = (s, 1)) := by
      show _ = _
      unfold basicF
      rw [if_neg (by decide), if_neg (by decide), if_pos rfl, ← hx.out, ha]; rfl
    have E2 : Hid (basS (basicF s 3 a b) = ⟨[], []⟩) := by show _ = _; rw [E.out]; rfl
    clear ha
    go_wp2_with fail
    refine bodyPost_ret (v := .tuple #[.agg #[.slice none 0 0, .slice none 0 0], .int .i64 1]) (by simp [results, Try.results185, go_sem, qk2, lk2]) rfl ⟨_, by rw [E.out], ?_, ?_⟩
    · rw [E2.out]; exact zeroO _
    · first
        | exact bel
        | (exact (((hB).setCell (p := ⟨w.heap.size + 1 + 1, 0, none⟩) (by simp only; omega) _).setCell (p := ⟨w.heap.size + 1 + 1, 1, none⟩) (by simp only; omega) _))
        | (exact bbox (((hB).setCell (p := ⟨w.heap.size + 1 + 1, 0, none⟩) (by simp only; omega) _).setCell (p := ⟨w.heap.size + 1 + 1, 1, none⟩) (by simp only; omega) _) _)
  have hxa := allocB_addr ha
  obtain ⟨m, rfl⟩ : ∃ m : Nat, x = (m : Int) + 1 := ⟨(x - 1).toNat, by omega⟩
  have E : Hid (basicF s 3 a b = (⟨s.values, s.heap.set m y⟩, 0)) := by
    show _ = _
    unfold basicF
    rw [if_neg (by decide), if_neg (by decide), if_pos rfl, ← hx.out, ← hy.out, ha, if_pos rfl, show ((m : Int) + 1 - 1).toNat = m by omega]
  have E2 : Hid (basS (basicF s 3 a b) = ⟨s.values, s.heap.set m y⟩) := by show _ = _; rw [E.out]; rfl
  clear ha
  have hvl := h8.out.2
  obtain ⟨gv, cur, -, rfl, hgv, kg, hc, hset⟩ := o2.out.cell_ (k := m) (by omega)
  have q := kg.cell m
  rw [hc] at q
  obtain ⟨z, hz⟩ : ∃ z, z = s.heap[m]'(by omega) := ⟨_, rfl⟩
  rw [← hz] at q
  have fq := kg.frozen m
  have hgvl := kg.lt
  have hne2 : w.heap.size + 1 + 1 ≠ gv := k2.ne_ kg (by decide)
  have hne3 : w1.heap.size ≠ gv := k3.ne_ kg (by decide)
  have HSET := Lib.hid (hset y)
  have hml : (m : Int) < (s.heap.length : Int) := by omega
  have hwm : IntKind.i64.wrap (m : Int) = (m : Int) := IntWalk.i64_in _ (by omega)
  clear hset hc hz hvl
  clear hwm
  go_wp2_with fail
  have K2 := k2.far (p := ⟨gv, m, none⟩) hne2 (.int .i64 y)
  refine bodyPost_ret (v := .tuple #[.agg #[.slice F s.values.length e1, .slice (some ⟨gv, 0, none⟩) s.heap.length e2], .int .i64 0]) (by simp [results, Try.results185, go_sem, qk2, lk2]) rfl ⟨_, by rw [E.out], ?_, ?_⟩
  · rw [E2.out]
    exact ⟨_, _, rfl, (((o1.out.set_ne (q := ⟨gv, m, none⟩) (fun e => dj.out gv e rfl) _).setT K2 (by decide) 0 _).setT (K2.set_ 0 _) (by decide) 1 _), ((HSET.out.setT K2 (by decide) 0 _).setT (K2.set_ 0 _) (by decide) 1 _), dj.out⟩
  · exact ((hB.setCell (p := ⟨gv, m, none⟩) hgv _).setCell (p := ⟨w.heap.size + 1 + 1, 0, none⟩) (by simp only; omega) _).setCell (p := ⟨w.heap.size + 1 + 1, 1, none⟩) (by simp only; omega) _
--@ spec.l9Basic
set_option maxRecDepth 100000 in
set_option maxHeartbeats 3200000 in
theorem sbasic_free {lo hi : Nat} (v : Value) (s : Ste) (w : World) (a : Int) (ha : 0 ≤ a ∧ a ≤ 8) (t : Fct) (vF vA vB vE : Value) (h : StateV w lo hi v s) (hs : s.valid = true) :
    Calls Try.prog 185 #[v, .agg #[.int .i64 5, .int .i64 a, .int .i64 0, .bool t.eq, .int .i64 t.a, .int .i64 t.b, vF, vA, vB, vE]] w fun e w' => ∃ r, e = .returned (.tuple #[r, .int .i64 (basicF s 5 a 0).2]) ∧ StateO w' w.heap.size r (basS (basicF s 5 a 0)) ∧ Below w.heap.size w w' := by
  have HA := Lib.hid ha
  have HB : Hid (0 ≤ (0 : Int) ∧ (0 : Int) ≤ (8 : Int)) := ⟨by omega, by omega⟩
  clear ha
  have hV := Lib.hid h
  obtain ⟨A1, c1, A2, c2, rfl, h1, h2⟩ := h
  have h8 := Lib.hid (Ste.valid_len hs)
  have HS := Lib.hid hs
  have V1 := Lib.hid h1
  have V2 := Lib.hid h2
  obtain ⟨x, hx⟩ : ∃ x, x = tval s.values a := ⟨_, rfl⟩
  obtain ⟨y, hy⟩ : ∃ x, x = tval s.values 0 := ⟨_, rfl⟩
  have hxv : 0 ≤ x ∧ x ≤ 8 := by rw [hx]; exact tval_le (Ste.all_vals hs) _
  have hyv : 0 ≤ y ∧ y ≤ 8 := by rw [hy]; exact tval_le (Ste.all_vals hs) _
  replace hx := Lib.hid hx
  replace hy := Lib.hid hy
  clear hs h1 h2
  obtain ⟨k0, k1, k2⟩ := blk3 w tSt tC tSt #[.slice A1 s.values.length c1, .slice A2 s.heap.length c2] #[.int .i64 5, .int .i64 a, .int .i64 0, .bool t.eq, .int .i64 t.a, .int .i64 t.b, vF, vA, vB, vE] #[.slice none 0 0, .slice none 0 0]
  go_enter Try.func185, Try.ntmps185
  go_wp2_with fail
  refine (c_l2Copy _ s _ (hV.out.below bel)).mono ?_
  rintro e w1 ⟨r, rfl, o, hB1⟩
  have hB := bgo (w := w) bel hB1
  have hz1 := hB1.size
  simp only [World.size_alloc] at hz1
  (replace k0 := k0.next hB1; replace qk0 := k0.cell; replace rk0 := k0.frozen; replace lk0 := k0.lt; replace k1 := k1.next hB1; replace qk1 := k1.cell; replace rk1 := k1.frozen; replace lk1 := k1.lt; replace k2 := k2.next hB1; replace qk2 := k2.cell; replace rk2 := k2.frozen; replace lk2 := k2.lt)
  clear hB1
  obtain ⟨fv, av, rfl, o1, o2, dj⟩ := o
  obtain ⟨F, e1, rfl, -⟩ := o1.reads
  obtain ⟨G, e2, rfl, -⟩ := o2.reads
  replace o1 := Lib.hid (o1.lower (base' := w.heap.size) (by simp; omega))
  replace o2 := Lib.hid (o2.lower (base' := w.heap.size) (by simp; omega))
  replace dj := Lib.hid dj
  go_wp2_with fail
  refine (c_spec_l1Value A1 c1 s.values a _ (V1.out.below (bbox hB _)) HA.out.1 (by rw [h8.out.1]; exact HA.out.2)).mono ?_
  rintro e w2 ⟨rfl, rfl⟩
  rw [← hx.out]
  obtain ⟨X, hX⟩ : ∃ X, X = w1.alloc (.cells #[.slice F s.values.length e1, .slice G s.heap.length e2] tSt) := ⟨_, rfl⟩
  replace hB : Below w.heap.size w X := by rw [hX]; exact bbox hB _
  replace k0 : Blk X w.heap.size tSt #[.slice A1 s.values.length c1, .slice A2 s.heap.length c2] := by rw [hX]; exact k0.alloc _
  replace k1 : Blk X (w.heap.size + 1) tC #[.int .i64 5, .int .i64 a, .int .i64 0, .bool t.eq, .int .i64 t.a, .int .i64 t.b, vF, vA, vB, vE] := by rw [hX]; exact k1.alloc _
  replace k2 : Blk X (w.heap.size + 1 + 1) tSt #[.slice none 0 0, .slice none 0 0] := by rw [hX]; exact k2.alloc _
  have k3 : Blk X w1.heap.size tSt #[.slice F s.values.length e1, .slice G s.heap.length e2] := by rw [hX]; exact Blk.new _ _ _
  replace o1 : Hid (IntsO X w.heap.size (.slice F s.values.length e1) s.values) := by rw [hX]; exact o1.out.below (bbox (Below.refl _ _) _)
  replace o2 : Hid (IntsO X w.heap.size (.slice G s.heap.length e2) s.heap) := by rw [hX]; exact o2.out.below (bbox (Below.refl _ _) _)
  rw [← hX]
  clear hX
  (replace qk0 := k0.cell; replace rk0 := k0.frozen; replace lk0 := k0.lt; replace qk1 := k1.cell; replace rk1 := k1.frozen; replace lk1 := k1.lt; replace qk2 := k2.cell; replace rk2 := k2.frozen; replace lk2 := k2.lt; replace qk3 := k3.cell; replace rk3 := k3.frozen; replace lk3 := k3.lt)
  go_wp2_with fail
  refine (c_spec_l1Value A1 c1 s.values 0 _ (V1.out.below hB) HB.out.1 (by rw [h8.out.1]; exact HB.out.2)).mono ?_
  rintro e w2 ⟨rfl, rfl⟩
  rw [← hy.out]
  go_wp2_with fail
  refine (c_spec_l2Has _ s x _ (hV.out.below hB) h8.out.2).mono ?_
  rintro e w2 ⟨rfl, hB2⟩
  have hX := k3.lt
  replace o1 := Lib.hid (o1.out.below hB2)
  replace o2 := Lib.hid (o2.out.below hB2)
  (replace hB := bgo hB hB2; replace k0 := k0.next hB2; replace qk0 := k0.cell; replace rk0 := k0.frozen; replace lk0 := k0.lt; replace k1 := k1.next hB2; replace qk1 := k1.cell; replace rk1 := k1.frozen; replace lk1 := k1.lt; replace k2 := k2.next hB2; replace qk2 := k2.cell; replace rk2 := k2.frozen; replace lk2 := k2.lt; replace k3 := k3.next hB2; replace qk3 := k3.cell; replace rk3 := k3.frozen; replace lk3 := k3.lt)
  clear hB2
  cases ha : allocB s.heap x
  · have E : Hid (basicF s 5 a 0 = (s, 1)) := by
      show _ = _
      unfold basicF
      rw [if_neg (by decide), if_neg (by decide), if_neg (by decide), if_neg (by decide), ← hx.out, ha]; rfl
    have E2 : Hid (basS (basicF s 5 a 0) = ⟨[], []⟩) := by show _ = _; rw [E.out]; rfl
    clear ha
    go_wp2_with fail
    refine bodyPost_ret (v := .tuple #[.agg #[.slice none 0 0, .slice none 0 0], .int .i64 1]) (by simp [results, Try.results185, go_sem, qk2, lk2]) rfl ⟨_, by rw [E.out], ?_, ?_⟩
    · rw [E2.out]; exact zeroO _
    · first
        | exact bel
        | (exact (((hB).setCell (p := ⟨w.heap.size + 1 + 1, 0, none⟩) (by simp only; omega) _).setCell (p := ⟨w.heap.size + 1 + 1, 1, none⟩) (by simp only; omega) _))
        | (exact bbox (((hB).setCell (p := ⟨w.heap.size + 1 + 1, 0, none⟩) (by simp only; omega) _).setCell (p := ⟨w.heap.size + 1 + 1, 1, none⟩) (by simp only; omega) _) _)
  have hxa := allocB_addr ha
  obtain ⟨m, rfl⟩ : ∃ m : Nat, x = (m : Int) + 1 := ⟨(x - 1).toNat, by omega⟩
  have E : Hid (basicF s 5 a 0 = (⟨s.values, s.heap.set m (-1)⟩, 0)) := by
    show _ = _
    unfold basicF
    rw [if_neg (by decide), if_neg (by decide), if_neg (by decide), if_neg (by decide), ← hx.out, ha, if_pos rfl, show ((m : Int) + 1 - 1).toNat = m by omega]
  have E2 : Hid (basS (basicF s 5 a 0) = ⟨s.values, s.heap.set m (-1)⟩) := by show _ = _; rw [E.out]; rfl
  clear ha
  have hvl := h8.out.2
  obtain ⟨gv, cur, -, rfl, hgv, kg, hc, hset⟩ := o2.out.cell_ (k := m) (by omega)
  have q := kg.cell m
  rw [hc] at q
  obtain ⟨z, hz⟩ : ∃ z, z = s.heap[m]'(by omega) := ⟨_, rfl⟩
  rw [← hz] at q
  have fq := kg.frozen m
  have hgvl := kg.lt
  have hne2 : w.heap.size + 1 + 1 ≠ gv := k2.ne_ kg (by decide)
  have hne3 : w1.heap.size ≠ gv := k3.ne_ kg (by decide)
  have HSET := Lib.hid (hset (-1))
  have hml : (m : Int) < (s.heap.length : Int) := by omega
  have hwm : IntKind.i64.wrap (m : Int) = (m : Int) := IntWalk.i64_in _ (by omega)
  clear hset hc hz hvl
  clear hwm
  go_wp2_with fail
  have K2 := k2.far (p := ⟨gv, m, none⟩) hne2 (.int .i64 (-1))
  refine bodyPost_ret (v := .tuple #[.agg #[.slice F s.values.length e1, .slice (some ⟨gv, 0, none⟩) s.heap.length e2], .int .i64 0]) (by simp [results, Try.results185, go_sem, qk2, lk2]) rfl ⟨_, by rw [E.out], ?_, ?_⟩
  · rw [E2.out]
    exact ⟨_, _, rfl, (((o1.out.set_ne (q := ⟨gv, m, none⟩) (fun e => dj.out gv e rfl) _).setT K2 (by decide) 0 _).setT (K2.set_ 0 _) (by decide) 1 _), ((HSET.out.setT K2 (by decide) 0 _).setT (K2.set_ 0 _) (by decide) 1 _), dj.out⟩
  · exact ((hB.setCell (p := ⟨gv, m, none⟩) hgv _).setCell (p := ⟨w.heap.size + 1 + 1, 0, none⟩) (by simp only; omega) _).setCell (p := ⟨w.heap.size + 1 + 1, 1, none⟩) (by simp only; omega) _
--@ spec.l9Basic
set_option maxRecDepth 100000 in
set_option maxHeartbeats 3200000 in
theorem sbasic_new {lo hi : Nat} (v : Value) (s : Ste) (w : World) (m : Nat) (hm : m < 4) (t : Fct) (vF vA vB vE : Value) (h : StateV w lo hi v s) (hs : s.valid = true) :
    Calls Try.prog 185 #[v, .agg #[.int .i64 4, .int .i64 ((m : Int) + 1), .int .i64 0, .bool t.eq, .int .i64 t.a, .int .i64 t.b, vF, vA, vB, vE]] w fun e w' => ∃ r, e = .returned (.tuple #[r, .int .i64 (basicF s 4 ((m : Int) + 1) 0).2]) ∧ StateO w' w.heap.size r (basS (basicF s 4 ((m : Int) + 1) 0)) ∧ Below w.heap.size w w' := by
  have hm4 : (m : Int) < 4 := by omega
  have hV := Lib.hid h
  obtain ⟨A1, c1, A2, c2, rfl, h1, h2⟩ := h
  have h8 := Lib.hid (Ste.valid_len hs)
  have HS := Lib.hid hs
  have V1 := Lib.hid h1
  have V2 := Lib.hid h2
  obtain ⟨x, hx⟩ : ∃ x, x = tval s.values ((m : Int) + 1) := ⟨_, rfl⟩
  obtain ⟨y, hy⟩ : ∃ x, x = tval s.values 0 := ⟨_, rfl⟩
  have hxv : 0 ≤ x ∧ x ≤ 8 := by rw [hx]; exact tval_le (Ste.all_vals hs) _
  have hyv : 0 ≤ y ∧ y ≤ 8 := by rw [hy]; exact tval_le (Ste.all_vals hs) _
  replace hx := Lib.hid hx
  replace hy := Lib.hid hy
  clear hs h1 h2
  obtain ⟨k0, k1, k2⟩ := blk3 w tSt tC tSt #[.slice A1 s.values.length c1, .slice A2 s.heap.length c2] #[.int .i64 4, .int .i64 ((m : Int) + 1), .int .i64 0, .bool t.eq, .int .i64 t.a, .int .i64 t.b, vF, vA, vB, vE] #[.slice none 0 0, .slice none 0 0]
  go_enter Try.func185, Try.ntmps185
  go_wp2_with fail
  refine (c_l2Copy _ s _ (hV.out.below bel)).mono ?_
  rintro e w1 ⟨r, rfl, o, hB1⟩
  have hB := bgo (w := w) bel hB1
  have hz1 := hB1.size
  simp only [World.size_alloc] at hz1
  (replace k0 := k0.next hB1; replace qk0 := k0.cell; replace rk0 := k0.frozen; replace lk0 := k0.lt; replace k1 := k1.next hB1; replace qk1 := k1.cell; replace rk1 := k1.frozen; replace lk1 := k1.lt; replace k2 := k2.next hB1; replace qk2 := k2.cell; replace rk2 := k2.frozen; replace lk2 := k2.lt)
  clear hB1
  obtain ⟨fv, av, rfl, o1, o2, dj⟩ := o
  obtain ⟨F, e1, rfl, -⟩ := o1.reads
  obtain ⟨G, e2, rfl, -⟩ := o2.reads
  replace o1 := Lib.hid (o1.lower (base' := w.heap.size) (by simp; omega))
  replace o2 := Lib.hid (o2.lower (base' := w.heap.size) (by simp; omega))
  replace dj := Lib.hid dj
  go_wp2_with fail
  refine (c_spec_l1Value A1 c1 s.values ((m : Int) + 1) _ (V1.out.below (bbox hB _)) (by omega) (by rw [h8.out.1]; exact (by omega))).mono ?_
  rintro e w2 ⟨rfl, rfl⟩
  rw [← hx.out]
  obtain ⟨X, hX⟩ : ∃ X, X = w1.alloc (.cells #[.slice F s.values.length e1, .slice G s.heap.length e2] tSt) := ⟨_, rfl⟩
  replace hB : Below w.heap.size w X := by rw [hX]; exact bbox hB _
  replace k0 : Blk X w.heap.size tSt #[.slice A1 s.values.length c1, .slice A2 s.heap.length c2] := by rw [hX]; exact k0.alloc _
  replace k1 : Blk X (w.heap.size + 1) tC #[.int .i64 4, .int .i64 ((m : Int) + 1), .int .i64 0, .bool t.eq, .int .i64 t.a, .int .i64 t.b, vF, vA, vB, vE] := by rw [hX]; exact k1.alloc _
  replace k2 : Blk X (w.heap.size + 1 + 1) tSt #[.slice none 0 0, .slice none 0 0] := by rw [hX]; exact k2.alloc _
  have k3 : Blk X w1.heap.size tSt #[.slice F s.values.length e1, .slice G s.heap.length e2] := by rw [hX]; exact Blk.new _ _ _
  replace o1 : Hid (IntsO X w.heap.size (.slice F s.values.length e1) s.values) := by rw [hX]; exact o1.out.below (bbox (Below.refl _ _) _)
  replace o2 : Hid (IntsO X w.heap.size (.slice G s.heap.length e2) s.heap) := by rw [hX]; exact o2.out.below (bbox (Below.refl _ _) _)
  rw [← hX]
  clear hX
  (replace qk0 := k0.cell; replace rk0 := k0.frozen; replace lk0 := k0.lt; replace qk1 := k1.cell; replace rk1 := k1.frozen; replace lk1 := k1.lt; replace qk2 := k2.cell; replace rk2 := k2.frozen; replace lk2 := k2.lt; replace qk3 := k3.cell; replace rk3 := k3.frozen; replace lk3 := k3.lt)
  go_wp2_with fail
  refine (c_spec_l1Value A1 c1 s.values 0 _ (V1.out.below hB) (by omega) (by rw [h8.out.1]; exact (by omega))).mono ?_
  rintro e w2 ⟨rfl, rfl⟩
  rw [← hy.out]
  go_wp2_with fail
  refine (c_spec_AllocX _ s _ (hV.out.below hB) HS.out).mono ?_
  rintro e w2 ⟨hor, hB2⟩
  have hzX := hB.size
  (replace hB := bgo hB hB2; replace k0 := k0.next hB2; replace qk0 := k0.cell; replace rk0 := k0.frozen; replace lk0 := k0.lt; replace k1 := k1.next hB2; replace qk1 := k1.cell; replace rk1 := k1.frozen; replace lk1 := k1.lt; replace k2 := k2.next hB2; replace qk2 := k2.cell; replace rk2 := k2.frozen; replace lk2 := k2.lt; replace k3 := k3.next hB2; replace qk3 := k3.cell; replace rk3 := k3.frozen; replace lk3 := k3.lt)
  clear hB2
  rcases hor with ⟨hf, rfl⟩ | ⟨n, r, hf, rfl, o⟩
  · have E : Hid (basicF s 4 ((m : Int) + 1) 0 = (s, 2)) := by
      show _ = _
      unfold basicF
      rw [if_neg (by decide), if_neg (by decide), if_neg (by decide), if_pos rfl, hf]
    have E2 : Hid (basS (basicF s 4 ((m : Int) + 1) 0) = ⟨[], []⟩) := by show _ = _; rw [E.out]; rfl
    clear hf
    go_wp2_with fail
    refine bodyPost_ret (v := .tuple #[.agg #[.slice none 0 0, .slice none 0 0], .int .i64 2]) (by simp [results, Try.results185, go_sem, qk2, lk2]) rfl ⟨_, by rw [E.out], ?_, ?_⟩
    · rw [E2.out]; exact zeroO _
    · first
        | exact bel
        | (exact (((hB).setCell (p := ⟨w.heap.size + 1 + 1, 0, none⟩) (by simp only; omega) _).setCell (p := ⟨w.heap.size + 1 + 1, 1, none⟩) (by simp only; omega) _))
        | (exact bbox (((hB).setCell (p := ⟨w.heap.size + 1 + 1, 0, none⟩) (by simp only; omega) _).setCell (p := ⟨w.heap.size + 1 + 1, 1, none⟩) (by simp only; omega) _) _)
  have E : Hid (basicF s 4 ((m : Int) + 1) 0 = (⟨s.values.set m ((n : Int) + 1), s.heap.set n 0⟩, 0)) := by
    show _ = _
    unfold basicF
    rw [if_neg (by decide), if_neg (by decide), if_neg (by decide), if_pos rfl, hf, show ((m : Int) + 1 - 1).toNat = m by omega]
  have E2 : Hid (basS (basicF s 4 ((m : Int) + 1) 0) = ⟨s.values.set m ((n : Int) + 1), s.heap.set n 0⟩) := by show _ = _; rw [E.out]; rfl
  clear hf
  obtain ⟨nf, nh, rfl, p1, p2, dj2⟩ := o
  obtain ⟨NF, d1, rfl, -⟩ := p1.reads
  obtain ⟨NH, d2, rfl, -⟩ := p2.reads
  simp only [List.length_set] at p1 p2 dj2
  replace p1 := Lib.hid (p1.lower (base' := w.heap.size) (by omega))
  replace p2 := Lib.hid (p2.lower (base' := w.heap.size) (by omega))
  replace dj2 := Lib.hid dj2
  have hvl := h8.out.1
  obtain ⟨gv, cur, -, rfl, hgv, kg, hc, hset⟩ := p1.out.cell_ (k := m) (by first | omega | (simp; omega))
  have q := kg.cell m
  rw [hc] at q
  obtain ⟨z, hz⟩ : ∃ z, z = s.values[m]'(by omega) := ⟨_, rfl⟩
  rw [← hz] at q
  have fq := kg.frozen m
  have hgvl := kg.lt
  have hne2 : w.heap.size + 1 + 1 ≠ gv := k2.ne_ kg (by decide)
  have HSET := Lib.hid (hset ((n : Int) + 1))
  have hml : (m : Int) < (s.values.length : Int) := by omega
  clear hset hc hz hvl o1 o2
  go_wp2_with fail
  have K2 := k2.far (p := ⟨gv, m, none⟩) hne2 (.int .i64 ((n : Int) + 1))
  refine bodyPost_ret (v := .tuple #[.agg #[.slice (some ⟨gv, 0, none⟩) s.values.length d1, .slice NH s.heap.length d2], .int .i64 0]) (by simp [results, Try.results185, go_sem, qk2, lk2]) rfl ⟨_, by rw [E.out], ?_, ?_⟩
  · rw [E2.out]
    exact ⟨_, _, rfl, ((HSET.out.setT K2 (by decide) 0 _).setT (K2.set_ 0 _) (by decide) 1 _).below (bbox (Below.refl _ _) _), (((p2.out.set_ne (q := ⟨gv, m, none⟩) (dj2.out gv rfl) _).setT K2 (by decide) 0 _).setT (K2.set_ 0 _) (by decide) 1 _).below (bbox (Below.refl _ _) _), dj2.out⟩
  · exact bbox (((hB.setCell (p := ⟨gv, m, none⟩) hgv _).setCell (p := ⟨w.heap.size + 1 + 1, 0, none⟩) (by simp only; omega) _).setCell (p := ⟨w.heap.size + 1 + 1, 1, none⟩) (by simp only; omega) _) _
theorem c_spec_l9Basic {lo hi : Nat} (v : Value) (s : Ste) (w : World) (k a b : Int) (t : Fct) (vF vA vB vE : Value) (h : StateV w lo hi v s) (hs : s.valid = true) (hf : fieldsB k a b = true) :
    Calls Try.prog 185 #[v, .agg #[.int .i64 k, .int .i64 a, .int .i64 b, .bool t.eq, .int .i64 t.a, .int .i64 t.b, vF, vA, vB, vE]] w fun e w' => ∃ r, e = .returned (.tuple #[r, .int .i64 (basicF s k a b).2]) ∧ StateO w' w.heap.size r (basS (basicF s k a b)) ∧ Below w.heap.size w w' := by
  have hk := fieldsB_basic hf
  unfold fieldsB at hf
  have hP : ∀ {x : Int}, isProgB x = true → ∃ m : Nat, x = (m : Int) + 1 ∧ m < 4 := fun {x} h => by
    simp [isProgB] at h
    exact ⟨(x - 1).toNat, by omega, by omega⟩
  by_cases k1 : k = 1
  · subst k1
    rw [if_pos (Or.inl rfl), Bool.and_eq_true] at hf
    obtain ⟨m, rfl, hm⟩ := hP hf.1
    exact sbasic_set v s w m b hm (isTermB_iff.1 hf.2) t vF vA vB vE h hs
  by_cases k2 : k = 2
  · subst k2
    rw [if_pos (Or.inr rfl), Bool.and_eq_true] at hf
    obtain ⟨m, rfl, hm⟩ := hP hf.1
    exact sbasic_load v s w m b hm (isTermB_iff.1 hf.2) t vF vA vB vE h hs
  rw [if_neg (by omega)] at hf
  by_cases k3 : k = 3
  · subst k3
    rw [if_pos rfl, Bool.and_eq_true] at hf
    exact sbasic_store v s w a b (isTermB_iff.1 hf.1) (isTermB_iff.1 hf.2) t vF vA vB vE h hs
  rw [if_neg k3] at hf
  by_cases k4 : k = 4
  · subst k4
    rw [if_pos rfl, Bool.and_eq_true, decide_eq_true_eq] at hf
    obtain ⟨hf1, rfl⟩ := hf
    obtain ⟨m, rfl, hm⟩ := hP hf1
    exact sbasic_new v s w m hm t vF vA vB vE h hs
  rw [if_neg k4] at hf
  obtain rfl : k = 5 := by omega
  rw [if_pos rfl, Bool.and_eq_true, decide_eq_true_eq] at hf
  obtain ⟨hf1, rfl⟩ := hf
  exact sbasic_free v s w a (isTermB_iff.1 hf1) t vF vA vB vE h hs
--@
end Go.Proofs.Ytcgifoghggajgaa
