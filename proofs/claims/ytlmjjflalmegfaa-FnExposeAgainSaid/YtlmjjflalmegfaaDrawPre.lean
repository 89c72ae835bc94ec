/- What the reader draws: an assertion out of texts, and the arguments of ModelsOf. -/
import Derived.Test.YtlmjjflalmegfaaStrJ
import Derived.Test.YtlmjjflalmegfaaDrawE
set_option linter.unusedSimpArgs false
set_option linter.unusedVariables false
namespace Go.Proofs.Ytlmjjflalmegfaa
open Go Go.RowKit Go.Proofs
attribute [local go_sem ↓] Go.wp_at_zero Go.wp_at_succ
def strOfB : Value → Bs
  | .string s => s.data.toList
  | _ => []
--@ (*spec.l18Rd).of
theorem c_ofB {lo hi : Nat} (g p : Nat) (A : Option Addr) (c : Nat) (xs : List Bs) (w : World) (h : Rdr w g p) (hp : p ≤ 1000000) (hx : StrsV w lo hi A xs) (hg : g < lo ∨ hi ≤ g) (hn : 0 < xs.length) :
    Calls Try.prog 91 #[.pointer (some ⟨g, 0, none⟩), .slice A xs.length c] w fun e w' => ∃ m ∈ xs, e = .returned (sv m) ∧ Rdr w' g (p + 1) ∧ Fr g w w' := by
  have H := Lib.hid h
  have HX := Lib.hid hx
  clear h hx
  go_enter Try.func91, Try.ntmps91
  go_wp2_with fail
  refine (c_pick g p _ _ H.out hp).mono ?_
  rintro e w1 ⟨m, rfl, hm, hR, hF⟩
  have hlt : m < xs.length := by omega
  obtain ⟨b, o, rfl, c0⟩ := StrsV.at (Rd.fr HX.out hF hg) hlt
  have hmi : (m : Int) < (xs.length : Int) := by omega
  have HRF := Lib.hid (And.intro hR hF)
  have hmem := Lib.hid (List.getElem_mem hlt)
  obtain ⟨x, hxx⟩ : ∃ x, x = xs[m] := ⟨_, rfl⟩
  rw [← hxx] at c0 hmem
  clear hm hR hF hxx
  go_wp2_with fail
  go_ret
  exact ⟨x, hmem.out, rfl, HRF.out.1, HRF.out.2⟩
theorem c_ofLB (g p : Nat) (cs : Array Value) (x n : Nat) (w : World) (h : Rdr w g p) (hp : p ≤ 1000000) (hk : Blk w x tS cs) (hcs : cs = (encS (cs.toList.map strOfB)).toArray) (hg : g < x) (hn : n = cs.size) (h0 : 0 < cs.size) (hl : ∀ u ∈ cs.toList.map strOfB, 1 ≤ u.length ∧ u.length ≤ 4000) (hl1 : cs.size ≤ 100) :
    Calls Try.prog 91 #[.pointer (some ⟨g, 0, none⟩), .slice (some ⟨x, 0, none⟩) n n] w fun e w' => ∃ m : Bs, (1 ≤ m.length ∧ m.length ≤ 4000) ∧ e = .returned (sv m) ∧ Rdr w' g (p + 1) ∧ Fr g w w' := by
  have e : n = (cs.toList.map strOfB).length := by rw [hn]; simp
  rw [e]
  refine (c_ofB (lo := x) (hi := x + 1) g p _ _ (cs.toList.map strOfB) w h hp ⟨⟨by simp [encS], fun _ => ⟨x, 0, rfl, Nat.le_refl _, Nat.lt_succ_self _, fun j u hu => ?_⟩⟩, by unfold Lim; simp; omega⟩ (Or.inl hg) (by simpa using h0)).mono ?_
  · rw [Nat.zero_add, hk.cell, hcs]
    simpa using hu
  · rintro e w' ⟨m, hm, rfl, h1, h2⟩
    exact ⟨m, hl m hm, rfl, h1, h2⟩
--@ spec.l10Pre
set_option maxRecDepth 100000 in
set_option maxHeartbeats 3200000 in
theorem c_l10Pre (g p : Nat) (w : World) (h : Rdr w g p) (hp : p ≤ 900000) :
    Calls Try.prog 50 #[.pointer (some ⟨g, 0, none⟩)] w fun e w' => ∃ r a q, e = .returned r ∧ AsnO w' w.heap.size r a ∧ (a.facts.length ≤ 12 ∧ a.atoms.length ≤ 6) ∧ Rdr w' g q ∧ q ≤ p + 40 ∧ Fr g w w' := by
  have H := Lib.hid h
  have hlt := h.lt
  clear h
  go_enter Try.func50, Try.ntmps50
  have k0 : Blk (w.alloc (.cells #[.slice none 0 0, .slice none 0 0] 34)) w.heap.size 34 #[.slice none 0 0, .slice none 0 0] := blks
  have H0 := Lib.hid (H.out.below (w' := w.alloc (.cells #[.slice none 0 0, .slice none 0 0] 34)) bel)
  have F0 : Hid (Fr g w (w.alloc (.cells #[.slice none 0 0, .slice none 0 0] 34))) := Lib.hid ((Fr.refl g w).alloc _)
  have hs0 : (w.alloc (.cells #[.slice none 0 0, .slice none 0 0] 34)).heap.size = w.heap.size + 1 := by simp
  clear H
  go_wp2_with fail
  generalize w.alloc (.cells #[.slice none 0 0, .slice none 0 0] 34) = W at k0 H0 F0 hs0 ⊢
  refine (c_ofLB g p _ _ _ _ (H0.out.below (bbox (Below.refl _ _) _)) (by omega) (Blk.newE (by omega)) (by rfl) (by omega) (by rfl) (by decide) (by decide) (by decide)).mono ?_
  rintro e w1 ⟨l, hl, rfl, hR, hF⟩
  have hFw : Fr g W w1 := ((Fr.refl g W).alloc _).trans hF
  replace k0 := k0.fr hFw (by omega)
  have hF1 : Hid (Fr g w w1) := Lib.hid (F0.out.trans hFw)
  have HR1 := Lib.hid hR
  have z1 := hF1.out.size
  have hg1 : g < w1.heap.size := by omega
  clear hR hF H0 F0 hFw
  obtain ⟨hl1, hl2⟩ := hl
  have cP := Lib.hid (fun W => c_ParseAssertion l W (by omega))
  have hok := Lib.hid (fun (h : (parseA l).isSome = true) => (show ((parseA l).getD ⟨[], []⟩).facts.length ≤ 12 ∧ ((parseA l).getD ⟨[], []⟩).atoms.length ≤ 6 from by
    cases e : parseA l with
    | none => rw [e] at h; cases h
    | some a => exact valid_len (parseA_valid e).1))
  obtain ⟨ok, hk⟩ : ∃ ok, ok = (parseA l).isSome := ⟨_, rfl⟩
  obtain ⟨a, ha⟩ : ∃ a, a = (parseA l).getD ⟨[], []⟩ := ⟨_, rfl⟩
  rw [← hk, ← ha] at cP hok
  clear hk ha hl1 hl2
  have hl0 := k0.lt
  go_wp2_with fail
  refine (cP.out _).mono ?_
  rintro e w2 ⟨v, rfl, N2, hB2⟩
  obtain ⟨fv, av, rfl, n1, n2⟩ := N2
  obtain ⟨F, e1, rfl, -⟩ := n1.reads
  obtain ⟨G, e2, rfl, -⟩ := n2.reads
  have hbx := bbox hB2 (.cells #[.slice F a.facts.length e1, .slice G a.atoms.length e2] 34)
  have N1 := Lib.hid ((n1.below (bbox (Below.refl _ _) (.cells #[.slice F a.facts.length e1, .slice G a.atoms.length e2] 34))).lower (base' := w.heap.size) z1)
  have N2 := Lib.hid ((n2.below (bbox (Below.refl _ _) (.cells #[.slice F a.facts.length e1, .slice G a.atoms.length e2] 34))).lower (base' := w.heap.size) z1)
  have HF2 : Hid (Fr g w (w2.alloc (.cells #[.slice F a.facts.length e1, .slice G a.atoms.length e2] 34))) := Lib.hid (hF1.out.trans (Fr.ofBelow hbx))
  have HR2 := Lib.hid (HR1.out.below hbx)
  have kx : Blk (w2.alloc (.cells #[.slice F a.facts.length e1, .slice G a.atoms.length e2] 34)) w2.heap.size 34 #[.slice F a.facts.length e1, .slice G a.atoms.length e2] := Blk.new _ _ _
  replace k0 := k0.next hbx
  have hz2 := hB2.size
  have hs2 : (w2.alloc (.cells #[.slice F a.facts.length e1, .slice G a.atoms.length e2] 34)).heap.size = w2.heap.size + 1 := by simp
  clear n1 n2 hB2 hF1 HR1 cP hbx
  cases ok
  · go_wp2_with fail
    generalize (w2.alloc (.cells #[.slice F a.facts.length e1, .slice G a.atoms.length e2] 34)) = W2 at k0 kx N1 N2 HF2 HR2 hs2 ⊢
    refine (c_l6Chains g _ _ HR2.out (by omega)).mono ?_
    rintro e w3 ⟨r3, a3, q3, rfl, o3, hv3, hf3, hx3, hR, hq, hF⟩
    replace k0 := k0.fr hF (by omega)
    have HF3 := Lib.hid (HF2.out.trans hF)
    have HR3 := Lib.hid hR
    have HO3 := Lib.hid (o3.lower (base' := w.heap.size) (by omega))
    obtain ⟨fv, av, rfl, m1, m2⟩ := HO3.out
    obtain ⟨F3, e3, rfl, -⟩ := m1.reads
    obtain ⟨G3, e4, rfl, -⟩ := m2.reads
    have M1 := Lib.hid m1
    have M2 := Lib.hid m2
    clear hR hF o3 HO3 m1 m2
    (replace qk0 := k0.cell; replace rk0 := k0.frozen; replace lk0 := k0.lt)
    go_wp2_with fail
    refine bodyPost_ret (v := .agg #[.slice F3 a3.facts.length e3, .slice G3 a3.atoms.length e4]) (by simp [results, Try.results50, go_sem, qk0, lk0]) rfl ⟨_, a3, q3, rfl, ⟨_, _, rfl, ?_, ?_⟩, by omega, ?_, by omega, ?_⟩
    · exact (M1.out.setT k0 (by decide) 0 _).setT (k0.set_ 0 _) (by decide) 1 _
    · exact (M2.out.setT k0 (by decide) 0 _).setT (k0.set_ 0 _) (by decide) 1 _
    · exact (HR3.out.set_ (q := ⟨w.heap.size, 0, none⟩) (by simp only; omega) _).set_ (q := ⟨w.heap.size, 1, none⟩) (by simp only; omega) _
    · exact (HF3.out.set_ (p := ⟨w.heap.size, 0, none⟩) (Or.inr (Nat.le_refl _)) _).set_ (p := ⟨w.heap.size, 1, none⟩) (Or.inr (Nat.le_refl _)) _
  · have HOK := Lib.hid (hok.out rfl)
    have lkx := kx.lt
    go_wp2_with fail
    generalize (w2.alloc (.cells #[.slice F a.facts.length e1, .slice G a.atoms.length e2] 34)) = W1 at k0 kx N1 N2 HF2 HR2 hs2 lkx ⊢
    refine (c_pick g _ 4 _ HR2.out (by omega)).mono ?_
    rintro e w4 ⟨m, rfl, -, hR, hF⟩
    replace k0 := k0.fr hF (by omega)
    replace kx := kx.fr hF (by omega)
    have hzF := hF.size
    have hgW : g < W1.heap.size := HR2.out.lt
    have P1 := Lib.hid (N1.out.fr hF (by omega))
    have P2 := Lib.hid (N2.out.fr hF (by omega))
    replace HF2 := Lib.hid (HF2.out.trans hF)
    replace HR2 := Lib.hid hR
    clear hR hF N1 N2
    by_cases hm : (0 : Int) < (m : Int)
    · (replace qk0 := k0.cell; replace rk0 := k0.frozen; replace lk0 := k0.lt; replace qkx := kx.cell; replace rkx := kx.frozen; replace lkx := kx.lt)
      go_wp2_with fail
      refine bodyPost_ret (v := .agg #[.slice F a.facts.length e1, .slice G a.atoms.length e2]) (by simp [results, Try.results50, go_sem, qk0, lk0]) rfl ⟨_, a, p + 1 + 1, rfl, ⟨_, _, rfl, ?_, ?_⟩, HOK.out, ?_, by omega, ?_⟩
      · exact (P1.out.setT k0 (by decide) 0 _).setT (k0.set_ 0 _) (by decide) 1 _
      · exact (P2.out.setT k0 (by decide) 0 _).setT (k0.set_ 0 _) (by decide) 1 _
      · exact (HR2.out.set_ (q := ⟨w.heap.size, 0, none⟩) (by simp only; omega) _).set_ (q := ⟨w.heap.size, 1, none⟩) (by simp only; omega) _
      · exact (HF2.out.set_ (p := ⟨w.heap.size, 0, none⟩) (Or.inr (Nat.le_refl _)) _).set_ (p := ⟨w.heap.size, 1, none⟩) (Or.inr (Nat.le_refl _)) _
    · go_wp2_with fail
      refine (c_l6Chains g _ _ HR2.out (by omega)).mono ?_
      rintro e w3 ⟨r3, a3, q3, rfl, o3, hv3, hf3, hx3, hR, hq, hF⟩
      replace k0 := k0.fr hF (by omega)
      have HF3 := Lib.hid (HF2.out.trans hF)
      have HR3 := Lib.hid hR
      have HO3 := Lib.hid (o3.lower (base' := w.heap.size) (by omega))
      obtain ⟨fv, av, rfl, m1, m2⟩ := HO3.out
      obtain ⟨F3, e3, rfl, -⟩ := m1.reads
      obtain ⟨G3, e4, rfl, -⟩ := m2.reads
      have M1 := Lib.hid m1
      have M2 := Lib.hid m2
      clear hR hF o3 HO3 m1 m2
      (replace qk0 := k0.cell; replace rk0 := k0.frozen; replace lk0 := k0.lt)
      go_wp2_with fail
      refine bodyPost_ret (v := .agg #[.slice F3 a3.facts.length e3, .slice G3 a3.atoms.length e4]) (by simp [results, Try.results50, go_sem, qk0, lk0]) rfl ⟨_, a3, q3, rfl, ⟨_, _, rfl, ?_, ?_⟩, by omega, ?_, by omega, ?_⟩
      · exact (M1.out.setT k0 (by decide) 0 _).setT (k0.set_ 0 _) (by decide) 1 _
      · exact (M2.out.setT k0 (by decide) 0 _).setT (k0.set_ 0 _) (by decide) 1 _
      · exact (HR3.out.set_ (q := ⟨w.heap.size, 0, none⟩) (by simp only; omega) _).set_ (q := ⟨w.heap.size, 1, none⟩) (by simp only; omega) _
      · exact (HF3.out.set_ (p := ⟨w.heap.size, 0, none⟩) (Or.inr (Nat.le_refl _)) _).set_ (p := ⟨w.heap.size, 1, none⟩) (Or.inr (Nat.le_refl _)) _
--@ spec.DrawModelsOf
--@
end Go.Proofs.Ytlmjjflalmegfaa
