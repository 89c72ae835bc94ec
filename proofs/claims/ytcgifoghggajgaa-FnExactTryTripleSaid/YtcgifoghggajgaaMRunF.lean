/- Programs: what is gathered over all commands. Plain. -/
import Derived.Test.YtcgifoghggajgaaMCmdK
import Derived.Test.YtcgifoghggajgaaTidyI
import Derived.Test.YtcgifoghggajgaaMTlist
import Derived.Test.YtcgifoghggajgaaMRunA
import Derived.Test.YtcgifoghggajgaaRunB
import Derived.Deep.LoopGhost
import Derived.Test.YtcgifoghggajgaaRunE
set_option linter.unusedSimpArgs false
set_option linter.unusedVariables false
namespace Go.Proofs.Ytcgifoghggajgaa
open Go Go.RowKit Go.Proofs

/-- gathered over all commands, at any level -/
def Cms.fold (F : Nat → Int → Int → Int → Fct → Asn → Nat) : Cms → Nat → Nat
  | .nil, S => S
  | .cons k a b t i body els r, S => r.fold F (els.fold F (body.fold F (F S k a b t i)))
def chF (S : Nat) (k a _b : Int) (_t : Fct) (_i : Asn) : Nat := if k = 1 ∨ k = 2 ∨ k = 4 then tins S a else S
def loF (S : Nat) (_k a b : Int) (t : Fct) (i : Asn) : Nat := tins (tins (tins (tins S a) b) t.a) t.b ||| tset (termsL i)
def tsup (S : Nat) (x : Int) : Nat := if 4 < x then tins S x else S
def lsL (a b : Int) (t : Fct) (i : Asn) : List Int := [a, b, t.a, t.b] ++ tlistL (tset (termsL i)) 9
def lsF (S : Nat) (_k a b : Int) (t : Fct) (i : Asn) : Nat := (lsL a b t i).foldl tsup S
theorem chF_lt {S : Nat} (h : S < 512) (k a b : Int) (t : Fct) (i : Asn) : chF S k a b t i < 512 := by
  unfold chF; split
  · exact tins_lt h a
  · exact h
theorem loF_lt {S : Nat} (h : S < 512) (k a b : Int) (t : Fct) (i : Asn) : loF S k a b t i < 512 :=
  Nat.or_lt_two_pow (n := 9) (tins_lt (tins_lt (tins_lt (tins_lt h a) b) t.a) t.b) (tset_lt _)
theorem Cms.fold_lt {F : Nat → Int → Int → Int → Fct → Asn → Nat} (hF : ∀ S k a b t i, S < 512 → F S k a b t i < 512) : ∀ (L : Cms) {S : Nat}, S < 512 → L.fold F S < 512
  | .nil, _, h => h
  | .cons k a b t i body els r, S, h => Cms.fold_lt hF r (Cms.fold_lt hF els (Cms.fold_lt hF body (hF S k a b t i h)))
theorem tsup_lt {S : Nat} (h : S < 512) (x : Int) : tsup S x < 512 := by
  unfold tsup; split
  · exact tins_lt h x
  · exact h
theorem foldl_tsup_lt (l : List Int) : ∀ {S : Nat}, S < 512 → l.foldl tsup S < 512 := by
  induction l with
  | nil => intro S h; exact h
  | cons x l ih => intro S h; exact ih (tsup_lt h x)
theorem lsF_lt {S : Nat} (h : S < 512) (k a b : Int) (t : Fct) (i : Asn) : lsF S k a b t i < 512 := foldl_tsup_lt _ h
theorem tsup_bit (S : Nat) (x : Int) (n : Nat) : (tsup S x).testBit n = (S.testBit n || decide (4 < n ∧ isTermB x = true ∧ x = (n : Int))) := by
  unfold tsup
  split
  · rename_i h
    rw [tins_bit]
    congr 1
    rw [decide_eq_decide]
    constructor
    · rintro ⟨h1, h2⟩; exact ⟨by omega, h1, h2⟩
    · rintro ⟨_, h1, h2⟩; exact ⟨h1, h2⟩
  · rename_i h
    have : decide (4 < n ∧ isTermB x = true ∧ x = (n : Int)) = false := by rw [decide_eq_false_iff_not]; rintro ⟨h1, _, h2⟩; omega
    rw [this, Bool.or_false]
theorem foldl_tsup_bit (l : List Int) : ∀ (S n : Nat), (l.foldl tsup S).testBit n = (S.testBit n || decide (4 < n ∧ isTermB (n : Int) = true ∧ (n : Int) ∈ l)) := by
  induction l with
  | nil => intro S n; simp
  | cons x l ih =>
    intro S n
    rw [List.foldl_cons, ih, tsup_bit, Bool.or_assoc]
    congr 1
    rw [← Bool.decide_or, decide_eq_decide]
    constructor
    · rintro (⟨h, h1, rfl⟩ | ⟨h, h1, hm⟩)
      · exact ⟨h, h1, List.mem_cons_self⟩
      · exact ⟨h, h1, List.mem_cons_of_mem _ hm⟩
    · rintro ⟨h, h1, hm⟩
      rcases List.mem_cons.1 hm with e | hm
      · exact Or.inl ⟨h, e ▸ h1, e.symm⟩
      · exact Or.inr ⟨h, h1, hm⟩
theorem tlistL_mem (S k n : Nat) : (n : Int) ∈ tlistL S k ↔ n < k ∧ S.testBit n = true := by
  unfold tlistL
  rw [List.mem_map]
  constructor
  · rintro ⟨m, hm, e⟩
    obtain rfl : m = n := by omega
    simpa using hm
  · intro h
    exact ⟨n, by simpa using h, rfl⟩
theorem tlistL_idx (S : Nat) : idxL (flagsOf S) (flagsOf S).length = tlistL S 9 := by
  rw [flagsOf_length]
  unfold idxL tlistL
  congr 1
--@ (impl.termSet).logical
theorem lsF_logS (S : Nat) (k a b : Int) (t : Fct) (i : Asn) : lsF (logS S) k a b t i = logS (loF S k a b t i) := by
  apply Nat.eq_of_testBit_eq
  intro n
  unfold lsF lsL loF
  rw [foldl_tsup_bit, logS_bit, logS_bit, Nat.testBit_or, tins_bit, tins_bit, tins_bit, tins_bit, tset_bit]
  have hm : ((n : Int) ∈ [a, b, t.a, t.b] ++ tlistL (tset (termsL i)) 9) ↔ ((a = (n : Int) ∨ b = (n : Int) ∨ t.a = (n : Int) ∨ t.b = (n : Int)) ∨ (n < 9 ∧ (isTermB (n : Int) = true ∧ (n : Int) ∈ termsL i))) := by
    rw [List.mem_append, tlistL_mem, tset_bit, decide_eq_true_iff]
    simp only [List.mem_cons, List.not_mem_nil, or_false, eq_comm]
  rw [Bool.eq_iff_iff]
  simp only [Bool.or_eq_true, Bool.and_eq_true, decide_eq_true_eq, hm]
  constructor
  · rintro (⟨h1, h2⟩ | ⟨h1, h2, (h3 | h3 | h3 | h3) | ⟨_, h3⟩⟩)
    · simp [h1, h2]
    · subst h3; simp [h2]; omega
    · subst h3; simp [h2]; omega
    · rw [h3]; simp [h2]; omega
    · rw [h3]; simp [h2]; omega
    · simp [h2, h3.2]; omega
  · rintro ⟨h1, h2⟩
    rcases h2 with ((((h2 | ⟨h2, h3⟩) | ⟨h2, h3⟩) | ⟨h2, h3⟩) | ⟨h2, h3⟩) | ⟨h2, h3⟩
    · exact Or.inl ⟨h1, h2⟩
    · right; rw [← h3]; exact ⟨by omega, h2, by simp⟩
    · right; rw [← h3]; exact ⟨by omega, h2, by simp⟩
    · right; rw [← h3]; exact ⟨by omega, h2, by simp⟩
    · right; rw [← h3]; exact ⟨by omega, h2, by simp⟩
    · right; have := isTermB_iff.1 h2; exact ⟨by omega, h2, Or.inr ⟨by omega, h2, h3⟩⟩
theorem fold_logS : ∀ (L : Cms) (S : Nat), L.fold lsF (logS S) = logS (L.fold loF S)
  | .nil, _ => rfl
  | .cons k a b t i body els r, S => by
    simp only [Cms.fold]
    rw [lsF_logS, fold_logS body, fold_logS els, fold_logS r]
--@
/-- the fields of valid commands that are terms -/
theorem fval_terms {k a b : Int} {t : Fct} {i : Asn} {body els : Cms} (h : fvalB k a b t i body els = true) : isTermB a = true ∧ isTermB b = true ∧ isTermB t.a = true ∧ isTermB t.b = true ∧ ∀ x ∈ termsL i, isTermB x = true := by
  unfold fvalB at h
  split at h
  · simp only [Bool.and_eq_true, decide_eq_true_eq, noAsn, Fct.valid] at h
    obtain ⟨rfl, rfl, ⟨h1, h2⟩, h3, h4⟩ := h
    refine ⟨by decide, by decide, h1, h2, ?_⟩
    have e : i = ⟨[], []⟩ := by cases i; simp_all
    subst e
    simp [termsL]
  split at h
  · simp only [Bool.and_eq_true, decide_eq_true_eq, Fct.valid] at h
    obtain ⟨rfl, rfl, ⟨h1, h2⟩, h3, h4⟩ := h
    exact ⟨by decide, by decide, h1, h2, termsL_ok h3⟩
  · simp only [Bool.and_eq_true, plainB, noFct, noAsn, decide_eq_true_eq] at h
    obtain ⟨⟨rfl, ⟨h1, h2⟩, h3, h4⟩, h5⟩ := h
    have e : i = ⟨[], []⟩ := by cases i; simp_all
    subst e
    have hab : isTermB a = true ∧ isTermB b = true := by
      have hp : ∀ {x : Int}, isProgB x = true → isTermB x = true := fun h => by simp [isProgB] at h; rw [isTermB_iff]; omega
      unfold fieldsB at h5
      split at h5
      · simp only [Bool.and_eq_true] at h5; exact ⟨hp h5.1, h5.2⟩
      split at h5
      · simpa using h5
      split at h5
      · simp only [Bool.and_eq_true, decide_eq_true_eq] at h5; exact ⟨hp h5.1, by rw [h5.2]; decide⟩
      split at h5
      · simp only [Bool.and_eq_true, decide_eq_true_eq] at h5; exact ⟨h5.1, by rw [h5.2]; decide⟩
      · cases h5
    exact ⟨hab.1, hab.2, by decide, by decide, by simp [termsL]⟩
/-- what the two laws hand back -/
def changedL (L : Cms) : List Int := if L.prog then tlistL (L.fold chF 0) 9 else []
def logicalL (L : Cms) : List Int := if L.prog then tlistL (L.fold lsF 0) 9 else []
section
variable {w w' : World} {lo hi : Nat}
/-- a program's blocks lie as they lay -/
theorem CmsAt.keep (hk : ∀ b, lo ≤ b → b < hi → w'.heap[b]? = w.heap[b]?) : ∀ {L : Cms} {bl o : Nat}, lo ≤ bl → bl < hi → CmsAt w lo hi L bl o → CmsAt w' lo hi L bl o
  | .nil, _, _, _, _, _ => trivial
  | .cons k a b t i body els r, bl, o, e1, e2, h => by
    obtain ⟨⟨h0, h1, h2, h3, h4, h5⟩, ⟨A6, c6, h6, g6⟩, ⟨A7, c7, h7, g7⟩, ⟨A8, c8, h8, g8⟩, ⟨A9, c9, h9, g9⟩, hr⟩ := h
    have hc : ∀ j, w'.cell? ⟨bl, j, none⟩ = w.cell? ⟨bl, j, none⟩ := fun j => World.cell?_of_block (a := ⟨bl, j, none⟩) (hk bl e1 e2)
    refine ⟨⟨(hc _).trans h0, (hc _).trans h1, (hc _).trans h2, (hc _).trans h3, (hc _).trans h4, (hc _).trans h5⟩, ⟨A6, c6, (hc _).trans h6, g6.keep hk⟩, ⟨A7, c7, (hc _).trans h7, g7.keep hk⟩, ⟨A8, c8, (hc _).trans h8, fun hl => ?_⟩, ⟨A9, c9, (hc _).trans h9, fun hl => ?_⟩, CmsAt.keep hk e1 e2 hr⟩
    · obtain ⟨b', o', e, p1, p2, p3⟩ := g8 hl; exact ⟨b', o', e, p1, p2, CmsAt.keep hk p1 p2 p3⟩
    · obtain ⟨b', o', e, p1, p2, p3⟩ := g9 hl; exact ⟨b', o', e, p1, p2, CmsAt.keep hk p1 p2 p3⟩
theorem CmsV.keep {A : Option Addr} {L : Cms} (h : CmsV w lo hi A L) (hk : ∀ b, lo ≤ b → b < hi → w'.heap[b]? = w.heap[b]?) : CmsV w' lo hi A L := fun hl => by
  obtain ⟨b, o, e, p1, p2, p3⟩ := h hl; exact ⟨b, o, e, p1, p2, p3.keep hk p1 p2⟩
/-- changed only at one block beyond the program -/
theorem CmsV.mk1 {A : Option Addr} {L : Cms} {g : Nat} (h : CmsV w lo hi A L) (hm : Mk (fun x => x = g) w w') (hg : hi ≤ g) (hl : g < w.heap.size) : CmsV w' lo hi A L :=
  h.keep fun b _ h2 => hm.block b (by omega) (by omega)
end
end Go.Proofs.Ytcgifoghggajgaa

/- Running programs: impl's machine. -/
namespace Go.Proofs.Ytcgifoghggajgaa
open Go Go.RowKit Go.Proofs

theorem CmsV.belowB {w w' : World} {lo hi B : Nat} {A : Option Addr} {L : Cms} (h : CmsV w lo hi A L) (hb : Below B w w') (hhi : hi ≤ B) : CmsV w' lo hi A L := h.keep fun b _ h2 => hb.block b (by omega)
theorem fval6 {a b : Int} {t : Fct} {i : Asn} {body els : Cms} (h : fvalB 6 a b t i body els = true) : t.valid = true := by
  unfold fvalB at h
  rw [if_pos rfl] at h
  simp only [Bool.and_eq_true] at h
  exact h.2.2.1
theorem fval7 {a b : Int} {t : Fct} {i : Asn} {body els : Cms} (h : fvalB 7 a b t i body els = true) : t.valid = true := by
  unfold fvalB at h
  rw [if_neg (by decide), if_pos rfl] at h
  simp only [Bool.and_eq_true] at h
  exact h.2.2.1
theorem fval_basic {k a b : Int} {t : Fct} {i : Asn} {body els : Cms} (h6 : k ≠ 6) (h7 : k ≠ 7) (h : fvalB k a b t i body els = true) : fieldsB k a b = true := by
  rw [fvalB_basic h6 h7, Bool.and_eq_true] at h
  exact h.2
--@ (*impl.machine).command
/-- a block of commands run by the machine -/
def ListOk (B g : Nat) (A : Option Addr) (c : Nat) (lo hi : Nat) (L : Cms) : Prop := ∀ (s : Ste) (f : Nat) (w : World), Mach w B g s f → s.valid = true → f ≤ 200 → CmsV w lo hi A L →
  Calls Try.prog 187 #[.pointer (some ⟨g, 0, none⟩), .slice A L.len c] w fun e w' => e = .returned (.int .i64 (L.run s f).2.1) ∧ Mach w' B g (L.run s f).1 (L.run s f).2.2 ∧ Rf B w w'
theorem cmdR6 {a b : Int} {t : Fct} {RB RE : Ste → Nat → Ste × Int × Nat} {s : Ste} {f : Nat} : cmdR 6 a b t RB RE s f = if t.holds s.values then RB s f else RE s f := rfl
theorem cmdR7 {a b : Int} {t : Fct} {RB RE : Ste → Nat → Ste × Int × Nat} {s : Ste} {f : Nat} : cmdR 7 a b t RB RE s f = loopF RB t (f + 1) s f := rfl
theorem cmdRb {k a b : Int} {t : Fct} {RB RE : Ste → Nat → Ste × Int × Nat} {s : Ste} {f : Nat} (h6 : k ≠ 6) (h7 : k ≠ 7) : cmdR k a b t RB RE s f = ((basicF s k a b).1, (basicF s k a b).2, f) := by
  unfold cmdR; rw [if_neg h6, if_neg h7]
set_option maxRecDepth 100000 in
set_option maxHeartbeats 3200000 in
theorem c_impl_command {lo hi : Nat} (w : World) (B g : Nat) (s : Ste) (f : Nat) (k a b : Int) (t : Fct) (i : Asn) (vF vA : Value) (A3 A4 : Option Addr) (c3 c4 : Nat) (body els : Cms) (hM : Mach w B g s f) (hs : s.valid = true) (hf : f ≤ 200) (hv : fvalB k a b t i body els = true)
    (hV3 : CmsV w lo hi A3 body) (hV4 : CmsV w lo hi A4 els) (hhi : hi ≤ B) (IB : ListOk B g A3 c3 lo hi body) (IE : ListOk B g A4 c4 lo hi els) :
    Calls Try.prog 231 #[.pointer (some ⟨g, 0, none⟩), .agg #[.int .i64 k, .int .i64 a, .int .i64 b, .bool t.eq, .int .i64 t.a, .int .i64 t.b, vF, vA, .slice A3 body.len c3, .slice A4 els.len c4]] w fun e w' =>
      e = .returned (.int .i64 (cmdF k a b t body.run els.run s f).2.1) ∧ Mach w' B g (cmdF k a b t body.run els.run s f).1 (cmdF k a b t body.run els.run s f).2.2 ∧ Rf B w w' := by
  have hg := hM.lt
  have hBg : B ≤ g := hM.1
  have hBw : B ≤ w.heap.size := by omega
  obtain ⟨RB, hRB⟩ : ∃ R, R = body.run := ⟨_, rfl⟩
  obtain ⟨RE, hRE⟩ : ∃ R, R = els.run := ⟨_, rfl⟩
  have hok : RunOk RB := by rw [hRB]; exact Cms.run_ok body
  have hIB : Hid (∀ (s : Ste) (f : Nat) (w : World), Mach w B g s f → s.valid = true → f ≤ 200 → CmsV w lo hi A3 body →
      Calls Try.prog 187 #[.pointer (some ⟨g, 0, none⟩), .slice A3 body.len c3] w fun e w' => e = .returned (.int .i64 (RB s f).2.1) ∧ Mach w' B g (RB s f).1 (RB s f).2.2 ∧ Rf B w w') := by rw [hRB]; exact IB
  have hIE : Hid (∀ (s : Ste) (f : Nat) (w : World), Mach w B g s f → s.valid = true → f ≤ 200 → CmsV w lo hi A4 els →
      Calls Try.prog 187 #[.pointer (some ⟨g, 0, none⟩), .slice A4 els.len c4] w fun e w' => e = .returned (.int .i64 (RE s f).2.1) ∧ Mach w' B g (RE s f).1 (RE s f).2.2 ∧ Rf B w w') := by rw [hRE]; exact IE
  rw [← hRB, ← hRE]
  clear IB IE hRB hRE
  replace hok := Lib.hid hok
  replace hV3 := Lib.hid hV3
  replace hV4 := Lib.hid hV4
  have HS := Lib.hid hs
  clear hs
  rcases Nat.eq_zero_or_pos f with rfl | hf1
  · have E : Hid (cmdF k a b t RB RE s 0 = (s, 3, 0)) := rfl
    replace hM := Lib.hid hM
    clear hv
    go_enter Try.func231, Try.ntmps231
    go_wp2_with fail
    refine (c_impl_pay_no _ B g s (hM.out.below bel)).mono ?_
    rintro e w1 ⟨rfl, rfl⟩
    go_wp2_with fail
    go_ret
    rw [E.out]
    exact ⟨rfl, hM.out.below bel, Rf.of bel hBw⟩
  obtain ⟨f, rfl⟩ : ∃ n, f = n + 1 := ⟨f - 1, by omega⟩
  have E : Hid (cmdF k a b t RB RE s (f + 1) = cmdR k a b t RB RE s f) := by
    show _ = _
    unfold cmdF
    rw [if_neg (by omega)]; rfl
  clear hf1
  replace hM := Lib.hid hM
  have key : ∀ (kk : Int), kk = k → Calls Try.prog 231 #[.pointer (some ⟨g, 0, none⟩), .agg #[.int .i64 k, .int .i64 a, .int .i64 b, .bool t.eq, .int .i64 t.a, .int .i64 t.b, vF, vA, .slice A3 body.len c3, .slice A4 els.len c4]] w fun e w' =>
      e = .returned (.int .i64 (cmdR k a b t RB RE s f).2.1) ∧ Mach w' B g (cmdR k a b t RB RE s f).1 (cmdR k a b t RB RE s f).2.2 ∧ Rf B w w' := by
    intro kk hkk
    by_cases k6 : k = 6
    · subst k6
      have htv := Lib.hid (fval6 hv)
      clear hv E
      obtain ⟨th, hth⟩ : ∃ x, x = t.holds s.values := ⟨_, rfl⟩
      have E6 : Hid (cmdR 6 a b t RB RE s f = if th then RB s f else RE s f) := by show _ = _; rw [hth]; rfl
      replace hth := Lib.hid hth
      go_enter Try.func231, Try.ntmps231
      go_wp2_with fail
      refine (c_impl_pay_yes _ B g s f (hM.out.below bel) (by omega)).mono ?_
      rintro e w1 ⟨rfl, hM1, hB1⟩
      have hB : Rf B w w1 := (Rf.of (w := w) bel hBw).trans hB1
      have k0 : Blk w1 w.heap.size tC #[.int .i64 6, .int .i64 a, .int .i64 b, .bool t.eq, .int .i64 t.a, .int .i64 t.b, vF, vA, .slice A3 body.len c3, .slice A4 els.len c4] := hB1.boxes _ _ (Blk.new _ _ _)
      obtain ⟨F, e1, G, e2, -, kM, o1, o2, dj⟩ := hM1.form
      have hSV : Hid (StateV w1 B w1.heap.size (.agg #[.slice F s.values.length e1, .slice G s.heap.length e2]) s) := ⟨_, _, _, _, rfl, o1.readsI.2, o2.readsI.2⟩
      replace hM1 := Lib.hid hM1
      clear hB1 hM o1 o2 dj
      (replace qk0 := k0.cell; replace rk0 := k0.frozen; replace lk0 := k0.lt; replace qkM := kM.cell; replace rkM := kM.frozen; replace lkM := kM.lt)
      go_wp2_with fail
      refine wp_region_noPanic ?_
      refine wp_region_held_drew (S := (fun w' => (∀ j, w'.cell? ⟨w.heap.size, j, none⟩ = #[.int .i64 6, .int .i64 a, .int .i64 b, .bool t.eq, .int .i64 t.a, .int .i64 t.b, vF, vA, .slice A3 body.len c3, .slice A4 els.len c4][j]?) ∧ (∀ j, w'.cell? ⟨g, j, none⟩ = #[.slice F s.values.length e1, .slice G s.heap.length e2, .int .i64 (f : Int)][j]?))) (by kernel_rfl) (⟨k0.cell, kM.cell⟩) (fun hHeld => ?_)
      refine wpAnyH_take (i := 0) (v := ?_) rfl (by kernel_rfl) (by kernel_rfl) (by kernel_rfl) (fun _ _ _ h => h) (Or.inl ⟨by rfl, fun w hSw => ?_⟩) hHeld ?_
      rotate_left
      · ((try dsimp only at hSw); go_split_ands; go_simp; (try with_reducible rfl))
      try simp only [Act.put, List.getElem_toArray, List.getElem_cons_zero, List.getElem_cons_succ, List.setIfInBounds_toArray, List.set_cons_zero, List.set_cons_succ]
      refine wpAnyH_take (i := 1) (v := ?_) rfl (by kernel_rfl) (by kernel_rfl) (by kernel_rfl) (fun _ _ _ h => h) (Or.inl ⟨by rfl, fun w hSw => ?_⟩) hHeld ?_
      rotate_left
      · ((try dsimp only at hSw); go_split_ands; go_simp; (try with_reducible rfl))
      try simp only [Act.put, List.getElem_toArray, List.getElem_cons_zero, List.getElem_cons_succ, List.setIfInBounds_toArray, List.set_cons_zero, List.set_cons_succ]
      refine wpAnyH_take (i := 2) (v := ?_) rfl (by kernel_rfl) (by kernel_rfl) (by kernel_rfl) (fun _ _ _ h => h) (Or.inl ⟨by rfl, fun w hSw => ?_⟩) hHeld ?_
      rotate_left
      · ((try dsimp only at hSw); go_split_ands; go_simp; (try with_reducible rfl))
      try simp only [Act.put, List.getElem_toArray, List.getElem_cons_zero, List.getElem_cons_succ, List.setIfInBounds_toArray, List.set_cons_zero, List.set_cons_succ]
      refine wpAnyH_take (i := 3) (v := ?_) rfl (by kernel_rfl) (by kernel_rfl) (by kernel_rfl) (fun _ _ _ h => h) (Or.inl ⟨by rfl, fun w hSw => ?_⟩) hHeld ?_
      rotate_left
      · ((try dsimp only at hSw); go_split_ands; go_simp; (try with_reducible rfl))
      try simp only [Act.put, List.getElem_toArray, List.getElem_cons_zero, List.getElem_cons_succ, List.setIfInBounds_toArray, List.set_cons_zero, List.set_cons_succ]
      refine wpAnyH_take (i := 4) (v := ?_) rfl (by kernel_rfl) (by kernel_rfl) (by kernel_rfl) (fun _ _ _ h => h) (Or.inl ⟨by rfl, fun w hSw => ?_⟩) hHeld ?_
      rotate_left
      · ((try dsimp only at hSw); go_split_ands; go_simp; (try with_reducible rfl))
      try simp only [Act.put, List.getElem_toArray, List.getElem_cons_zero, List.getElem_cons_succ, List.setIfInBounds_toArray, List.set_cons_zero, List.set_cons_succ]
      refine wpAnyH_take (i := 5) (v := ?_) rfl (by kernel_rfl) (by kernel_rfl) (by kernel_rfl) (fun _ _ _ h => h) (Or.inl ⟨by rfl, fun w hSw => ?_⟩) hHeld ?_
      rotate_left
      · ((try dsimp only at hSw); go_split_ands; go_simp; (try with_reducible rfl))
      try simp only [Act.put, List.getElem_toArray, List.getElem_cons_zero, List.getElem_cons_succ, List.setIfInBounds_toArray, List.set_cons_zero, List.set_cons_succ]
      refine wpAnyH_ready (rs := [6]) (by kernel_rfl) (by simp) ?_
      refine AllReadyH.cons rfl (fun K hK => ?_) AllReadyH.nil
      try simp only [List.getElem_toArray, List.getElem_cons_zero, List.getElem_cons_succ]
      (go_simp; refine (c_impl_TestHolds _ s t _ (hSV.out.below bel) HS.out htv.out).mono ?_; rintro e w2 ⟨rfl, hB2⟩; rw [← hth.out]; have hW2 : Below w1.heap.size w1 w2 := bgo (Below.refl _ _).drew hB2; have k02 := k0.next hW2; have kM2 := kM.next hW2)
      refine hK.out _ _ (⟨k02.cell, kM2.cell⟩) (fun hHeldN => ?_)
      clear hHeld hK K
      have hHeld := hHeldN
      clear hHeldN
      try simp only [Act.put, List.getElem_toArray, List.getElem_cons_zero, List.getElem_cons_succ, List.setIfInBounds_toArray, List.set_cons_zero, List.set_cons_succ]
      refine wpAnyH_done (by kernel_rfl) ?_ _
      refine NoPanic.normal ?_
      have hR2 := hB.go hW2 hBw
      have hM2 := Lib.hid (hM1.out.below hW2)
      clear qk0 rk0 lk0 qkM rkM lkM kM kM2 hSV hW2 hB2 k0 hHeld
      have q0 := k02.cell
      have l0 := k02.lt
      cases th
      · go_wp2_with fail
        refine (hIE.out s f w2 hM2.out HS.out (by omega) (hV4.out.belowB hR2.below hhi)).mono ?_
        rintro e w3 ⟨rfl, hM3, hB3⟩
        go_wp2_with fail
        go_ret
        rw [E6.out]
        exact ⟨rfl, hM3, hR2.trans hB3⟩
      · go_wp2_with fail
        refine (hIB.out s f w2 hM2.out HS.out (by omega) (hV3.out.belowB hR2.below hhi)).mono ?_
        rintro e w3 ⟨rfl, hM3, hB3⟩
        go_wp2_with fail
        go_ret
        rw [E6.out]
        exact ⟨rfl, hM3, hR2.trans hB3⟩
    by_cases k7 : k = 7
    · subst k7
      have htv := Lib.hid (fval7 hv)
      clear hv E k6
      obtain ⟨LH, hLH⟩ : ∃ x, x = loopF RB t (f + 1) s f := ⟨_, rfl⟩
      have E7 : Hid (cmdR 7 a b t RB RE s f = LH) := by show _ = _; rw [hLH]; rfl
      replace hLH := Lib.hid hLH
      go_enter Try.func231, Try.ntmps231
      go_wp2_with fail
      refine (c_impl_pay_yes _ B g s f (hM.out.below bel) (by omega)).mono ?_
      rintro e w1 ⟨rfl, hM1, hB1⟩
      have hB : Rf B w w1 := (Rf.of (w := w) bel hBw).trans hB1
      have k0 : Blk w1 w.heap.size tC #[.int .i64 7, .int .i64 a, .int .i64 b, .bool t.eq, .int .i64 t.a, .int .i64 t.b, vF, vA, .slice A3 body.len c3, .slice A4 els.len c4] := hB1.boxes _ _ (Blk.new _ _ _)
      replace hM1 := Lib.hid hM1
      clear hB1 hM
      (replace qk0 := k0.cell; replace rk0 := k0.frozen; replace lk0 := k0.lt)
      go_wp2_with fail
      clear qk0 rk0 lk0
      go_loopg [] f (fun gh wx => ∃ (n : Nat) (s1 : Ste), gh < n ∧ gh ≤ 199 ∧ Hid (s1.valid = true) ∧ Hid (LH = loopF RB t n s1 gh) ∧ Hid (Mach wx B g s1 gh) ∧ Blk wx w.heap.size tC #[.int .i64 7, .int .i64 a, .int .i64 b, .bool t.eq, .int .i64 t.a, .int .i64 t.b, vF, vA, .slice A3 body.len c3, .slice A4 els.len c4] ∧ Rf B w wx)
      case atStart => exact ⟨f + 1, s, by omega, by omega, HS, hLH, hM1, k0, hB⟩
      case round =>
        clear k0 hB hM1
        obtain ⟨n, s1, hn, hgk, HS1, HL, hM1, k0, hB⟩ := hrel
        obtain ⟨n, rfl⟩ : ∃ m, n = m + 1 := ⟨n - 1, by omega⟩
        obtain ⟨F, e1, G, e2, -, kM, o1, o2, dj⟩ := hM1.out.form
        have hSV : Hid (StateV wr B wr.heap.size (.agg #[.slice F s1.values.length e1, .slice G s1.heap.length e2]) s1) := ⟨_, _, _, _, rfl, o1.readsI.2, o2.readsI.2⟩
        clear o1 o2 dj
        obtain ⟨th, hth⟩ : ∃ x, x = t.holds s1.values := ⟨_, rfl⟩
        have HL2 := HL.out
        rw [loopF, ← hth] at HL2
        replace HL2 := Lib.hid HL2
        replace hth := Lib.hid hth
        clear HL
        (replace qk0 := k0.cell; replace rk0 := k0.frozen; replace lk0 := k0.lt; replace qkM := kM.cell; replace rkM := kM.frozen; replace lkM := kM.lt)
        go_wp2_with fail
        refine wp_region_noPanic ?_
        refine wp_region_held_drew (S := (fun w' => (∀ j, w'.cell? ⟨w.heap.size, j, none⟩ = #[.int .i64 7, .int .i64 a, .int .i64 b, .bool t.eq, .int .i64 t.a, .int .i64 t.b, vF, vA, .slice A3 body.len c3, .slice A4 els.len c4][j]?) ∧ (∀ j, w'.cell? ⟨g, j, none⟩ = #[.slice F s1.values.length e1, .slice G s1.heap.length e2, .int .i64 (gk : Int)][j]?))) (by kernel_rfl) (⟨k0.cell, kM.cell⟩) (fun hHeld => ?_)
        refine wpAnyH_take (i := 0) (v := ?_) rfl (by kernel_rfl) (by kernel_rfl) (by kernel_rfl) (fun _ _ _ h => h) (Or.inl ⟨by rfl, fun w hSw => ?_⟩) hHeld ?_
        rotate_left
        · ((try dsimp only at hSw); go_split_ands; go_simp; (try with_reducible rfl))
        try simp only [Act.put, List.getElem_toArray, List.getElem_cons_zero, List.getElem_cons_succ, List.setIfInBounds_toArray, List.set_cons_zero, List.set_cons_succ]
        refine wpAnyH_take (i := 1) (v := ?_) rfl (by kernel_rfl) (by kernel_rfl) (by kernel_rfl) (fun _ _ _ h => h) (Or.inl ⟨by rfl, fun w hSw => ?_⟩) hHeld ?_
        rotate_left
        · ((try dsimp only at hSw); go_split_ands; go_simp; (try with_reducible rfl))
        try simp only [Act.put, List.getElem_toArray, List.getElem_cons_zero, List.getElem_cons_succ, List.setIfInBounds_toArray, List.set_cons_zero, List.set_cons_succ]
        refine wpAnyH_take (i := 2) (v := ?_) rfl (by kernel_rfl) (by kernel_rfl) (by kernel_rfl) (fun _ _ _ h => h) (Or.inl ⟨by rfl, fun w hSw => ?_⟩) hHeld ?_
        rotate_left
        · ((try dsimp only at hSw); go_split_ands; go_simp; (try with_reducible rfl))
        try simp only [Act.put, List.getElem_toArray, List.getElem_cons_zero, List.getElem_cons_succ, List.setIfInBounds_toArray, List.set_cons_zero, List.set_cons_succ]
        refine wpAnyH_take (i := 3) (v := ?_) rfl (by kernel_rfl) (by kernel_rfl) (by kernel_rfl) (fun _ _ _ h => h) (Or.inl ⟨by rfl, fun w hSw => ?_⟩) hHeld ?_
        rotate_left
        · ((try dsimp only at hSw); go_split_ands; go_simp; (try with_reducible rfl))
        try simp only [Act.put, List.getElem_toArray, List.getElem_cons_zero, List.getElem_cons_succ, List.setIfInBounds_toArray, List.set_cons_zero, List.set_cons_succ]
        refine wpAnyH_take (i := 4) (v := ?_) rfl (by kernel_rfl) (by kernel_rfl) (by kernel_rfl) (fun _ _ _ h => h) (Or.inl ⟨by rfl, fun w hSw => ?_⟩) hHeld ?_
        rotate_left
        · ((try dsimp only at hSw); go_split_ands; go_simp; (try with_reducible rfl))
        try simp only [Act.put, List.getElem_toArray, List.getElem_cons_zero, List.getElem_cons_succ, List.setIfInBounds_toArray, List.set_cons_zero, List.set_cons_succ]
        refine wpAnyH_take (i := 5) (v := ?_) rfl (by kernel_rfl) (by kernel_rfl) (by kernel_rfl) (fun _ _ _ h => h) (Or.inl ⟨by rfl, fun w hSw => ?_⟩) hHeld ?_
        rotate_left
        · ((try dsimp only at hSw); go_split_ands; go_simp; (try with_reducible rfl))
        try simp only [Act.put, List.getElem_toArray, List.getElem_cons_zero, List.getElem_cons_succ, List.setIfInBounds_toArray, List.set_cons_zero, List.set_cons_succ]
        refine wpAnyH_ready (rs := [6]) (by kernel_rfl) (by simp) ?_
        refine AllReadyH.cons rfl (fun K hK => ?_) AllReadyH.nil
        try simp only [List.getElem_toArray, List.getElem_cons_zero, List.getElem_cons_succ]
        (go_simp; refine (c_impl_TestHolds _ s1 t _ (hSV.out.below bel) HS1.out htv.out).mono ?_; rintro e w2 ⟨rfl, hB2⟩; rw [← hth.out]; have hW2 : Below wr.heap.size wr w2 := bgo (Below.refl _ _).drew hB2; have k02 := k0.next hW2; have kM2 := kM.next hW2)
        refine hK.out _ _ (⟨k02.cell, kM2.cell⟩) (fun hHeldN => ?_)
        clear hHeld hK K
        have hHeld := hHeldN
        clear hHeldN
        try simp only [Act.put, List.getElem_toArray, List.getElem_cons_zero, List.getElem_cons_succ, List.setIfInBounds_toArray, List.set_cons_zero, List.set_cons_succ]
        refine wpAnyH_done (by kernel_rfl) ?_ _
        refine NoPanic.normal ?_
        have hR2 := hB.go hW2 hBw
        have hM2 := Lib.hid (hM1.out.below hW2)
        clear qk0 rk0 lk0 qkM rkM lkM kM kM2 hSV hW2 hB2 k0 hHeld hM1
        have q0 := k02.cell
        have l0 := k02.lt
        cases th
        · have HL3 : Hid (LH = (s1, 0, gk)) := HL2.out
          clear HL2
          go_wp2_with fail
          go_ret
          rw [E7.out, HL3.out]
          exact ⟨rfl, hM2.out, hR2⟩
        obtain ⟨P, hP⟩ : ∃ P, P = RB s1 gk := ⟨_, rfl⟩
        obtain ⟨s2, c2, f2⟩ := P
        have hk := hok.out s1 gk HS1.out
        have HL3 := HL2.out
        rw [if_pos rfl, ← hP] at HL3
        rw [← hP] at hk
        obtain ⟨hk1, hk2, hk3, hk4⟩ := hk
        simp only at hk1 hk2 hk3 hk4 HL3
        have hIB' := hIB.out s1 gk w2 hM2.out HS1.out (by omega) (hV3.out.belowB hR2.below hhi)
        rw [← hP] at hIB'
        replace hIB' := Lib.hid hIB'
        replace HL3 := Lib.hid HL3
        replace hk1 := Lib.hid hk1
        clear HL2 hP
        go_wp2_with fail
        refine hIB'.out.mono ?_
        rintro e w3 ⟨rfl, hM3, hB3⟩
        have hR3 := hR2.trans hB3
        have k03 := hB3.boxes _ _ k02
        replace hM3 := Lib.hid hM3
        clear hB3 k02 q0 l0 hM2 hR2 hIB'
        by_cases hc : c2 = 0
        · have HL4 := HL3.out
          rw [if_neg (by omega)] at HL4
          rcases Nat.eq_zero_or_pos f2 with hz | hpos
          · subst hz
            rw [if_pos (by omega)] at HL4
            replace HL4 := Lib.hid HL4
            have q0 := k03.cell
            have l0 := k03.lt
            clear HL3
            go_wp2_with fail
            refine (c_impl_pay_no _ B g s2 hM3.out).mono ?_
            rintro e w4 ⟨rfl, rfl⟩
            go_wp2_with fail
            go_ret
            rw [E7.out, HL4.out]
            exact ⟨rfl, hM3.out, hR3⟩
          · obtain ⟨f2, rfl⟩ : ∃ m, f2 = m + 1 := ⟨f2 - 1, by omega⟩
            rw [if_neg (by omega), Nat.add_sub_cancel] at HL4
            replace HL4 := Lib.hid HL4
            have q0 := k03.cell
            have l0 := k03.lt
            clear HL3
            go_wp2_with fail
            refine (c_impl_pay_yes _ B g s2 f2 hM3.out (by omega)).mono ?_
            rintro e w4 ⟨rfl, hM4, hB4⟩
            have hR4 := hR3.trans hB4
            have k04 := hB4.boxes _ _ k03
            clear q0 l0
            go_wp2_with fail
            go_roundg f2
            case measure => omega
            case rel => exact ⟨n, s2, by omega, by omega, hk1, HL4, Lib.hid hM4, k04, hR4⟩
        · have HL4 := HL3.out
          rw [if_pos hc] at HL4
          replace HL4 := Lib.hid HL4
          have hcb : (c2 != 0) = true := by simpa using hc
          have q0 := k03.cell
          have l0 := k03.lt
          clear HL3
          go_wp2_with fail
          go_ret
          rw [E7.out, HL4.out]
          exact ⟨rfl, hM3.out, hR3⟩
    have hfb := Lib.hid (fval_basic k6 k7 hv)
    have Eb := Lib.hid (cmdRb (a := a) (b := b) (t := t) (RB := RB) (RE := RE) (s := s) (f := f) k6 k7)
    clear hv E
    go_enter Try.func231, Try.ntmps231
    go_wp2_with fail
    refine (c_impl_pay_yes _ B g s f (hM.out.below bel) (by omega)).mono ?_
    rintro e w1 ⟨rfl, hM1, hB1⟩
    have hB : Rf B w w1 := (Rf.of (w := w) bel hBw).trans hB1
    have k0 : Blk w1 w.heap.size tC #[.int .i64 k, .int .i64 a, .int .i64 b, .bool t.eq, .int .i64 t.a, .int .i64 t.b, vF, vA, .slice A3 body.len c3, .slice A4 els.len c4] := hB1.boxes _ _ (Blk.new _ _ _)
    replace hM1 := Lib.hid hM1
    clear hB1 hM
    (replace qk0 := k0.cell; replace rk0 := k0.frozen; replace lk0 := k0.lt)
    go_wp2_with fail
    refine (c_impl_basic w1 B g s f k a b t vF vA _ _ hM1.out HS.out hfb.out).mono ?_
    rintro e w2 ⟨rfl, hM2, hB2⟩
    replace hM2 := Lib.hid hM2
    go_wp2_with fail
    go_ret
    rw [Eb.out]
    exact ⟨rfl, hM2.out, hB.trans hB2⟩
  rw [E.out]
  exact key k rfl
--@ (*impl.machine).list
set_option maxRecDepth 100000 in
set_option maxHeartbeats 3200000 in
theorem list_go : ∀ (N : Nat) (L : Cms), L.sz < N → ∀ (A : Option Addr) (c d lo hi B g : Nat), L.len ≤ 1049600 → L.small 1049600 → L.shape d = true → hi ≤ B → ListOk B g A c lo hi L := by
  intro N
  induction N with
  | zero => intro L h; omega
  | succ N IH =>
    intro L hsz A c d lo hi B g hlen hsm hsh hhi s f w hM hs hf hV
    replace IH := Lib.hid IH
    replace hsm := Lib.hid hsm
    replace hsz := Lib.hid hsz
    replace hsh := Lib.hid hsh
    have hg := hM.lt
    have hBw : B ≤ w.heap.size := by have := hM.1; omega
    obtain ⟨n, hn⟩ : ∃ n, n = L.len := ⟨_, rfl⟩
    rw [← hn]
    rw [← hn] at hlen
    replace hn := Lib.hid hn
    replace hV := Lib.hid hV
    replace hM := Lib.hid hM
    replace hs := Lib.hid hs
    go_enter Try.func187, Try.ntmps187
    go_wp2_with fail
    go_loopw [10] (fun x wr => ∃ (j f1 : Nat) (s1 : Ste), j ≤ n ∧ x = .int .i64 j ∧ f1 ≤ 200 ∧ Hid (s1.valid = true) ∧ Hid (L.run s f = (L.drop j).run s1 f1) ∧ Hid (Mach wr B g s1 f1) ∧ Rf B w wr) (fun x _ => n - (intOf x).toNat)
    case atStart => exact ⟨0, f, s, Nat.zero_le _, rfl, hf, hs, Lib.hid rfl, hM, Rf.of (Below.refl _ _) hBw⟩
    case round =>
      clear hM hs
      obtain ⟨j, f1, s1, hj, rfl, hf1, hs1, HR, hM1, hR1⟩ := hrel
      by_cases hlt : j < n
      · have hpos : 0 < (L.drop j).len := by rw [Cms.drop_len, ← hn.out]; omega
        obtain ⟨k, a, b, t, i, body, els, r, eL⟩ := Cms.cons_of_len hpos
        obtain ⟨bl, o, rfl, -, -, hAt⟩ := (hV.out.belowB hR1.below hhi) (by rw [← hn.out]; omega)
        have hD := hAt.drop j
        have hSm := Cms.small_drop j hsm.out
        have hZ := Cms.sz_drop j L
        have hDs := Cms.drop_succ j L eL
        have hshj := Cms.shape_drop j hsh.out
        have HR' := HR.out
        rw [eL] at hD hSm hZ HR' hshj
        obtain ⟨⟨p0, p1, p2, p3, p4, p5⟩, ⟨A6, c6, p6, g6⟩, ⟨A7, c7, p7, g7⟩, ⟨A8, c8, p8, g8⟩, ⟨A9, c9, p9, g9⟩, -⟩ := hD
        obtain ⟨s1', s2', s3, s4, s5, s6, -⟩ := hSm
        simp only [Cms.sz] at hZ
        have hbs : body.sz < N := by have := hsz.out; omega
        have hes : els.sz < N := by have := hsz.out; omega
        have gB : CmsV wr lo hi A8 body := g8
        have gE : CmsV wr lo hi A9 els := g9
        rw [Cms.shape] at hshj
        simp only [Bool.and_eq_true] at hshj
        obtain ⟨-, hfv, hsb, hse, -⟩ := hshj
        have hIB := IH.out body hbs A8 c8 (d - 1) lo hi B g s3 s5 hsb hhi
        have hIE := IH.out els hes A9 c9 (d - 1) lo hi B g s4 s6 hse hhi
        have hcmd := c_impl_command (lo := lo) (hi := hi) (wr.alloc (.cells #[.int .i64 k, .int .i64 a, .int .i64 b, .bool t.eq, .int .i64 t.a, .int .i64 t.b, .slice A6 i.facts.length c6, .slice A7 i.atoms.length c7, .slice A8 body.len c8, .slice A9 els.len c9] tC)) B g s1 f1 k a b t i (.slice A6 i.facts.length c6) (.slice A7 i.atoms.length c7) A8 A9 c8 c9 body els (hM1.out.below bel) hs1.out hf1 hfv (gB.below bel) (gE.below bel) hhi hIB hIE
        have hok := cmdF_ok (Cms.run_ok body) (Cms.run_ok els) k a b t s1 f1 hs1.out
        rw [Cms.run, ← hDs] at HR'
        obtain ⟨P, hP⟩ : ∃ P, P = cmdF k a b t body.run els.run s1 f1 := ⟨_, rfl⟩
        rw [← hP] at hcmd hok HR'
        obtain ⟨s2, c2, f2⟩ := P
        obtain ⟨hk1, hk2, hk3, hk4⟩ := hok
        simp only at hk1 hk2 hk3 hk4 HR' hcmd
        replace hcmd := Lib.hid hcmd
        replace HR' := Lib.hid HR'
        replace hk1 := Lib.hid hk1
        clear hZ hpos hAt g6 g7 g8 g9 HR hDs eL hfv hsb hse hIB hIE gB gE hP hM1 s1' s2' s5 s6
        go_wp2_with fail
        refine hcmd.out.mono ?_
        rintro e w2 ⟨rfl, hM2, hB2⟩
        have hR2 : Rf B w w2 := (hR1.alloc hBw _).trans hB2
        replace hM2 := Lib.hid hM2
        clear hcmd p0 p1 p2 p3 p4 p5 p6 p7 p8 p9 hB2
        by_cases hc : c2 = 0
        · have HL4 := HR'.out
          rw [if_neg (by omega)] at HL4
          replace HL4 := Lib.hid HL4
          clear HR'
          go_wp2_with fail
          go_round
          case rel => exact ⟨j + 1, f2, s2, by omega, by go_num, by omega, hk1, HL4, hM2, hR2⟩
          case measure => simp [intOf]; omega
        · have HL4 := HR'.out
          rw [if_pos hc] at HL4
          replace HL4 := Lib.hid HL4
          have hcb : (c2 != 0) = true := by simpa using hc
          clear HR'
          go_wp2_with fail
          go_ret
          rw [HL4.out]
          exact ⟨rfl, hM2.out, hR2⟩
      · go_wp2_with fail
        go_ret
        obtain rfl : j = n := by omega
        have e1 : L.drop j = .nil := by rw [hn.out]; exact Cms.drop_all L
        have h2 := HR.out
        rw [e1] at h2
        rw [h2]
        exact ⟨rfl, hM1.out, hR1⟩
--@
end Go.Proofs.Ytcgifoghggajgaa

/- Running programs: the spec's runs. -/
namespace Go.Proofs.Ytcgifoghggajgaa
open Go Go.RowKit Go.Proofs

def resS (P : Ste × Int × Nat) : Ste := if P.2.1 = 0 then P.1 else ⟨[], []⟩
theorem resS_ok (s : Ste) (f : Nat) : resS (s, 0, f) = s := rfl
theorem resS_no {s : Ste} {c : Int} {f : Nat} (h : c ≠ 0) : resS (s, c, f) = ⟨[], []⟩ := if_neg h
--@ spec.l1Hold
theorem c_hold1 {lo hi : Nat} (g : Nat) (t : Fct) (A : Option Addr) (c : Nat) (vs : List Int) (w : World) (hk : Blk w g tF #[.bool t.eq, .int .i64 t.a, .int .i64 t.b]) (h : IntsV w lo hi A vs) (ht : t.valid = true) (h8 : vs.length = 8) :
    Calls Try.prog 183 #[.slice (some ⟨g, 0, none⟩) 1 1, .slice A vs.length c] w fun e w' => e = .returned (.bool (t.holds vs)) ∧ Below w.heap.size w w' := by
  have hF : FactsV w g (g + 1) (some ⟨g, 0, none⟩) [t] :=
    ⟨⟨by simp, fun _ => ⟨g, 0, rfl, Nat.le_refl _, Nat.lt_succ_self _, fun j u hu => by rw [Nat.zero_add, hk.cell]; simpa using hu⟩⟩, by simp [Lim]⟩
  refine (c_spec_l1Hold (some ⟨g, 0, none⟩) A 1 c [t] vs w hF h (by simp [ht]) h8).mono ?_
  rintro e w' ⟨rfl, hB⟩
  exact ⟨by simp, hB⟩
--@ spec.l9Run
/-- commands run by the spec -/
def SRunOk (A : Option Addr) (c : Nat) (lo hi : Nat) (L : Cms) : Prop := ∀ (v : Value) (s : Ste) (f base : Nat) (D : Int) (w : World), D = f → StateO w base v s → base ≤ w.heap.size → s.valid = true → f ≤ 200 → CmsV w lo hi A L →
  Calls Try.prog 108 #[v, .slice A L.len c, .int .i64 D] w fun e w' => ∃ r, e = .returned (.tuple #[r, .int .i64 (L.run s f).2.1, .int .i64 ((L.run s f).2.2 : Int)]) ∧ StateO w' base r (resS (L.run s f)) ∧ Below w.heap.size w w'
--@ spec.l9Loop
set_option maxRecDepth 100000 in
set_option maxHeartbeats 3200000 in
theorem c_spec_l9Loop {lo hi : Nat} (v : Value) (s : Ste) (f base : Nat) (D : Int) (hD : D = f) (w : World) (a b : Int) (t : Fct) (vF vA : Value) (A3 A4 : Option Addr) (c3 c4 : Nat) (body els : Cms) (hO : StateO w base v s) (hbase : base ≤ w.heap.size) (hs : s.valid = true) (hf : f ≤ 199) (ht : t.valid = true)
    (hV3 : CmsV w lo hi A3 body) (IB : SRunOk A3 c3 lo hi body) :
    Calls Try.prog 184 #[v, .agg #[.int .i64 7, .int .i64 a, .int .i64 b, .bool t.eq, .int .i64 t.a, .int .i64 t.b, vF, vA, .slice A3 body.len c3, .slice A4 els.len c4], .int .i64 D] w fun e w' => ∃ r, e = .returned (.tuple #[r, .int .i64 (loopF body.run t (f + 1) s f).2.1, .int .i64 ((loopF body.run t (f + 1) s f).2.2 : Int)]) ∧ StateO w' base r (resS (loopF body.run t (f + 1) s f)) ∧ Below w.heap.size w w' := by
  subst hD
  obtain ⟨RB, hRB⟩ : ∃ R, R = body.run := ⟨_, rfl⟩
  have hok : RunOk RB := by rw [hRB]; exact Cms.run_ok body
  have hIB : Hid (∀ (v : Value) (s : Ste) (f base : Nat) (D : Int) (w : World), D = f → StateO w base v s → base ≤ w.heap.size → s.valid = true → f ≤ 200 → CmsV w lo hi A3 body →
      Calls Try.prog 108 #[v, .slice A3 body.len c3, .int .i64 D] w fun e w' => ∃ r, e = .returned (.tuple #[r, .int .i64 (RB s f).2.1, .int .i64 ((RB s f).2.2 : Int)]) ∧ StateO w' base r (resS (RB s f)) ∧ Below w.heap.size w w') := by rw [hRB]; exact IB
  rw [← hRB]
  clear IB hRB
  replace hok := Lib.hid hok
  replace hV3 := Lib.hid hV3
  replace ht := Lib.hid ht
  replace hs := Lib.hid hs
  obtain ⟨LH, hLH⟩ : ∃ x, x = loopF RB t (f + 1) s f := ⟨_, rfl⟩
  rw [← hLH]
  replace hLH := Lib.hid hLH
  obtain ⟨fv, hv, rfl, o1, o2, dj⟩ := hO
  obtain ⟨F, e1, rfl, -⟩ := o1.reads
  obtain ⟨G, e2, rfl, -⟩ := o2.reads
  obtain ⟨k0, k1, k2⟩ := blk3 w tSt tC tSt #[.slice F s.values.length e1, .slice G s.heap.length e2] #[.int .i64 7, .int .i64 a, .int .i64 b, .bool t.eq, .int .i64 t.a, .int .i64 t.b, vF, vA, .slice A3 body.len c3, .slice A4 els.len c4] #[.slice none 0 0, .slice none 0 0]
  replace o1 := Lib.hid o1
  replace o2 := Lib.hid o2
  replace dj := Lib.hid dj
  go_enter Try.func184, Try.ntmps184
  go_wp2_with fail
  go_loopw [2] (fun x wx => ∃ (n f1 : Nat) (s1 : Ste) (F : Option Addr) (e1 : Nat) (G : Option Addr) (e2 : Nat), x = .int .i64 (f1 : Int) ∧ f1 < n ∧ f1 ≤ 199 ∧ Hid (s1.valid = true) ∧ Hid (LH = loopF RB t n s1 f1) ∧
    Blk wx w.heap.size tSt #[.slice F s1.values.length e1, .slice G s1.heap.length e2] ∧ Blk wx (w.heap.size + 1) tC #[.int .i64 7, .int .i64 a, .int .i64 b, .bool t.eq, .int .i64 t.a, .int .i64 t.b, vF, vA, .slice A3 body.len c3, .slice A4 els.len c4] ∧ Blk wx (w.heap.size + 1 + 1) tSt #[.slice none 0 0, .slice none 0 0] ∧
    Hid (IntsO wx base (.slice F s1.values.length e1) s1.values) ∧ Hid (IntsO wx base (.slice G s1.heap.length e2) s1.heap) ∧ Hid (∀ x, (Value.slice F s1.values.length e1).ownBlock = some x → (Value.slice G s1.heap.length e2).ownBlock ≠ some x) ∧ Hid (Below w.heap.size w wx)) (fun x _ => (intOf x).toNat)
  case atStart => exact ⟨f + 1, f, s, F, e1, G, e2, rfl, by omega, by omega, hs, hLH, k0, k1, k2, Lib.hid (o1.out.below bel), Lib.hid (o2.out.below bel), dj, Lib.hid bel⟩
  case round =>
    clear k0 k1 k2 o1 o2 dj
    obtain ⟨n, f1, s1, F, e1, G, e2, rfl, hn, hgk, HS1, HL, k0, k1, k2, o1, o2, dj, HB⟩ := hrel
    obtain ⟨n, rfl⟩ : ∃ m, n = m + 1 := ⟨n - 1, by omega⟩
    have hsz := HB.out.size
    have h81 := Lib.hid (Ste.valid_len HS1.out).1
    obtain ⟨th, hth⟩ : ∃ x, x = t.holds s1.values := ⟨_, rfl⟩
    have HL2 := HL.out
    rw [loopF, ← hth] at HL2
    replace HL2 := Lib.hid HL2
    replace hth := Lib.hid hth
    clear HL
    (replace qk0 := k0.cell; replace rk0 := k0.frozen; replace lk0 := k0.lt; replace qk1 := k1.cell; replace rk1 := k1.frozen; replace lk1 := k1.lt; replace qk2 := k2.cell; replace rk2 := k2.frozen; replace lk2 := k2.lt)
    go_wp2_with fail
    refine (c_hold1 wr.heap.size t F e1 s1.values _ (Blk.new _ _ _) ((o1.out.readsI.2).below bel) ht.out h81.out).mono ?_
    rintro e w2 ⟨rfl, hBx⟩
    rw [← hth.out]
    have hW2 : Below wr.heap.size wr w2 := bgo (bbox (Below.refl _ _) _) hBx
    have hB2 := bgo HB.out hW2
    have hz2 := hW2.size
    replace o1 := Lib.hid (o1.out.below hW2)
    replace o2 := Lib.hid (o2.out.below hW2)
    (replace k0 := k0.next hW2; replace qk0 := k0.cell; replace rk0 := k0.frozen; replace lk0 := k0.lt; replace k1 := k1.next hW2; replace qk1 := k1.cell; replace rk1 := k1.frozen; replace lk1 := k1.lt; replace k2 := k2.next hW2; replace qk2 := k2.cell; replace rk2 := k2.frozen; replace lk2 := k2.lt)
    clear hBx hW2
    cases th
    · have HL3 : Hid (LH = (s1, 0, f1)) := HL2.out
      have KB := Lib.hid k2
      clear HL2
      go_wp2_with fail
      refine bodyPost_ret (v := .tuple #[.agg #[.slice F s1.values.length e1, .slice G s1.heap.length e2], .int .i64 0, .int .i64 (f1 : Int)]) (by simp [results, Try.results184, go_sem, qk2, lk2]) rfl ⟨_, by rw [HL3.out], ?_, ?_⟩
      · rw [HL3.out, resS_ok]
        exact ⟨_, _, rfl, ((o1.out.setT KB.out (by decide) 0 _).setT (KB.out.set_ 0 _) (by decide) 1 _), ((o2.out.setT KB.out (by decide) 0 _).setT (KB.out.set_ 0 _) (by decide) 1 _), dj.out⟩
      · exact (hB2.setCell (p := ⟨w.heap.size + 1 + 1, 0, none⟩) (by simp only; omega) _).setCell (p := ⟨w.heap.size + 1 + 1, 1, none⟩) (by simp only; omega) _
    obtain ⟨P, hP⟩ : ∃ P, P = RB s1 f1 := ⟨_, rfl⟩
    obtain ⟨s2, c2, f2⟩ := P
    have hk := hok.out s1 f1 HS1.out
    have HL3 := HL2.out
    rw [if_pos rfl, ← hP] at HL3
    rw [← hP] at hk
    obtain ⟨hk1, hk2, hk3, hk4⟩ := hk
    simp only at hk1 hk2 hk3 hk4 HL3
    have hIB' := hIB.out (.agg #[.slice F s1.values.length e1, .slice G s1.heap.length e2]) s1 f1 base (f1 : Int) w2 rfl ⟨_, _, rfl, o1.out, o2.out, dj.out⟩ (by omega) HS1.out (by omega) (hV3.out.below hB2)
    rw [← hP] at hIB'
    simp only at hIB'
    replace hIB' := Lib.hid hIB'
    replace HL3 := Lib.hid HL3
    replace hk1 := Lib.hid hk1
    clear HL2 hP
    go_wp2_with fail
    refine hIB'.out.mono ?_
    rintro e w3 ⟨r, rfl, oR, hBx⟩
    have hB3 := bgo hB2 hBx
    have hz3 := hBx.size
    (replace k0 := k0.next hBx; replace qk0 := k0.cell; replace rk0 := k0.frozen; replace lk0 := k0.lt; replace k1 := k1.next hBx; replace qk1 := k1.cell; replace rk1 := k1.frozen; replace lk1 := k1.lt; replace k2 := k2.next hBx; replace qk2 := k2.cell; replace rk2 := k2.frozen; replace lk2 := k2.lt)
    clear hBx o1 o2 dj hIB'
    by_cases hc : c2 = 0
    · subst hc
      rw [resS_ok] at oR
      obtain ⟨fv, hv, rfl, o1, o2, dj⟩ := oR
      obtain ⟨F2, d1, rfl, -⟩ := o1.reads
      obtain ⟨G2, d2, rfl, -⟩ := o2.reads
      replace o1 := Lib.hid o1
      replace o2 := Lib.hid o2
      replace dj := Lib.hid dj
      have HL4 := HL3.out
      rw [if_neg (by omega)] at HL4
      rcases Nat.eq_zero_or_pos f2 with hz | hpos
      · subst hz
        rw [if_pos (by omega)] at HL4
        replace HL4 := Lib.hid HL4
        clear HL3
        go_wp2_with fail
        refine bodyPost_ret (v := .tuple #[.agg #[.slice none 0 0, .slice none 0 0], .int .i64 3, .int .i64 0]) (by simp [results, Try.results184, go_sem, qk2, lk2]) rfl ⟨_, by rw [HL4.out]; rfl, ?_, ?_⟩
        · rw [HL4.out, resS_no (by decide)]; exact zeroO _
        · exact bbox ((hB3.setCell (p := ⟨w.heap.size + 1 + 1, 0, none⟩) (by simp only; omega) _).setCell (p := ⟨w.heap.size + 1 + 1, 1, none⟩) (by simp only; omega) _) _
      · rw [if_neg (by omega)] at HL4
        replace HL4 := Lib.hid HL4
        have hf2 : ¬ ((f2 : Int) < 1) := by omega
        have kk0 := Lib.hid k0
        have kk1 := Lib.hid k1
        have kk2 := Lib.hid k2
        clear HL3
        go_wp2_with fail
        go_round
        case rel => exact ⟨n, f2 - 1, s2, F2, d1, G2, d2, by congr 1; omega, by omega, by omega, hk1, HL4, ((kk0.out.set_ 0 _).set_ 1 _).alloc _, ((kk1.out.far (p := ⟨w.heap.size, 0, none⟩) (by simp) _).far (p := ⟨w.heap.size, 1, none⟩) (by simp) _).alloc _, ((kk2.out.far (p := ⟨w.heap.size, 0, none⟩) (by simp; omega) _).far (p := ⟨w.heap.size, 1, none⟩) (by simp; omega) _).alloc _,
          Lib.hid (((o1.out.setT kk0.out (by decide) 0 _).setT (kk0.out.set_ 0 _) (by decide) 1 _).below (bbox (Below.refl _ _) _)), Lib.hid (((o2.out.setT kk0.out (by decide) 0 _).setT (kk0.out.set_ 0 _) (by decide) 1 _).below (bbox (Below.refl _ _) _)), dj, Lib.hid (bbox ((hB3.setCell (p := ⟨w.heap.size, 0, none⟩) (Nat.le_refl _) _).setCell (p := ⟨w.heap.size, 1, none⟩) (Nat.le_refl _) _) _)⟩
        case measure => simp [intOf]; omega
    · have HL4 := HL3.out
      rw [if_pos hc] at HL4
      replace HL4 := Lib.hid HL4
      have hcb : (c2 != 0) = true := by simpa using hc
      obtain ⟨fv, hv, rfl, o1, o2, dj⟩ := oR
      obtain ⟨F2, d1, rfl, -⟩ := o1.reads
      obtain ⟨G2, d2, rfl, -⟩ := o2.reads
      clear HL3 o1 o2 dj
      go_wp2_with fail
      refine bodyPost_ret (v := .tuple #[.agg #[.slice none 0 0, .slice none 0 0], .int .i64 c2, .int .i64 (f2 : Int)]) (by simp [results, Try.results184, go_sem, qk2, lk2]) rfl ⟨_, by rw [HL4.out], ?_, ?_⟩
      · rw [HL4.out, resS_no hc]; exact zeroO _
      · exact bbox ((hB3.setCell (p := ⟨w.heap.size + 1 + 1, 0, none⟩) (by simp only; omega) _).setCell (p := ⟨w.heap.size + 1 + 1, 1, none⟩) (by simp only; omega) _) _
--@ spec.l9Run
set_option maxRecDepth 100000 in
set_option maxHeartbeats 6400000 in
theorem l9Run_go : ∀ (N : Nat) (L : Cms), L.sz < N → ∀ (A : Option Addr) (c d lo hi : Nat), L.len ≤ 1049600 → L.small 1049600 → L.shape d = true → SRunOk A c lo hi L := by
  intro N
  induction N with
  | zero => intro L h; omega
  | succ N IH =>
    intro L hsz A c d lo hi hlen hsm hsh v s f base D w hD hO hbase hs hf hV
    subst hD
    replace IH := Lib.hid IH
    replace hsm := Lib.hid hsm
    replace hsz := Lib.hid hsz
    replace hsh := Lib.hid hsh
    obtain ⟨n, hn⟩ : ∃ n, n = L.len := ⟨_, rfl⟩
    rw [← hn]
    rw [← hn] at hlen
    replace hn := Lib.hid hn
    replace hV := Lib.hid hV
    replace hs := Lib.hid hs
    obtain ⟨LH, hLH⟩ : ∃ x, x = L.run s f := ⟨_, rfl⟩
    rw [← hLH]
    replace hLH := Lib.hid hLH
    obtain ⟨fv, hv, rfl, o1, o2, dj⟩ := hO
    obtain ⟨F, e1, rfl, -⟩ := o1.reads
    obtain ⟨G, e2, rfl, -⟩ := o2.reads
    obtain ⟨k0, k1⟩ := blk2 w tSt tSt #[.slice F s.values.length e1, .slice G s.heap.length e2] #[.slice none 0 0, .slice none 0 0]
    replace o1 := Lib.hid o1
    replace o2 := Lib.hid o2
    replace dj := Lib.hid dj
    go_enter Try.func108, Try.ntmps108
    go_wp2_with fail
    go_loopw [2, 9] (fun x i wx => ∃ (j f1 : Nat) (s1 : Ste) (F : Option Addr) (e1 : Nat) (G : Option Addr) (e2 : Nat), i = .int .i64 (j : Int) ∧ x = .int .i64 (f1 : Int) ∧ j ≤ n ∧ f1 ≤ 200 ∧ Hid (s1.valid = true) ∧ Hid (LH = (L.drop j).run s1 f1) ∧
      Blk wx w.heap.size tSt #[.slice F s1.values.length e1, .slice G s1.heap.length e2] ∧ Blk wx (w.heap.size + 1) tSt #[.slice none 0 0, .slice none 0 0] ∧
      Hid (IntsO wx base (.slice F s1.values.length e1) s1.values) ∧ Hid (IntsO wx base (.slice G s1.heap.length e2) s1.heap) ∧ Hid (∀ x, (Value.slice F s1.values.length e1).ownBlock = some x → (Value.slice G s1.heap.length e2).ownBlock ≠ some x) ∧ Hid (Below w.heap.size w wx)) (fun _ i _ => n - (intOf i).toNat)
    case atStart => exact ⟨0, f, s, F, e1, G, e2, rfl, rfl, Nat.zero_le _, hf, hs, hLH, k0, k1, Lib.hid (o1.out.below bel), Lib.hid (o2.out.below bel), dj, Lib.hid bel⟩
    case round =>
      clear k0 k1 o1 o2 dj hs
      obtain ⟨j, f1, s1, F, e1, G, e2, rfl, rfl, hj, hf1, hs1, HR, k0, k1, o1, o2, dj, HB⟩ := hrel
      have hsz1 := HB.out.size
      by_cases hlt : j < n
      · have hpos : 0 < (L.drop j).len := by rw [Cms.drop_len, ← hn.out]; omega
        obtain ⟨k, a, b, t, i, body, els, r, eL⟩ := Cms.cons_of_len hpos
        obtain ⟨bl, o, rfl, -, -, hAt⟩ := (hV.out.below HB.out) (by rw [← hn.out]; omega)
        have hD := hAt.drop j
        have hSm := Cms.small_drop j hsm.out
        have hZ := Cms.sz_drop j L
        have hDs := Cms.drop_succ j L eL
        have hshj := Cms.shape_drop j hsh.out
        have HR' := HR.out
        rw [eL] at hD hSm hZ HR' hshj
        obtain ⟨⟨p0, p1, p2, p3, p4, p5⟩, ⟨A6, c6, p6, g6⟩, ⟨A7, c7, p7, g7⟩, ⟨A3, c3, p8, g8⟩, ⟨A4, c4, p9, g9⟩, -⟩ := hD
        obtain ⟨s1', s2', s3, s4, s5, s6, -⟩ := hSm
        simp only [Cms.sz] at hZ
        have hbs : body.sz < N := by have := hsz.out; omega
        have hes : els.sz < N := by have := hsz.out; omega
        have gB : Hid (CmsV wr lo hi A3 body) := g8
        have gE : Hid (CmsV wr lo hi A4 els) := g9
        rw [Cms.shape] at hshj
        simp only [Bool.and_eq_true] at hshj
        obtain ⟨-, hfv, hsb, hse, -⟩ := hshj
        have hIB := Lib.hid (IH.out body hbs A3 c3 (d - 1) lo hi s3 s5 hsb)
        have hIE := Lib.hid (IH.out els hes A4 c4 (d - 1) lo hi s4 s6 hse)
        have hok := cmdF_ok (Cms.run_ok body) (Cms.run_ok els) k a b t s1 f1 hs1.out
        rw [Cms.run, ← hDs] at HR'
        obtain ⟨P, hP⟩ : ∃ P, P = cmdF k a b t body.run els.run s1 f1 := ⟨_, rfl⟩
        rw [← hP] at hok HR'
        obtain ⟨s2, c2, f2⟩ := P
        obtain ⟨hk1, hk2, hk3, hk4⟩ := hok
        simp only at hk1 hk2 hk3 hk4 HR'
        replace HR' := Lib.hid HR'
        replace hk1 := Lib.hid hk1
        replace hP := Lib.hid hP
        replace hfv := Lib.hid hfv
        clear hZ hpos hAt g6 g7 g8 g9 HR hDs eL hsb hse s1' s2' s5 s6 hbs hes
        (replace qk0 := k0.cell; replace rk0 := k0.frozen; replace lk0 := k0.lt; replace qk1 := k1.cell; replace rk1 := k1.frozen; replace lk1 := k1.lt)
        by_cases hz : f1 = 0
        · have E : Hid (LH = (s1, 3, f1)) := by
            have h1 := hP.out
            unfold cmdF at h1
            rw [if_pos (by omega)] at h1
            injection h1 with h1 h2; injection h2 with h2 h3
            have := HR'.out
            rw [h1, h2, h3, if_pos (by decide)] at this
            exact this
          have hzi : (f1 : Int) < 1 := by omega
          clear hz hP HR'
          go_wp2_with fail
          refine bodyPost_ret (v := .tuple #[.agg #[.slice none 0 0, .slice none 0 0], .int .i64 3, .int .i64 (f1 : Int)]) (by simp [results, Try.results108, go_sem, qk1, lk1]) rfl ⟨_, by rw [E.out], ?_, ?_⟩
          · rw [E.out, resS_no (by decide)]; exact zeroO _
          · first
              | exact bbox ((HB.out.setCell (p := ⟨w.heap.size + 1, 0, none⟩) (by simp only; omega) _).setCell (p := ⟨w.heap.size + 1, 1, none⟩) (by simp only; omega) _) _
              | exact (((bbox HB.out _).setCell (p := ⟨w.heap.size + 1, 0, none⟩) (by simp only; omega) _).setCell (p := ⟨w.heap.size + 1, 1, none⟩) (by simp only; omega) _)
        obtain ⟨f0, hf0⟩ : ∃ m, f1 = m + 1 := ⟨f1 - 1, by omega⟩
        have hP2 : Hid ((s2, c2, f2) = cmdR k a b t body.run els.run s1 f0) := by
          show _ = _
          rw [hP.out, hf0]
          unfold cmdF
          rw [if_neg (by omega)]; rfl
        have hfp : ¬ ((f1 : Int) < 1) := by omega
        have hD0 : (f1 : Int) - 1 = (f0 : Int) := by omega
        replace hD0 := Lib.hid hD0
        replace hf0 := Lib.hid hf0
        clear hP hz
        have h81 := Lib.hid (Ste.valid_len hs1.out).1
        by_cases k6 : k = 6
        · subst k6
          have htv := Lib.hid (fval6 hfv.out)
          obtain ⟨th, hth⟩ : ∃ x, x = t.holds s1.values := ⟨_, rfl⟩
          have hP3 := hP2.out
          rw [cmdR6, ← hth] at hP3
          replace hth := Lib.hid hth
          replace hP3 := Lib.hid hP3
          clear hP2 hfv
          go_wp2_with fail
          refine (c_hold1 (wr.heap.size + 1) t F e1 s1.values _ (Blk.newE (by simp)) ((o1.out.readsI.2).below bel) htv.out h81.out).mono ?_
          rintro e w2 ⟨rfl, hBx⟩
          rw [← hth.out]
          have hW2 : Below wr.heap.size wr w2 := bgo (bbox (bbox (Below.refl _ _) _) _) hBx
          have kc : Blk w2 wr.heap.size tC #[.int .i64 6, .int .i64 a, .int .i64 b, .bool t.eq, .int .i64 t.a, .int .i64 t.b, .slice A6 i.facts.length c6, .slice A7 i.atoms.length c7, .slice A3 body.len c3, .slice A4 els.len c4] := Blk.next blks hBx
          have hB2 := bgo HB.out hW2
          have hz2 := hW2.size
          have gB2 := Lib.hid (gB.out.below hW2)
          have gE2 := Lib.hid (gE.out.below hW2)
          replace o1 := Lib.hid (o1.out.below hW2)
          replace o2 := Lib.hid (o2.out.below hW2)
          (replace k0 := k0.next hW2; replace qk0 := k0.cell; replace rk0 := k0.frozen; replace lk0 := k0.lt; replace k1 := k1.next hW2; replace qk1 := k1.cell; replace rk1 := k1.frozen; replace lk1 := k1.lt)
          clear hBx hW2 p0 p1 p2 p3 p4 p5 p6 p7 p8 p9 gB gE
          have qc := kc.cell
          have lc := kc.lt
          cases th
          · have HC := hIE.out (.agg #[.slice F s1.values.length e1, .slice G s1.heap.length e2]) s1 f0 base ((f1 : Int) - 1) w2 hD0.out ⟨_, _, rfl, o1.out, o2.out, dj.out⟩ (by omega) hs1.out (by have := hf0.out; omega) gE2.out
            rw [show els.run s1 f0 = (s2, c2, f2) from by rw [hP3.out]; rfl] at HC
            simp only at HC
            replace HC := Lib.hid HC
            clear hP3 kc
            go_wp2_with fail
            refine HC.out.mono ?_
            rintro e w3 ⟨r, rfl, oR, hBx⟩
            have hB3 := bgo hB2 hBx
            have hz3 := hBx.size
            replace k0 := k0.next hBx
            replace k1 := k1.next hBx
            (replace qk0 := k0.cell; replace rk0 := k0.frozen; replace lk0 := k0.lt; replace qk1 := k1.cell; replace rk1 := k1.frozen; replace lk1 := k1.lt)
            clear hBx HC o1 o2 dj
            by_cases hc : c2 = 0
            · subst hc
              rw [resS_ok] at oR
              obtain ⟨fv, hv, rfl, o1, o2, dj⟩ := oR
              obtain ⟨F2, d1, rfl, -⟩ := o1.reads
              obtain ⟨G2, d2, rfl, -⟩ := o2.reads
              replace o1 := Lib.hid o1
              replace o2 := Lib.hid o2
              replace dj := Lib.hid dj
              have HL4 := HR'.out
              rw [if_neg (by omega)] at HL4
              replace HL4 := Lib.hid HL4
              have kk0 := Lib.hid k0
              have kk1 := Lib.hid k1
              clear HR'
              go_wp2_with fail
              go_round
              case rel => exact ⟨j + 1, f2, s2, F2, d1, G2, d2, by go_num, rfl, by omega, by omega, hk1, HL4, ((kk0.out.set_ 0 _).set_ 1 _), ((kk1.out.far (p := ⟨w.heap.size, 0, none⟩) (by simp) _).far (p := ⟨w.heap.size, 1, none⟩) (by simp) _),
                Lib.hid (((o1.out.setT kk0.out (by decide) 0 _).setT (kk0.out.set_ 0 _) (by decide) 1 _)), Lib.hid (((o2.out.setT kk0.out (by decide) 0 _).setT (kk0.out.set_ 0 _) (by decide) 1 _)), dj, Lib.hid ((hB3.setCell (p := ⟨w.heap.size, 0, none⟩) (Nat.le_refl _) _).setCell (p := ⟨w.heap.size, 1, none⟩) (Nat.le_refl _) _)⟩
              case measure => simp [intOf]; omega
            · have HL4 := HR'.out
              rw [if_pos hc] at HL4
              replace HL4 := Lib.hid HL4
              have hcb : (c2 != 0) = true := by simpa using hc
              obtain ⟨fv, hv, rfl, o1, o2, dj⟩ := oR
              obtain ⟨F2, d1, rfl, -⟩ := o1.reads
              obtain ⟨G2, d2, rfl, -⟩ := o2.reads
              clear HR' o1 o2 dj
              go_wp2_with fail
              refine bodyPost_ret (v := .tuple #[.agg #[.slice none 0 0, .slice none 0 0], .int .i64 c2, .int .i64 (f2 : Int)]) (by simp [results, Try.results108, go_sem, qk1, lk1]) rfl ⟨_, by rw [HL4.out], ?_, ?_⟩
              · rw [HL4.out, resS_no hc]; exact zeroO _
              · exact (((hB3.setCell (p := ⟨w.heap.size, 0, none⟩) (Nat.le_refl _) _).setCell (p := ⟨w.heap.size, 1, none⟩) (Nat.le_refl _) _).setCell (p := ⟨w.heap.size + 1, 0, none⟩) (by simp only; omega) _).setCell (p := ⟨w.heap.size + 1, 1, none⟩) (by simp only; omega) _
          · have HC := hIB.out (.agg #[.slice F s1.values.length e1, .slice G s1.heap.length e2]) s1 f0 base ((f1 : Int) - 1) w2 hD0.out ⟨_, _, rfl, o1.out, o2.out, dj.out⟩ (by omega) hs1.out (by have := hf0.out; omega) gB2.out
            rw [show body.run s1 f0 = (s2, c2, f2) from by rw [hP3.out]; rfl] at HC
            simp only at HC
            replace HC := Lib.hid HC
            clear hP3 kc
            go_wp2_with fail
            refine HC.out.mono ?_
            rintro e w3 ⟨r, rfl, oR, hBx⟩
            have hB3 := bgo hB2 hBx
            have hz3 := hBx.size
            replace k0 := k0.next hBx
            replace k1 := k1.next hBx
            (replace qk0 := k0.cell; replace rk0 := k0.frozen; replace lk0 := k0.lt; replace qk1 := k1.cell; replace rk1 := k1.frozen; replace lk1 := k1.lt)
            clear hBx HC o1 o2 dj
            by_cases hc : c2 = 0
            · subst hc
              rw [resS_ok] at oR
              obtain ⟨fv, hv, rfl, o1, o2, dj⟩ := oR
              obtain ⟨F2, d1, rfl, -⟩ := o1.reads
              obtain ⟨G2, d2, rfl, -⟩ := o2.reads
              replace o1 := Lib.hid o1
              replace o2 := Lib.hid o2
              replace dj := Lib.hid dj
              have HL4 := HR'.out
              rw [if_neg (by omega)] at HL4
              replace HL4 := Lib.hid HL4
              have kk0 := Lib.hid k0
              have kk1 := Lib.hid k1
              clear HR'
              go_wp2_with fail
              go_round
              case rel => exact ⟨j + 1, f2, s2, F2, d1, G2, d2, by go_num, rfl, by omega, by omega, hk1, HL4, ((kk0.out.set_ 0 _).set_ 1 _), ((kk1.out.far (p := ⟨w.heap.size, 0, none⟩) (by simp) _).far (p := ⟨w.heap.size, 1, none⟩) (by simp) _),
                Lib.hid (((o1.out.setT kk0.out (by decide) 0 _).setT (kk0.out.set_ 0 _) (by decide) 1 _)), Lib.hid (((o2.out.setT kk0.out (by decide) 0 _).setT (kk0.out.set_ 0 _) (by decide) 1 _)), dj, Lib.hid ((hB3.setCell (p := ⟨w.heap.size, 0, none⟩) (Nat.le_refl _) _).setCell (p := ⟨w.heap.size, 1, none⟩) (Nat.le_refl _) _)⟩
              case measure => simp [intOf]; omega
            · have HL4 := HR'.out
              rw [if_pos hc] at HL4
              replace HL4 := Lib.hid HL4
              have hcb : (c2 != 0) = true := by simpa using hc
              obtain ⟨fv, hv, rfl, o1, o2, dj⟩ := oR
              obtain ⟨F2, d1, rfl, -⟩ := o1.reads
              obtain ⟨G2, d2, rfl, -⟩ := o2.reads
              clear HR' o1 o2 dj
              go_wp2_with fail
              refine bodyPost_ret (v := .tuple #[.agg #[.slice none 0 0, .slice none 0 0], .int .i64 c2, .int .i64 (f2 : Int)]) (by simp [results, Try.results108, go_sem, qk1, lk1]) rfl ⟨_, by rw [HL4.out], ?_, ?_⟩
              · rw [HL4.out, resS_no hc]; exact zeroO _
              · exact (((hB3.setCell (p := ⟨w.heap.size, 0, none⟩) (Nat.le_refl _) _).setCell (p := ⟨w.heap.size, 1, none⟩) (Nat.le_refl _) _).setCell (p := ⟨w.heap.size + 1, 0, none⟩) (by simp only; omega) _).setCell (p := ⟨w.heap.size + 1, 1, none⟩) (by simp only; omega) _
        by_cases k7 : k = 7
        · subst k7
          have htv := Lib.hid (fval7 hfv.out)
          have HC := c_spec_l9Loop (lo := lo) (hi := hi) (.agg #[.slice F s1.values.length e1, .slice G s1.heap.length e2]) s1 f0 base ((f1 : Int) - 1) hD0.out (wr.alloc (.cells #[.int .i64 7, .int .i64 a, .int .i64 b, .bool t.eq, .int .i64 t.a, .int .i64 t.b, .slice A6 i.facts.length c6, .slice A7 i.atoms.length c7, .slice A3 body.len c3, .slice A4 els.len c4] tC)) a b t (.slice A6 i.facts.length c6) (.slice A7 i.atoms.length c7) A3 A4 c3 c4 body els ⟨_, _, rfl, o1.out.below bel, o2.out.below bel, dj.out⟩ (by first | omega | (simp; omega)) hs1.out (by have := hf0.out; omega) htv.out (gB.out.below bel) hIB.out
          rw [show loopF body.run t (f0 + 1) s1 f0 = (s2, c2, f2) from by rw [hP2.out]; rfl] at HC
          simp only at HC
          replace HC := Lib.hid HC
          have hB2 : Below w.heap.size w (wr.alloc (.cells #[.int .i64 7, .int .i64 a, .int .i64 b, .bool t.eq, .int .i64 t.a, .int .i64 t.b, .slice A6 i.facts.length c6, .slice A7 i.atoms.length c7, .slice A3 body.len c3, .slice A4 els.len c4] tC)) := bbox HB.out _
          have hz2 : wr.heap.size ≤ (wr.alloc (.cells #[.int .i64 7, .int .i64 a, .int .i64 b, .bool t.eq, .int .i64 t.a, .int .i64 t.b, .slice A6 i.facts.length c6, .slice A7 i.atoms.length c7, .slice A3 body.len c3, .slice A4 els.len c4] tC)).heap.size := by simp
          replace k0 := k0.alloc (.cells #[.int .i64 7, .int .i64 a, .int .i64 b, .bool t.eq, .int .i64 t.a, .int .i64 t.b, .slice A6 i.facts.length c6, .slice A7 i.atoms.length c7, .slice A3 body.len c3, .slice A4 els.len c4] tC)
          replace k1 := k1.alloc (.cells #[.int .i64 7, .int .i64 a, .int .i64 b, .bool t.eq, .int .i64 t.a, .int .i64 t.b, .slice A6 i.facts.length c6, .slice A7 i.atoms.length c7, .slice A3 body.len c3, .slice A4 els.len c4] tC)
          clear hP2 hfv k6
          go_wp2_with fail
          refine HC.out.mono ?_
          rintro e w3 ⟨r, rfl, oR, hBx⟩
          have hB3 := bgo hB2 hBx
          have hz3 := hBx.size
          replace k0 := k0.next hBx
          replace k1 := k1.next hBx
          (replace qk0 := k0.cell; replace rk0 := k0.frozen; replace lk0 := k0.lt; replace qk1 := k1.cell; replace rk1 := k1.frozen; replace lk1 := k1.lt)
          clear hBx HC o1 o2 dj
          by_cases hc : c2 = 0
          · subst hc
            rw [resS_ok] at oR
            obtain ⟨fv, hv, rfl, o1, o2, dj⟩ := oR
            obtain ⟨F2, d1, rfl, -⟩ := o1.reads
            obtain ⟨G2, d2, rfl, -⟩ := o2.reads
            replace o1 := Lib.hid o1
            replace o2 := Lib.hid o2
            replace dj := Lib.hid dj
            have HL4 := HR'.out
            rw [if_neg (by omega)] at HL4
            replace HL4 := Lib.hid HL4
            have kk0 := Lib.hid k0
            have kk1 := Lib.hid k1
            clear HR'
            go_wp2_with fail
            go_round
            case rel => exact ⟨j + 1, f2, s2, F2, d1, G2, d2, by go_num, rfl, by omega, by omega, hk1, HL4, ((kk0.out.set_ 0 _).set_ 1 _), ((kk1.out.far (p := ⟨w.heap.size, 0, none⟩) (by simp) _).far (p := ⟨w.heap.size, 1, none⟩) (by simp) _),
              Lib.hid (((o1.out.setT kk0.out (by decide) 0 _).setT (kk0.out.set_ 0 _) (by decide) 1 _)), Lib.hid (((o2.out.setT kk0.out (by decide) 0 _).setT (kk0.out.set_ 0 _) (by decide) 1 _)), dj, Lib.hid ((hB3.setCell (p := ⟨w.heap.size, 0, none⟩) (Nat.le_refl _) _).setCell (p := ⟨w.heap.size, 1, none⟩) (Nat.le_refl _) _)⟩
            case measure => simp [intOf]; omega
          · have HL4 := HR'.out
            rw [if_pos hc] at HL4
            replace HL4 := Lib.hid HL4
            have hcb : (c2 != 0) = true := by simpa using hc
            obtain ⟨fv, hv, rfl, o1, o2, dj⟩ := oR
            obtain ⟨F2, d1, rfl, -⟩ := o1.reads
            obtain ⟨G2, d2, rfl, -⟩ := o2.reads
            clear HR' o1 o2 dj
            go_wp2_with fail
            refine bodyPost_ret (v := .tuple #[.agg #[.slice none 0 0, .slice none 0 0], .int .i64 c2, .int .i64 (f2 : Int)]) (by simp [results, Try.results108, go_sem, qk1, lk1]) rfl ⟨_, by rw [HL4.out], ?_, ?_⟩
            · rw [HL4.out, resS_no hc]; exact zeroO _
            · exact (((hB3.setCell (p := ⟨w.heap.size, 0, none⟩) (Nat.le_refl _) _).setCell (p := ⟨w.heap.size, 1, none⟩) (Nat.le_refl _) _).setCell (p := ⟨w.heap.size + 1, 0, none⟩) (by simp only; omega) _).setCell (p := ⟨w.heap.size + 1, 1, none⟩) (by simp only; omega) _
        have hfb := fval_basic k6 k7 hfv.out
        have hP3 := hP2.out
        rw [cmdRb k6 k7] at hP3
        have eb : basicF s1 k a b = (s2, c2) := by
          injection hP3 with h1 h2; injection h2 with h2 h3
          rw [h1, h2]
        have ef : Hid (f2 = f0) := by injection hP3 with h1 h2; injection h2 with h2 h3
        have HC := c_spec_l9Basic (lo := base) (hi := wr.heap.size + 1) (.agg #[.slice F s1.values.length e1, .slice G s1.heap.length e2]) s1 (wr.alloc (.cells #[.int .i64 k, .int .i64 a, .int .i64 b, .bool t.eq, .int .i64 t.a, .int .i64 t.b, .slice A6 i.facts.length c6, .slice A7 i.atoms.length c7, .slice A3 body.len c3, .slice A4 els.len c4] tC)) k a b t (.slice A6 i.facts.length c6) (.slice A7 i.atoms.length c7) (.slice A3 body.len c3) (.slice A4 els.len c4) ⟨_, _, _, _, rfl, ((o1.out.readsI.2).below bel).mono (Nat.le_refl _) (by omega), ((o2.out.readsI.2).below bel).mono (Nat.le_refl _) (by omega)⟩ hs1.out hfb
        rw [eb, show basS (s2, c2) = resS (s2, c2, f2) from rfl] at HC
        simp only at HC
        replace HC := Lib.hid HC
        have hB2 : Below w.heap.size w (wr.alloc (.cells #[.int .i64 k, .int .i64 a, .int .i64 b, .bool t.eq, .int .i64 t.a, .int .i64 t.b, .slice A6 i.facts.length c6, .slice A7 i.atoms.length c7, .slice A3 body.len c3, .slice A4 els.len c4] tC)) := bbox HB.out _
        have hz2 : wr.heap.size ≤ (wr.alloc (.cells #[.int .i64 k, .int .i64 a, .int .i64 b, .bool t.eq, .int .i64 t.a, .int .i64 t.b, .slice A6 i.facts.length c6, .slice A7 i.atoms.length c7, .slice A3 body.len c3, .slice A4 els.len c4] tC)).heap.size := by simp
        replace k0 := k0.alloc (.cells #[.int .i64 k, .int .i64 a, .int .i64 b, .bool t.eq, .int .i64 t.a, .int .i64 t.b, .slice A6 i.facts.length c6, .slice A7 i.atoms.length c7, .slice A3 body.len c3, .slice A4 els.len c4] tC)
        replace k1 := k1.alloc (.cells #[.int .i64 k, .int .i64 a, .int .i64 b, .bool t.eq, .int .i64 t.a, .int .i64 t.b, .slice A6 i.facts.length c6, .slice A7 i.atoms.length c7, .slice A3 body.len c3, .slice A4 els.len c4] tC)
        clear hP2 hP3 eb hfv hfb
        go_wp2_with fail
        refine HC.out.mono ?_
        rintro e w3 ⟨r, rfl, oR, hBx⟩
        have hB3 := bgo hB2 hBx
        have hz3 := hBx.size
        replace oR := oR.lower (base' := base) (by omega)
        replace k0 := k0.next hBx
        replace k1 := k1.next hBx
        (replace qk0 := k0.cell; replace rk0 := k0.frozen; replace lk0 := k0.lt; replace qk1 := k1.cell; replace rk1 := k1.frozen; replace lk1 := k1.lt)
        clear hBx HC o1 o2 dj
        by_cases hc : c2 = 0
        · subst hc
          rw [resS_ok] at oR
          obtain ⟨fv, hv, rfl, o1, o2, dj⟩ := oR
          obtain ⟨F2, d1, rfl, -⟩ := o1.reads
          obtain ⟨G2, d2, rfl, -⟩ := o2.reads
          replace o1 := Lib.hid o1
          replace o2 := Lib.hid o2
          replace dj := Lib.hid dj
          have HL4 := HR'.out
          rw [if_neg (by omega)] at HL4
          replace HL4 := Lib.hid HL4
          have kk0 := Lib.hid k0
          have kk1 := Lib.hid k1
          clear HR'
          go_wp2_with fail
          go_round
          case rel => exact ⟨j + 1, f2, s2, F2, d1, G2, d2, by go_num, (by have h1 := ef.out; have h2 := hD0.out; congr 1; omega), by omega, by omega, hk1, HL4, ((kk0.out.set_ 0 _).set_ 1 _), ((kk1.out.far (p := ⟨w.heap.size, 0, none⟩) (by simp) _).far (p := ⟨w.heap.size, 1, none⟩) (by simp) _),
            Lib.hid (((o1.out.setT kk0.out (by decide) 0 _).setT (kk0.out.set_ 0 _) (by decide) 1 _)), Lib.hid (((o2.out.setT kk0.out (by decide) 0 _).setT (kk0.out.set_ 0 _) (by decide) 1 _)), dj, Lib.hid ((hB3.setCell (p := ⟨w.heap.size, 0, none⟩) (Nat.le_refl _) _).setCell (p := ⟨w.heap.size, 1, none⟩) (Nat.le_refl _) _)⟩
          case measure => simp [intOf]; omega
        · have HL4 := HR'.out
          rw [if_pos hc] at HL4
          replace HL4 := Lib.hid HL4
          have hcb : (c2 != 0) = true := by simpa using hc
          obtain ⟨fv, hv, rfl, o1, o2, dj⟩ := oR
          obtain ⟨F2, d1, rfl, -⟩ := o1.reads
          obtain ⟨G2, d2, rfl, -⟩ := o2.reads
          clear HR' o1 o2 dj
          go_wp2_with fail
          refine bodyPost_ret (v := .tuple #[.agg #[.slice none 0 0, .slice none 0 0], .int .i64 c2, .int .i64 ((f1 : Int) - 1)]) (by simp [results, Try.results108, go_sem, qk1, lk1]) rfl ⟨_, by rw [HL4.out]; rw [show ((f1 : Int) - 1) = (f2 : Int) from by have h1 := ef.out; have h2 := hD0.out; omega], ?_, ?_⟩
          · rw [HL4.out, resS_no hc]; exact zeroO _
          · exact (((hB3.setCell (p := ⟨w.heap.size, 0, none⟩) (Nat.le_refl _) _).setCell (p := ⟨w.heap.size, 1, none⟩) (Nat.le_refl _) _).setCell (p := ⟨w.heap.size + 1, 0, none⟩) (by simp only; omega) _).setCell (p := ⟨w.heap.size + 1, 1, none⟩) (by simp only; omega) _
      · have h2 := HR.out
        obtain rfl : j = n := by omega
        have e1' : L.drop j = .nil := by rw [hn.out]; exact Cms.drop_all L
        rw [e1'] at h2
        have E : Hid (LH = (s1, 0, f1)) := h2
        have KB := Lib.hid k1
        (replace qk0 := k0.cell; replace rk0 := k0.frozen; replace lk0 := k0.lt; replace qk1 := k1.cell; replace rk1 := k1.frozen; replace lk1 := k1.lt)
        clear HR h2
        go_wp2_with fail
        refine bodyPost_ret (v := .tuple #[.agg #[.slice F s1.values.length e1, .slice G s1.heap.length e2], .int .i64 0, .int .i64 (f1 : Int)]) (by simp [results, Try.results108, go_sem, qk1, lk1]) rfl ⟨_, by rw [E.out], ?_, ?_⟩
        · rw [E.out, resS_ok]
          exact ⟨_, _, rfl, ((o1.out.setT KB.out (by decide) 0 _).setT (KB.out.set_ 0 _) (by decide) 1 _), ((o2.out.setT KB.out (by decide) 0 _).setT (KB.out.set_ 0 _) (by decide) 1 _), dj.out⟩
        · exact (HB.out.setCell (p := ⟨w.heap.size + 1, 0, none⟩) (by simp only; omega) _).setCell (p := ⟨w.heap.size + 1, 1, none⟩) (by simp only; omega) _
--@
end Go.Proofs.Ytcgifoghggajgaa
