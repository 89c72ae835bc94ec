/- The first or the last address that is free. -/
import Derived.Test.YteogcababfenfaaWalk
import Derived.Test.YteogcababfenfaaMCells
import Derived.Test.YteogcababfenfaaMModQ
set_option linter.unusedSimpArgs false
set_option linter.unusedVariables false
namespace Go.Proofs.Yteogcababfenfaa
open Go Go.RowKit Go.Proofs

def seqK (last : Bool) (j : Nat) : Nat := if last then 7 - j else j
def roomP (h : List Int) (e : Int) (n : Nat) : Bool := !allocB h ((n : Int) + 1) && decide ((n : Int) + 1 ≠ e)
def roomJ (h : List Int) (e : Int) (last : Bool) : Option Nat := (List.range 8).find? fun j => roomP h e (seqK last j)
def roomF (h : List Int) (e : Int) (last : Bool) : Int := match roomJ h e last with | some j => (seqK last j : Int) + 1 | none => 0
theorem room_yes {h : List Int} {e : Int} {last : Bool} {j : Nat} (hj : j < 8) (h1 : ∀ k, k < j → roomP h e (seqK last k) = false) (h2 : roomP h e (seqK last j) = true) : roomJ h e last = some j := find_range hj h2 h1
theorem room_no {h : List Int} {e : Int} {last : Bool} (h1 : ∀ k, k < 8 → roomP h e (seqK last k) = false) : roomJ h e last = none := by
  unfold roomJ
  rw [List.find?_eq_none]
  intro k hk
  simp [h1 k (by simpa using hk)]
--@ impl.freeAddress
set_option maxHeartbeats 1600000 in
theorem c_impl_freeAddress {lo hi : Nat} (v : Value) (s : Ste) (x : Int) (last : Bool) (w : World) (h : StateV w lo hi v s) (h8 : s.heap.length = 8) :
    Calls Try.prog 107 #[v, .int .i64 x, .bool last] w fun e w' => e = .returned (.tuple #[.int .i64 (roomF s.heap x last), .bool (roomJ s.heap x last).isSome]) ∧ Below w.heap.size w w' := by
  have hV := Lib.hid h
  obtain ⟨A1, c1, A2, c2, rfl, h1, h2⟩ := h
  have H8 := Lib.hid h8
  clear h8 h1 h2
  go_enter Try.func107, Try.ntmps107
  go_wp2_with fail
  go_loopw [8] (fun i wr => ∃ (j : Nat), j ≤ 8 ∧ i = .int .i64 (j + 1) ∧ Hid (∀ k, k < j → roomP s.heap x (seqK last k) = false) ∧ Blk wr w.heap.size 44 #[.slice A1 s.values.length c1, .slice A2 s.heap.length c2] ∧ Below w.heap.size w wr) (fun i _ => 9 - (intOf i).toNat)
  case atStart => exact ⟨0, by omega, rfl, Lib.hid (fun k hk => by omega), blks, bel⟩
  case round =>
    obtain ⟨j, hj, rfl, HN, hK, hB⟩ := hrel
    have q := hK.cell
    by_cases hn : j < 8
    · have hji : (j : Int) + 1 ≤ 8 := by omega
      cases last
      · go_wp2_with fail
        refine (c_impl_allocated _ s _ _ (hV.out.below hB) H8.out).mono ?_
        rintro e w1 ⟨rfl, hB1⟩
        cases ha : allocB s.heap ((j : Int) + 1)
        · by_cases hx : (j : Int) + 1 = x
          · have hxb : ((j : Int) + 1 != x) = false := by simpa using hx
            go_wp2_with fail
            go_round
            case rel => exact ⟨j + 1, by omega, by go_num, Lib.hid (fun k hk => by
              rcases Nat.lt_or_ge k j with q | q
              · exact HN.out k q
              · obtain rfl : k = j := by omega
                simp [roomP, seqK, ha, hx]), hK.next hB1, bgo hB hB1⟩
            case measure => simp [intOf]; omega
          · have hxb : ((j : Int) + 1 != x) = true := by simpa using hx
            have HR := Lib.hid (room_yes (last := false) hn HN.out (by simp [roomP, seqK, ha, hx]))
            clear HN
            go_wp2_with fail
            refine bodyPost_ret (v := .tuple #[.int .i64 ((j : Int) + 1), .bool true]) (by simp [results, Try.results107, go_sem]) rfl ⟨?_, bgo hB hB1⟩
            simp [roomF, HR.out, seqK]
        · go_wp2_with fail
          go_round
          case rel => exact ⟨j + 1, by omega, by go_num, Lib.hid (fun k hk => by
            rcases Nat.lt_or_ge k j with q | q
            · exact HN.out k q
            · obtain rfl : k = j := by omega
              simp [roomP, seqK, ha]), hK.next hB1, bgo hB hB1⟩
          case measure => simp [intOf]; omega
      · obtain ⟨m, hm⟩ : ∃ m : Nat, m = 7 - j := ⟨_, rfl⟩
        have h9 : (9 : Int) - ((j : Int) + 1) = (m : Int) + 1 := by omega
        have hmi : (m : Int) + 1 ≤ 8 := by omega
        replace hm := Lib.hid hm
        go_wp2_with fail
        refine (c_impl_allocated _ s _ _ (hV.out.below hB) H8.out).mono ?_
        rintro e w1 ⟨rfl, hB1⟩
        cases ha : allocB s.heap ((m : Int) + 1)
        · by_cases hx : (m : Int) + 1 = x
          · have hxb : ((m : Int) + 1 != x) = false := by simpa using hx
            go_wp2_with fail
            go_round
            case rel => exact ⟨j + 1, by omega, by go_num, Lib.hid (fun k hk => by
              rcases Nat.lt_or_ge k j with q | q
              · exact HN.out k q
              · obtain rfl : k = j := by omega
                simp [roomP, seqK, ← hm.out, ha, hx]), hK.next hB1, bgo hB hB1⟩
            case measure => simp [intOf]; omega
          · have hxb : ((m : Int) + 1 != x) = true := by simpa using hx
            have HR := Lib.hid (room_yes (last := true) hn HN.out (by simp [roomP, seqK, ← hm.out, ha, hx]))
            clear HN
            go_wp2_with fail
            refine bodyPost_ret (v := .tuple #[.int .i64 ((m : Int) + 1), .bool true]) (by simp [results, Try.results107, go_sem]) rfl ⟨?_, bgo hB hB1⟩
            simp [roomF, HR.out, seqK, ← hm.out]
        · go_wp2_with fail
          go_round
          case rel => exact ⟨j + 1, by omega, by go_num, Lib.hid (fun k hk => by
            rcases Nat.lt_or_ge k j with q | q
            · exact HN.out k q
            · obtain rfl : k = j := by omega
              simp [roomP, seqK, ← hm.out, ha]), hK.next hB1, bgo hB hB1⟩
          case measure => simp [intOf]; omega
    · obtain rfl : j = 8 := by omega
      have HR := Lib.hid (room_no HN.out)
      clear HN
      go_wp2_with fail
      refine bodyPost_ret (v := .tuple #[.int .i64 0, .bool false]) (by simp [results, Try.results107, go_sem]) rfl ⟨?_, hB⟩
      simp [roomF, HR.out]
--@
def roomR (p : Nat → Bool) (last : Bool) : Nat → Int
  | 0 => 0
  | j + 1 => if p j = true ∧ (roomR p last j = 0 ∨ last = true) then (j : Int) + 1 else roomR p last j
theorem roomR_le (p : Nat → Bool) (last : Bool) : ∀ j, 0 ≤ roomR p last j ∧ roomR p last j ≤ j
  | 0 => by simp [roomR]
  | j + 1 => by
    have := roomR_le p last j
    unfold roomR
    split <;> omega
theorem roomR_f (p : Nat → Bool) : ∀ j, roomR p false j = match (List.range j).find? p with | some k => (k : Int) + 1 | none => 0
  | 0 => rfl
  | j + 1 => by
    rw [List.range_succ, List.find?_append]
    unfold roomR
    rw [roomR_f p j]
    cases hf : (List.range j).find? p with
    | some k =>
      simp only [Option.some_or]
      rw [if_neg (by rintro ⟨-, h | h⟩; omega; cases h)]
    | none =>
      simp only [Option.none_or, List.find?_cons, List.find?_nil]
      cases p j <;> simp
theorem roomR_t (p : Nat → Bool) : ∀ j, roomR p true j = match (List.range j).find? (fun i => p (j - 1 - i)) with | some k => ((j - 1 - k : Nat) : Int) + 1 | none => 0
  | 0 => rfl
  | j + 1 => by
    rw [List.range_succ_eq_map, List.find?_cons, List.find?_map]
    unfold roomR
    rw [roomR_t p j]
    cases hp : p j
    · have e : ((fun i => p (j + 1 - 1 - i)) ∘ Nat.succ) = fun i => p (j - 1 - i) := by
        funext i
        show p (j + 1 - 1 - (i + 1)) = _
        congr 1
        omega
      rw [e]
      have e2 : p (j + 1 - 1 - 0) = false := hp
      rw [e2]
      cases (List.range j).find? (fun i => p (j - 1 - i)) with
      | none => simp
      | some k =>
        simp
        omega
    · have e2 : p (j + 1 - 1 - 0) = true := hp
      rw [e2]
      simp
theorem roomR_eq (h : List Int) (e : Int) (last : Bool) : roomR (roomP h e) last 8 = roomF h e last := by
  unfold roomF roomJ
  cases last
  · rw [roomR_f]; rfl
  · rw [roomR_t]; rfl
theorem roomF_some {h : List Int} {e : Int} {last : Bool} : (roomJ h e last).isSome = decide (roomF h e last ≠ 0) := by
  unfold roomF
  cases roomJ h e last with
  | none => rfl
  | some j =>
    show true = decide (((seqK last j : Nat) : Int) + 1 ≠ 0)
    rw [eq_comm, decide_eq_true_eq]
    omega
--@ spec.l6Room
set_option maxHeartbeats 1600000 in
theorem c_spec_l6Room {lo hi : Nat} (v : Value) (s : Ste) (x : Int) (last : Bool) (w : World) (h : StateV w lo hi v s) (h8 : s.heap.length = 8) :
    Calls Try.prog 92 #[v, .int .i64 x, .bool last] w fun e w' => e = .returned (.int .i64 (roomF s.heap x last)) ∧ Below w.heap.size w w' := by
  have hV := Lib.hid h
  obtain ⟨A1, c1, A2, c2, rfl, h1, h2⟩ := h
  have H8 := Lib.hid h8
  clear h8 h1 h2
  go_enter Try.func92, Try.ntmps92
  go_wp2_with fail
  go_loopw [7, 8] (fun o i wr => ∃ (j : Nat), j ≤ 8 ∧ i = .int .i64 (j + 1) ∧ o = .int .i64 (roomR (roomP s.heap x) last j) ∧ Blk wr w.heap.size 44 #[.slice A1 s.values.length c1, .slice A2 s.heap.length c2] ∧ Below w.heap.size w wr) (fun _ i _ => 9 - (intOf i).toNat)
  case atStart => exact ⟨0, by omega, rfl, rfl, blks, bel⟩
  case round =>
    obtain ⟨j, hj, rfl, rfl, hK, hB⟩ := hrel
    have q := hK.cell
    have HS : Hid (roomR (roomP s.heap x) last (j + 1) = if roomP s.heap x j = true ∧ (roomR (roomP s.heap x) last j = 0 ∨ last = true) then (j : Int) + 1 else roomR (roomP s.heap x) last j) := Lib.hid rfl
    by_cases hn : j < 8
    · have hji : (j : Int) + 1 ≤ 8 := by omega
      generalize roomR (roomP s.heap x) last j = o at HS ⊢
      cases ha : allocB s.heap ((j : Int) + 1)
      · by_cases hx : (j : Int) + 1 = x
        · have hxb : ((j : Int) + 1 != x) = false := by simpa using hx
          replace hx := Lib.hid hx
          go_wp2_with fail
          refine (c_spec_l2Has _ s _ _ (hV.out.below hB) H8.out).mono ?_
          rintro e w1 ⟨rfl, hB1⟩
          go_wp2_with fail
          go_round
          case rel => exact ⟨j + 1, by omega, by go_num, by rw [HS.out, if_neg (by simp [roomP, ha, hx.out])], hK.next hB1, bgo hB hB1⟩
          case measure => simp [intOf]; omega
        · have hxb : ((j : Int) + 1 != x) = true := by simpa using hx
          by_cases h0 : o = 0
          · have h0b : (o == 0) = true := by simpa using h0
            subst h0
            go_wp2_with fail
            refine (c_spec_l2Has _ s _ _ (hV.out.below hB) H8.out).mono ?_
            rintro e w1 ⟨rfl, hB1⟩
            go_wp2_with fail
            go_round
            case rel => exact ⟨j + 1, by omega, by go_num, by rw [HS.out, if_pos (by simp [roomP, ha, hx])], hK.next hB1, bgo hB hB1⟩
            case measure => simp [intOf]; omega
          · have h0b : (o == 0) = false := by simpa using h0
            cases last
            · go_wp2_with fail
              refine (c_spec_l2Has _ s _ _ (hV.out.below hB) H8.out).mono ?_
              rintro e w1 ⟨rfl, hB1⟩
              go_wp2_with fail
              go_round
              case rel => exact ⟨j + 1, by omega, by go_num, by rw [HS.out, if_neg (by simp [h0])], hK.next hB1, bgo hB hB1⟩
              case measure => simp [intOf]; omega
            · go_wp2_with fail
              refine (c_spec_l2Has _ s _ _ (hV.out.below hB) H8.out).mono ?_
              rintro e w1 ⟨rfl, hB1⟩
              go_wp2_with fail
              go_round
              case rel => exact ⟨j + 1, by omega, by go_num, by rw [HS.out, if_pos (by simp [roomP, ha, hx])], hK.next hB1, bgo hB hB1⟩
              case measure => simp [intOf]; omega
      · go_wp2_with fail
        refine (c_spec_l2Has _ s _ _ (hV.out.below hB) H8.out).mono ?_
        rintro e w1 ⟨rfl, hB1⟩
        go_wp2_with fail
        go_round
        case rel => exact ⟨j + 1, by omega, by go_num, by rw [HS.out, if_neg (by simp [roomP, ha])], hK.next hB1, bgo hB hB1⟩
        case measure => simp [intOf]; omega
    · obtain rfl : j = 8 := by omega
      clear HS
      rw [roomR_eq]
      go_wp2_with fail
      go_ret
      exact ⟨rfl, hB⟩
--@
end Go.Proofs.Yteogcababfenfaa

/- The states of a case whose lists may have two cells; plain. -/
namespace Go.Proofs.Yteogcababfenfaa
open Go Go.RowKit Go.Proofs

/-- one list atom grows: its first cell leads to the room, the room to its end -/
def growS (vs h : List Int) (last : Bool) (x : Atm) : Option (List Int) :=
  if roomF h (tval vs x.b) last = 0 then none
  else some ((h.set (roomF h (tval vs x.b) last - 1).toNat (tval vs x.b)).set (tval vs x.a - 1).toNat (roomF h (tval vs x.b) last))
/-- those list atoms grow whose bit is set; n of them are behind -/
def growF (vs : List Int) (mask : Nat) (last : Bool) : List Atm → Nat → List Int → Option (List Int)
  | [], _, h => some h
  | x :: xs, n, h =>
    if x.kind ≠ 2 then growF vs mask last xs n h
    else if mask.testBit n = false then growF vs mask last xs (n + 1) h
    else match growS vs h last x with
      | none => none
      | some h' => growF vs mask last xs (n + 1) h'
theorem roomF_free {h : List Int} {e : Int} {last : Bool} (h0 : roomF h e last ≠ 0) : addrB (roomF h e last) = true ∧ allocB h (roomF h e last) = false ∧ roomF h e last ≠ e := by
  unfold roomF at h0 ⊢
  cases hj : roomJ h e last with
  | none => rw [hj] at h0; exact absurd rfl h0
  | some j =>
    simp only
    have h1 := List.find?_some hj
    have h2 := List.mem_of_find?_eq_some hj
    simp only [List.mem_range] at h2
    simp only [roomP, Bool.and_eq_true, Bool.not_eq_true', decide_eq_true_eq] at h1
    refine ⟨?_, h1.1, h1.2⟩
    have : seqK last j < 8 := by unfold seqK; split <;> omega
    simp only [addrB, decide_eq_true_eq]
    omega
/-- the order of the two stores -/
theorem growS_comm {vs h : List Int} {last : Bool} {x : Atm} (ha : allocB h (tval vs x.a) = true) (h0 : roomF h (tval vs x.b) last ≠ 0) :
    growS vs h last x = some ((h.set (tval vs x.a - 1).toNat (roomF h (tval vs x.b) last)).set (roomF h (tval vs x.b) last - 1).toNat (tval vs x.b)) := by
  unfold growS
  rw [if_neg h0]
  obtain ⟨h1, h2, -⟩ := roomF_free h0
  obtain ⟨h3, -⟩ := cont_alloc ha
  simp only [addrB, decide_eq_true_eq] at h1 h3
  have hne : tval vs x.a ≠ roomF h (tval vs x.b) last := fun e => by rw [e, h2] at ha; cases ha
  rw [List.set_comm]
  omega
end Go.Proofs.Yteogcababfenfaa

/- Growing the states of a case, step by step; plain. -/
namespace Go.Proofs.Yteogcababfenfaa
open Go Go.RowKit Go.Proofs

/-- the cells of the atoms that are still to come are allocated -/
def GrowI (vs h : List Int) (ys : List Atm) : Prop := h.length = 8 ∧ ∀ x ∈ ys, allocB h (tval vs x.a) = true
theorem alloc_set {h : List Int} (hl : h.length = 8) {m n v : Int} (hm : addrB m = true) (hv : 0 ≤ v) (ha : allocB h n = true) : allocB (h.set (m - 1).toNat v) n = true := by
  obtain ⟨hn, h0⟩ := cont_alloc ha
  unfold allocB
  rw [cont_set8 hl hm hn, decide_eq_true_iff]
  split <;> omega
theorem roomF_le {h : List Int} {e : Int} {last : Bool} (h0 : roomF h e last ≠ 0) : 1 ≤ roomF h e last ∧ roomF h e last ≤ 8 := by
  have := (roomF_free h0).1
  simpa [addrB] using this
theorem GrowI.step {vs h : List Int} {last : Bool} {x : Atm} {ys : List Atm} (hv : vs.all valB = true) (hi : GrowI vs h (x :: ys)) (h0 : roomF h (tval vs x.b) last ≠ 0) :
    GrowI vs ((h.set (tval vs x.a - 1).toNat (roomF h (tval vs x.b) last)).set (roomF h (tval vs x.b) last - 1).toNat (tval vs x.b)) ys := by
  obtain ⟨hl, ha⟩ := hi
  have hx := (cont_alloc (ha x List.mem_cons_self)).1
  have h1 := roomF_free h0
  have h2 := roomF_le h0
  refine ⟨by simp [hl], fun y hy => ?_⟩
  exact alloc_set (by simp [hl]) h1.1 (tval_le hv x.b).1 (alloc_set hl hx (by omega) (ha y (List.mem_cons_of_mem _ hy)))
theorem GrowI.tail {vs h : List Int} {x : Atm} {ys : List Atm} (hi : GrowI vs h (x :: ys)) : GrowI vs h ys := ⟨hi.1, fun y hy => hi.2 y (List.mem_cons_of_mem _ hy)⟩
theorem growF_skip {vs h : List Int} {mask : Nat} {last : Bool} {x : Atm} {ys : List Atm} {n : Nat} (hk : x.kind ≠ 2) : growF vs mask last (x :: ys) n h = growF vs mask last ys n h := by rw [growF, if_pos hk]
theorem growF_off {vs h : List Int} {mask : Nat} {last : Bool} {x : Atm} {ys : List Atm} {n : Nat} (hk : x.kind = 2) (hb : mask.testBit n = false) : growF vs mask last (x :: ys) n h = growF vs mask last ys (n + 1) h := by rw [growF, if_neg (by simp [hk]), if_pos hb]
theorem growF_none {vs h : List Int} {mask : Nat} {last : Bool} {x : Atm} {ys : List Atm} {n : Nat} (hk : x.kind = 2) (hb : mask.testBit n = true) (h0 : roomF h (tval vs x.b) last = 0) : growF vs mask last (x :: ys) n h = none := by
  rw [growF, if_neg (by simp [hk]), if_neg (by simp [hb]), growS, if_pos h0]
theorem growF_some {vs h : List Int} {mask : Nat} {last : Bool} {x : Atm} {ys : List Atm} {n : Nat} (hk : x.kind = 2) (hb : mask.testBit n = true) (h0 : roomF h (tval vs x.b) last ≠ 0) :
    growF vs mask last (x :: ys) n h = growF vs mask last ys (n + 1) ((h.set (roomF h (tval vs x.b) last - 1).toNat (tval vs x.b)).set (tval vs x.a - 1).toNat (roomF h (tval vs x.b) last)) := by
  rw [growF, if_neg (by simp [hk]), if_neg (by simp [hb]), growS, if_neg h0]
theorem grow_comm {vs h : List Int} {last : Bool} {x : Atm} {ys : List Atm} (hi : GrowI vs h (x :: ys)) (h0 : roomF h (tval vs x.b) last ≠ 0) :
    (h.set (roomF h (tval vs x.b) last - 1).toNat (tval vs x.b)).set (tval vs x.a - 1).toNat (roomF h (tval vs x.b) last) = (h.set (tval vs x.a - 1).toNat (roomF h (tval vs x.b) last)).set (roomF h (tval vs x.b) last - 1).toNat (tval vs x.b) := by
  have h1 := growS_comm (last := last) (hi.2 x List.mem_cons_self) h0
  rw [growS, if_neg h0] at h1
  exact Option.some.inj h1
/-- the state of a case in which some lists have two cells -/
def varF (a : Asn) (c : List Int) (mask : Nat) (last : Bool) : Option Ste := (growF (modV c) mask last (filledL a.atoms c) 0 (modS a c).heap).map fun h => ⟨modV c, h⟩
theorem grow_start {a : Asn} (hv : a.valid = true) {S : Nat} (h0 : S.testBit 0 = true) (hS : ∀ t ∈ termsL a, S.testBit t.toNat = true) {c : List Int} (hc : c ∈ cases a S) : GrowI (modV c) (modS a c).heap (filledL a.atoms c) := by
  have hf := filled_ok hv h0 hS hc
  have ha : ∀ x ∈ filledL a.atoms c, addrB (tval (modV c) x.a) = true := fun x hx => by
    have := (hf x hx).2.2.1
    simp only [addrB, decide_eq_true_eq]; omega
  refine ⟨by show (heapS _ _ _).length = 8; rw [heapS_len]; rfl, fun x hx => ?_⟩
  have key : ∀ (xs : List Atm) (h : List Int), h.length = 8 → (∀ x ∈ xs, addrB (tval (modV c) x.a) = true) → (∀ x ∈ xs, 0 ≤ tval (modV c) x.b) → ∀ n, (allocB h n = true ∨ ∃ x ∈ xs, tval (modV c) x.a = n) → allocB (heapS (modV c) h xs) n = true := by
    intro xs
    induction xs with
    | nil => intro h _ _ _ n hn; rcases hn with h1 | ⟨x, hx, -⟩; exact h1; cases hx
    | cons y ys ih =>
      intro h hl hA hB n hn
      refine ih (h.set (tval (modV c) y.a - 1).toNat (tval (modV c) y.b)) (by simp [hl]) (fun x hx => hA x (List.mem_cons_of_mem _ hx)) (fun x hx => hB x (List.mem_cons_of_mem _ hx)) n ?_
      rcases hn with h1 | ⟨x, hx, e⟩
      · exact Or.inl (alloc_set hl (hA y List.mem_cons_self) (hB y List.mem_cons_self) h1)
      · rcases List.mem_cons.1 hx with rfl | hx
        · left
          subst e
          unfold allocB
          rw [cont_set8 hl (hA x List.mem_cons_self) (hA x List.mem_cons_self), if_pos rfl, decide_eq_true_iff]
          exact hB x List.mem_cons_self
        · exact Or.inr ⟨x, hx, e⟩
  exact key _ _ rfl ha (fun x hx => (hf x hx).2.2.2.1) _ (Or.inr ⟨x, hx, rfl⟩)
/-- the bit of a mask, as the programs ask for it -/
theorem mask_and (m n : Nat) (hm : m < 4) : bits .and .i64 ((m : Int) / 2 ^ min n 64) 1 = if m.testBit n then 1 else 0 := by
  have h1 : (m : Int) / 2 ^ min n 64 = ((m / 2 ^ min n 64 : Nat) : Int) := by push_cast; rfl
  have hq : m / 2 ^ min n 64 < 4 := Nat.lt_of_le_of_lt (Nat.div_le_self _ _) hm
  have hb : m.testBit n = decide (m / 2 ^ min n 64 % 2 = 1) := by
    by_cases hn : n ≤ 64
    · rw [Nat.min_eq_left hn, Nat.testBit_eq_decide_div_mod_eq]
    · rw [Nat.testBit_lt_two_pow (Nat.lt_of_lt_of_le hm (by have : 2 ^ 2 ≤ 2 ^ n := Nat.pow_le_pow_right (by omega) (by omega); omega)), Nat.min_eq_right (by omega)]
      have : m / 2 ^ 64 = 0 := Nat.div_eq_of_lt (by omega)
      rw [this]; rfl
  rw [h1, hb]
  generalize m / 2 ^ min n 64 = q at hq
  have : q = 0 ∨ q = 1 ∨ q = 2 ∨ q = 3 := by omega
  rcases this with rfl | rfl | rfl | rfl <;> decide
end Go.Proofs.Yteogcababfenfaa
