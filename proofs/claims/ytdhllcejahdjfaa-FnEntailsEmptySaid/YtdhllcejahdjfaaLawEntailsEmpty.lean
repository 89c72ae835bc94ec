/- 'laws.FnEntailsEmpty' returns true for all bytes that can be read. -/
import Derived.Test.YtdhllcejahdjfaaDrawI
import Derived.Test.YtdhllcejahdjfaaCasesOf
import Derived.Deep.RegionHeld3
set_option linter.unusedSimpArgs false
set_option linter.unusedVariables false
namespace Go.Proofs.Ytdhllcejahdjfaa
open Go Go.RowKit Go.Proofs
attribute [local go_sem ↓] Go.wp_at_zero Go.wp_at_succ

--@ laws.FnEntailsEmpty
/-- some atom is filled in a case of a -/
def someF (a : Asn) : Bool := (casesV a).any fun c => a.atoms.any (Atm.fill c)
theorem ent_nil (a : Asn) (c : List Int) : entB a ⟨[], []⟩ c = !a.atoms.any (Atm.fill c) := by
  have h1 : entB a ⟨[], []⟩ c = (List.replicate (filledL a.atoms c).length false).all id := rfl
  rw [h1]
  have h2 : ∀ n : Nat, (List.replicate n false).all id = decide (n = 0) := by
    intro n; cases n <;> simp [List.replicate_succ]
  rw [h2]
  have h3 : (filledL a.atoms c).length = 0 ↔ a.atoms.any (Atm.fill c) = false := by
    unfold filledL
    rw [List.length_map, List.length_eq_zero_iff, List.filter_eq_nil_iff, List.any_eq_false]
  cases h4 : a.atoms.any (Atm.fill c)
  · rw [decide_eq_true (h3.2 h4)]; rfl
  · rw [decide_eq_false (fun e => by rw [h3.1 e] at h4; cases h4)]; rfl
theorem find_any {α : Type} (p : α → Bool) : ∀ l : List α, (l.find? p).isSome = l.any p
  | [] => rfl
  | x :: l => by
    rw [List.find?_cons, List.any_cons]
    cases p x
    · simpa using find_any p l
    · rfl
theorem ent_empty {a : Asn} (hv : a.valid = true) : entF a ⟨[], []⟩ = !someF a := by
  unfold entF someF casesV
  rw [hv, if_pos rfl]
  have e0 : tset (termsL (⟨[], []⟩ : Asn)) = 0 := by simp [termsL, tset]
  have e : failF a ⟨[], []⟩ = (cases a (caseS a 0)).find? fun c => !entB a ⟨[], []⟩ c := by unfold failF; rw [e0]
  rw [e, find_any]
  have e2 : (fun c => !entB a ⟨[], []⟩ c) = fun c => a.atoms.any (Atm.fill c) := by
    funext c
    rw [ent_nil, Bool.not_not]
  rw [e2]
  rfl
theorem any_step {α : Type} (p : α → Bool) {l : List α} {k : Nat} (hk : k < l.length) : (l.take (k + 1)).any p = ((l.take k).any p || p l[k]) := by
  rw [List.take_succ_eq_append_getElem hk, List.any_append]
  simp
theorem casesV_nine {a : Asn} : ∀ c ∈ casesV a, c.length = 9 := fun c hc => by
  unfold casesV at hc
  split at hc
  · exact cases_nine c hc
  · cases hc
theorem casesV_len (a : Asn) : (casesV a).length ≤ 362880 := by
  unfold casesV
  split
  · exact cases_len _ _
  · simp
theorem c_entE {lo hi lo' hi' : Nat} (v v' : Value) (a b : Asn) (w : World) (h : AsnV w lo hi v a) (h' : AsnV w lo' hi' v' b) (h1 : hi ≤ w.heap.size) (h2 : hi' ≤ w.heap.size) : Calls Try.prog 19 #[v, v'] w fun e w' => e = .returned (.bool (entF a b)) ∧ Below w.heap.size w w' := c_impl_Entails v v' a b w h h' h1 h2
set_option maxRecDepth 100000 in
set_option maxHeartbeats 6400000 in
theorem c_FnEntailsEmpty (v : Value) (A : Option Addr × Nat × Nat) (w : World) (h : v = .slice A.1 A.2.1 A.2.2 ∧ BytesR w A.1 A.2.1 A.2.2) : Calls Try.prog 7 #[v] w fun e w' => e = .returned (.bool true) ∧ Below w.heap.size w w' := by
  obtain ⟨A, n, c⟩ := A
  obtain ⟨rfl, hR⟩ := h
  simp only at hR ⊢
  have HR := Lib.hid hR
  clear hR
  by_cases hn : 1048576 < n
  · have hni : (1048576 : Int) < (n : Int) := by omega
    clear hn
    go_enter Try.func7, Try.ntmps7
    go_wp2_with fail
    go_ret
    exact ⟨rfl, (by repeat (first | (with_reducible exact Below.refl _ _) | (with_reducible assumption) | (with_reducible apply bbox) | ((with_reducible apply Below.setCell); (case hp => (first | exact Nat.le_refl _ | (simp; done) | (simp; omega) | (simp only; omega) | omega))) | (with_reducible apply Below.drew) | (with_reducible apply below_drewN)))⟩
  have hni : ¬ (1048576 : Int) < (n : Int) := by omega
  clear hn
  go_enter Try.func7, Try.ntmps7
  go_wp2_with fail
  refine (c_DrawEntails A n c _ HR.out).mono ?_
  rintro e w1 ⟨r1, r2, a, a', rfl, oa, ob, hB1⟩
  have HB1 := Lib.hid hB1
  have hav : AsnV w1 0 w1.heap.size r1 a := (AsnO.reads oa).mono (Nat.zero_le _) (Nat.le_refl _)
  obtain ⟨F, f, G, g, rfl, -, -⟩ := id hav
  obtain ⟨F2, f2, G2, g2, rfl, -, -⟩ := id (AsnO.reads ob)
  have HA := Lib.hid hav
  clear hB1 oa ob hav hni HR
  obtain ⟨ka, -⟩ := blk2 w1 tAs tAs #[.slice F a.facts.length f, .slice G a.atoms.length g] #[.slice F2 a'.facts.length f2, .slice G2 a'.atoms.length g2]
  have hBx : Below w1.heap.size w1 (((w1.alloc (.cells #[.slice F a.facts.length f, .slice G a.atoms.length g] tAs)).alloc (.cells #[.slice F2 a'.facts.length f2, .slice G2 a'.atoms.length g2] tAs)).alloc (.cells #[.slice none 0 0, .slice none 0 0] tAs)) := bbox (bbox (bbox (Below.refl _ _) _) _) _
  have ke := Blk.new ((w1.alloc (.cells #[.slice F a.facts.length f, .slice G a.atoms.length g] tAs)).alloc (.cells #[.slice F2 a'.facts.length f2, .slice G2 a'.atoms.length g2] tAs)) tAs #[.slice none 0 0, .slice none 0 0]
  rw [show ((w1.alloc (.cells #[.slice F a.facts.length f, .slice G a.atoms.length g] tAs)).alloc (.cells #[.slice F2 a'.facts.length f2, .slice G2 a'.atoms.length g2] tAs)).heap.size = w1.heap.size + 2 from by simp] at ke
  replace ka := ka.alloc (.cells #[.slice none 0 0, .slice none 0 0] tAs)
  have lka := ka.lt
  have lke := ke.lt
  go_wp2_with fail
  generalize (((w1.alloc (.cells #[.slice F a.facts.length f, .slice G a.atoms.length g] tAs)).alloc (.cells #[.slice F2 a'.facts.length f2, .slice G2 a'.atoms.length g2] tAs)).alloc (.cells #[.slice none 0 0, .slice none 0 0] tAs)) = W2 at ka ke hBx lka lke ⊢
  have HB2 := Lib.hid hBx
  clear hBx
  have HEV : Hid (∀ W, AsnV W 0 W.heap.size (.agg #[.slice none 0 0, .slice none 0 0]) ⟨[], []⟩) := fun W => ⟨none, 0, none, 0, rfl, Rd.nil _ _ _ _ _, Rd.nil _ _ _ _ _⟩
  have HAT : Hid (∀ W, Below w1.heap.size w1 W → AsnV W 0 W.heap.size (.agg #[.slice F a.facts.length f, .slice G a.atoms.length g]) a) := fun W hW => (HA.out.below hW).mono (Nat.le_refl _) hW.size
  refine (c_entE _ _ a ⟨[], []⟩ _ (HAT.out _ HB2.out) (HEV.out _) (Nat.le_refl _) (Nat.le_refl _)).mono ?_
  rintro e w3 ⟨rfl, hB3⟩
  have HB3 := Lib.hid (bgo HB2.out hB3)
  replace ka := ka.next hB3
  replace ke := ke.next hB3
  clear hB3 HB2
  (replace qka := ka.cell; replace rka := ka.frozen; replace lka := ka.lt; replace qke := ke.cell; replace rke := ke.frozen; replace lke := ke.lt)
  obtain ⟨E, hE⟩ : ∃ E, E = entF a ⟨[], []⟩ := ⟨_, rfl⟩
  have HE := Lib.hid hE
  rw [← hE]
  clear hE
  go_wp2_with fail
  refine (c_spec_Entails _ _ a ⟨[], []⟩ _ (HAT.out _ HB3.out) (HEV.out _)).mono ?_
  rintro e w4 ⟨rfl, hB4⟩
  rw [← HE.out]
  have HB4 := Lib.hid (bgo HB3.out hB4)
  replace ka := ka.next hB4
  replace ke := ke.next hB4
  clear hB4 HB3
  (replace qka := ka.cell; replace rka := ka.frozen; replace lka := ka.lt; replace qke := ke.cell; replace rke := ke.frozen; replace lke := ke.lt)
  have hne : (E != E) = false := by cases E <;> rfl
  have heq : (E == E) = true := by cases E <;> rfl
  go_wp2_with fail
  refine (c_impl_AssertionValid _ a _ (HAT.out _ HB4.out)).mono ?_
  rintro e w5 ⟨rfl, hB5⟩
  have HB5 := Lib.hid (bgo HB4.out hB5)
  replace ka := ka.next hB5
  replace ke := ke.next hB5
  clear hB5 HB4
  (replace qka := ka.cell; replace rka := ka.frozen; replace lka := ka.lt; replace qke := ke.cell; replace rke := ke.frozen; replace lke := ke.lt)
  cases hv : a.valid
  · clear hv
    go_wp2_with fail
    refine (c_spec_Entails _ _ a ⟨[], []⟩ _ (HAT.out _ HB5.out) (HEV.out _)).mono ?_
    rintro e w6 ⟨rfl, hB6⟩
    rw [← HE.out]
    go_wp2_with fail
    go_ret
    exact ⟨rfl, bgo HB1.out (bgo HB5.out hB6)⟩
  have HV := Lib.hid hv
  have HEE : Hid (E = !someF a) := by show _ = _; rw [HE.out]; exact ent_empty hv
  have HL := Lib.hid (valid_len hv)
  clear hv HE hne heq
  go_wp2_with fail
  refine (c_impl_CasesOf _ a _ (HAT.out _ HB5.out) (Nat.le_refl _)).mono ?_
  rintro e w6 ⟨r6, rfl, o6, hB6⟩
  obtain ⟨A6, c6, rfl⟩ := o6.1.form
  obtain ⟨vs, hvs⟩ := o6.1
  have HI := Lib.hid (hvs.reads).2
  have HB6 := Lib.hid (bgo HB5.out hB6)
  replace ka := ka.next hB6
  clear hB6 HB5 o6 hvs ke qke rke lke qka rka lka vs
  have HC9 := Lib.hid (casesV_nine (a := a))
  have HCL := Lib.hid (casesV_len a)
  have HSF : Hid (someF a = (casesV a).any fun c => a.atoms.any (Atm.fill c)) := rfl
  obtain ⟨L, hL⟩ : ∃ L, L = casesV a := ⟨_, rfl⟩
  rw [← hL] at HI HC9 HCL HSF ⊢
  have KA := Lib.hid ka
  clear hL ka
  go_wp2_with fail
  go_loopw [8, 9] (fun fl i wr => ∃ (k : Nat) (fb : Bool), k ≤ L.length ∧ i = .int .i64 k ∧ fl = .bool fb ∧ Hid (fb = (L.take k).any fun c => a.atoms.any (Atm.fill c)) ∧ Hid (Below w6.heap.size w6 wr)) (fun _ i _ => L.length - (intOf i).toNat)
  case atStart => exact ⟨0, false, Nat.zero_le _, rfl, rfl, rfl, Below.refl _ _⟩
  case round =>
    obtain ⟨i, fb, hi, rfl, rfl, HFB, HB⟩ := hrel
    have hll := HCL.out
    have ka := KA.out.below HB.out KA.out.lt
    (replace qka := ka.cell; replace rka := ka.frozen; replace lka := ka.lt)
    by_cases hil : i < L.length
    · have hii : (i : Int) < (L.length : Int) := by omega
      have HST := Lib.hid (any_step (fun c => a.atoms.any (Atm.fill c)) hil)
      obtain ⟨C, hC⟩ : ∃ C, C = L[i] := ⟨_, rfl⟩
      have HCC := Lib.hid hC
      have HC : Hid (C.length = 9) := by show _ = _; rw [hC]; exact HC9.out _ (List.getElem_mem hil)
      rw [← hC] at HST
      clear hC ka
      go_wp2_with fail
      go_loopw [8, 10] (fun fl k wx => ∃ (m : Nat) (fc : Bool), m ≤ a.atoms.length ∧ k = .int .i64 m ∧ fl = .bool fc ∧ Hid (fc = (fb || (a.atoms.take m).any (Atm.fill C))) ∧ Hid (Below w6.heap.size w6 wx)) (fun _ k _ => a.atoms.length - (intOf k).toNat)
      case atStart => exact ⟨0, fb, Nat.zero_le _, rfl, rfl, by show _ = _; simp, HB⟩
      case round =>
        clear HB qka rka lka
        obtain ⟨m, fc, hm, rfl, rfl, HFC, HB⟩ := hrel
        have ka := KA.out.below HB.out KA.out.lt
        have hal := HL.out.2
        (replace qka := ka.cell; replace rka := ka.frozen; replace lka := ka.lt)
        by_cases hml : m < a.atoms.length
        · have hmi : (m : Int) < (a.atoms.length : Int) := by omega
          have hBw := bgo HB6.out HB.out
          obtain ⟨A3, c3, A4, c4, eav, -, hx⟩ := HA.out
          injection eav with eav
          injection eav with eav
          injection eav with eav1 eav2
          injection eav2 with eav2
          injection eav2 with eg1 eg2 eg3
          subst eg1
          have HX := Lib.hid (hx.below hBw)
          have hall := Lib.hid ((Asn.valid_ok HV.out).2 a.atoms[m] (List.getElem_mem hml))
          have HSA := Lib.hid (any_step (Atm.fill C) hml)
          obtain ⟨b, off, e, hbl⟩ := HX.out.blt hml
          subst e
          obtain ⟨g0, g1, g2⟩ := HX.out.cl hml
          obtain ⟨z, hz⟩ : ∃ z, z = a.atoms[m] := ⟨_, rfl⟩
          rw [← hz] at g0 g1 g2 hall HSA
          clear hz eav1 eg2 eg3 hx hbl
          obtain ⟨zk, za, zb⟩ := z
          simp only at g0 g1 g2 hall
          obtain ⟨ta, rfl⟩ := Int.eq_ofNat_of_zero_le hall.out.1.1
          obtain ⟨tb, rfl⟩ := Int.eq_ofNat_of_zero_le hall.out.2.1
          have hta : ta < C.length := by have := HC.out; have := hall.out.1.2; omega
          have htb : tb < C.length := by have := HC.out; have := hall.out.2.2; omega
          obtain ⟨bI, oI, BI, cI, e, hbI, cellI, hVI⟩ := (HI.out.below HB.out).at hil
          subst e
          rw [← HCC.out] at cellI hVI
          obtain ⟨bC, oC, e, cellA⟩ := hVI.at hta
          subst e
          obtain ⟨bC2, oC2, e, cellB⟩ := hVI.at htb
          simp only [Option.some.injEq, Addr.mk.injEq, and_true] at e
          obtain ⟨rfl, rfl⟩ := e
          obtain ⟨va, hva⟩ : ∃ va, va = C[ta] := ⟨_, rfl⟩
          obtain ⟨vb, hvb⟩ : ∃ vb, vb = C[tb] := ⟨_, rfl⟩
          rw [← hva] at cellA
          rw [← hvb] at cellB
          have HFI : Hid (Atm.fill C ⟨zk, (ta : Int), (tb : Int)⟩ = ((zk == 1) || (va != vb))) := by
            have ea : cl C (ta : Int) = va := by unfold cl; rw [Int.toNat_natCast, List.getElem?_eq_getElem hta, hva]; rfl
            have eb : cl C (tb : Int) = vb := by unfold cl; rw [Int.toNat_natCast, List.getElem?_eq_getElem htb, hvb]; rfl
            show (decide (zk = 1) || !decide (cl C (ta : Int) = cl C (tb : Int))) = _
            simp only [ea, eb]
            by_cases e1 : zk = 1 <;> by_cases e2 : va = vb <;> simp [e1, e2]
          rw [HFI.out] at HSA
          have hcl := HC.out
          have htai : (ta : Int) < 9 := by omega
          have htbi : (tb : Int) < 9 := by omega
          rw [hcl] at cellI
          clear hva hvb hVI hbI HX hcl hta htb HFI
          have HBd : Hid (∀ k, Below w6.heap.size w6 (wr.drewN k)) := fun k => below_drewN HB.out k
          cases fc
          · by_cases hz1 : zk = 1
            · have e1 : (zk == 1) = true := by simpa using hz1
              rw [e1] at HSA
              clear hz1
              go_wp2_with fail
              go_quiet (fail)
              go_wp2_with fail
              go_round
              case rel => exact ⟨m + 1, true, by omega, by go_num, rfl, by show _ = _; rw [HSA.out]; simp, HBd.out _⟩
              case measure => simp [intOf]; omega
            · have e1 : (zk == 1) = false := by simpa using hz1
              rw [e1] at HSA
              clear hz1
              go_wp2_with fail
              go_quiet (fail)
              go_wp2_with fail
              go_round
              case rel =>
                have HT : Hid ((va != vb) = (fb || (a.atoms.take (m + 1)).any (Atm.fill C))) := by
                  show _ = _
                  have h1 := HFC.out
                  rw [HSA.out, ← Bool.or_assoc, ← h1]
                  simp
                first
                | exact ⟨m + 1, (va != vb), by omega, by go_num, rfl, HT, HBd.out _⟩
                | exact ⟨m + 1, by omega, by go_num, HT, HBd.out _⟩
                | exact ⟨m + 1, by omega, by omega, HT, HBd.out _⟩
                | exact ⟨m + 1, by omega, by go_num, (va != vb), rfl, HT, HBd.out _⟩
                | exact ⟨m + 1, by omega, by omega, (va != vb), rfl, HT, HBd.out _⟩
              case measure => simp [intOf]; omega
          · go_wp2_with fail
            go_quiet (fail)
            go_wp2_with fail
            go_round
            case rel => exact ⟨m + 1, true, by omega, by go_num, rfl, by show _ = _; rw [HSA.out, ← Bool.or_assoc, ← HFC.out]; rfl, HBd.out _⟩
            case measure => simp [intOf]; omega
        · obtain rfl : m = a.atoms.length := by omega
          go_wp2_with fail
          go_round
          case rel => exact ⟨i + 1, fc, by omega, by go_num, rfl, by show _ = _; rw [HFC.out, List.take_length, HST.out, HFB.out], HB⟩
          case measure => simp [intOf]; omega
    · obtain rfl : i = L.length := by omega
      have HQ : Hid (E = !fb) := by show _ = _; rw [HEE.out, HSF.out, HFB.out, List.take_length]
      clear HEE HSF HFB
      go_wp2_with fail
      go_ret
      exact ⟨by rw [HQ.out]; cases fb <;> rfl, bgo HB1.out (bgo HB6.out HB.out)⟩
end Go.Proofs.Ytdhllcejahdjfaa
