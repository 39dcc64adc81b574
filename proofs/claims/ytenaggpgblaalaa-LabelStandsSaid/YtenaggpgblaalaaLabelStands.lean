/- The law LabelStands answers true. Condition: none (texts of more than 3000 bytes go by the examples alone). -/
import Derived.Test.YtenaggpgblaalaaLabelReads
import Derived.Test.YtenaggpgblaalaaLabelF
import Derived.Test.YtenaggpgblaalaaLabelCmp
namespace Go.Proofs.Ytenaggpgblaalaa.Label
open Go.RowKit Go.Proofs.Ytenaggpgblaalaa.PLabelReads Go.Proofs.YtenaggpgblaalaaW.PrintWords Go.Proofs.YtenaggpgblaalaaW.PrintLast Go.Proofs.YtenaggpgblaalaaW.PrintMore
open Plain (wrap_id)
open PlainRune
set_option linter.unusedVariables false
set_option linter.unusedSimpArgs false

theorem cmp_l (d : Nat) : ∀ (la lb : List Int) (i k : Nat), la.length = i + d → i ≤ lb.length → la.length ≤ 100000 → 2 * d + 2 ≤ k →
    compradorref03_Compare.l0 k la lb (i : Int) = some (cmp (la.drop i) (lb.drop i)) := by
  induction d with
  | zero =>
    intro la lb i k h1 h2 h3 h4
    obtain ⟨k', rfl⟩ : ∃ k', k = k' + 2 := ⟨k - 2, by omega⟩
    simp only [compradorref03_Compare.l0, compradorref03_Compare.j1]
    rw [if_neg (by omega), if_neg (by decide), List.drop_eq_nil_of_le (show la.length ≤ i by omega)]
    by_cases h : la.length < lb.length
    · rw [if_pos (by omega), List.drop_eq_getElem_cons (show i < lb.length by omega)]
      rfl
    · rw [if_neg (by omega), if_neg (by omega), List.drop_eq_nil_of_le (show lb.length ≤ i by omega)]
      rfl
  | succ d ih =>
    intro la lb i k h1 h2 h3 h4
    obtain ⟨k', rfl⟩ : ∃ k', k = k' + 2 := ⟨k - 2, by omega⟩
    have ha : i < la.length := by omega
    simp only [compradorref03_Compare.l0, compradorref03_Compare.j1]
    rw [if_pos (by omega), List.drop_eq_getElem_cons ha, ← rd_nat la i ha]
    by_cases h : i < lb.length
    · rw [if_pos (decide_eq_true (by omega)), if_pos (by omega), if_pos (by omega), if_pos (by omega), List.drop_eq_getElem_cons h, ← rd_nat lb i h, cmp_cc]
      generalize rd la (i : Int) = x
      generalize rd lb (i : Int) = y
      by_cases hx : x < y
      · rw [if_pos hx, if_pos hx]
      · rw [if_neg hx, if_neg hx]
        by_cases hy : y < x
        · rw [if_pos hy, if_pos hy]
        · rw [if_neg hy, if_neg hy, wrap_id (by omega) (by omega)]
          exact ih la lb (i + 1) k' (by omega) (by omega) h3 (by omega)
    · rw [if_neg (by simp; omega), if_neg (by omega), if_pos (by omega), List.drop_eq_nil_of_le (show lb.length ≤ i by omega)]
      rfl
theorem cmp_f (k : Nat) (a b : ByteArray) (ha : a.size ≤ 100000) (hb : b.size ≤ 100000) (hk : 300000 ≤ k) : compradorref03_Compare.f k a b = some (cmp (runes a) (runes b)) := by
  unfold compradorref03_Compare.f
  rw [runes_f k a ha (by omega), runes_f k b hb (by omega)]
  simp only [Option.bind_some]
  have hl := runes_le a
  exact cmp_l (runes a).length (runes a) (runes b) 0 k (by omega) (by omega) (by omega) (by omega)
theorem RCompare.calls (a b : ByteArray) (w : World) (ha : a.size ≤ 100000) (hb : b.size ≤ 100000) :
    Calls Try.prog 61 #[.string a, .string b] w fun e w' => e = .returned (.int .i64 (cmp (runes a) (runes b))) ∧ Below w.heap.size w w' :=
  compradorref03_Compare.calls 300000 a b _ w (cmp_f _ a b ha hb (by omega))
set_option maxRecDepth 100000 in
set_option maxHeartbeats 2000000 in
theorem Stands.calls (a b : ByteArray) (w : World) :
    Calls Try.prog 13 #[.string a, .string b] w fun e w' => e = .returned (.bool true) ∧ Below w.heap.size w w' := by
  by_cases hs : (a.size : Int) > 3000
  · have hsb : decide (3000 < (a.size : Int)) = true := decide_eq_true hs
    have hsb2 : decide (3000 < a.size) = true := decide_eq_true (by omega)
    clear hs
    go_enter Try.func13, Try.ntmps13
    go_wp2_with fail
    refine (awake.calls w).mono ?_
    rintro e w1 ⟨rfl, hb⟩
    go_wp2
    go_ret
    exact ⟨rfl, hb⟩
  · have hsb : decide (3000 < (a.size : Int)) = false := decide_eq_false hs
    have hsb2 : decide (3000 < a.size) = false := decide_eq_false (by omega)
    have hs1 : a.size ≤ 3000 := by omega
    have HS := Aside0.mk hs1
    clear hs hs1
    by_cases hs : (b.size : Int) > 3000
    · have hsc : decide (3000 < (b.size : Int)) = true := decide_eq_true hs
      have hsc2 : decide (3000 < b.size) = true := decide_eq_true (by omega)
      clear hs
      go_enter Try.func13, Try.ntmps13
      go_wp2_with fail
      refine (awake.calls w).mono ?_
      rintro e w1 ⟨rfl, hb⟩
      go_wp2
      go_ret
      exact ⟨rfl, hb⟩
    · have hsc : decide (3000 < (b.size : Int)) = false := decide_eq_false hs
      have hsc2 : decide (3000 < b.size) = false := decide_eq_false (by omega)
      have hs1 : b.size ≤ 3000 := by omega
      have HT := Aside0.mk hs1
      clear hs hs1
      have hin := cmp_in (runes a) (runes b)
      have hneg := cmp_neg (runes a) (runes b)
      have hself := cmp_self (runes a)
      obtain ⟨x, hx⟩ : ∃ x, x = cmp (runes a) (runes b) := ⟨_, rfl⟩
      rw [← hx] at hin hneg
      have e1 : (x == x) = true := beq_self_eq_true _
      have e2 : (-x == -x) = true := beq_self_eq_true _
      have b1 : -1 ≤ x := by omega
      have b2 : x ≤ 1 := by omega
      have HX := Aside0.mk hx
      have HN := Aside0.mk hneg
      have HF := Aside0.mk hself
      clear hx hneg hself hin
      go_enter Try.func13, Try.ntmps13
      go_wp2_with fail
      refine (Compare.calls a b w (by have := HS.out; omega) (by have := HT.out; omega)).mono ?_
      rintro e w1 ⟨rfl, hb⟩
      have HB1 := Aside0.mk hb
      clear hb
      rw [← HX.out]
      go_wp2_with fail
      refine (RCompare.calls a b w1 (by have := HS.out; omega) (by have := HT.out; omega)).mono ?_
      rintro e w2 ⟨rfl, hb⟩
      have HB2 := Aside0.mk (below_step HB1.out hb)
      clear hb HB1
      rw [← HX.out]
      go_wp2_with fail
      refine (Compare.calls b a w2 (by have := HT.out; omega) (by have := HS.out; omega)).mono ?_
      rintro e w3 ⟨rfl, hb⟩
      have HB3 := Aside0.mk (below_step HB2.out hb)
      clear hb HB2
      rw [HN.out]
      go_wp2_with fail
      refine (RCompare.calls a b w3 (by have := HS.out; omega) (by have := HT.out; omega)).mono ?_
      rintro e w4 ⟨rfl, hb⟩
      have HB4 := Aside0.mk (below_step HB3.out hb)
      clear hb HB3
      rw [← HX.out]
      go_wp2_with fail
      refine (Compare.calls a a w4 (by have := HS.out; omega) (by have := HS.out; omega)).mono ?_
      rintro e w5 ⟨rfl, hb⟩
      have HB5 := Aside0.mk (below_step HB4.out hb)
      clear hb HB4
      rw [HF.out]
      go_wp2_with fail
      refine (awake.calls _).mono ?_
      rintro e w6 ⟨rfl, hb⟩
      have HB6 := Aside0.mk (below_step HB5.out hb)
      clear hb HB5
      go_wp2
      go_ret
      exact ⟨rfl, HB6.out⟩
end Go.Proofs.Ytenaggpgblaalaa.Label
