/- The law LabelOrder answers true. Condition: none. -/
import Derived.Test.YtenaggpgblaalaaLabelO1
import Derived.Test.YtenaggpgblaalaaLabelO2
namespace Go.Proofs.Ytenaggpgblaalaa.Label
open Go.RowKit Go.Proofs.Ytenaggpgblaalaa.PLabelReads Go.Proofs.YtenaggpgblaalaaW.PrintWords Go.Proofs.YtenaggpgblaalaaW.PrintLast Go.Proofs.YtenaggpgblaalaaW.PrintMore
open PlainRune
set_option linter.unusedVariables false
set_option linter.unusedSimpArgs false

theorem Order.out1 (a b : ByteArray) (n : Int) (w : World) (hfa : fit a = false) :
    Calls Try.prog 14 #[.string a, .string b, .int .i64 n] w fun e w' => e = .returned (.bool true) ∧ Below w.heap.size w w' := by
  have HFA := Aside0.mk hfa
  clear hfa
  go_enter Try.func14, Try.ntmps14
  go_wp2_with fail
  refine (Fit.any a w).mono ?_
  rintro e w1 ⟨rfl, hb⟩
  rw [HFA.out]
  have HB1 := Aside0.mk hb
  clear hb
  go_wp2_with fail
  refine (awake.calls w1).mono ?_
  rintro e w2 ⟨rfl, hb⟩
  have HB2 := Aside0.mk (below_step HB1.out hb)
  clear hb HB1
  go_wp2
  go_ret
  exact ⟨rfl, HB2.out⟩
theorem Order.out2 (a b : ByteArray) (n : Int) (w : World) (hfa : fit a = true) (hfb : fit b = false) :
    Calls Try.prog 14 #[.string a, .string b, .int .i64 n] w fun e w' => e = .returned (.bool true) ∧ Below w.heap.size w w' := by
  have HFA := Aside0.mk hfa
  have HFB := Aside0.mk hfb
  clear hfa hfb
  go_enter Try.func14, Try.ntmps14
  go_wp2_with fail
  refine (Fit.any a w).mono ?_
  rintro e w1 ⟨rfl, hb⟩
  rw [HFA.out]
  have HB1 := Aside0.mk hb
  clear hb
  go_wp2_with fail
  refine (Fit.any b w1).mono ?_
  rintro e w2 ⟨rfl, hb⟩
  rw [HFB.out]
  have HB2 := Aside0.mk (below_step HB1.out hb)
  clear hb HB1
  go_wp2_with fail
  refine (awake.calls w2).mono ?_
  rintro e w3 ⟨rfl, hb⟩
  have HB3 := Aside0.mk (below_step HB2.out hb)
  clear hb HB2
  go_wp2
  go_ret
  exact ⟨rfl, HB3.out⟩
theorem Order.calls (a b : ByteArray) (n : Int) (w : World) (hn : n ≤ 9223372036854775807) :
    Calls Try.prog 14 #[.string a, .string b, .int .i64 n] w fun e w' => e = .returned (.bool true) ∧ Below w.heap.size w w' := by
  cases hfa : fit a with
  | false => exact Order.out1 a b n w hfa
  | true =>
    cases hfb : fit b with
    | false => exact Order.out2 a b n w hfa hfb
    | true =>
      rcases cmp_in (runes a) (runes b) with hx | hx | hx
      · by_cases h : n < 1
        · exact Order.ltNone a b n w hn hfa hfb hx h
        · exact Order.ltSome a b n w hn hfa hfb hx (by omega)
      · by_cases h : n < 1
        · exact Order.eqNone a b n w hn hfa hfb hx h
        · exact Order.eqSome a b n w hn hfa hfb hx (by omega)
      · by_cases h : n < 1
        · exact Order.gtNone a b n w hn hfa hfb hx h
        · exact Order.gtSome a b n w hn hfa hfb hx (by omega)
end Go.Proofs.Ytenaggpgblaalaa.Label
