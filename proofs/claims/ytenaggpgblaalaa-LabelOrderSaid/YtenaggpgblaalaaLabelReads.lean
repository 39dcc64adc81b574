/- The law LabelReads answers true. Condition: none (a text of more than 3000 bytes goes by the examples alone). -/
import Derived.Test.YtenaggpgblaalaaLabelE
namespace Go.Proofs.Ytenaggpgblaalaa.Label
open Go.RowKit Go.Proofs.Ytenaggpgblaalaa.PLabelReads Go.Proofs.YtenaggpgblaalaaW.PrintWords Go.Proofs.YtenaggpgblaalaaW.PrintLast Go.Proofs.YtenaggpgblaalaaW.PrintMore
open PlainRune
set_option linter.unusedVariables false
set_option linter.unusedSimpArgs false

theorem eq56 (m0 m1 m2 m3 : Int) (w : World) : (Op.equalIn 10000 56 (.agg #[.int .i64 m0, .int .i64 m1, .int .i64 m2, .int .i64 m3]) (.agg #[.int .i64 m0, .int .i64 m1, .int .i64 m2, .int .i64 m3])).run Try.prog w = .ok true w := by
  rw [show (10000 : Nat) = 9998 + 1 + 1 from rfl]
  unfold Op.equalIn
  simp only [Sem.run_bind, run_underlying Try.underlying56, Result.andThen_ok, Try.sizeOf3]
  simp [Std.Legacy.Range.forIn_eq_forIn_range', Std.Legacy.Range.size, List.range', part, Sem.run_bind, Try.sizeOf3, Try.isAgg3, run_equalIn_int w 9998 3 .i64 .i64 _ _ Try.underlying3]
theorem awake.calls (w : World) : Calls Try.prog 47 #[] w fun e w' => e = .returned (.bool true) ∧ Below w.heap.size w w' := by
  go_enter Try.func47, Try.ntmps47
  go_wp2_with fail
  refine (Fit.calls ⟨#[206, 177, 45, 49]⟩ w (by decide)).mono ?_
  rintro e w1 ⟨rfl, hb⟩
  rw [show fit ⟨#[206, 177, 45, 49]⟩ = true from by decide +kernel]
  have HB1 := Aside0.mk hb
  clear hb
  go_wp2_with fail
  refine (Fit.calls ⟨#[49, 97]⟩ w1 (by decide)).mono ?_
  rintro e w2 ⟨rfl, hb⟩
  rw [show fit ⟨#[49, 97]⟩ = false from by decide +kernel]
  have HB2 := Aside0.mk (below_step HB1.out hb)
  clear hb HB1
  go_wp2_with fail
  refine (Size.calls ⟨#[206, 177, 206, 178]⟩ w2 (by decide)).mono ?_
  rintro e w3 ⟨rfl, hb⟩
  rw [show ((runes ⟨#[206, 177, 206, 178]⟩).length : Int) = 2 from by decide +kernel]
  have HB3 := Aside0.mk (below_step HB2.out hb)
  clear hb HB2
  go_wp2_with fail
  refine (Clip.calls ⟨#[206, 177, 206, 178]⟩ 1 w3 (by decide) (by decide)).mono ?_
  rintro e w4 ⟨rfl, hb⟩
  rw [show clip ⟨#[206, 177, 206, 178]⟩ 1 = ⟨#[206, 177]⟩ from by decide +kernel]
  have HB4 := Aside0.mk (below_step HB3.out hb)
  clear hb HB3
  go_wp2
  go_ret
  exact ⟨rfl, HB4.out⟩
set_option maxRecDepth 100000 in
set_option maxHeartbeats 2000000 in
theorem Reads.calls (s : ByteArray) (n : Int) (w : World) (hn : n ≤ 9223372036854775807) :
    Calls Try.prog 11 #[.string s, .int .i64 n] w fun e w' => e = .returned (.bool true) ∧ Below w.heap.size w w' := by
  by_cases hs : (s.size : Int) > 3000
  · have hsb : decide (3000 < (s.size : Int)) = true := decide_eq_true hs
    have hsb2 : decide (3000 < s.size) = true := decide_eq_true (by omega)
    clear hs
    go_enter Try.func11, Try.ntmps11
    go_wp2_with fail
    refine (awake.calls w).mono ?_
    rintro e w1 ⟨rfl, hb⟩
    go_wp2
    go_ret
    exact ⟨rfl, hb⟩
  · have hsb : decide (3000 < (s.size : Int)) = false := decide_eq_false hs
    have hsb2 : decide (3000 < s.size) = false := decide_eq_false (by omega)
    have hs1 : s.size ≤ 3000 := by omega
    have HS := Aside0.mk hs1
    clear hs hs1
    have HN := Aside0.mk hn
    clear hn
    go_enter Try.func11, Try.ntmps11
    go_wp2_with fail
    refine (Fit.calls s w (by have := HS.out; omega)).mono ?_
    rintro e w1 ⟨rfl, hb⟩
    have HB1 := Aside0.mk hb
    clear hb
    go_wp2_with fail
    refine (RFit.calls s w1 (by have := HS.out; omega)).mono ?_
    rintro e w2 ⟨rfl, hb⟩
    have HB2 := Aside0.mk (below_step HB1.out hb)
    clear hb HB1
    have eb : (fit s == fit s) = true := beq_self_eq_true _
    generalize fit s = b1 at eb ⊢
    go_wp2_with fail
    refine (Size.calls s w2 (by have := HS.out; omega)).mono ?_
    rintro e w3 ⟨rfl, hb⟩
    have HB3 := Aside0.mk (below_step HB2.out hb)
    clear hb HB2
    go_wp2_with fail
    refine (RRunes.calls s w3 (by have := HS.out; omega)).mono ?_
    rintro e w4 ⟨v0, rfl, hr, hb⟩
    obtain ⟨A, c, rfl⟩ := Kd.R_slice hr
    have HB4 := Aside0.mk (below_step HB3.out hb)
    clear hb HB3 hr
    generalize (runes s).length = L
    have el : ((L : Int) == (L : Int)) = true := beq_self_eq_true _
    go_wp2_with fail
    refine (Marks.calls s w4 (by have := HS.out; omega)).mono ?_
    rintro e w5 ⟨rfl, hb⟩
    have HB5 := Aside0.mk (below_step HB4.out hb)
    clear hb HB4
    go_wp2_with fail
    refine (RMarks.calls s w5 (by have := HS.out; omega)).mono ?_
    rintro e w6 ⟨rfl, hb⟩
    have HB6 := Aside0.mk (below_step HB5.out hb)
    clear hb HB5
    generalize mk 0 (runes s) = m0
    generalize mk 1 (runes s) = m1
    generalize mk 2 (runes s) = m2
    generalize mk 3 (runes s) = m3
    have heq := eq56 m0 m1 m2 m3
    go_wp2_with fail
    refine (Clip.calls s n w6 (by have := HS.out; omega) HN.out).mono ?_
    rintro e w7 ⟨rfl, hb⟩
    have HB7 := Aside0.mk (below_step HB6.out hb)
    clear hb HB6
    go_wp2_with fail
    refine (RClip.calls s n w7 (by have := HS.out; omega) HN.out).mono ?_
    rintro e w8 ⟨rfl, ⟨nd, rfl⟩⟩
    have HB8 := Aside0.mk (pw_below_drewN HB7.out nd)
    clear HB7
    generalize clip s n = t
    go_wp2_with fail
    refine (awake.calls _).mono ?_
    rintro e w9 ⟨rfl, hb⟩
    have HB9 := Aside0.mk (below_step HB8.out hb)
    clear hb HB8
    go_wp2
    go_ret
    exact ⟨rfl, HB9.out⟩
end Go.Proofs.Ytenaggpgblaalaa.Label
