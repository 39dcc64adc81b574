/- The timer's examples hold. No condition. -/
import Derived.Test.YtenaggpgblaalaaTimerDue
namespace Go.Proofs.Ytenaggpgblaalaa.Timer
open Go.RowKit Go.Proofs.Ytenaggpgblaalaa.PTimerPlays Go.Proofs.YtenaggpgblaalaaW.PrintWords Go.Proofs.YtenaggpgblaalaaW.PrintLast Go.Proofs.YtenaggpgblaalaaW.PrintMore
open Plain (wrap_id hold)
set_option linter.unusedVariables false
set_option linter.unusedSimpArgs false

theorem New.ts (w : World) : Calls Try.prog 64 #[] w fun e w' => ∃ g, e = .returned (.pointer (some ⟨g, 0, none⟩)) ∧ TS w.heap.size w' g 0 [] ∧ Below w.heap.size w w' := by
  refine (New.calls w).mono ?_
  rintro e w' ⟨g, gm, rfl, h, hb⟩
  exact ⟨g, rfl, ⟨none, 0, gm, [], _, h, ⟨fun i hi => absurd hi (Nat.not_lt_zero i), fun x i hx => (by cases hx), fun i hi => absurd hi (Nat.not_lt_zero i)⟩, fun i _ hi => absurd hi (Nat.not_lt_zero i), List.Perm.refl _⟩, hb⟩
def za : List S106 := [⟨⟨#[97]⟩, 5, 1⟩]
def zb : List S106 := [⟨⟨#[97]⟩, 5, 1⟩, ⟨⟨#[98]⟩, 3, 2⟩]
def zc : List S106 := [⟨⟨#[97]⟩, 5, 1⟩, ⟨⟨#[98]⟩, 3, 2⟩, ⟨⟨#[99]⟩, 5, 3⟩]
def zd : List S106 := [⟨⟨#[97]⟩, 5, 1⟩, ⟨⟨#[99]⟩, 5, 3⟩]
theorem due4 : due (hold 4) 1001 zc = ([⟨#[98]⟩], zd) := by kernel_rfl
theorem due5 : due (hold 5) 1001 zd = ([⟨#[97]⟩, ⟨#[99]⟩], []) := by kernel_rfl
set_option maxHeartbeats 4000000 in
set_option maxRecDepth 100000 in
theorem awake.calls (w : World) : Calls Try.prog 63 #[] w fun e w' => e = .returned (.bool true) ∧ Below w.heap.size w w' := by
  go_enter Try.func63, Try.ntmps63
  go_wp2_with fail
  refine (New.ts w).mono ?_
  rintro e w1 ⟨g, rfl, h1, hb⟩
  have HT1 := Aside0.mk (Turn.below (N0 := w.heap.size) hb)
  have H1 := Aside0.mk h1
  clear h1 hb
  go_wp2_with fail
  refine (Set.calls H1.out (by decide) ⟨#[97]⟩ (by decide) 5 (by omega) (by omega)).mono ?_
  rintro e w2 ⟨rfl, h2, ht⟩
  have H2 := Aside0.mk (show TS w.heap.size w2 g 1 za from h2)
  have HT2 := Aside0.mk (HT1.out.trans ht)
  clear h2 ht H1 HT1
  go_wp2_with fail
  refine (Set.calls H2.out (by decide) ⟨#[98]⟩ (by decide) 3 (by omega) (by omega)).mono ?_
  rintro e w3 ⟨rfl, h3, ht⟩
  have H3 := Aside0.mk (show TS w.heap.size w3 g 2 zb from h3)
  have HT3 := Aside0.mk (HT2.out.trans ht)
  clear h3 ht H2 HT2
  go_wp2_with fail
  refine (Set.calls H3.out (by decide) ⟨#[99]⟩ (by decide) 5 (by omega) (by omega)).mono ?_
  rintro e w4 ⟨rfl, h4, ht⟩
  have H4 := Aside0.mk (show TS w.heap.size w4 g 3 zc from h4)
  have HT4 := Aside0.mk (HT3.out.trans ht)
  clear h4 ht H3 HT3
  go_wp2_with fail
  refine (Due.calls H4.out (by unfold Rise zc; decide) (by decide) (by decide) 4).mono ?_
  rintro e w5 ⟨v5, rfl, r5, h5, ht⟩
  rw [due4] at r5 h5
  have R5 := Aside0.mk r5
  have H5 := Aside0.mk h5
  have HT5 := Aside0.mk (HT4.out.trans ht)
  clear r5 h5 ht H4 HT4
  go_wp2_with fail
  refine (Due.calls H5.out (by unfold Rise zd; decide) (by decide) (by decide) 5).mono ?_
  rintro e w6 ⟨v6, rfl, r6, h6, ht⟩
  rw [due5] at r6 h6
  have r5 := NR.turn R5.out ht
  have HT6 := Aside0.mk (HT5.out.trans ht)
  clear h6 ht H5 HT5 R5
  obtain ⟨b5, c5, rfl, _⟩ := Kd.R_form r5 (by decide)
  obtain ⟨b6, c6, rfl, _⟩ := Kd.R_form r6 (by decide)
  obtain ⟨a5, e5, x5⟩ := Kd.at_string (Kd.R_reads' r5).2.2 0 (by decide) (by decide)
  obtain ⟨a6, e6, x6⟩ := Kd.at_string (Kd.R_reads' r6).2.2 0 (by decide) (by decide)
  obtain ⟨a7, e7, x7⟩ := Kd.at_string (Kd.R_reads' r6).2.2 1 (by decide) (by decide)
  cases e5
  cases e6
  cases e7
  have x5' : w6.cell? ⟨b5, 0, none⟩ = some (.string ⟨#[98]⟩) := x5
  have x6' : w6.cell? ⟨b6, 0, none⟩ = some (.string ⟨#[97]⟩) := x6
  have x7' : w6.cell? ⟨b6, 1, none⟩ = some (.string ⟨#[99]⟩) := x7
  clear x5 x6 x7 r5 r6
  go_wp2
  go_ret
  exact ⟨rfl, HT6.out.toBelow⟩
end Go.Proofs.Ytenaggpgblaalaa.Timer
