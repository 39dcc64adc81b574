-- PRINTED BY print.sh 35421559b90ae4d0a3588c463048766b98c2df88dd9212a6774a882060cdf62d: not written by this session
import Derived.Test.YtenaggpgblaalaaPLabelReadsx0
namespace Go.Proofs.Ytenaggpgblaalaa.PLabelReads
open Go.RowKit Go.Proofs.YtenaggpgblaalaaW.PrintWords Go.Proofs.YtenaggpgblaalaaW.PrintLast Go.Proofs.YtenaggpgblaalaaW.PrintMore
attribute [local go_sem] max2_int min2_int max_two min_two max_three min_three max_four min_four   -- for this text's walks alone
set_option linter.unusedVariables false
set_option linter.unusedSimpArgs false

/-! ### compradorref03_wide: function 91 -/
mutual
def compradorref03_wide.j0 : Nat → ByteArray → Int → Int → Int → Bool → Option (Int)
  | 0, _, _, _, _, _ => none
  | k + 1, x0, x1, x5, x6, x18 => if x18 = true then (compradorref03_wide.j1 k x0 x1 2 x6) else (compradorref03_wide.j1 k x0 x1 x5 x6)
def compradorref03_wide.j1 : Nat → ByteArray → Int → Int → Int → Option (Int)
  | 0, _, _, _, _ => none
  | k + 1, x0, x1, x5, x6 => if x6 ≥ 224 then (compradorref03_wide.j2 k x0 x1 x5 x6 (decide (x6 ≤ 239))) else (compradorref03_wide.j2 k x0 x1 x5 x6 false)
def compradorref03_wide.j2 : Nat → ByteArray → Int → Int → Int → Bool → Option (Int)
  | 0, _, _, _, _, _ => none
  | k + 1, x0, x1, x5, x6, x24 => if x24 = true then (compradorref03_wide.j3 k x0 x1 3 x6) else (compradorref03_wide.j3 k x0 x1 x5 x6)
def compradorref03_wide.j3 : Nat → ByteArray → Int → Int → Int → Option (Int)
  | 0, _, _, _, _ => none
  | k + 1, x0, x1, x5, x6 => if x6 ≥ 240 then (compradorref03_wide.j4 k x0 x1 x5 x6 (decide (x6 ≤ 244))) else (compradorref03_wide.j4 k x0 x1 x5 x6 false)
def compradorref03_wide.j4 : Nat → ByteArray → Int → Int → Int → Bool → Option (Int)
  | 0, _, _, _, _, _ => none
  | k + 1, x0, x1, x5, x6, x30 => if x30 = true then (compradorref03_wide.j5 k x0 x1 4 x6) else (compradorref03_wide.j5 k x0 x1 x5 x6)
def compradorref03_wide.j5 : Nat → ByteArray → Int → Int → Int → Option (Int)
  | 0, _, _, _, _ => none
  | k + 1, x0, x1, x5, x6 => if x5 = 0 then (compradorref03_wide.j6 k x0 x1 x5 x6 true) else (compradorref03_wide.j6 k x0 x1 x5 x6 (decide ((wrap64 ((x0.size : Int) - x1)) < x5)))
def compradorref03_wide.j6 : Nat → ByteArray → Int → Int → Int → Bool → Option (Int)
  | 0, _, _, _, _, _ => none
  | k + 1, x0, x1, x5, x6, x40 => if x40 = true then (some 0) else (compradorref03_wide.l0 k x0 x1 x5 x6 1)
def compradorref03_wide.l0 : Nat → ByteArray → Int → Int → Int → Int → Option (Int)
  | 0, _, _, _, _, _ => none
  | k + 1, x0, x1, x5, x6, x7 => if x7 < x5 then (if 0 ≤ (wrap64 (x1 + x7)) then (if (wrap64 (x1 + x7)) < (x0.size : Int) then (if (bt x0 (wrap64 (x1 + x7))) < 128 then (some 0) else (if (bt x0 (wrap64 (x1 + x7))) > 191 then (some 0) else (compradorref03_wide.l0 k x0 x1 x5 x6 (wrap64 (x7 + 1))))) else (none)) else (none)) else (if 0 ≤ (wrap64 (x1 + 1)) then (if (wrap64 (x1 + 1)) < (x0.size : Int) then (if x6 = 224 then (if (wrap64 (bt x0 (wrap64 (x1 + 1)))) < 160 then (some 0) else (if x6 = 237 then (if (wrap64 (bt x0 (wrap64 (x1 + 1)))) > 159 then (some 0) else (if x6 = 240 then (if (wrap64 (bt x0 (wrap64 (x1 + 1)))) < 144 then (some 0) else (if x6 = 244 then (if (wrap64 (bt x0 (wrap64 (x1 + 1)))) > 143 then (some 0) else (some x5)) else (some x5))) else (if x6 = 244 then (if (wrap64 (bt x0 (wrap64 (x1 + 1)))) > 143 then (some 0) else (some x5)) else (some x5)))) else (if x6 = 240 then (if (wrap64 (bt x0 (wrap64 (x1 + 1)))) < 144 then (some 0) else (if x6 = 244 then (if (wrap64 (bt x0 (wrap64 (x1 + 1)))) > 143 then (some 0) else (some x5)) else (some x5))) else (if x6 = 244 then (if (wrap64 (bt x0 (wrap64 (x1 + 1)))) > 143 then (some 0) else (some x5)) else (some x5))))) else (if x6 = 237 then (if (wrap64 (bt x0 (wrap64 (x1 + 1)))) > 159 then (some 0) else (if x6 = 240 then (if (wrap64 (bt x0 (wrap64 (x1 + 1)))) < 144 then (some 0) else (if x6 = 244 then (if (wrap64 (bt x0 (wrap64 (x1 + 1)))) > 143 then (some 0) else (some x5)) else (some x5))) else (if x6 = 244 then (if (wrap64 (bt x0 (wrap64 (x1 + 1)))) > 143 then (some 0) else (some x5)) else (some x5)))) else (if x6 = 240 then (if (wrap64 (bt x0 (wrap64 (x1 + 1)))) < 144 then (some 0) else (if x6 = 244 then (if (wrap64 (bt x0 (wrap64 (x1 + 1)))) > 143 then (some 0) else (some x5)) else (some x5))) else (if x6 = 244 then (if (wrap64 (bt x0 (wrap64 (x1 + 1)))) > 143 then (some 0) else (some x5)) else (some x5))))) else (none)) else (none))
end
def compradorref03_wide.f (k : Nat) (a0 : ByteArray) (a1 : Int) : Option (Int) := if 0 ≤ a1 then (if a1 < (a0.size : Int) then (if (wrap64 (bt a0 a1)) ≥ 194 then (compradorref03_wide.j0 k a0 a1 0 (wrap64 (bt a0 a1)) (decide ((wrap64 (bt a0 a1)) ≤ 223))) else (compradorref03_wide.j0 k a0 a1 0 (wrap64 (bt a0 a1)) false)) else (none)) else (none)
theorem compradorref03_wide.mono_l : ∀ k, (∀ y0 y1 y2 y3 y4, LeO (compradorref03_wide.j0 k y0 y1 y2 y3 y4) (compradorref03_wide.j0 (k + 1) y0 y1 y2 y3 y4)) ∧ (∀ y0 y1 y2 y3, LeO (compradorref03_wide.j1 k y0 y1 y2 y3) (compradorref03_wide.j1 (k + 1) y0 y1 y2 y3)) ∧ (∀ y0 y1 y2 y3 y4, LeO (compradorref03_wide.j2 k y0 y1 y2 y3 y4) (compradorref03_wide.j2 (k + 1) y0 y1 y2 y3 y4)) ∧ (∀ y0 y1 y2 y3, LeO (compradorref03_wide.j3 k y0 y1 y2 y3) (compradorref03_wide.j3 (k + 1) y0 y1 y2 y3)) ∧ (∀ y0 y1 y2 y3 y4, LeO (compradorref03_wide.j4 k y0 y1 y2 y3 y4) (compradorref03_wide.j4 (k + 1) y0 y1 y2 y3 y4)) ∧ (∀ y0 y1 y2 y3, LeO (compradorref03_wide.j5 k y0 y1 y2 y3) (compradorref03_wide.j5 (k + 1) y0 y1 y2 y3)) ∧ (∀ y0 y1 y2 y3 y4, LeO (compradorref03_wide.j6 k y0 y1 y2 y3 y4) (compradorref03_wide.j6 (k + 1) y0 y1 y2 y3 y4)) ∧ (∀ y0 y1 y2 y3 y4, LeO (compradorref03_wide.l0 k y0 y1 y2 y3 y4) (compradorref03_wide.l0 (k + 1) y0 y1 y2 y3 y4))
  | 0 => ⟨fun _ _ _ _ _ r h => by simp [compradorref03_wide.j0] at h, fun _ _ _ _ r h => by simp [compradorref03_wide.j1] at h, fun _ _ _ _ _ r h => by simp [compradorref03_wide.j2] at h, fun _ _ _ _ r h => by simp [compradorref03_wide.j3] at h, fun _ _ _ _ _ r h => by simp [compradorref03_wide.j4] at h, fun _ _ _ _ r h => by simp [compradorref03_wide.j5] at h, fun _ _ _ _ _ r h => by simp [compradorref03_wide.j6] at h, fun _ _ _ _ _ r h => by simp [compradorref03_wide.l0] at h⟩
  | k + 1 => by
    obtain ⟨ih0, ih1, ih2, ih3, ih4, ih5, ih6, ih7⟩ := compradorref03_wide.mono_l k
    refine ⟨?_, ?_, ?_, ?_, ?_, ?_, ?_, ?_⟩
    · intro y0 y1 y2 y3 y4
      unfold compradorref03_wide.j0
      repeat' first
      | (with_reducible exact ih0 _ _ _ _ _)
      | (with_reducible exact ih1 _ _ _ _)
      | (with_reducible exact ih2 _ _ _ _ _)
      | (with_reducible exact ih3 _ _ _ _)
      | (with_reducible exact ih4 _ _ _ _ _)
      | (with_reducible exact ih5 _ _ _ _)
      | (with_reducible exact ih6 _ _ _ _ _)
      | (with_reducible exact ih7 _ _ _ _ _)
      | (with_reducible exact LeO.refl _)
      | (with_reducible exact LeO.none _)
      | (with_reducible refine LeO.ite ?_ ?_)
      | (with_reducible refine LeO.bind ?_ (fun _ => ?_))
      | exact ih0 _ _ _ _ _
      | exact ih1 _ _ _ _
      | exact ih2 _ _ _ _ _
      | exact ih3 _ _ _ _
      | exact ih4 _ _ _ _ _
      | exact ih5 _ _ _ _
      | exact ih6 _ _ _ _ _
      | exact ih7 _ _ _ _ _
      | exact LeO.none _
      | refine LeO.ite ?_ ?_
      | refine LeO.bind ?_ (fun _ => ?_)
    · intro y0 y1 y2 y3
      unfold compradorref03_wide.j1
      repeat' first
      | (with_reducible exact ih0 _ _ _ _ _)
      | (with_reducible exact ih1 _ _ _ _)
      | (with_reducible exact ih2 _ _ _ _ _)
      | (with_reducible exact ih3 _ _ _ _)
      | (with_reducible exact ih4 _ _ _ _ _)
      | (with_reducible exact ih5 _ _ _ _)
      | (with_reducible exact ih6 _ _ _ _ _)
      | (with_reducible exact ih7 _ _ _ _ _)
      | (with_reducible exact LeO.refl _)
      | (with_reducible exact LeO.none _)
      | (with_reducible refine LeO.ite ?_ ?_)
      | (with_reducible refine LeO.bind ?_ (fun _ => ?_))
      | exact ih0 _ _ _ _ _
      | exact ih1 _ _ _ _
      | exact ih2 _ _ _ _ _
      | exact ih3 _ _ _ _
      | exact ih4 _ _ _ _ _
      | exact ih5 _ _ _ _
      | exact ih6 _ _ _ _ _
      | exact ih7 _ _ _ _ _
      | exact LeO.none _
      | refine LeO.ite ?_ ?_
      | refine LeO.bind ?_ (fun _ => ?_)
    · intro y0 y1 y2 y3 y4
      unfold compradorref03_wide.j2
      repeat' first
      | (with_reducible exact ih0 _ _ _ _ _)
      | (with_reducible exact ih1 _ _ _ _)
      | (with_reducible exact ih2 _ _ _ _ _)
      | (with_reducible exact ih3 _ _ _ _)
      | (with_reducible exact ih4 _ _ _ _ _)
      | (with_reducible exact ih5 _ _ _ _)
      | (with_reducible exact ih6 _ _ _ _ _)
      | (with_reducible exact ih7 _ _ _ _ _)
      | (with_reducible exact LeO.refl _)
      | (with_reducible exact LeO.none _)
      | (with_reducible refine LeO.ite ?_ ?_)
      | (with_reducible refine LeO.bind ?_ (fun _ => ?_))
      | exact ih0 _ _ _ _ _
      | exact ih1 _ _ _ _
      | exact ih2 _ _ _ _ _
      | exact ih3 _ _ _ _
      | exact ih4 _ _ _ _ _
      | exact ih5 _ _ _ _
      | exact ih6 _ _ _ _ _
      | exact ih7 _ _ _ _ _
      | exact LeO.none _
      | refine LeO.ite ?_ ?_
      | refine LeO.bind ?_ (fun _ => ?_)
    · intro y0 y1 y2 y3
      unfold compradorref03_wide.j3
      repeat' first
      | (with_reducible exact ih0 _ _ _ _ _)
      | (with_reducible exact ih1 _ _ _ _)
      | (with_reducible exact ih2 _ _ _ _ _)
      | (with_reducible exact ih3 _ _ _ _)
      | (with_reducible exact ih4 _ _ _ _ _)
      | (with_reducible exact ih5 _ _ _ _)
      | (with_reducible exact ih6 _ _ _ _ _)
      | (with_reducible exact ih7 _ _ _ _ _)
      | (with_reducible exact LeO.refl _)
      | (with_reducible exact LeO.none _)
      | (with_reducible refine LeO.ite ?_ ?_)
      | (with_reducible refine LeO.bind ?_ (fun _ => ?_))
      | exact ih0 _ _ _ _ _
      | exact ih1 _ _ _ _
      | exact ih2 _ _ _ _ _
      | exact ih3 _ _ _ _
      | exact ih4 _ _ _ _ _
      | exact ih5 _ _ _ _
      | exact ih6 _ _ _ _ _
      | exact ih7 _ _ _ _ _
      | exact LeO.none _
      | refine LeO.ite ?_ ?_
      | refine LeO.bind ?_ (fun _ => ?_)
    · intro y0 y1 y2 y3 y4
      unfold compradorref03_wide.j4
      repeat' first
      | (with_reducible exact ih0 _ _ _ _ _)
      | (with_reducible exact ih1 _ _ _ _)
      | (with_reducible exact ih2 _ _ _ _ _)
      | (with_reducible exact ih3 _ _ _ _)
      | (with_reducible exact ih4 _ _ _ _ _)
      | (with_reducible exact ih5 _ _ _ _)
      | (with_reducible exact ih6 _ _ _ _ _)
      | (with_reducible exact ih7 _ _ _ _ _)
      | (with_reducible exact LeO.refl _)
      | (with_reducible exact LeO.none _)
      | (with_reducible refine LeO.ite ?_ ?_)
      | (with_reducible refine LeO.bind ?_ (fun _ => ?_))
      | exact ih0 _ _ _ _ _
      | exact ih1 _ _ _ _
      | exact ih2 _ _ _ _ _
      | exact ih3 _ _ _ _
      | exact ih4 _ _ _ _ _
      | exact ih5 _ _ _ _
      | exact ih6 _ _ _ _ _
      | exact ih7 _ _ _ _ _
      | exact LeO.none _
      | refine LeO.ite ?_ ?_
      | refine LeO.bind ?_ (fun _ => ?_)
    · intro y0 y1 y2 y3
      unfold compradorref03_wide.j5
      repeat' first
      | (with_reducible exact ih0 _ _ _ _ _)
      | (with_reducible exact ih1 _ _ _ _)
      | (with_reducible exact ih2 _ _ _ _ _)
      | (with_reducible exact ih3 _ _ _ _)
      | (with_reducible exact ih4 _ _ _ _ _)
      | (with_reducible exact ih5 _ _ _ _)
      | (with_reducible exact ih6 _ _ _ _ _)
      | (with_reducible exact ih7 _ _ _ _ _)
      | (with_reducible exact LeO.refl _)
      | (with_reducible exact LeO.none _)
      | (with_reducible refine LeO.ite ?_ ?_)
      | (with_reducible refine LeO.bind ?_ (fun _ => ?_))
      | exact ih0 _ _ _ _ _
      | exact ih1 _ _ _ _
      | exact ih2 _ _ _ _ _
      | exact ih3 _ _ _ _
      | exact ih4 _ _ _ _ _
      | exact ih5 _ _ _ _
      | exact ih6 _ _ _ _ _
      | exact ih7 _ _ _ _ _
      | exact LeO.none _
      | refine LeO.ite ?_ ?_
      | refine LeO.bind ?_ (fun _ => ?_)
    · intro y0 y1 y2 y3 y4
      unfold compradorref03_wide.j6
      repeat' first
      | (with_reducible exact ih0 _ _ _ _ _)
      | (with_reducible exact ih1 _ _ _ _)
      | (with_reducible exact ih2 _ _ _ _ _)
      | (with_reducible exact ih3 _ _ _ _)
      | (with_reducible exact ih4 _ _ _ _ _)
      | (with_reducible exact ih5 _ _ _ _)
      | (with_reducible exact ih6 _ _ _ _ _)
      | (with_reducible exact ih7 _ _ _ _ _)
      | (with_reducible exact LeO.refl _)
      | (with_reducible exact LeO.none _)
      | (with_reducible refine LeO.ite ?_ ?_)
      | (with_reducible refine LeO.bind ?_ (fun _ => ?_))
      | exact ih0 _ _ _ _ _
      | exact ih1 _ _ _ _
      | exact ih2 _ _ _ _ _
      | exact ih3 _ _ _ _
      | exact ih4 _ _ _ _ _
      | exact ih5 _ _ _ _
      | exact ih6 _ _ _ _ _
      | exact ih7 _ _ _ _ _
      | exact LeO.none _
      | refine LeO.ite ?_ ?_
      | refine LeO.bind ?_ (fun _ => ?_)
    · intro y0 y1 y2 y3 y4
      unfold compradorref03_wide.l0
      repeat' first
      | (with_reducible exact ih0 _ _ _ _ _)
      | (with_reducible exact ih1 _ _ _ _)
      | (with_reducible exact ih2 _ _ _ _ _)
      | (with_reducible exact ih3 _ _ _ _)
      | (with_reducible exact ih4 _ _ _ _ _)
      | (with_reducible exact ih5 _ _ _ _)
      | (with_reducible exact ih6 _ _ _ _ _)
      | (with_reducible exact ih7 _ _ _ _ _)
      | (with_reducible exact LeO.refl _)
      | (with_reducible exact LeO.none _)
      | (with_reducible refine LeO.ite ?_ ?_)
      | (with_reducible refine LeO.bind ?_ (fun _ => ?_))
      | exact ih0 _ _ _ _ _
      | exact ih1 _ _ _ _
      | exact ih2 _ _ _ _ _
      | exact ih3 _ _ _ _
      | exact ih4 _ _ _ _ _
      | exact ih5 _ _ _ _
      | exact ih6 _ _ _ _ _
      | exact ih7 _ _ _ _ _
      | exact LeO.none _
      | refine LeO.ite ?_ ?_
      | refine LeO.bind ?_ (fun _ => ?_)
theorem compradorref03_wide.mono : ∀ a0 a1 k, LeO (compradorref03_wide.f k a0 a1) (compradorref03_wide.f (k + 1) a0 a1) := by
  intro a0 a1 k
  obtain ⟨ih0, ih1, ih2, ih3, ih4, ih5, ih6, ih7⟩ := compradorref03_wide.mono_l k
  unfold compradorref03_wide.f
  repeat' first
      | (with_reducible exact ih0 _ _ _ _ _)
      | (with_reducible exact ih1 _ _ _ _)
      | (with_reducible exact ih2 _ _ _ _ _)
      | (with_reducible exact ih3 _ _ _ _)
      | (with_reducible exact ih4 _ _ _ _ _)
      | (with_reducible exact ih5 _ _ _ _)
      | (with_reducible exact ih6 _ _ _ _ _)
      | (with_reducible exact ih7 _ _ _ _ _)
      | (with_reducible exact LeO.refl _)
      | (with_reducible exact LeO.none _)
      | (with_reducible refine LeO.ite ?_ ?_)
      | (with_reducible refine LeO.bind ?_ (fun _ => ?_))
      | exact ih0 _ _ _ _ _
      | exact ih1 _ _ _ _
      | exact ih2 _ _ _ _ _
      | exact ih3 _ _ _ _
      | exact ih4 _ _ _ _ _
      | exact ih5 _ _ _ _
      | exact ih6 _ _ _ _ _
      | exact ih7 _ _ _ _ _
      | exact LeO.none _
      | refine LeO.ite ?_ ?_
      | refine LeO.bind ?_ (fun _ => ?_)
set_option maxHeartbeats 8000000 in
set_option maxRecDepth 100000 in
theorem compradorref03_wide.calls (k : Nat) (a0 : ByteArray) (a1 : Int) (r : Int) (w : World) (h : compradorref03_wide.f k a0 a1 = some r) :
    Calls Try.prog 91 #[.string a0, .int .i64 a1] w fun e w' => e = .returned (.int .i64 r) ∧ Drawn0 w w' := by
  have H : (if 0 ≤ a1 then (if a1 < (a0.size : Int) then (if (wrap64 (bt a0 a1)) ≥ 194 then (compradorref03_wide.j0 k a0 a1 0 (wrap64 (bt a0 a1)) (decide ((wrap64 (bt a0 a1)) ≤ 223))) else (compradorref03_wide.j0 k a0 a1 0 (wrap64 (bt a0 a1)) false)) else (none)) else (none)) = some r := h
  clear h
  by_cases c3 : 0 ≤ a1
  · rw [if_pos c3] at H
    have c3b0 : decide (0 ≤ a1) = true := decide_eq_true c3
    clear c3
    by_cases c4 : a1 < (a0.size : Int)
    · rw [if_pos c4] at H
      have c4b0 : decide (a1 < (a0.size : Int)) = true := decide_eq_true c4
      clear c4
      have HC6 := Aside0.mk H
      clear H
      have p5 : 0 ≤ (a1 : Int) := of_decide_eq_true (by first | (with_reducible assumption) | assumption)
      have q5 : a1 < (a0.size : Int) := of_decide_eq_true (by first | (with_reducible assumption) | assumption)
      have hx5 := bt_at a0 a1
      replace p5 := eq_true p5
      replace q5 := eq_true q5
      go_enter Try.func91, Try.ntmps91
      go_upto_region 3 with (fail)
      go_cut [18] (fun v18 wc => ∃ (kq : Nat) (x18_5 : Bool), v18 = .bool x18_5 ∧ Aside0 (compradorref03_wide.j0 kq a0 a1 0 (wrap64 (bt a0 a1)) x18_5 = some r) ∧ Aside0 (kq ≤ k) ∧ Drawn0 w wc)
      case first =>
        have H := HC6.out
        clear HC6
        by_cases c7 : (wrap64 (bt a0 a1)) ≥ 194
        · rw [if_pos c7] at H
          have c7b0 : decide (194 ≤ (wrap64 (bt a0 a1))) = true := decide_eq_true c7
          clear c7
          (first | rw [c7b0] | (simp only [i64_w, i32_w]; rw [c7b0]) | skip)
          have H' := Aside0.mk H
          clear H
          go_wp2
          go_meet
          case rel => exact ⟨_, (decide ((wrap64 (bt a0 a1)) ≤ 223)), (by first | rfl | (simp; done) | (simp [*]; done)), H', ⟨by first | omega | exact Nat.le_refl _⟩, by repeat (first | exact Drawn0.refl _ | apply Drawn0.step)⟩
        · rw [if_neg c7] at H
          have c7b0 : decide (194 ≤ (wrap64 (bt a0 a1))) = false := decide_eq_false c7
          clear c7
          (first | rw [c7b0] | (simp only [i64_w, i32_w]; rw [c7b0]) | skip)
          have H' := Aside0.mk H
          clear H
          go_wp2
          go_meet
          case rel => exact ⟨_, (false), (by first | rfl | (simp; done) | (simp [*]; done)), H', ⟨by first | omega | exact Nat.le_refl _⟩, by repeat (first | exact Drawn0.refl _ | apply Drawn0.step)⟩
      case rest =>
        clear HC6
        try clear p2
        try clear c3
        try clear c3b0
        try clear c4
        try clear c4b0
        try clear p5
        try clear q5
        try clear hx5
        try clear p6
        try clear c7
        try clear c7b0
        try clear p5
        try clear q5
        obtain ⟨kq, x18_5, rfl, HA, HJ5, ⟨mc5, rfl⟩⟩ := hcut
        cases kq with
        | zero => exact absurd HA.out (by simp [compradorref03_wide.j0])
        | succ kj5 =>
          have H := HA.out
          clear HA
          simp only [compradorref03_wide.j0] at H
          have HC8 := Aside0.mk H
          clear H
          go_upto_if 18 with (fail)
          go_cut [5] (fun v5 wc => ∃ (kq : Nat) (x5_7 : Int), v5 = .int .i64 x5_7 ∧ Aside0 (compradorref03_wide.j1 kq a0 a1 x5_7 (wrap64 (bt a0 a1)) = some r) ∧ Aside0 (kq ≤ kj5) ∧ Drawn0 w wc)
          case first =>
            have H := HC8.out
            clear HC8
            by_cases c9 : x18_5 = true
            · subst c9
              have H1 : (compradorref03_wide.j1 kj5 a0 a1 2 (wrap64 (bt a0 a1))) = some r := by rw [if_pos rfl] at H; exact H
              clear H
              have H := H1
              clear H1
              have H' := Aside0.mk H
              clear H
              go_wp2
              go_meet
              case rel => exact ⟨_, (2), (by first | rfl | (simp; done) | (simp [*]; done)), H', ⟨by have := HJ5.out; first | omega | exact Nat.le_refl _⟩, by repeat (first | exact Drawn0.refl _ | apply Drawn0.step)⟩
            · replace c9 := Bool.eq_false_iff.mpr c9
              subst c9
              have H1 : (compradorref03_wide.j1 kj5 a0 a1 0 (wrap64 (bt a0 a1))) = some r := by rw [if_neg (show ¬ (false = true) by decide)] at H; exact H
              clear H
              have H := H1
              clear H1
              have H' := Aside0.mk H
              clear H
              go_wp2
              go_meet
              case rel => exact ⟨_, (0), (by first | rfl | (simp; done) | (simp [*]; done)), H', ⟨by have := HJ5.out; first | omega | exact Nat.le_refl _⟩, by repeat (first | exact Drawn0.refl _ | apply Drawn0.step)⟩
          case rest =>
            clear HC8
            try clear p2
            try clear c3
            try clear c3b0
            try clear c4
            try clear c4b0
            try clear c5
            try clear p5
            try clear q5
            try clear hx5
            try clear p6
            try clear c7
            try clear c7b0
            try clear c9
            try clear p2
            try clear p5
            try clear p6
            try clear q5
            obtain ⟨kq, x5_7, rfl, HA, HJ7, ⟨mc7, rfl⟩⟩ := hcut
            cases kq with
            | zero => exact absurd HA.out (by simp [compradorref03_wide.j1])
            | succ kj7 =>
              have H := HA.out
              clear HA
              simp only [compradorref03_wide.j1] at H
              have HC10 := Aside0.mk H
              clear H
              go_upto_region 5 with (fail)
              go_cut [24] (fun v24 wc => ∃ (kq : Nat) (x24_9 : Bool), v24 = .bool x24_9 ∧ Aside0 (compradorref03_wide.j2 kq a0 a1 x5_7 (wrap64 (bt a0 a1)) x24_9 = some r) ∧ Aside0 (kq ≤ kj7) ∧ Drawn0 w wc)
              case first =>
                have H := HC10.out
                clear HC10
                by_cases c11 : (wrap64 (bt a0 a1)) ≥ 224
                · rw [if_pos c11] at H
                  have c11b0 : decide (224 ≤ (wrap64 (bt a0 a1))) = true := decide_eq_true c11
                  clear c11
                  (first | rw [c11b0] | (simp only [i64_w, i32_w]; rw [c11b0]) | skip)
                  have H' := Aside0.mk H
                  clear H
                  go_wp2
                  go_meet
                  case rel => exact ⟨_, (decide ((wrap64 (bt a0 a1)) ≤ 239)), (by first | rfl | (simp; done) | (simp [*]; done)), H', ⟨by have := HJ5.out; have := HJ7.out; first | omega | exact Nat.le_refl _⟩, by repeat (first | exact Drawn0.refl _ | apply Drawn0.step)⟩
                · rw [if_neg c11] at H
                  have c11b0 : decide (224 ≤ (wrap64 (bt a0 a1))) = false := decide_eq_false c11
                  clear c11
                  (first | rw [c11b0] | (simp only [i64_w, i32_w]; rw [c11b0]) | skip)
                  have H' := Aside0.mk H
                  clear H
                  go_wp2
                  go_meet
                  case rel => exact ⟨_, (false), (by first | rfl | (simp; done) | (simp [*]; done)), H', ⟨by have := HJ5.out; have := HJ7.out; first | omega | exact Nat.le_refl _⟩, by repeat (first | exact Drawn0.refl _ | apply Drawn0.step)⟩
              case rest =>
                clear HC10
                try clear c1
                try clear p2
                try clear c3
                try clear c3b0
                try clear c4
                try clear c4b0
                try clear c5
                try clear p5
                try clear q5
                try clear hx5
                try clear p6
                try clear c7
                try clear c7b0
                try clear c9
                try clear c11
                try clear c11b0
                try clear p2
                try clear p5
                try clear p6
                try clear q5
                obtain ⟨kq, x24_9, rfl, HA, HJ9, ⟨mc9, rfl⟩⟩ := hcut
                cases kq with
                | zero => exact absurd HA.out (by simp [compradorref03_wide.j2])
                | succ kj9 =>
                  have H := HA.out
                  clear HA
                  simp only [compradorref03_wide.j2] at H
                  have HC12 := Aside0.mk H
                  clear H
                  go_upto_if 24 with (fail)
                  go_cut [5] (fun v5 wc => ∃ (kq : Nat) (x5_11 : Int), v5 = .int .i64 x5_11 ∧ Aside0 (compradorref03_wide.j3 kq a0 a1 x5_11 (wrap64 (bt a0 a1)) = some r) ∧ Aside0 (kq ≤ kj9) ∧ Drawn0 w wc)
                  case first =>
                    have H := HC12.out
                    clear HC12
                    by_cases c13 : x24_9 = true
                    · subst c13
                      have H1 : (compradorref03_wide.j3 kj9 a0 a1 3 (wrap64 (bt a0 a1))) = some r := by rw [if_pos rfl] at H; exact H
                      clear H
                      have H := H1
                      clear H1
                      have H' := Aside0.mk H
                      clear H
                      go_wp2
                      go_meet
                      case rel => exact ⟨_, (3), (by first | rfl | (simp; done) | (simp [*]; done)), H', ⟨by have := HJ5.out; have := HJ7.out; have := HJ9.out; first | omega | exact Nat.le_refl _⟩, by repeat (first | exact Drawn0.refl _ | apply Drawn0.step)⟩
                    · replace c13 := Bool.eq_false_iff.mpr c13
                      subst c13
                      have H1 : (compradorref03_wide.j3 kj9 a0 a1 x5_7 (wrap64 (bt a0 a1))) = some r := by rw [if_neg (show ¬ (false = true) by decide)] at H; exact H
                      clear H
                      have H := H1
                      clear H1
                      have H' := Aside0.mk H
                      clear H
                      go_wp2
                      go_meet
                      case rel => exact ⟨_, (x5_7), (by first | rfl | (simp; done) | (simp [*]; done)), H', ⟨by have := HJ5.out; have := HJ7.out; have := HJ9.out; first | omega | exact Nat.le_refl _⟩, by repeat (first | exact Drawn0.refl _ | apply Drawn0.step)⟩
                  case rest =>
                    clear HC12
                    try clear c1
                    try clear p2
                    try clear c3
                    try clear c3b0
                    try clear c4
                    try clear c4b0
                    try clear c5
                    try clear p5
                    try clear q5
                    try clear hx5
                    try clear p6
                    try clear c7
                    try clear c7b0
                    try clear c9
                    try clear c11
                    try clear c11b0
                    try clear c13
                    try clear p2
                    try clear p5
                    try clear p6
                    try clear q5
                    obtain ⟨kq, x5_11, rfl, HA, HJ11, ⟨mc11, rfl⟩⟩ := hcut
                    cases kq with
                    | zero => exact absurd HA.out (by simp [compradorref03_wide.j3])
                    | succ kj11 =>
                      have H := HA.out
                      clear HA
                      simp only [compradorref03_wide.j3] at H
                      have HC14 := Aside0.mk H
                      clear H
                      go_upto_region 7 with (fail)
                      go_cut [30] (fun v30 wc => ∃ (kq : Nat) (x30_13 : Bool), v30 = .bool x30_13 ∧ Aside0 (compradorref03_wide.j4 kq a0 a1 x5_11 (wrap64 (bt a0 a1)) x30_13 = some r) ∧ Aside0 (kq ≤ kj11) ∧ Drawn0 w wc)
                      case first =>
                        have H := HC14.out
                        clear HC14
                        by_cases c15 : (wrap64 (bt a0 a1)) ≥ 240
                        · rw [if_pos c15] at H
                          have c15b0 : decide (240 ≤ (wrap64 (bt a0 a1))) = true := decide_eq_true c15
                          clear c15
                          (first | rw [c15b0] | (simp only [i64_w, i32_w]; rw [c15b0]) | skip)
                          have H' := Aside0.mk H
                          clear H
                          go_wp2
                          go_meet
                          case rel => exact ⟨_, (decide ((wrap64 (bt a0 a1)) ≤ 244)), (by first | rfl | (simp; done) | (simp [*]; done)), H', ⟨by have := HJ5.out; have := HJ7.out; have := HJ9.out; have := HJ11.out; first | omega | exact Nat.le_refl _⟩, by repeat (first | exact Drawn0.refl _ | apply Drawn0.step)⟩
                        · rw [if_neg c15] at H
                          have c15b0 : decide (240 ≤ (wrap64 (bt a0 a1))) = false := decide_eq_false c15
                          clear c15
                          (first | rw [c15b0] | (simp only [i64_w, i32_w]; rw [c15b0]) | skip)
                          have H' := Aside0.mk H
                          clear H
                          go_wp2
                          go_meet
                          case rel => exact ⟨_, (false), (by first | rfl | (simp; done) | (simp [*]; done)), H', ⟨by have := HJ5.out; have := HJ7.out; have := HJ9.out; have := HJ11.out; first | omega | exact Nat.le_refl _⟩, by repeat (first | exact Drawn0.refl _ | apply Drawn0.step)⟩
                      case rest =>
                        clear HC14
                        try clear c1
                        try clear p2
                        try clear c3
                        try clear c3b0
                        try clear c4
                        try clear c4b0
                        try clear c5
                        try clear p5
                        try clear q5
                        try clear hx5
                        try clear p6
                        try clear c7
                        try clear c7b0
                        try clear c9
                        try clear c11
                        try clear c11b0
                        try clear c13
                        try clear c15
                        try clear c15b0
                        try clear p2
                        try clear p5
                        try clear p6
                        try clear q5
                        obtain ⟨kq, x30_13, rfl, HA, HJ13, ⟨mc13, rfl⟩⟩ := hcut
                        cases kq with
                        | zero => exact absurd HA.out (by simp [compradorref03_wide.j4])
                        | succ kj13 =>
                          have H := HA.out
                          clear HA
                          simp only [compradorref03_wide.j4] at H
                          have HC16 := Aside0.mk H
                          clear H
                          go_upto_if 30 with (fail)
                          go_cut [5] (fun v5 wc => ∃ (kq : Nat) (x5_15 : Int), v5 = .int .i64 x5_15 ∧ Aside0 (compradorref03_wide.j5 kq a0 a1 x5_15 (wrap64 (bt a0 a1)) = some r) ∧ Aside0 (kq ≤ kj13) ∧ Drawn0 w wc)
                          case first =>
                            have H := HC16.out
                            clear HC16
                            by_cases c17 : x30_13 = true
                            · subst c17
                              have H1 : (compradorref03_wide.j5 kj13 a0 a1 4 (wrap64 (bt a0 a1))) = some r := by rw [if_pos rfl] at H; exact H
                              clear H
                              have H := H1
                              clear H1
                              have H' := Aside0.mk H
                              clear H
                              go_wp2
                              go_meet
                              case rel => exact ⟨_, (4), (by first | rfl | (simp; done) | (simp [*]; done)), H', ⟨by have := HJ5.out; have := HJ7.out; have := HJ9.out; have := HJ11.out; have := HJ13.out; first | omega | exact Nat.le_refl _⟩, by repeat (first | exact Drawn0.refl _ | apply Drawn0.step)⟩
                            · replace c17 := Bool.eq_false_iff.mpr c17
                              subst c17
                              have H1 : (compradorref03_wide.j5 kj13 a0 a1 x5_11 (wrap64 (bt a0 a1))) = some r := by rw [if_neg (show ¬ (false = true) by decide)] at H; exact H
                              clear H
                              have H := H1
                              clear H1
                              have H' := Aside0.mk H
                              clear H
                              go_wp2
                              go_meet
                              case rel => exact ⟨_, (x5_11), (by first | rfl | (simp; done) | (simp [*]; done)), H', ⟨by have := HJ5.out; have := HJ7.out; have := HJ9.out; have := HJ11.out; have := HJ13.out; first | omega | exact Nat.le_refl _⟩, by repeat (first | exact Drawn0.refl _ | apply Drawn0.step)⟩
                          case rest =>
                            clear HC16
                            try clear c1
                            try clear p2
                            try clear c3
                            try clear c3b0
                            try clear c4
                            try clear c4b0
                            try clear c5
                            try clear p5
                            try clear q5
                            try clear hx5
                            try clear p6
                            try clear c7
                            try clear c7b0
                            try clear c9
                            try clear c11
                            try clear c11b0
                            try clear c13
                            try clear c15
                            try clear c15b0
                            try clear c17
                            try clear p2
                            try clear p5
                            try clear p6
                            try clear q5
                            obtain ⟨kq, x5_15, rfl, HA, HJ15, ⟨mc15, rfl⟩⟩ := hcut
                            cases kq with
                            | zero => exact absurd HA.out (by simp [compradorref03_wide.j5])
                            | succ kj15 =>
                              have H := HA.out
                              clear HA
                              simp only [compradorref03_wide.j5] at H
                              have HC18 := Aside0.mk H
                              clear H
                              go_upto_region 9 with (fail)
                              go_cut [40] (fun v40 wc => ∃ (kq : Nat) (x40_17 : Bool), v40 = .bool x40_17 ∧ Aside0 (compradorref03_wide.j6 kq a0 a1 x5_15 (wrap64 (bt a0 a1)) x40_17 = some r) ∧ Aside0 (kq ≤ kj15) ∧ Drawn0 w wc)
                              case first =>
                                have H := HC18.out
                                clear HC18
                                by_cases c19 : x5_15 = 0
                                · rw [if_pos c19] at H
                                  have c19b0 : (x5_15 == 0) = true := beq_iff_eq.mpr c19
                                  have c19b1 : (x5_15 != 0) = false := bne_eq_false_iff_eq.mpr c19
                                  clear c19
                                  (first | rw [c19b0] | (simp only [i64_w, i32_w]; rw [c19b0]) | skip)
                                  have H' := Aside0.mk H
                                  clear H
                                  go_wp2
                                  go_meet
                                  case rel => exact ⟨_, (true), (by first | rfl | (simp; done) | (simp [*]; done)), H', ⟨by have := HJ5.out; have := HJ7.out; have := HJ9.out; have := HJ11.out; have := HJ13.out; have := HJ15.out; first | omega | exact Nat.le_refl _⟩, by repeat (first | exact Drawn0.refl _ | apply Drawn0.step)⟩
                                · rw [if_neg c19] at H
                                  have c19b0 : (x5_15 == 0) = false := beq_eq_false_iff_ne.mpr c19
                                  have c19b1 : (x5_15 != 0) = true := bne_iff_ne.mpr c19
                                  (first | rw [c19b0] | (simp only [i64_w, i32_w]; rw [c19b0]) | skip)
                                  have H' := Aside0.mk H
                                  clear H
                                  go_wp2
                                  go_meet
                                  case rel => exact ⟨_, (decide ((wrap64 ((a0.size : Int) - a1)) < x5_15)), (by first | rfl | (simp; done) | (simp [*]; done)), H', ⟨by have := HJ5.out; have := HJ7.out; have := HJ9.out; have := HJ11.out; have := HJ13.out; have := HJ15.out; first | omega | exact Nat.le_refl _⟩, by repeat (first | exact Drawn0.refl _ | apply Drawn0.step)⟩
                              case rest =>
                                clear HC18
                                try clear c1
                                try clear p2
                                try clear c3
                                try clear c3b0
                                try clear c4
                                try clear c4b0
                                try clear c5
                                try clear p5
                                try clear q5
                                try clear hx5
                                try clear p6
                                try clear c7
                                try clear c7b0
                                try clear c9
                                try clear c11
                                try clear c11b0
                                try clear c13
                                try clear c15
                                try clear c15b0
                                try clear c17
                                try clear c19
                                try clear c19b0
                                try clear c19b1
                                try clear p2
                                try clear p5
                                try clear p6
                                try clear q5
                                obtain ⟨kq, x40_17, rfl, HA, HJ17, ⟨mc17, rfl⟩⟩ := hcut
                                cases kq with
                                | zero => exact absurd HA.out (by simp [compradorref03_wide.j6])
                                | succ kj17 =>
                                  have H := HA.out
                                  clear HA
                                  simp only [compradorref03_wide.j6] at H
                                  by_cases c20 : x40_17 = true
                                  · subst c20
                                    have H1 : (some 0) = some r := by rw [if_pos rfl] at H; exact H
                                    clear H
                                    have H := H1
                                    clear H1
                                    obtain rfl := Option.some.inj H
                                    go_wp2
                                    go_ret
                                    exact ⟨by first | rfl | (simp; done) | (simp [*]; done), by repeat (first | exact Drawn0.refl _ | apply Drawn0.step)⟩
                                  · replace c20 := Bool.eq_false_iff.mpr c20
                                    subst c20
                                    have H1 : (compradorref03_wide.l0 kj17 a0 a1 x5_15 (wrap64 (bt a0 a1)) 1) = some r := by rw [if_neg (show ¬ (false = true) by decide)] at H; exact H
                                    clear H
                                    have H := H1
                                    clear H1
                                    have H' := Aside0.mk H
                                    clear H
                                    go_wp2
                                    go_loopg [7] kj17 (fun kq v7 w' => ∃ (x7_8 : Int), v7 = .int .i64 x7_8 ∧ Aside0 (compradorref03_wide.l0 kq a0 a1 x5_15 (wrap64 (bt a0 a1)) x7_8 = some r) ∧ Aside0 (kq ≤ kj17) ∧ Drawn0 w w')
                                    case atStart => exact ⟨(1), (by first | rfl | (simp; done) | (simp [*]; done)), H', ⟨Nat.le_refl _⟩, by repeat (first | exact Drawn0.refl _ | apply Drawn0.step)⟩
                                    case round =>
                                      clear H'
                                      try clear c1
                                      try clear c2
                                      try clear p2
                                      try clear c3
                                      try clear c3b0
                                      try clear c4
                                      try clear c4b0
                                      try clear c5
                                      try clear p5
                                      try clear q5
                                      try clear hx5
                                      try clear p6
                                      try clear c7
                                      try clear c7b0
                                      try clear c9
                                      try clear c11
                                      try clear c11b0
                                      try clear c13
                                      try clear c15
                                      try clear c15b0
                                      try clear c17
                                      try clear c19
                                      try clear c19b0
                                      try clear c19b1
                                      try clear c20
                                      try clear p2
                                      try clear p5
                                      try clear p6
                                      try clear q5
                                      obtain ⟨x7_8, rfl, HA, HK8, ⟨m8, rfl⟩⟩ := hrel
                                      cases gk with
                                      | zero => exact absurd HA.out (by simp [compradorref03_wide.l0])
                                      | succ k8 =>
                                        have H := HA.out
                                        clear HA
                                        simp only [compradorref03_wide.l0] at H
                                        by_cases c21 : x7_8 < x5_15
                                        · rw [if_pos c21] at H
                                          have c21b0 : decide (x7_8 < x5_15) = true := decide_eq_true c21
                                          clear c21
                                          obtain ⟨ji22, hji22⟩ : ∃ j_ : Int, (wrap64 (a1 + x7_8)) = j_ := ⟨_, rfl⟩
                                          replace H : (if 0 ≤ (ji22) then (if (ji22) < (a0.size : Int) then (if (bt a0 (ji22)) < 128 then (some 0) else (if (bt a0 (ji22)) > 191 then (some 0) else (compradorref03_wide.l0 k8 a0 a1 x5_15 (wrap64 (bt a0 a1)) (wrap64 (x7_8 + 1))))) else (none)) else (none)) = some r := by first | (rw [hji22] at H; exact H) | (simp only [hji22] at H ⊢; exact H)
                                          have hji22w : (IntKind.i64.wrap (a1 + x7_8)) = ji22 := (i64_w _).trans hji22
                                          by_cases c23 : 0 ≤ (ji22)
                                          · rw [if_pos c23] at H
                                            have c23b0 : decide (0 ≤ (ji22)) = true := decide_eq_true c23
                                            clear c23
                                            by_cases c24 : (ji22) < (a0.size : Int)
                                            · rw [if_pos c24] at H
                                              have c24b0 : decide ((ji22) < (a0.size : Int)) = true := decide_eq_true c24
                                              clear c24
                                              by_cases c26 : (bt a0 (ji22)) < 128
                                              · rw [if_pos c26] at H
                                                have c26b0 : decide ((bt a0 (ji22)) < 128) = true := decide_eq_true c26
                                                clear c26
                                                obtain rfl := Option.some.inj H
                                                have p25 : 0 ≤ ((ji22) : Int) := of_decide_eq_true (by first | (with_reducible assumption) | assumption)
                                                have q25 : (ji22) < (a0.size : Int) := of_decide_eq_true (by first | (with_reducible assumption) | assumption)
                                                have hx25 := bt_at a0 (ji22)
                                                replace p25 := eq_true p25
                                                replace q25 := eq_true q25
                                                go_wp2
                                                go_ret
                                                exact ⟨by first | rfl | (simp; done) | (simp only [← hji22] <;> (first | rfl | simp)) | (simp [*]; done), by repeat (first | exact Drawn0.refl _ | apply Drawn0.step)⟩
                                              · rw [if_neg c26] at H
                                                have c26b0 : decide ((bt a0 (ji22)) < 128) = false := decide_eq_false c26
                                                clear c26
                                                by_cases c28 : (bt a0 (ji22)) > 191
                                                · rw [if_pos c28] at H
                                                  have c28b0 : decide (191 < (bt a0 (ji22))) = true := decide_eq_true c28
                                                  clear c28
                                                  obtain rfl := Option.some.inj H
                                                  have p25 : 0 ≤ ((ji22) : Int) := of_decide_eq_true (by first | (with_reducible assumption) | assumption)
                                                  have q25 : (ji22) < (a0.size : Int) := of_decide_eq_true (by first | (with_reducible assumption) | assumption)
                                                  have hx25 := bt_at a0 (ji22)
                                                  replace p25 := eq_true p25
                                                  replace q25 := eq_true q25
                                                  have p27 : 0 ≤ ((ji22) : Int) := of_decide_eq_true (by first | (with_reducible assumption) | assumption)
                                                  have q27 : (ji22) < (a0.size : Int) := of_decide_eq_true (by first | (with_reducible assumption) | assumption)
                                                  have hx27 := bt_at a0 (ji22)
                                                  replace p27 := eq_true p27
                                                  replace q27 := eq_true q27
                                                  go_wp2
                                                  go_ret
                                                  exact ⟨by first | rfl | (simp; done) | (simp only [← hji22] <;> (first | rfl | simp)) | (simp [*]; done), by repeat (first | exact Drawn0.refl _ | apply Drawn0.step)⟩
                                                · rw [if_neg c28] at H
                                                  have c28b0 : decide (191 < (bt a0 (ji22))) = false := decide_eq_false c28
                                                  clear c28
                                                  have H' := Aside0.mk H
                                                  clear H
                                                  have p25 : 0 ≤ ((ji22) : Int) := of_decide_eq_true (by first | (with_reducible assumption) | assumption)
                                                  have q25 : (ji22) < (a0.size : Int) := of_decide_eq_true (by first | (with_reducible assumption) | assumption)
                                                  have hx25 := bt_at a0 (ji22)
                                                  replace p25 := eq_true p25
                                                  replace q25 := eq_true q25
                                                  have p27 : 0 ≤ ((ji22) : Int) := of_decide_eq_true (by first | (with_reducible assumption) | assumption)
                                                  have q27 : (ji22) < (a0.size : Int) := of_decide_eq_true (by first | (with_reducible assumption) | assumption)
                                                  have hx27 := bt_at a0 (ji22)
                                                  replace p27 := eq_true p27
                                                  replace q27 := eq_true q27
                                                  go_wp2
                                                  go_roundg k8
                                                  case measure => have := HJ5.out; have := HJ7.out; have := HJ9.out; have := HJ11.out; have := HJ13.out; have := HJ15.out; have := HJ17.out; have := HK8.out; omega
                                                  case rel => exact ⟨(wrap64 (x7_8 + 1)), (by first | rfl | (simp; done) | (simp [*]; done)), H', ⟨by have := HJ5.out; have := HJ7.out; have := HJ9.out; have := HJ11.out; have := HJ13.out; have := HJ15.out; have := HJ17.out; have := HK8.out; omega⟩, by repeat (first | exact Drawn0.refl _ | apply Drawn0.step)⟩
                                            · rw [if_neg c24] at H
                                              exact absurd H (by simp)
                                          · rw [if_neg c23] at H
                                            exact absurd H (by simp)
                                        · rw [if_neg c21] at H
                                          have c21b0 : decide (x7_8 < x5_15) = false := decide_eq_false c21
                                          clear c21
                                          obtain ⟨ji29, hji29⟩ : ∃ j_ : Int, (wrap64 (a1 + 1)) = j_ := ⟨_, rfl⟩
                                          replace H : (if 0 ≤ (ji29) then (if (ji29) < (a0.size : Int) then (if (wrap64 (bt a0 a1)) = 224 then (if (wrap64 (bt a0 (ji29))) < 160 then (some 0) else (if (wrap64 (bt a0 a1)) = 237 then (if (wrap64 (bt a0 (ji29))) > 159 then (some 0) else (if (wrap64 (bt a0 a1)) = 240 then (if (wrap64 (bt a0 (ji29))) < 144 then (some 0) else (if (wrap64 (bt a0 a1)) = 244 then (if (wrap64 (bt a0 (ji29))) > 143 then (some 0) else (some x5_15)) else (some x5_15))) else (if (wrap64 (bt a0 a1)) = 244 then (if (wrap64 (bt a0 (ji29))) > 143 then (some 0) else (some x5_15)) else (some x5_15)))) else (if (wrap64 (bt a0 a1)) = 240 then (if (wrap64 (bt a0 (ji29))) < 144 then (some 0) else (if (wrap64 (bt a0 a1)) = 244 then (if (wrap64 (bt a0 (ji29))) > 143 then (some 0) else (some x5_15)) else (some x5_15))) else (if (wrap64 (bt a0 a1)) = 244 then (if (wrap64 (bt a0 (ji29))) > 143 then (some 0) else (some x5_15)) else (some x5_15))))) else (if (wrap64 (bt a0 a1)) = 237 then (if (wrap64 (bt a0 (ji29))) > 159 then (some 0) else (if (wrap64 (bt a0 a1)) = 240 then (if (wrap64 (bt a0 (ji29))) < 144 then (some 0) else (if (wrap64 (bt a0 a1)) = 244 then (if (wrap64 (bt a0 (ji29))) > 143 then (some 0) else (some x5_15)) else (some x5_15))) else (if (wrap64 (bt a0 a1)) = 244 then (if (wrap64 (bt a0 (ji29))) > 143 then (some 0) else (some x5_15)) else (some x5_15)))) else (if (wrap64 (bt a0 a1)) = 240 then (if (wrap64 (bt a0 (ji29))) < 144 then (some 0) else (if (wrap64 (bt a0 a1)) = 244 then (if (wrap64 (bt a0 (ji29))) > 143 then (some 0) else (some x5_15)) else (some x5_15))) else (if (wrap64 (bt a0 a1)) = 244 then (if (wrap64 (bt a0 (ji29))) > 143 then (some 0) else (some x5_15)) else (some x5_15))))) else (none)) else (none)) = some r := by first | (rw [hji29] at H; exact H) | (simp only [hji29] at H ⊢; exact H)
                                          have hji29w : (IntKind.i64.wrap (a1 + 1)) = ji29 := (i64_w _).trans hji29
                                          by_cases c30 : 0 ≤ (ji29)
                                          · rw [if_pos c30] at H
                                            have c30b0 : decide (0 ≤ (ji29)) = true := decide_eq_true c30
                                            clear c30
                                            by_cases c31 : (ji29) < (a0.size : Int)
                                            · rw [if_pos c31] at H
                                              have c31b0 : decide ((ji29) < (a0.size : Int)) = true := decide_eq_true c31
                                              clear c31
                                              by_cases c33 : (wrap64 (bt a0 a1)) = 224
                                              · rw [if_pos c33] at H
                                                have c33b0 : ((wrap64 (bt a0 a1)) == 224) = true := beq_iff_eq.mpr c33
                                                have c33b1 : ((wrap64 (bt a0 a1)) != 224) = false := bne_eq_false_iff_eq.mpr c33
                                                clear c33
                                                by_cases c34 : (wrap64 (bt a0 (ji29))) < 160
                                                · rw [if_pos c34] at H
                                                  have c34b0 : decide ((wrap64 (bt a0 (ji29))) < 160) = true := decide_eq_true c34
                                                  clear c34
                                                  obtain rfl := Option.some.inj H
                                                  have p32 : 0 ≤ ((ji29) : Int) := of_decide_eq_true (by first | (with_reducible assumption) | assumption)
                                                  have q32 : (ji29) < (a0.size : Int) := of_decide_eq_true (by first | (with_reducible assumption) | assumption)
                                                  have hx32 := bt_at a0 (ji29)
                                                  replace p32 := eq_true p32
                                                  replace q32 := eq_true q32
                                                  go_wp2
                                                  go_ret
                                                  exact ⟨by first | rfl | (simp; done) | (simp only [← hji29] <;> (first | rfl | simp)) | (simp [*]; done), by repeat (first | exact Drawn0.refl _ | apply Drawn0.step)⟩
                                                · rw [if_neg c34] at H
                                                  have c34b0 : decide ((wrap64 (bt a0 (ji29))) < 160) = false := decide_eq_false c34
                                                  clear c34
                                                  by_cases c35 : (wrap64 (bt a0 a1)) = 237
                                                  · rw [if_pos c35] at H
                                                    have c35b0 : ((wrap64 (bt a0 a1)) == 237) = true := beq_iff_eq.mpr c35
                                                    have c35b1 : ((wrap64 (bt a0 a1)) != 237) = false := bne_eq_false_iff_eq.mpr c35
                                                    clear c35
                                                    by_cases c36 : (wrap64 (bt a0 (ji29))) > 159
                                                    · rw [if_pos c36] at H
                                                      have c36b0 : decide (159 < (wrap64 (bt a0 (ji29)))) = true := decide_eq_true c36
                                                      clear c36
                                                      obtain rfl := Option.some.inj H
                                                      have p32 : 0 ≤ ((ji29) : Int) := of_decide_eq_true (by first | (with_reducible assumption) | assumption)
                                                      have q32 : (ji29) < (a0.size : Int) := of_decide_eq_true (by first | (with_reducible assumption) | assumption)
                                                      have hx32 := bt_at a0 (ji29)
                                                      replace p32 := eq_true p32
                                                      replace q32 := eq_true q32
                                                      go_wp2
                                                      go_ret
                                                      exact ⟨by first | rfl | (simp; done) | (simp only [← hji29] <;> (first | rfl | simp)) | (simp [*]; done), by repeat (first | exact Drawn0.refl _ | apply Drawn0.step)⟩
                                                    · rw [if_neg c36] at H
                                                      have c36b0 : decide (159 < (wrap64 (bt a0 (ji29)))) = false := decide_eq_false c36
                                                      clear c36
                                                      by_cases c37 : (wrap64 (bt a0 a1)) = 240
                                                      · rw [if_pos c37] at H
                                                        have c37b0 : ((wrap64 (bt a0 a1)) == 240) = true := beq_iff_eq.mpr c37
                                                        have c37b1 : ((wrap64 (bt a0 a1)) != 240) = false := bne_eq_false_iff_eq.mpr c37
                                                        clear c37
                                                        by_cases c38 : (wrap64 (bt a0 (ji29))) < 144
                                                        · rw [if_pos c38] at H
                                                          have c38b0 : decide ((wrap64 (bt a0 (ji29))) < 144) = true := decide_eq_true c38
                                                          clear c38
                                                          obtain rfl := Option.some.inj H
                                                          have p32 : 0 ≤ ((ji29) : Int) := of_decide_eq_true (by first | (with_reducible assumption) | assumption)
                                                          have q32 : (ji29) < (a0.size : Int) := of_decide_eq_true (by first | (with_reducible assumption) | assumption)
                                                          have hx32 := bt_at a0 (ji29)
                                                          replace p32 := eq_true p32
                                                          replace q32 := eq_true q32
                                                          go_wp2
                                                          go_ret
                                                          exact ⟨by first | rfl | (simp; done) | (simp only [← hji29] <;> (first | rfl | simp)) | (simp [*]; done), by repeat (first | exact Drawn0.refl _ | apply Drawn0.step)⟩
                                                        · rw [if_neg c38] at H
                                                          have c38b0 : decide ((wrap64 (bt a0 (ji29))) < 144) = false := decide_eq_false c38
                                                          clear c38
                                                          by_cases c39 : (wrap64 (bt a0 a1)) = 244
                                                          · rw [if_pos c39] at H
                                                            have c39b0 : ((wrap64 (bt a0 a1)) == 244) = true := beq_iff_eq.mpr c39
                                                            have c39b1 : ((wrap64 (bt a0 a1)) != 244) = false := bne_eq_false_iff_eq.mpr c39
                                                            clear c39
                                                            by_cases c40 : (wrap64 (bt a0 (ji29))) > 143
                                                            · rw [if_pos c40] at H
                                                              have c40b0 : decide (143 < (wrap64 (bt a0 (ji29)))) = true := decide_eq_true c40
                                                              clear c40
                                                              obtain rfl := Option.some.inj H
                                                              have p32 : 0 ≤ ((ji29) : Int) := of_decide_eq_true (by first | (with_reducible assumption) | assumption)
                                                              have q32 : (ji29) < (a0.size : Int) := of_decide_eq_true (by first | (with_reducible assumption) | assumption)
                                                              have hx32 := bt_at a0 (ji29)
                                                              replace p32 := eq_true p32
                                                              replace q32 := eq_true q32
                                                              go_wp2
                                                              go_ret
                                                              exact ⟨by first | rfl | (simp; done) | (simp only [← hji29] <;> (first | rfl | simp)) | (simp [*]; done), by repeat (first | exact Drawn0.refl _ | apply Drawn0.step)⟩
                                                            · rw [if_neg c40] at H
                                                              have c40b0 : decide (143 < (wrap64 (bt a0 (ji29)))) = false := decide_eq_false c40
                                                              clear c40
                                                              obtain rfl := Option.some.inj H
                                                              have p32 : 0 ≤ ((ji29) : Int) := of_decide_eq_true (by first | (with_reducible assumption) | assumption)
                                                              have q32 : (ji29) < (a0.size : Int) := of_decide_eq_true (by first | (with_reducible assumption) | assumption)
                                                              have hx32 := bt_at a0 (ji29)
                                                              replace p32 := eq_true p32
                                                              replace q32 := eq_true q32
                                                              go_wp2
                                                              go_ret
                                                              exact ⟨by first | rfl | (simp; done) | (simp only [← hji29] <;> (first | rfl | simp)) | (simp [*]; done), by repeat (first | exact Drawn0.refl _ | apply Drawn0.step)⟩
                                                          · rw [if_neg c39] at H
                                                            have c39b0 : ((wrap64 (bt a0 a1)) == 244) = false := beq_eq_false_iff_ne.mpr c39
                                                            have c39b1 : ((wrap64 (bt a0 a1)) != 244) = true := bne_iff_ne.mpr c39
                                                            obtain rfl := Option.some.inj H
                                                            have p32 : 0 ≤ ((ji29) : Int) := of_decide_eq_true (by first | (with_reducible assumption) | assumption)
                                                            have q32 : (ji29) < (a0.size : Int) := of_decide_eq_true (by first | (with_reducible assumption) | assumption)
                                                            have hx32 := bt_at a0 (ji29)
                                                            replace p32 := eq_true p32
                                                            replace q32 := eq_true q32
                                                            go_wp2
                                                            go_ret
                                                            exact ⟨by first | rfl | (simp; done) | (simp only [← hji29] <;> (first | rfl | simp)) | (simp [*]; done), by repeat (first | exact Drawn0.refl _ | apply Drawn0.step)⟩
                                                      · rw [if_neg c37] at H
                                                        have c37b0 : ((wrap64 (bt a0 a1)) == 240) = false := beq_eq_false_iff_ne.mpr c37
                                                        have c37b1 : ((wrap64 (bt a0 a1)) != 240) = true := bne_iff_ne.mpr c37
                                                        by_cases c41 : (wrap64 (bt a0 a1)) = 244
                                                        · rw [if_pos c41] at H
                                                          have c41b0 : ((wrap64 (bt a0 a1)) == 244) = true := beq_iff_eq.mpr c41
                                                          have c41b1 : ((wrap64 (bt a0 a1)) != 244) = false := bne_eq_false_iff_eq.mpr c41
                                                          clear c41
                                                          by_cases c42 : (wrap64 (bt a0 (ji29))) > 143
                                                          · rw [if_pos c42] at H
                                                            have c42b0 : decide (143 < (wrap64 (bt a0 (ji29)))) = true := decide_eq_true c42
                                                            clear c42
                                                            obtain rfl := Option.some.inj H
                                                            have p32 : 0 ≤ ((ji29) : Int) := of_decide_eq_true (by first | (with_reducible assumption) | assumption)
                                                            have q32 : (ji29) < (a0.size : Int) := of_decide_eq_true (by first | (with_reducible assumption) | assumption)
                                                            have hx32 := bt_at a0 (ji29)
                                                            replace p32 := eq_true p32
                                                            replace q32 := eq_true q32
                                                            go_wp2
                                                            go_ret
                                                            exact ⟨by first | rfl | (simp; done) | (simp only [← hji29] <;> (first | rfl | simp)) | (simp [*]; done), by repeat (first | exact Drawn0.refl _ | apply Drawn0.step)⟩
                                                          · rw [if_neg c42] at H
                                                            have c42b0 : decide (143 < (wrap64 (bt a0 (ji29)))) = false := decide_eq_false c42
                                                            clear c42
                                                            obtain rfl := Option.some.inj H
                                                            have p32 : 0 ≤ ((ji29) : Int) := of_decide_eq_true (by first | (with_reducible assumption) | assumption)
                                                            have q32 : (ji29) < (a0.size : Int) := of_decide_eq_true (by first | (with_reducible assumption) | assumption)
                                                            have hx32 := bt_at a0 (ji29)
                                                            replace p32 := eq_true p32
                                                            replace q32 := eq_true q32
                                                            go_wp2
                                                            go_ret
                                                            exact ⟨by first | rfl | (simp; done) | (simp only [← hji29] <;> (first | rfl | simp)) | (simp [*]; done), by repeat (first | exact Drawn0.refl _ | apply Drawn0.step)⟩
                                                        · rw [if_neg c41] at H
                                                          have c41b0 : ((wrap64 (bt a0 a1)) == 244) = false := beq_eq_false_iff_ne.mpr c41
                                                          have c41b1 : ((wrap64 (bt a0 a1)) != 244) = true := bne_iff_ne.mpr c41
                                                          obtain rfl := Option.some.inj H
                                                          have p32 : 0 ≤ ((ji29) : Int) := of_decide_eq_true (by first | (with_reducible assumption) | assumption)
                                                          have q32 : (ji29) < (a0.size : Int) := of_decide_eq_true (by first | (with_reducible assumption) | assumption)
                                                          have hx32 := bt_at a0 (ji29)
                                                          replace p32 := eq_true p32
                                                          replace q32 := eq_true q32
                                                          go_wp2
                                                          go_ret
                                                          exact ⟨by first | rfl | (simp; done) | (simp only [← hji29] <;> (first | rfl | simp)) | (simp [*]; done), by repeat (first | exact Drawn0.refl _ | apply Drawn0.step)⟩
                                                  · rw [if_neg c35] at H
                                                    have c35b0 : ((wrap64 (bt a0 a1)) == 237) = false := beq_eq_false_iff_ne.mpr c35
                                                    have c35b1 : ((wrap64 (bt a0 a1)) != 237) = true := bne_iff_ne.mpr c35
                                                    by_cases c43 : (wrap64 (bt a0 a1)) = 240
                                                    · rw [if_pos c43] at H
                                                      have c43b0 : ((wrap64 (bt a0 a1)) == 240) = true := beq_iff_eq.mpr c43
                                                      have c43b1 : ((wrap64 (bt a0 a1)) != 240) = false := bne_eq_false_iff_eq.mpr c43
                                                      clear c43
                                                      by_cases c44 : (wrap64 (bt a0 (ji29))) < 144
                                                      · rw [if_pos c44] at H
                                                        have c44b0 : decide ((wrap64 (bt a0 (ji29))) < 144) = true := decide_eq_true c44
                                                        clear c44
                                                        obtain rfl := Option.some.inj H
                                                        have p32 : 0 ≤ ((ji29) : Int) := of_decide_eq_true (by first | (with_reducible assumption) | assumption)
                                                        have q32 : (ji29) < (a0.size : Int) := of_decide_eq_true (by first | (with_reducible assumption) | assumption)
                                                        have hx32 := bt_at a0 (ji29)
                                                        replace p32 := eq_true p32
                                                        replace q32 := eq_true q32
                                                        go_wp2
                                                        go_ret
                                                        exact ⟨by first | rfl | (simp; done) | (simp only [← hji29] <;> (first | rfl | simp)) | (simp [*]; done), by repeat (first | exact Drawn0.refl _ | apply Drawn0.step)⟩
                                                      · rw [if_neg c44] at H
                                                        have c44b0 : decide ((wrap64 (bt a0 (ji29))) < 144) = false := decide_eq_false c44
                                                        clear c44
                                                        by_cases c45 : (wrap64 (bt a0 a1)) = 244
                                                        · rw [if_pos c45] at H
                                                          have c45b0 : ((wrap64 (bt a0 a1)) == 244) = true := beq_iff_eq.mpr c45
                                                          have c45b1 : ((wrap64 (bt a0 a1)) != 244) = false := bne_eq_false_iff_eq.mpr c45
                                                          clear c45
                                                          by_cases c46 : (wrap64 (bt a0 (ji29))) > 143
                                                          · rw [if_pos c46] at H
                                                            have c46b0 : decide (143 < (wrap64 (bt a0 (ji29)))) = true := decide_eq_true c46
                                                            clear c46
                                                            obtain rfl := Option.some.inj H
                                                            have p32 : 0 ≤ ((ji29) : Int) := of_decide_eq_true (by first | (with_reducible assumption) | assumption)
                                                            have q32 : (ji29) < (a0.size : Int) := of_decide_eq_true (by first | (with_reducible assumption) | assumption)
                                                            have hx32 := bt_at a0 (ji29)
                                                            replace p32 := eq_true p32
                                                            replace q32 := eq_true q32
                                                            go_wp2
                                                            go_ret
                                                            exact ⟨by first | rfl | (simp; done) | (simp only [← hji29] <;> (first | rfl | simp)) | (simp [*]; done), by repeat (first | exact Drawn0.refl _ | apply Drawn0.step)⟩
                                                          · rw [if_neg c46] at H
                                                            have c46b0 : decide (143 < (wrap64 (bt a0 (ji29)))) = false := decide_eq_false c46
                                                            clear c46
                                                            obtain rfl := Option.some.inj H
                                                            have p32 : 0 ≤ ((ji29) : Int) := of_decide_eq_true (by first | (with_reducible assumption) | assumption)
                                                            have q32 : (ji29) < (a0.size : Int) := of_decide_eq_true (by first | (with_reducible assumption) | assumption)
                                                            have hx32 := bt_at a0 (ji29)
                                                            replace p32 := eq_true p32
                                                            replace q32 := eq_true q32
                                                            go_wp2
                                                            go_ret
                                                            exact ⟨by first | rfl | (simp; done) | (simp only [← hji29] <;> (first | rfl | simp)) | (simp [*]; done), by repeat (first | exact Drawn0.refl _ | apply Drawn0.step)⟩
                                                        · rw [if_neg c45] at H
                                                          have c45b0 : ((wrap64 (bt a0 a1)) == 244) = false := beq_eq_false_iff_ne.mpr c45
                                                          have c45b1 : ((wrap64 (bt a0 a1)) != 244) = true := bne_iff_ne.mpr c45
                                                          obtain rfl := Option.some.inj H
                                                          have p32 : 0 ≤ ((ji29) : Int) := of_decide_eq_true (by first | (with_reducible assumption) | assumption)
                                                          have q32 : (ji29) < (a0.size : Int) := of_decide_eq_true (by first | (with_reducible assumption) | assumption)
                                                          have hx32 := bt_at a0 (ji29)
                                                          replace p32 := eq_true p32
                                                          replace q32 := eq_true q32
                                                          go_wp2
                                                          go_ret
                                                          exact ⟨by first | rfl | (simp; done) | (simp only [← hji29] <;> (first | rfl | simp)) | (simp [*]; done), by repeat (first | exact Drawn0.refl _ | apply Drawn0.step)⟩
                                                    · rw [if_neg c43] at H
                                                      have c43b0 : ((wrap64 (bt a0 a1)) == 240) = false := beq_eq_false_iff_ne.mpr c43
                                                      have c43b1 : ((wrap64 (bt a0 a1)) != 240) = true := bne_iff_ne.mpr c43
                                                      by_cases c47 : (wrap64 (bt a0 a1)) = 244
                                                      · rw [if_pos c47] at H
                                                        have c47b0 : ((wrap64 (bt a0 a1)) == 244) = true := beq_iff_eq.mpr c47
                                                        have c47b1 : ((wrap64 (bt a0 a1)) != 244) = false := bne_eq_false_iff_eq.mpr c47
                                                        clear c47
                                                        by_cases c48 : (wrap64 (bt a0 (ji29))) > 143
                                                        · rw [if_pos c48] at H
                                                          have c48b0 : decide (143 < (wrap64 (bt a0 (ji29)))) = true := decide_eq_true c48
                                                          clear c48
                                                          obtain rfl := Option.some.inj H
                                                          have p32 : 0 ≤ ((ji29) : Int) := of_decide_eq_true (by first | (with_reducible assumption) | assumption)
                                                          have q32 : (ji29) < (a0.size : Int) := of_decide_eq_true (by first | (with_reducible assumption) | assumption)
                                                          have hx32 := bt_at a0 (ji29)
                                                          replace p32 := eq_true p32
                                                          replace q32 := eq_true q32
                                                          go_wp2
                                                          go_ret
                                                          exact ⟨by first | rfl | (simp; done) | (simp only [← hji29] <;> (first | rfl | simp)) | (simp [*]; done), by repeat (first | exact Drawn0.refl _ | apply Drawn0.step)⟩
                                                        · rw [if_neg c48] at H
                                                          have c48b0 : decide (143 < (wrap64 (bt a0 (ji29)))) = false := decide_eq_false c48
                                                          clear c48
                                                          obtain rfl := Option.some.inj H
                                                          have p32 : 0 ≤ ((ji29) : Int) := of_decide_eq_true (by first | (with_reducible assumption) | assumption)
                                                          have q32 : (ji29) < (a0.size : Int) := of_decide_eq_true (by first | (with_reducible assumption) | assumption)
                                                          have hx32 := bt_at a0 (ji29)
                                                          replace p32 := eq_true p32
                                                          replace q32 := eq_true q32
                                                          go_wp2
                                                          go_ret
                                                          exact ⟨by first | rfl | (simp; done) | (simp only [← hji29] <;> (first | rfl | simp)) | (simp [*]; done), by repeat (first | exact Drawn0.refl _ | apply Drawn0.step)⟩
                                                      · rw [if_neg c47] at H
                                                        have c47b0 : ((wrap64 (bt a0 a1)) == 244) = false := beq_eq_false_iff_ne.mpr c47
                                                        have c47b1 : ((wrap64 (bt a0 a1)) != 244) = true := bne_iff_ne.mpr c47
                                                        obtain rfl := Option.some.inj H
                                                        have p32 : 0 ≤ ((ji29) : Int) := of_decide_eq_true (by first | (with_reducible assumption) | assumption)
                                                        have q32 : (ji29) < (a0.size : Int) := of_decide_eq_true (by first | (with_reducible assumption) | assumption)
                                                        have hx32 := bt_at a0 (ji29)
                                                        replace p32 := eq_true p32
                                                        replace q32 := eq_true q32
                                                        go_wp2
                                                        go_ret
                                                        exact ⟨by first | rfl | (simp; done) | (simp only [← hji29] <;> (first | rfl | simp)) | (simp [*]; done), by repeat (first | exact Drawn0.refl _ | apply Drawn0.step)⟩
                                              · rw [if_neg c33] at H
                                                have c33b0 : ((wrap64 (bt a0 a1)) == 224) = false := beq_eq_false_iff_ne.mpr c33
                                                have c33b1 : ((wrap64 (bt a0 a1)) != 224) = true := bne_iff_ne.mpr c33
                                                by_cases c49 : (wrap64 (bt a0 a1)) = 237
                                                · rw [if_pos c49] at H
                                                  have c49b0 : ((wrap64 (bt a0 a1)) == 237) = true := beq_iff_eq.mpr c49
                                                  have c49b1 : ((wrap64 (bt a0 a1)) != 237) = false := bne_eq_false_iff_eq.mpr c49
                                                  clear c49
                                                  by_cases c50 : (wrap64 (bt a0 (ji29))) > 159
                                                  · rw [if_pos c50] at H
                                                    have c50b0 : decide (159 < (wrap64 (bt a0 (ji29)))) = true := decide_eq_true c50
                                                    clear c50
                                                    obtain rfl := Option.some.inj H
                                                    have p32 : 0 ≤ ((ji29) : Int) := of_decide_eq_true (by first | (with_reducible assumption) | assumption)
                                                    have q32 : (ji29) < (a0.size : Int) := of_decide_eq_true (by first | (with_reducible assumption) | assumption)
                                                    have hx32 := bt_at a0 (ji29)
                                                    replace p32 := eq_true p32
                                                    replace q32 := eq_true q32
                                                    go_wp2
                                                    go_ret
                                                    exact ⟨by first | rfl | (simp; done) | (simp only [← hji29] <;> (first | rfl | simp)) | (simp [*]; done), by repeat (first | exact Drawn0.refl _ | apply Drawn0.step)⟩
                                                  · rw [if_neg c50] at H
                                                    have c50b0 : decide (159 < (wrap64 (bt a0 (ji29)))) = false := decide_eq_false c50
                                                    clear c50
                                                    by_cases c51 : (wrap64 (bt a0 a1)) = 240
                                                    · rw [if_pos c51] at H
                                                      have c51b0 : ((wrap64 (bt a0 a1)) == 240) = true := beq_iff_eq.mpr c51
                                                      have c51b1 : ((wrap64 (bt a0 a1)) != 240) = false := bne_eq_false_iff_eq.mpr c51
                                                      clear c51
                                                      by_cases c52 : (wrap64 (bt a0 (ji29))) < 144
                                                      · rw [if_pos c52] at H
                                                        have c52b0 : decide ((wrap64 (bt a0 (ji29))) < 144) = true := decide_eq_true c52
                                                        clear c52
                                                        obtain rfl := Option.some.inj H
                                                        have p32 : 0 ≤ ((ji29) : Int) := of_decide_eq_true (by first | (with_reducible assumption) | assumption)
                                                        have q32 : (ji29) < (a0.size : Int) := of_decide_eq_true (by first | (with_reducible assumption) | assumption)
                                                        have hx32 := bt_at a0 (ji29)
                                                        replace p32 := eq_true p32
                                                        replace q32 := eq_true q32
                                                        go_wp2
                                                        go_ret
                                                        exact ⟨by first | rfl | (simp; done) | (simp only [← hji29] <;> (first | rfl | simp)) | (simp [*]; done), by repeat (first | exact Drawn0.refl _ | apply Drawn0.step)⟩
                                                      · rw [if_neg c52] at H
                                                        have c52b0 : decide ((wrap64 (bt a0 (ji29))) < 144) = false := decide_eq_false c52
                                                        clear c52
                                                        by_cases c53 : (wrap64 (bt a0 a1)) = 244
                                                        · rw [if_pos c53] at H
                                                          have c53b0 : ((wrap64 (bt a0 a1)) == 244) = true := beq_iff_eq.mpr c53
                                                          have c53b1 : ((wrap64 (bt a0 a1)) != 244) = false := bne_eq_false_iff_eq.mpr c53
                                                          clear c53
                                                          by_cases c54 : (wrap64 (bt a0 (ji29))) > 143
                                                          · rw [if_pos c54] at H
                                                            have c54b0 : decide (143 < (wrap64 (bt a0 (ji29)))) = true := decide_eq_true c54
                                                            clear c54
                                                            obtain rfl := Option.some.inj H
                                                            have p32 : 0 ≤ ((ji29) : Int) := of_decide_eq_true (by first | (with_reducible assumption) | assumption)
                                                            have q32 : (ji29) < (a0.size : Int) := of_decide_eq_true (by first | (with_reducible assumption) | assumption)
                                                            have hx32 := bt_at a0 (ji29)
                                                            replace p32 := eq_true p32
                                                            replace q32 := eq_true q32
                                                            go_wp2
                                                            go_ret
                                                            exact ⟨by first | rfl | (simp; done) | (simp only [← hji29] <;> (first | rfl | simp)) | (simp [*]; done), by repeat (first | exact Drawn0.refl _ | apply Drawn0.step)⟩
                                                          · rw [if_neg c54] at H
                                                            have c54b0 : decide (143 < (wrap64 (bt a0 (ji29)))) = false := decide_eq_false c54
                                                            clear c54
                                                            obtain rfl := Option.some.inj H
                                                            have p32 : 0 ≤ ((ji29) : Int) := of_decide_eq_true (by first | (with_reducible assumption) | assumption)
                                                            have q32 : (ji29) < (a0.size : Int) := of_decide_eq_true (by first | (with_reducible assumption) | assumption)
                                                            have hx32 := bt_at a0 (ji29)
                                                            replace p32 := eq_true p32
                                                            replace q32 := eq_true q32
                                                            go_wp2
                                                            go_ret
                                                            exact ⟨by first | rfl | (simp; done) | (simp only [← hji29] <;> (first | rfl | simp)) | (simp [*]; done), by repeat (first | exact Drawn0.refl _ | apply Drawn0.step)⟩
                                                        · rw [if_neg c53] at H
                                                          have c53b0 : ((wrap64 (bt a0 a1)) == 244) = false := beq_eq_false_iff_ne.mpr c53
                                                          have c53b1 : ((wrap64 (bt a0 a1)) != 244) = true := bne_iff_ne.mpr c53
                                                          obtain rfl := Option.some.inj H
                                                          have p32 : 0 ≤ ((ji29) : Int) := of_decide_eq_true (by first | (with_reducible assumption) | assumption)
                                                          have q32 : (ji29) < (a0.size : Int) := of_decide_eq_true (by first | (with_reducible assumption) | assumption)
                                                          have hx32 := bt_at a0 (ji29)
                                                          replace p32 := eq_true p32
                                                          replace q32 := eq_true q32
                                                          go_wp2
                                                          go_ret
                                                          exact ⟨by first | rfl | (simp; done) | (simp only [← hji29] <;> (first | rfl | simp)) | (simp [*]; done), by repeat (first | exact Drawn0.refl _ | apply Drawn0.step)⟩
                                                    · rw [if_neg c51] at H
                                                      have c51b0 : ((wrap64 (bt a0 a1)) == 240) = false := beq_eq_false_iff_ne.mpr c51
                                                      have c51b1 : ((wrap64 (bt a0 a1)) != 240) = true := bne_iff_ne.mpr c51
                                                      by_cases c55 : (wrap64 (bt a0 a1)) = 244
                                                      · rw [if_pos c55] at H
                                                        have c55b0 : ((wrap64 (bt a0 a1)) == 244) = true := beq_iff_eq.mpr c55
                                                        have c55b1 : ((wrap64 (bt a0 a1)) != 244) = false := bne_eq_false_iff_eq.mpr c55
                                                        clear c55
                                                        by_cases c56 : (wrap64 (bt a0 (ji29))) > 143
                                                        · rw [if_pos c56] at H
                                                          have c56b0 : decide (143 < (wrap64 (bt a0 (ji29)))) = true := decide_eq_true c56
                                                          clear c56
                                                          obtain rfl := Option.some.inj H
                                                          have p32 : 0 ≤ ((ji29) : Int) := of_decide_eq_true (by first | (with_reducible assumption) | assumption)
                                                          have q32 : (ji29) < (a0.size : Int) := of_decide_eq_true (by first | (with_reducible assumption) | assumption)
                                                          have hx32 := bt_at a0 (ji29)
                                                          replace p32 := eq_true p32
                                                          replace q32 := eq_true q32
                                                          go_wp2
                                                          go_ret
                                                          exact ⟨by first | rfl | (simp; done) | (simp only [← hji29] <;> (first | rfl | simp)) | (simp [*]; done), by repeat (first | exact Drawn0.refl _ | apply Drawn0.step)⟩
                                                        · rw [if_neg c56] at H
                                                          have c56b0 : decide (143 < (wrap64 (bt a0 (ji29)))) = false := decide_eq_false c56
                                                          clear c56
                                                          obtain rfl := Option.some.inj H
                                                          have p32 : 0 ≤ ((ji29) : Int) := of_decide_eq_true (by first | (with_reducible assumption) | assumption)
                                                          have q32 : (ji29) < (a0.size : Int) := of_decide_eq_true (by first | (with_reducible assumption) | assumption)
                                                          have hx32 := bt_at a0 (ji29)
                                                          replace p32 := eq_true p32
                                                          replace q32 := eq_true q32
                                                          go_wp2
                                                          go_ret
                                                          exact ⟨by first | rfl | (simp; done) | (simp only [← hji29] <;> (first | rfl | simp)) | (simp [*]; done), by repeat (first | exact Drawn0.refl _ | apply Drawn0.step)⟩
                                                      · rw [if_neg c55] at H
                                                        have c55b0 : ((wrap64 (bt a0 a1)) == 244) = false := beq_eq_false_iff_ne.mpr c55
                                                        have c55b1 : ((wrap64 (bt a0 a1)) != 244) = true := bne_iff_ne.mpr c55
                                                        obtain rfl := Option.some.inj H
                                                        have p32 : 0 ≤ ((ji29) : Int) := of_decide_eq_true (by first | (with_reducible assumption) | assumption)
                                                        have q32 : (ji29) < (a0.size : Int) := of_decide_eq_true (by first | (with_reducible assumption) | assumption)
                                                        have hx32 := bt_at a0 (ji29)
                                                        replace p32 := eq_true p32
                                                        replace q32 := eq_true q32
                                                        go_wp2
                                                        go_ret
                                                        exact ⟨by first | rfl | (simp; done) | (simp only [← hji29] <;> (first | rfl | simp)) | (simp [*]; done), by repeat (first | exact Drawn0.refl _ | apply Drawn0.step)⟩
                                                · rw [if_neg c49] at H
                                                  have c49b0 : ((wrap64 (bt a0 a1)) == 237) = false := beq_eq_false_iff_ne.mpr c49
                                                  have c49b1 : ((wrap64 (bt a0 a1)) != 237) = true := bne_iff_ne.mpr c49
                                                  by_cases c57 : (wrap64 (bt a0 a1)) = 240
                                                  · rw [if_pos c57] at H
                                                    have c57b0 : ((wrap64 (bt a0 a1)) == 240) = true := beq_iff_eq.mpr c57
                                                    have c57b1 : ((wrap64 (bt a0 a1)) != 240) = false := bne_eq_false_iff_eq.mpr c57
                                                    clear c57
                                                    by_cases c58 : (wrap64 (bt a0 (ji29))) < 144
                                                    · rw [if_pos c58] at H
                                                      have c58b0 : decide ((wrap64 (bt a0 (ji29))) < 144) = true := decide_eq_true c58
                                                      clear c58
                                                      obtain rfl := Option.some.inj H
                                                      have p32 : 0 ≤ ((ji29) : Int) := of_decide_eq_true (by first | (with_reducible assumption) | assumption)
                                                      have q32 : (ji29) < (a0.size : Int) := of_decide_eq_true (by first | (with_reducible assumption) | assumption)
                                                      have hx32 := bt_at a0 (ji29)
                                                      replace p32 := eq_true p32
                                                      replace q32 := eq_true q32
                                                      go_wp2
                                                      go_ret
                                                      exact ⟨by first | rfl | (simp; done) | (simp only [← hji29] <;> (first | rfl | simp)) | (simp [*]; done), by repeat (first | exact Drawn0.refl _ | apply Drawn0.step)⟩
                                                    · rw [if_neg c58] at H
                                                      have c58b0 : decide ((wrap64 (bt a0 (ji29))) < 144) = false := decide_eq_false c58
                                                      clear c58
                                                      by_cases c59 : (wrap64 (bt a0 a1)) = 244
                                                      · rw [if_pos c59] at H
                                                        have c59b0 : ((wrap64 (bt a0 a1)) == 244) = true := beq_iff_eq.mpr c59
                                                        have c59b1 : ((wrap64 (bt a0 a1)) != 244) = false := bne_eq_false_iff_eq.mpr c59
                                                        clear c59
                                                        by_cases c60 : (wrap64 (bt a0 (ji29))) > 143
                                                        · rw [if_pos c60] at H
                                                          have c60b0 : decide (143 < (wrap64 (bt a0 (ji29)))) = true := decide_eq_true c60
                                                          clear c60
                                                          obtain rfl := Option.some.inj H
                                                          have p32 : 0 ≤ ((ji29) : Int) := of_decide_eq_true (by first | (with_reducible assumption) | assumption)
                                                          have q32 : (ji29) < (a0.size : Int) := of_decide_eq_true (by first | (with_reducible assumption) | assumption)
                                                          have hx32 := bt_at a0 (ji29)
                                                          replace p32 := eq_true p32
                                                          replace q32 := eq_true q32
                                                          go_wp2
                                                          go_ret
                                                          exact ⟨by first | rfl | (simp; done) | (simp only [← hji29] <;> (first | rfl | simp)) | (simp [*]; done), by repeat (first | exact Drawn0.refl _ | apply Drawn0.step)⟩
                                                        · rw [if_neg c60] at H
                                                          have c60b0 : decide (143 < (wrap64 (bt a0 (ji29)))) = false := decide_eq_false c60
                                                          clear c60
                                                          obtain rfl := Option.some.inj H
                                                          have p32 : 0 ≤ ((ji29) : Int) := of_decide_eq_true (by first | (with_reducible assumption) | assumption)
                                                          have q32 : (ji29) < (a0.size : Int) := of_decide_eq_true (by first | (with_reducible assumption) | assumption)
                                                          have hx32 := bt_at a0 (ji29)
                                                          replace p32 := eq_true p32
                                                          replace q32 := eq_true q32
                                                          go_wp2
                                                          go_ret
                                                          exact ⟨by first | rfl | (simp; done) | (simp only [← hji29] <;> (first | rfl | simp)) | (simp [*]; done), by repeat (first | exact Drawn0.refl _ | apply Drawn0.step)⟩
                                                      · rw [if_neg c59] at H
                                                        have c59b0 : ((wrap64 (bt a0 a1)) == 244) = false := beq_eq_false_iff_ne.mpr c59
                                                        have c59b1 : ((wrap64 (bt a0 a1)) != 244) = true := bne_iff_ne.mpr c59
                                                        obtain rfl := Option.some.inj H
                                                        have p32 : 0 ≤ ((ji29) : Int) := of_decide_eq_true (by first | (with_reducible assumption) | assumption)
                                                        have q32 : (ji29) < (a0.size : Int) := of_decide_eq_true (by first | (with_reducible assumption) | assumption)
                                                        have hx32 := bt_at a0 (ji29)
                                                        replace p32 := eq_true p32
                                                        replace q32 := eq_true q32
                                                        go_wp2
                                                        go_ret
                                                        exact ⟨by first | rfl | (simp; done) | (simp only [← hji29] <;> (first | rfl | simp)) | (simp [*]; done), by repeat (first | exact Drawn0.refl _ | apply Drawn0.step)⟩
                                                  · rw [if_neg c57] at H
                                                    have c57b0 : ((wrap64 (bt a0 a1)) == 240) = false := beq_eq_false_iff_ne.mpr c57
                                                    have c57b1 : ((wrap64 (bt a0 a1)) != 240) = true := bne_iff_ne.mpr c57
                                                    by_cases c61 : (wrap64 (bt a0 a1)) = 244
                                                    · rw [if_pos c61] at H
                                                      have c61b0 : ((wrap64 (bt a0 a1)) == 244) = true := beq_iff_eq.mpr c61
                                                      have c61b1 : ((wrap64 (bt a0 a1)) != 244) = false := bne_eq_false_iff_eq.mpr c61
                                                      clear c61
                                                      by_cases c62 : (wrap64 (bt a0 (ji29))) > 143
                                                      · rw [if_pos c62] at H
                                                        have c62b0 : decide (143 < (wrap64 (bt a0 (ji29)))) = true := decide_eq_true c62
                                                        clear c62
                                                        obtain rfl := Option.some.inj H
                                                        have p32 : 0 ≤ ((ji29) : Int) := of_decide_eq_true (by first | (with_reducible assumption) | assumption)
                                                        have q32 : (ji29) < (a0.size : Int) := of_decide_eq_true (by first | (with_reducible assumption) | assumption)
                                                        have hx32 := bt_at a0 (ji29)
                                                        replace p32 := eq_true p32
                                                        replace q32 := eq_true q32
                                                        go_wp2
                                                        go_ret
                                                        exact ⟨by first | rfl | (simp; done) | (simp only [← hji29] <;> (first | rfl | simp)) | (simp [*]; done), by repeat (first | exact Drawn0.refl _ | apply Drawn0.step)⟩
                                                      · rw [if_neg c62] at H
                                                        have c62b0 : decide (143 < (wrap64 (bt a0 (ji29)))) = false := decide_eq_false c62
                                                        clear c62
                                                        obtain rfl := Option.some.inj H
                                                        have p32 : 0 ≤ ((ji29) : Int) := of_decide_eq_true (by first | (with_reducible assumption) | assumption)
                                                        have q32 : (ji29) < (a0.size : Int) := of_decide_eq_true (by first | (with_reducible assumption) | assumption)
                                                        have hx32 := bt_at a0 (ji29)
                                                        replace p32 := eq_true p32
                                                        replace q32 := eq_true q32
                                                        go_wp2
                                                        go_ret
                                                        exact ⟨by first | rfl | (simp; done) | (simp only [← hji29] <;> (first | rfl | simp)) | (simp [*]; done), by repeat (first | exact Drawn0.refl _ | apply Drawn0.step)⟩
                                                    · rw [if_neg c61] at H
                                                      have c61b0 : ((wrap64 (bt a0 a1)) == 244) = false := beq_eq_false_iff_ne.mpr c61
                                                      have c61b1 : ((wrap64 (bt a0 a1)) != 244) = true := bne_iff_ne.mpr c61
                                                      obtain rfl := Option.some.inj H
                                                      have p32 : 0 ≤ ((ji29) : Int) := of_decide_eq_true (by first | (with_reducible assumption) | assumption)
                                                      have q32 : (ji29) < (a0.size : Int) := of_decide_eq_true (by first | (with_reducible assumption) | assumption)
                                                      have hx32 := bt_at a0 (ji29)
                                                      replace p32 := eq_true p32
                                                      replace q32 := eq_true q32
                                                      go_wp2
                                                      go_ret
                                                      exact ⟨by first | rfl | (simp; done) | (simp only [← hji29] <;> (first | rfl | simp)) | (simp [*]; done), by repeat (first | exact Drawn0.refl _ | apply Drawn0.step)⟩
                                            · rw [if_neg c31] at H
                                              exact absurd H (by simp)
                                          · rw [if_neg c30] at H
                                            exact absurd H (by simp)
    · rw [if_neg c4] at H
      exact absurd H (by simp)
  · rw [if_neg c3] at H
    exact absurd H (by simp)

end Go.Proofs.Ytenaggpgblaalaa.PLabelReads
