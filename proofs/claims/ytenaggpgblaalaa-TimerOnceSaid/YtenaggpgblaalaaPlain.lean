/- Plain facts on ticks: numbers held within 0 and 2^40, added up, doubled. No condition. -/
import Derived.RowKit
namespace Go.Proofs.Ytenaggpgblaalaa.Plain
open Go.RowKit

def hold (n : Int) : Int := if n < 0 then 0 else if 1099511627776 < n then 1099511627776 else n
theorem hold_lo (n : Int) : 0 ≤ hold n := by unfold hold; split <;> (try split) <;> omega
theorem hold_hi (n : Int) : hold n ≤ 1099511627776 := by unfold hold; split <;> (try split) <;> omega
theorem hold_id {n : Int} (h0 : 0 ≤ n) (h1 : n ≤ 1099511627776) : hold n = n := by unfold hold; split <;> (try split) <;> omega
theorem hold_big {n : Int} (h1 : 1099511627776 ≤ n) : hold n = 1099511627776 := by unfold hold; split <;> (try split) <;> omega
theorem hold_neg {n : Int} (h1 : n ≤ 0) : hold n = 0 := by unfold hold; split <;> (try split) <;> omega
theorem hold_mono {a b : Int} (h : a ≤ b) : hold a ≤ hold b := by unfold hold; split <;> split <;> (try split) <;> (try split) <;> omega
theorem hold_hold (n : Int) : hold (hold n) = hold n := hold_id (hold_lo n) (hold_hi n)

def tw : Nat → Int → Int
  | 0, n => n
  | d + 1, n => tw d (hold (2 * n))
theorem tw_in (d : Nat) : ∀ n : Int, 0 ≤ n → n ≤ 1099511627776 → 0 ≤ tw d n ∧ tw d n ≤ 1099511627776 := by
  induction d with
  | zero => intro n h0 h1; exact ⟨h0, h1⟩
  | succ d ih => intro n h0 h1; exact ih _ (hold_lo _) (hold_hi _)
theorem tw_zero (d : Nat) : tw d 0 = 0 := by
  induction d with
  | zero => rfl
  | succ d ih => show tw d (hold (2 * 0)) = 0; rw [show hold (2 * 0) = 0 from rfl]; exact ih
theorem tw_top (d : Nat) : tw d 1099511627776 = 1099511627776 := by
  induction d with
  | zero => rfl
  | succ d ih => show tw d (hold (2 * 1099511627776)) = _; rw [show hold (2 * 1099511627776) = 1099511627776 from rfl]; exact ih
theorem tw_mono (d : Nat) : ∀ a b : Int, a ≤ b → tw d a ≤ tw d b := by
  induction d with
  | zero => intro a b h; exact h
  | succ d ih => intro a b h; exact ih _ _ (hold_mono (by omega))
theorem tw_step (d : Nat) : ∀ n : Int, 0 ≤ n → n ≤ 1099511627776 → tw d n ≤ tw (d + 1) n := by
  intro n h0 h1
  refine tw_mono d n _ ?_
  unfold hold; split <;> (try split) <;> omega
theorem tw_more (d e : Nat) (n : Int) (h0 : 0 ≤ n) (h1 : n ≤ 1099511627776) (h : d ≤ e) : tw d n ≤ tw e n := by
  induction e with
  | zero => obtain rfl : d = 0 := by omega
            exact Int.le_refl _
  | succ e ih =>
    by_cases c : d = e + 1
    · subst c; exact Int.le_refl _
    · exact Int.le_trans (ih (by omega)) (tw_step e n h0 h1)
theorem tw_41 (n : Int) (h0 : 1 ≤ n) (h1 : n ≤ 1099511627776) : tw 41 n = 1099511627776 := by
  have a : tw 41 1 ≤ tw 41 n := tw_mono 41 1 n h0
  have b : tw 41 1 = 1099511627776 := by decide +kernel
  have c := (tw_in 41 n (by omega) h1).2
  omega
theorem tw_far (d : Nat) (n : Int) (h0 : 0 ≤ n) (h1 : n ≤ 1099511627776) (h : 41 ≤ d) : tw d n = tw 41 n := by
  by_cases c : n = 0
  · subst c; rw [tw_zero, tw_zero]
  · have a := tw_more 41 d n h0 h1 h
    have b := tw_41 n (by omega) h1
    have e := (tw_in d n h0 h1).2
    omega

def addFrom (s : Int) : List Int → Int
  | [] => s
  | v :: l => addFrom (hold (s + hold v)) l

theorem wrap_id {n : Int} (h0 : -9223372036854775808 ≤ n) (h1 : n ≤ 9223372036854775807) : wrap64 n = n := by unfold wrap64; omega
end Go.Proofs.Ytenaggpgblaalaa.Plain
