/- Plain facts on waits: how long is waited, and in all; they rise, and stay below the cap. No condition. -/
import Derived.Test.YtenaggpgblaalaaPlain
namespace Go.Proofs.Ytenaggpgblaalaa.Plain
open Go.RowKit

def mn2 (a b : Int) : Int := if b < a then b else a
/-- How long is waited behind the k-th failure. -/
def wt (b m k : Int) : Int := if k < 1 then 0 else mn2 (tw (k - 1).toNat (hold b)) (hold m)
theorem wt_lo (b m k : Int) : 0 ≤ wt b m k := by
  have h1 := (tw_in (k - 1).toNat (hold b) (hold_lo b) (hold_hi b)).1
  have h2 := hold_lo m
  unfold wt mn2; split
  · exact Int.le_refl _
  · split <;> omega
theorem wt_hi (b m k : Int) : wt b m k ≤ hold m := by
  have h2 := hold_lo m
  unfold wt mn2; split
  · exact h2
  · split <;> omega
theorem wt_mono (b m : Int) {j k : Int} (h : j ≤ k) : wt b m j ≤ wt b m k := by
  by_cases hj : j < 1
  · rw [show wt b m j = 0 from by unfold wt; rw [if_pos hj]]; exact wt_lo b m k
  · have h3 := tw_more (j - 1).toNat (k - 1).toNat (hold b) (hold_lo b) (hold_hi b) (by omega)
    unfold wt mn2
    rw [if_neg hj, if_neg (show ¬ k < 1 by omega)]
    split <;> split <;> omega
theorem wt_far (b m : Int) {j k : Int} (hj : 42 ≤ j) (hk : 42 ≤ k) : wt b m j = wt b m k := by
  have h1 := tw_far (j - 1).toNat (hold b) (hold_lo b) (hold_hi b) (by omega)
  have h2 := tw_far (k - 1).toNat (hold b) (hold_lo b) (hold_hi b) (by omega)
  unfold wt
  rw [if_neg (by omega), if_neg (by omega), h1, h2]
/-- How long is waited in all behind n failures. -/
def sm (b m : Int) : Nat → Int
  | 0 => 0
  | n + 1 => hold (sm b m n + wt b m (n + 1))
theorem sm_in (b m : Int) (n : Nat) : 0 ≤ sm b m n ∧ sm b m n ≤ 1099511627776 := by
  cases n with
  | zero => exact ⟨Int.le_refl _, by show (0 : Int) ≤ _; omega⟩
  | succ n => exact ⟨hold_lo _, hold_hi _⟩
theorem hold_le {n : Int} (h : 0 ≤ n) : hold n ≤ n := by unfold hold; split <;> (try split) <;> omega
theorem sm_le (b m : Int) (C : Int) (hC : hold m ≤ C) (n : Nat) : sm b m n ≤ n * C := by
  induction n with
  | zero => show (0 : Int) ≤ _; simp
  | succ n ih =>
    have h1 := sm_in b m n
    have h2 := wt_lo b m (n + 1)
    have h3 := wt_hi b m (n + 1)
    have h4 := hold_le (n := sm b m n + wt b m (n + 1)) (by omega)
    show hold (sm b m n + wt b m (n + 1)) ≤ _
    rw [show ((n + 1 : Nat) : Int) * C = (n : Int) * C + C from by rw [Int.natCast_add, Int.add_mul]; simp]
    omega
/-- hold of a sum of which one part is held. -/
theorem hold_add (a c : Int) (ha : 0 ≤ a) (hc : 0 ≤ c) : hold (hold a + c) = hold (a + c) := by
  unfold hold; repeat' split
  all_goals omega
theorem hold_add2 (a c : Int) (ha : 0 ≤ a) (hc : 0 ≤ c) : hold (a + hold c) = hold (a + c) := by
  rw [Int.add_comm, hold_add c a hc ha, Int.add_comm]
theorem mul_lo {a b : Int} (ha : 0 ≤ a) (hb : 0 ≤ b) : 0 ≤ a * b := Int.mul_nonneg ha hb
/-- Behind 45 failures each wait is the same. -/
theorem sm_far (b m : Int) (j : Nat) : sm b m (45 + j) = hold (sm b m 45 + j * wt b m 45) := by
  have hs := sm_in b m 45
  have hw := wt_lo b m 45
  induction j with
  | zero => show sm b m 45 = _; rw [show ((0 : Nat) : Int) * wt b m 45 = 0 from by simp, Int.add_zero, hold_id hs.1 hs.2]
  | succ j ih =>
    have hm := mul_lo (a := (j : Int)) (b := wt b m 45) (by omega) hw
    show hold (sm b m (45 + j) + wt b m ((45 + j : Nat) + 1)) = _
    rw [ih, wt_far b m (j := ((45 + j : Nat) : Int) + 1) (k := 45) (by omega) (by omega), hold_add _ _ (by omega) hw]
    rw [show ((j + 1 : Nat) : Int) * wt b m 45 = (j : Int) * wt b m 45 + wt b m 45 from by rw [Int.natCast_add, Int.add_mul]; simp, Int.add_assoc]
def total (b m k : Int) : Int := if k ≤ 45 then sm b m k.toNat else hold (sm b m 45 + (k - 45) * wt b m 45)
theorem total_50 (b m k : Int) (h0 : k ≤ 50) : total b m k = sm b m k.toNat := by
  unfold total
  by_cases h : k ≤ 45
  · rw [if_pos h]
  · rw [if_neg h, show k.toNat = 45 + (k - 45).toNat from by omega, sm_far, show (((k - 45).toNat : Nat) : Int) = k - 45 from by omega]
theorem total_far (b m k : Int) (h0 : 50 < k) : total b m k = hold (sm b m 50 + (k - 50) * wt b m 50) := by
  have hs := sm_in b m 45
  have hw := wt_lo b m 45
  have hm := mul_lo (a := k - 50) (b := wt b m 45) (by omega) hw
  have hm5 := mul_lo (a := 5) (b := wt b m 45) (by omega) hw
  unfold total
  rw [if_neg (by omega), wt_far b m (j := 50) (k := 45) (by omega) (by omega), show (50 : Nat) = 45 + 5 from rfl, sm_far, hold_add _ _ (by simp; omega) hm]
  rw [show (k - 45) * wt b m 45 = ((5 : Nat) : Int) * wt b m 45 + (k - 50) * wt b m 45 from by rw [← Int.add_mul]; congr 1; omega, Int.add_assoc]
/-- The greatest tick is told where the product would be above it. -/
theorem above (l w : Int) (hw : 0 < w) : (1099511627776 : Int) / w < l ↔ 1099511627776 < l * w := Int.ediv_lt_iff_lt_mul hw
theorem total_le (b m k C : Int) (hk : 0 ≤ k) (hC : hold m ≤ C) : total b m k ≤ k * C := by
  have hc0 : 0 ≤ C := Int.le_trans (hold_lo m) hC
  unfold total
  by_cases h : k ≤ 45
  · rw [if_pos h]
    have := sm_le b m C hC k.toNat
    rwa [show ((k.toNat : Nat) : Int) = k from by omega] at this
  · rw [if_neg h]
    have h1 := sm_le b m C hC 45
    have hs := sm_in b m 45
    have hw := wt_lo b m 45
    have h2 : (k - 45) * wt b m 45 ≤ (k - 45) * C := Int.mul_le_mul_of_nonneg_left (Int.le_trans (wt_hi b m 45) hC) (by omega)
    have hm := mul_lo (a := k - 45) (b := wt b m 45) (by omega) hw
    have h3 := hold_le (n := sm b m 45 + (k - 45) * wt b m 45) (by omega)
    rw [show k * C = ((45 : Nat) : Int) * C + (k - 45) * C from by rw [← Int.add_mul]; congr 1; omega]
    omega
end Go.Proofs.Ytenaggpgblaalaa.Plain
