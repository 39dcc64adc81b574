/- Plain facts on paces: limits rise, sums of limits, and what a clash that is noted does. No condition. -/
import Derived.Test.YtenaggpgblaalaaPlain
namespace Go.Proofs.Ytenaggpgblaalaa.Plain

def fst (b : Int) : Int := if b < 1 then 1 else if 1099511627776 < b then 1099511627776 else b
def nx (l : Int) : Int := hold (l + l / 2 + 1)
def lim (b : Int) : Nat → Int
  | 0 => fst b
  | n + 1 => nx (lim b n)
def su (b : Int) : Nat → Int
  | 0 => 0
  | n + 1 => hold (su b n + lim b n)
theorem fst_in (b : Int) : 1 ≤ fst b ∧ fst b ≤ 1099511627776 := by unfold fst; repeat' split
                                                                   all_goals omega
theorem nx_in (l : Int) (h0 : 1 ≤ l) : 1 ≤ nx l ∧ nx l ≤ 1099511627776 := by
  unfold nx hold; repeat' split
  all_goals omega
theorem nx_ge (l : Int) (h0 : 1 ≤ l) (h1 : l ≤ 1099511627776) : l ≤ nx l := by
  unfold nx hold; repeat' split
  all_goals omega
theorem nx_mono {a b : Int} (h : a ≤ b) : nx a ≤ nx b := hold_mono (by omega)
theorem lim_in (b : Int) (n : Nat) : 1 ≤ lim b n ∧ lim b n ≤ 1099511627776 := by
  induction n with
  | zero => exact fst_in b
  | succ n ih => exact nx_in _ ih.1
theorem lim_ge (b : Int) (n : Nat) : lim b n ≤ lim b (n + 1) := nx_ge _ (lim_in b n).1 (lim_in b n).2
theorem lim_mono {a b : Int} (h : fst a ≤ fst b) (n : Nat) : lim a n ≤ lim b n := by
  induction n with
  | zero => exact h
  | succ n ih => exact nx_mono ih
theorem su_in (b : Int) (n : Nat) : 0 ≤ su b n ∧ su b n ≤ 1099511627776 := by
  cases n with
  | zero => exact ⟨Int.le_refl _, by show (0 : Int) ≤ _; omega⟩
  | succ n => exact ⟨hold_lo _, hold_hi _⟩
theorem su_mono {a b : Int} (h : fst a ≤ fst b) (n : Nat) : su a n ≤ su b n := by
  induction n with
  | zero => exact Int.le_refl _
  | succ n ih => exact hold_mono (by have := lim_mono h n; omega)
theorem su_top (b : Int) (n : Nat) (h : su b n = 1099511627776) (j : Nat) : su b (n + j) = 1099511627776 := by
  induction j with
  | zero => exact h
  | succ j ih =>
    show hold (su b (n + j) + lim b (n + j)) = _
    have := lim_in b (n + j)
    exact hold_big (by omega)
theorem su_300 (b : Int) : su b 300 = 1099511627776 := by
  have h1 : su 1 300 = 1099511627776 := by decide +kernel
  have h2 := su_mono (a := 1) (b := b) (by rw [show fst 1 = 1 from rfl]; exact (fst_in b).1) 300
  have h3 := su_in b 300
  omega
theorem su_far (b : Int) (n : Nat) (h : 300 ≤ n) : su b n = su b 300 := by
  obtain ⟨j, rfl⟩ : ∃ j, n = 300 + j := ⟨n - 300, by omega⟩
  rw [su_top b 300 (su_300 b) j, su_300]
/-- The pace behind i clashes: it began anew t times, c clashes since. -/
structure Paced (b : Int) (i : Nat) (c : Int) (t : Nat) : Prop where
  lo : 0 ≤ c
  hi : c < lim b t
  sum : su b t + c = i
  few : t ≤ i
theorem Paced.zero (b : Int) : Paced b 0 0 0 := ⟨Int.le_refl _, by have := lim_in b 0; omega, rfl, Nat.le_refl _⟩
/-- Not yet: the sum is another number. -/
theorem Paced.keep {b : Int} {i : Nat} {c : Int} {t : Nat} (h : Paced b i c t) (hi : i ≤ 1000000) (hlt : c + 1 < lim b t) : Paced b (i + 1) (c + 1) t ∧ su b (t + 1) ≠ ((i + 1 : Nat) : Int) := by
  obtain ⟨h1, h2, h3, h4⟩ := h
  refine ⟨⟨by omega, hlt, by omega, by omega⟩, ?_⟩
  show hold (su b t + lim b t) ≠ _
  have hs := su_in b t
  unfold hold; repeat' split
  all_goals omega
/-- It begins anew: the sum is just that number. -/
theorem Paced.anew {b : Int} {i : Nat} {c : Int} {t : Nat} (h : Paced b i c t) (hi : i ≤ 1000000) (hge : ¬ c + 1 < lim b t) : Paced b (i + 1) 0 (t + 1) ∧ su b (t + 1) = ((i + 1 : Nat) : Int) := by
  obtain ⟨h1, h2, h3, h4⟩ := h
  have hs := su_in b t
  have hl := lim_in b (t + 1)
  have e : su b (t + 1) = ((i + 1 : Nat) : Int) := by
    show hold (su b t + lim b t) = _
    rw [hold_id (by omega) (by omega)]; omega
  exact ⟨⟨by omega, by omega, by omega, by omega⟩, e⟩
end Go.Proofs.Ytenaggpgblaalaa.Plain
