/- What the printed functions of pace and its reference compute, in plain words. No condition. -/
import Derived.Test.YtenaggpgblaalaaPaceA
import Derived.Test.YtenaggpgblaalaaPlainPace
namespace Go.Proofs.Ytenaggpgblaalaa.Pace
open Go.RowKit Go.Proofs.Ytenaggpgblaalaa.PPaceNotes Go.Proofs.YtenaggpgblaalaaW.PrintWords Go.Proofs.YtenaggpgblaalaaW.PrintLast Go.Proofs.YtenaggpgblaalaaW.PrintMore
open Plain (hold hold_lo hold_hi hold_id hold_big hold_neg hold_mono hold_hold addFrom wrap_id fst nx lim su fst_in nx_in lim_in su_in su_300 su_far su_top)
set_option linter.unusedVariables false
theorem wf_i64 {a : Int} (h : (Lit.int .i64 a).wf = true) : -9223372036854775808 ≤ a ∧ a ≤ 9223372036854775807 := by
  simp [Lit.wf, IntKind.min, IntKind.max, IntKind.signed, IntKind.bits] at h; omega
theorem hold_f (a : Int) : tick_Hold.f a = some (hold a) := by
  unfold tick_Hold.f hold mx mn
  congr 1
  repeat' split
  all_goals omega
theorem add_l (d : Nat) : ∀ (fuel : Nat) (l : List Int) (s i : Int), 0 ≤ s → s ≤ 1099511627776 → 0 ≤ i → (l.length : Int) - i = d → (l.length : Int) ≤ 9223372036854775807 → d < fuel →
    tick_Add.l0 fuel s l (l.length : Int) i = some (addFrom s (l.drop i.toNat)) := by
  induction d with
  | zero =>
    intro fuel l s i h0 h1 hi hd hm hf
    obtain ⟨f, rfl⟩ : ∃ m, fuel = m + 1 := ⟨fuel - 1, by omega⟩
    simp only [tick_Add.l0]; rw [if_neg (by omega), List.drop_eq_nil_of_le (by omega)]; rfl
  | succ d ih =>
    intro fuel l s i h0 h1 hi hd hm hf
    obtain ⟨f, rfl⟩ : ∃ m, fuel = m + 1 := ⟨fuel - 1, by omega⟩
    have hlt : i < (l.length : Int) := by omega
    have hln : i.toNat < l.length := by omega
    have hr := hold_lo (rd l i); have hr' := hold_hi (rd l i)
    simp only [tick_Add.l0]; rw [if_pos hlt, if_pos hi, if_pos hlt, hold_f]; simp only [Option.bind_some, hold_f]
    rw [wrap_id (n := s + _) (by omega) (by omega), wrap_id (n := i + 1) (by omega) (by omega), ih f l _ (i + 1) (hold_lo _) (hold_hi _) (by omega) (by omega) hm (by omega)]
    rw [List.drop_eq_getElem_cons hln]
    rw [show (i + 1).toNat = i.toNat + 1 from by omega]
    show some (addFrom (hold (s + hold (rd l i))) _) = some (addFrom (hold (s + hold (l[i.toNat]))) _)
    rw [show rd l i = l[i.toNat] from by unfold rd; simp [List.getD, hln]]
theorem add_f (fuel : Nat) (l : List Int) (hm : l.length ≤ 9223372036854775807) (hf : l.length < fuel) : tick_Add.f fuel l = some (addFrom 0 l) := by
  unfold tick_Add.f
  have := add_l l.length fuel l 0 0 (by omega) (by omega) (by omega) (by omega) (by omega) hf
  rw [this]; rfl
theorem first_f (b : Int) : pace_first.f b = some (fst b) := by
  unfold pace_first.f fst mx mn
  congr 1
  repeat' split
  all_goals omega
theorem next_f (fuel : Nat) (l : Int) (h0 : 1 ≤ l) (h1 : l ≤ 1099511627776) (hf : 4 ≤ fuel) : pace_next.f fuel l = some (nx l) := by
  unfold pace_next.f
  rw [Int.tdiv_eq_ediv_of_nonneg (by omega), wrap_id (n := l / 2) (by omega) (by omega), add_f fuel _ (by simp) (by simp; omega)]; simp only [Option.bind_some]
  congr 1
  show hold (hold (hold (0 + hold l) + hold (l / 2)) + hold 1) = nx l
  rw [hold_id (n := l) (by omega) h1, hold_id (n := l / 2) (by omega) (by omega), Int.zero_add, hold_id (n := l) (by omega) h1, show hold 1 = 1 from rfl]
  have key : ∀ a : Int, 0 ≤ a → hold (hold a + 1) = hold (a + 1) := by
    intro a ha; unfold hold; repeat' split
    all_goals omega
  exact key _ (by omega)
theorem add_two (fuel : Nat) (a b : Int) (hf : 3 ≤ fuel) : tick_Add.f fuel [a, b] = some (hold (hold a + hold b)) := by
  rw [add_f fuel [a, b] (by simp) (by simp; omega)]
  show some (hold (hold (0 + hold a) + hold b)) = _
  rw [Int.zero_add, hold_hold]
theorem sum_l (b : Int) (d : Nat) : ∀ (fuel : Nat) (n : Int) (i : Nat), -9223372036854775808 ≤ n → n ≤ 9223372036854775807 → n.toNat = d → 2 * d + 20 ≤ fuel →
    pace_Sum.l0 fuel n (su b i) (lim b i) = some (su b (i + d)) := by
  induction d with
  | zero =>
    intro fuel n i h0 h1 hd hf
    obtain ⟨f, rfl⟩ : ∃ x, fuel = x + 2 := ⟨fuel - 2, by omega⟩
    simp only [pace_Sum.l0]; rw [if_neg (by omega)]
    simp only [pace_Sum.j1]; rw [if_neg (by simp)]; rfl
  | succ d ih =>
    intro fuel n i h0 h1 hd hf
    obtain ⟨f, rfl⟩ : ∃ x, fuel = x + 2 := ⟨fuel - 2, by omega⟩
    have hs := su_in b i; have hl := lim_in b i
    simp only [pace_Sum.l0]; rw [if_pos (by omega)]
    simp only [pace_Sum.j1]
    by_cases c : su b i < 1099511627776
    · rw [show decide (su b i < 1099511627776) = true from by simp; exact c, if_pos rfl, add_two f _ _ (by omega)]; simp only [Option.bind_some]
      rw [next_f f _ hl.1 hl.2 (by omega)]; simp only [Option.bind_some]
      rw [hold_id hs.1 hs.2, hold_id (by omega) hl.2, wrap_id (n := n - 1) (by omega) (by omega)]
      have := ih f (n - 1) (i + 1) (by omega) (by omega) (by omega) (by omega)
      rw [show i + 1 + d = i + (d + 1) from by omega] at this
      exact this
    · rw [show decide (su b i < 1099511627776) = false from by simp; omega, if_neg (by simp), su_top b i (by omega) (d + 1)]
      rw [show su b i = 1099511627776 from by omega]
theorem sum_f (fuel : Nat) (b n : Int) (h0 : -9223372036854775808 ≤ n) (h1 : n ≤ 9223372036854775807) (hf : 2 * n.toNat + 20 ≤ fuel) : pace_Sum.f fuel b n = some (su b n.toNat) := by
  unfold pace_Sum.f
  rw [first_f]; simp only [Option.bind_some]
  have := sum_l b n.toNat fuel n 0 h0 h1 rfl hf
  rw [Nat.zero_add] at this
  exact this
theorem rnew_f (b : Int) : compradorref27_New.f b = some (fst b, 0, 0) := by
  unfold compradorref27_New.f fst mx mn
  congr 2
  repeat' split
  all_goals omega
theorem rhold_f (a : Int) : compradorref04_Hold.f a = some (hold a) := by
  unfold compradorref04_Hold.f hold mx mn
  congr 1
  repeat' split
  all_goals omega
theorem rsum_l (b : Int) (d : Nat) : ∀ (fuel : Nat) (n : Int) (i : Nat) (c t : Int), -9223372036854775808 ≤ n → n ≤ 9223372036854775807 → ((if n < 300 then n else 300) - (i : Int)).toNat = d → i ≤ 300 → 2 * d + 20 ≤ fuel →
    compradorref27_Sum.l0 fuel n (su b i) (i : Int) (lim b i) c t = some (su b (i + d)) := by
  induction d with
  | zero =>
    intro fuel n i c t h0 h1 hd hi hf
    obtain ⟨f, rfl⟩ : ∃ x, fuel = x + 2 := ⟨fuel - 2, by omega⟩
    have hj : compradorref27_Sum.j1 (f + 1) n (su b i) (i : Int) false (lim b i) c t = some (su b (i + 0)) := by
      simp only [compradorref27_Sum.j1]; rw [if_neg (by simp)]; rfl
    simp only [compradorref27_Sum.l0]
    by_cases c1 : (i : Int) < n
    · rw [if_pos c1, show decide ((i : Int) < 300) = false from by split at hd <;> (simp; omega)]; exact hj
    · rw [if_neg c1]; exact hj
  | succ d ih =>
    intro fuel n i c t h0 h1 hd hi hf
    obtain ⟨f, rfl⟩ : ∃ x, fuel = x + 2 := ⟨fuel - 2, by omega⟩
    have hs := su_in b i; have hl := lim_in b i
    have hlt : (i : Int) < n ∧ (i : Int) < 300 := by split at hd <;> omega
    simp only [compradorref27_Sum.l0]; rw [if_pos hlt.1, show decide ((i : Int) < 300) = true from by simp; omega]
    simp only [compradorref27_Sum.j1]
    rw [if_pos trivial, rhold_f]; simp only [Option.bind_some, rhold_f]
    rw [Int.tdiv_eq_ediv_of_nonneg (by omega), wrap_id (n := su b i + lim b i) (by omega) (by omega), wrap_id (n := lim b i / 2) (by omega) (by omega), wrap_id (n := lim b i + lim b i / 2) (by omega) (by omega), wrap_id (n := lim b i + lim b i / 2 + 1) (by omega) (by omega), wrap_id (n := (i : Int) + 1) (by omega) (by omega)]
    have := ih f n (i + 1) c t h0 h1 (by split at hd <;> split <;> omega) (by omega) (by omega)
    rw [show i + 1 + d = i + (d + 1) from by omega] at this
    exact this
theorem rsum_f (fuel : Nat) (b n : Int) (h0 : -9223372036854775808 ≤ n) (h1 : n ≤ 9223372036854775807) (hf : 700 ≤ fuel) : compradorref27_Sum.f fuel b n = some (su b n.toNat) := by
  unfold compradorref27_Sum.f
  rw [rnew_f]; simp only [Option.bind_some]
  have h := rsum_l b (((if n < 300 then n else 300) - ((0 : Nat) : Int)).toNat) fuel n 0 0 0 h0 h1 rfl (by omega) (by split <;> omega)
  rw [Nat.zero_add] at h
  refine Eq.trans h ?_
  by_cases c : n < 300
  · rw [if_pos c, show (n - ((0 : Nat) : Int)).toNat = n.toNat from by omega]
  · rw [if_neg c, show ((300 : Int) - ((0 : Nat) : Int)).toNat = 300 from by omega, su_far b n.toNat (by omega)]

/-! The contracts, in plain words -/
theorem New.calls' (b : Int) (w : World) :
    Calls Try.prog 42 #[.int .i64 b] w fun e w' => ∃ g : Nat, e = .returned (.pointer (some ⟨g, 0, none⟩)) ∧ PB w' g (lim b 0) 0 0 ∧ w.heap.size ≤ g ∧ Below w.heap.size w w' := New.calls b _ w (first_f b)
theorem Note.anew' (g : Nat) (L C T : Int) (w : World) (h : PB w g L C T) (hL0 : 1 ≤ L) (hL1 : L ≤ 1099511627776) (hc0 : 0 ≤ C) (hc1 : C ≤ 4611686018427387904) (hT0 : 0 ≤ T) (hT1 : T ≤ 4611686018427387904) (hge : ¬ C + 1 < L) :
    Calls Try.prog 45 #[.pointer (some ⟨g, 0, none⟩)] w fun e w' => e = .returned (.bool true) ∧ PB w' g (nx L) 0 (T + 1) ∧ w.grownBy w' (some g) :=
  Note.anew 4 g L C T (nx L) w h hc0 hc1 hT0 hT1 hge (next_f 4 L hL0 hL1 (by omega))
theorem Sum.calls' (b n : Int) (w : World) (h0 : -9223372036854775808 ≤ n) (h1 : n ≤ 9223372036854775807) :
    Calls Try.prog 46 #[.int .i64 b, .int .i64 n] w fun e w' => e = .returned (.int .i64 (su b n.toNat)) ∧ Below w.heap.size w w' := pace_Sum.calls _ b n _ w (sum_f _ b n h0 h1 (Nat.le_refl _))
theorem RSum.calls' (b n : Int) (w : World) (h0 : -9223372036854775808 ≤ n) (h1 : n ≤ 9223372036854775807) :
    Calls Try.prog 59 #[.int .i64 b, .int .i64 n] w fun e w' => e = .returned (.int .i64 (su b n.toNat)) ∧ Below w.heap.size w w' := compradorref27_Sum.calls _ b n _ w (rsum_f 700 b n h0 h1 (Nat.le_refl _))
theorem RNew.calls' (b : Int) (w : World) :
    Calls Try.prog 56 #[.int .i64 b] w fun e w' => e = .returned (.agg #[.int .i64 (lim b 0), .int .i64 0, .int .i64 0]) ∧ Below w.heap.size w w' := compradorref27_New.calls b _ _ _ w (rnew_f b)
theorem RHold.calls' (a : Int) (w : World) :
    Calls Try.prog 19 #[.int .i64 a] w fun e w' => e = .returned (.int .i64 (hold a)) ∧ Below w.heap.size w w' := compradorref04_Hold.calls a _ w (rhold_f a)
end Go.Proofs.Ytenaggpgblaalaa.Pace
