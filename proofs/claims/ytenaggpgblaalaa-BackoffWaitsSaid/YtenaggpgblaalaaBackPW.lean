/- BackoffWaits: how long is waited, up to when, and in all, is the reference's. No condition. -/
import Derived.Test.YtenaggpgblaalaaBackV
import Derived.Test.YtenaggpgblaalaaPlainBack
namespace Go.Proofs.Ytenaggpgblaalaa.BackPW
open Go.RowKit Go.Proofs.Ytenaggpgblaalaa.PBackoffWaits Go.Proofs.Ytenaggpgblaalaa.BackW Go.Proofs.YtenaggpgblaalaaW.PrintWords Go.Proofs.YtenaggpgblaalaaW.PrintLast Go.Proofs.YtenaggpgblaalaaW.PrintMore
open Plain (hold hold_lo hold_hi hold_id hold_big hold_neg hold_mono hold_hold tw tw_in tw_zero tw_top tw_mono tw_more tw_41 tw_far addFrom wrap_id wt wt_lo wt_hi wt_mono sm sm_in total)

theorem wf_i64 {a : Int} (h : (Lit.int .i64 a).wf = true) : -9223372036854775808 ≤ a ∧ a ≤ 9223372036854775807 := by
  simp [Lit.wf, IntKind.min, IntKind.max, IntKind.signed, IntKind.bits] at h; omega
theorem hold_f (a : Int) : tick_Hold.f a = some (hold a) := by
  unfold tick_Hold.f hold mx mn
  congr 1
  repeat' split
  all_goals omega
theorem twice_l (d : Nat) : ∀ (fuel : Nat) (n k : Int), 0 ≤ n → n ≤ 1099511627776 → k ≤ 9223372036854775807 → k.toNat = d → d < fuel →
    tick_Twice.l0 fuel n k = some (tw d n) := by
  induction d with
  | zero =>
    intro fuel n k h0 h1 hm hd hf
    obtain ⟨f, rfl⟩ : ∃ m, fuel = m + 1 := ⟨fuel - 1, by omega⟩
    simp only [tick_Twice.l0]; rw [if_neg (by omega)]; rfl
  | succ d ih =>
    intro fuel n k h0 h1 hm hd hf
    obtain ⟨f, rfl⟩ : ∃ m, fuel = m + 1 := ⟨fuel - 1, by omega⟩
    simp only [tick_Twice.l0]; rw [if_pos (by omega)]
    by_cases c0 : n > 0
    · rw [if_pos c0]
      by_cases c1 : n < 1099511627776
      · rw [if_pos c1, hold_f]; simp only [Option.bind_some]
        rw [wrap_id (n := n * 2) (by omega) (by omega), wrap_id (n := k - 1) (by omega) (by omega), ih f _ (k - 1) (hold_lo _) (hold_hi _) (by omega) (by omega) (by omega)]
        show some (tw d (hold (n * 2))) = some (tw d (hold (2 * n)))
        rw [show n * 2 = 2 * n from by omega]
      · obtain rfl : n = 1099511627776 := by omega
        rw [if_neg c1, tw_top]
    · obtain rfl : n = 0 := by omega
      rw [if_neg c0, tw_zero]
theorem twice_f (fuel : Nat) (n k : Int) (hk : k ≤ 9223372036854775807) (hf : k.toNat < fuel) : tick_Twice.f fuel n k = some (tw k.toNat (hold n)) := by
  unfold tick_Twice.f
  rw [hold_f]; simp only [Option.bind_some]
  exact twice_l _ fuel _ k (hold_lo _) (hold_hi _) hk rfl hf
theorem add_l (d : Nat) : ∀ (fuel : Nat) (l : List Int) (s i : Int), 0 ≤ s → s ≤ 1099511627776 → 0 ≤ i → (l.length : Int) - i = d → (l.length : Int) ≤ 9223372036854775807 → d < fuel →
    tick_Add.l0 fuel s l (l.length : Int) i = some (addFrom s (l.drop i.toNat)) := by
  induction d with
  | zero =>
    intro fuel l s i h0 h1 hi hd hm hf
    obtain ⟨f, rfl⟩ : ∃ m, fuel = m + 1 := ⟨fuel - 1, by omega⟩
    simp only [tick_Add.l0]; rw [if_neg (by omega), List.drop_eq_nil_of_le (by omega)]; rfl
  | succ d ih =>
    intro fuel l s i h0 h1 hi hd hm hf
    obtain ⟨f, rfl⟩ : ∃ m, fuel = m + 1 := ⟨fuel - 1, by omega⟩
    have hlt : i < (l.length : Int) := by omega
    have hln : i.toNat < l.length := by omega
    have hr := hold_lo (rd l i); have hr' := hold_hi (rd l i)
    simp only [tick_Add.l0]; rw [if_pos hlt, if_pos hi, if_pos hlt, hold_f]; simp only [Option.bind_some, hold_f]
    rw [wrap_id (n := s + _) (by omega) (by omega), wrap_id (n := i + 1) (by omega) (by omega), ih f l _ (i + 1) (hold_lo _) (hold_hi _) (by omega) (by omega) hm (by omega)]
    rw [List.drop_eq_getElem_cons hln]
    rw [show (i + 1).toNat = i.toNat + 1 from by omega]
    show some (addFrom (hold (s + hold (rd l i))) _) = some (addFrom (hold (s + hold (l[i.toNat]))) _)
    rw [show rd l i = l[i.toNat] from by unfold rd; simp [List.getD, hln]]
theorem add_f (fuel : Nat) (l : List Int) (hm : l.length ≤ 9223372036854775807) (hf : l.length < fuel) : tick_Add.f fuel l = some (addFrom 0 l) := by
  unfold tick_Add.f
  have := add_l l.length fuel l 0 0 (by omega) (by omega) (by omega) (by omega) (by omega) hf
  rw [this]; rfl
theorem add_two (fuel : Nat) (a b : Int) (hf : 3 ≤ fuel) : tick_Add.f fuel [a, b] = some (hold (hold a + hold b)) := by
  rw [add_f fuel [a, b] (by simp) (by simp; omega)]
  show some (hold (hold (0 + hold a) + hold b)) = _
  rw [Int.zero_add, hold_hold]
theorem wait_f (fuel : Nat) (b m k : Int) (hk : k ≤ 9223372036854775807) (h0 : -9223372036854775808 ≤ k) (hf : k.toNat < fuel) : backoff_Wait.f fuel b m k = some (wt b m k) := by
  unfold backoff_Wait.f wt
  by_cases c : k < 1
  · rw [if_pos c, if_pos c]
  · rw [if_neg c, if_neg c, wrap_id (n := k - 1) (by omega) (by omega), twice_f fuel b (k - 1) (by omega) (by omega)]
    simp only [Option.bind_some, hold_f]
    rfl
theorem until_f (fuel : Nat) (n b m k : Int) (hk : k ≤ 9223372036854775807) (h0 : -9223372036854775808 ≤ k) (hf : k.toNat + 3 ≤ fuel) : backoff_Until.f fuel n b m k = some (hold (hold n + wt b m k)) := by
  unfold backoff_Until.f
  rw [wait_f fuel b m k hk h0 (by omega)]; simp only [Option.bind_some]
  rw [add_two fuel _ _ (by omega)]; simp only [Option.bind_some]
  rw [hold_id (n := wt b m k) (wt_lo b m k) (Int.le_trans (wt_hi b m k) (hold_hi m))]
theorem wt_in (b m k : Int) : 0 ≤ wt b m k ∧ wt b m k ≤ 1099511627776 := ⟨wt_lo b m k, Int.le_trans (wt_hi b m k) (hold_hi m)⟩
theorem mx45 (k : Int) : mx k 45 = if k ≤ 45 then 45 else k := by unfold mx; repeat' split
                                                                  all_goals omega
theorem total_l (d : Nat) : ∀ (fuel : Nat) (b m k w : Int) (i : Nat), -9223372036854775808 ≤ k → k ≤ 9223372036854775807 → i ≤ 45 → ((i : Int) ≤ k ∨ i = 0) → (w = if i = 0 then 0 else wt b m i) → ((if k < 45 then (if k < 0 then 0 else k) else 45) - (i : Int)).toNat = d → d + k.toNat + 100 ≤ fuel →
    backoff_Total.l0 fuel b m k (sm b m i) w ((i : Int) + 1) = some (total b m k) := by
  induction d with
  | zero =>
    intro fuel b m k w i hk0 hk1 hi hik hw hd hf
    obtain ⟨f, rfl⟩ : ∃ x, fuel = x + 2 := ⟨fuel - 2, by omega⟩
    have hs := sm_in b m i
    have hwi := wt_in b m (i : Int)
    have hw0 : 0 ≤ w ∧ w ≤ 1099511627776 := by rw [hw]; split <;> omega
    have hmn : ¬ ((i : Int) + 1 ≤ mn k 45) := by unfold mn; repeat' split at hd
                                                 all_goals (split <;> omega)
    have hlast : ∀ left : Int, 0 ≤ left → left * w ≤ 1099511627776 → left ≤ 9223372036854775807 → backoff_Total.j1 (f + 1) (sm b m i) w left false = some (hold (sm b m i + left * w)) := by
      intro left h0 h1 _
      have hm := Plain.mul_lo h0 hw0.1
      simp only [backoff_Total.j1]
      rw [if_neg (by simp), wrap_id (n := left * w) (by omega) (by omega), add_two f _ _ (by omega)]; simp only [Option.bind_some]
      rw [hold_id hs.1 hs.2, hold_id hm h1]
    simp only [backoff_Total.l0]
    rw [if_neg hmn]
    by_cases hk : k ≤ 45
    · have hik2 : i = k.toNat := by repeat' split at hd
                                    all_goals omega
      have e1 : wrap64 (mx k 45 - 45) = 0 := by rw [mx45, if_pos hk, wrap_id (by omega) (by omega)]; rfl
      rw [e1]
      have hres : total b m k = hold (sm b m i + 0 * w) := by
        unfold total; rw [if_pos hk, ← hik2, Int.zero_mul, Int.add_zero, hold_id hs.1 hs.2]
      rw [hres]
      by_cases c : w > 0
      · rw [if_pos c]; simp only [hold_f, Option.bind_some]
        rw [if_neg (by omega), show hold 4611686018427387904 = 1099511627776 from rfl, Int.tdiv_eq_ediv_of_nonneg (by omega)]
        have hdv : 0 ≤ (1099511627776 : Int) / w := Int.ediv_nonneg (by omega) (by omega)
        have hdv2 : (1099511627776 : Int) / w ≤ 1099511627776 := Int.ediv_le_self _ (by omega)
        rw [wrap_id (n := (1099511627776 : Int) / w) (by omega) (by omega), show decide (0 > (1099511627776 : Int) / w) = false from by simp; omega]
        exact hlast 0 (by omega) (by omega) (by omega)
      · rw [if_neg c]
        exact hlast 0 (by omega) (by omega) (by omega)
    · have hi45 : i = 45 := by repeat' split at hd
                               all_goals omega
      subst hi45
      rw [if_neg (by omega)] at hw
      have e1 : wrap64 (mx k 45 - 45) = k - 45 := by rw [mx45, if_neg hk]; exact wrap_id (by omega) (by omega)
      rw [e1]
      have hw' : w = wt b m 45 := hw
      have hres : total b m k = hold (sm b m 45 + (k - 45) * w) := by unfold total; rw [if_neg hk, hw']
      rw [hres]
      by_cases c : w > 0
      · rw [if_pos c]; simp only [hold_f, Option.bind_some]
        rw [if_neg (by omega), show hold 4611686018427387904 = 1099511627776 from rfl, Int.tdiv_eq_ediv_of_nonneg (by omega)]
        have hdv : 0 ≤ (1099511627776 : Int) / w := Int.ediv_nonneg (by omega) (by omega)
        have hdv2 : (1099511627776 : Int) / w ≤ 1099511627776 := Int.ediv_le_self _ (by omega)
        rw [wrap_id (n := (1099511627776 : Int) / w) (by omega) (by omega)]
        have hab := Plain.above (k - 45) w c
        have hmm := Plain.mul_lo (a := k - 45) (b := w) (by omega) hw0.1
        by_cases g : (1099511627776 : Int) / w < k - 45
        · rw [show decide (k - 45 > (1099511627776 : Int) / w) = true from by simp; exact g]
          have g2 := hab.1 g
          simp only [backoff_Total.j1]
          rw [if_pos trivial, hold_f]; simp only [Option.bind_some]
          rw [hold_big (n := sm b m 45 + (k - 45) * w) (by omega)]
          rfl
        · rw [show decide (k - 45 > (1099511627776 : Int) / w) = false from by simp; omega]
          have g2 : ¬ (1099511627776 < (k - 45) * w) := fun h => g (hab.2 h)
          exact hlast (k - 45) (by omega) (by omega) (by omega)
      · rw [if_neg c]
        have : w = 0 := by omega
        exact hlast (k - 45) (by omega) (by rw [this]; simp) (by omega)
  | succ d ih =>
    intro fuel b m k w i hk0 hk1 hi hik hw hd hf
    obtain ⟨f, rfl⟩ : ∃ x, fuel = x + 1 := ⟨fuel - 1, by omega⟩
    have hs := sm_in b m i
    have hwi := wt_in b m ((i : Int) + 1)
    have hlt : (i : Int) + 1 ≤ mn k 45 := by unfold mn; repeat' split at hd
                                             all_goals (split <;> omega)
    have hlt2 : (i : Int) + 1 ≤ k ∧ (i : Int) + 1 ≤ 45 := by unfold mn at hlt; split at hlt <;> omega
    simp only [backoff_Total.l0]
    rw [if_pos hlt, wait_f f b m ((i : Int) + 1) (by omega) (by omega) (by omega)]; simp only [Option.bind_some]
    rw [add_two f _ _ (by omega)]; simp only [Option.bind_some]
    rw [hold_id hs.1 hs.2, hold_id hwi.1 hwi.2, wrap_id (n := (i : Int) + 1 + 1) (by omega) (by omega)]
    have hnd : ((if k < 45 then (if k < 0 then 0 else k) else 45) - ((i + 1 : Nat) : Int)).toNat = d := by
      repeat' split at hd
      all_goals (repeat' split) <;> omega
    have := ih f b m k (wt b m ((i : Int) + 1)) (i + 1) hk0 hk1 (by omega) (by omega) (by rw [if_neg (by omega)]; rfl) hnd (by omega)
    exact this
theorem total_f (fuel : Nat) (b m k : Int) (h0 : -9223372036854775808 ≤ k) (h1 : k ≤ 9223372036854775807) (hf : k.toNat + 200 ≤ fuel) : backoff_Total.f fuel b m k = some (total b m k) := by
  unfold backoff_Total.f
  exact total_l _ fuel b m k 0 0 h0 h1 (by omega) (by omega) rfl rfl (by repeat' split
                                                                         all_goals omega)
theorem awake_f (fuel : Nat) (hf : 300 ≤ fuel) : compradorlaw33_awake.f fuel = some true := by
  unfold compradorlaw33_awake.f
  rw [wait_f fuel 2 10 1 (by omega) (by omega) (by omega), show wt 2 10 1 = 2 from by decide +kernel]; simp only [Option.bind_some, if_true]
  rw [wait_f fuel 2 10 3 (by omega) (by omega) (by omega), show wt 2 10 3 = 8 from by decide +kernel]; simp only [Option.bind_some, if_true]
  rw [wait_f fuel 2 10 4 (by omega) (by omega) (by omega), show wt 2 10 4 = 10 from by decide +kernel]; simp only [Option.bind_some, if_true]
  rw [total_f fuel 2 10 4 (by omega) (by omega) (by omega), show total 2 10 4 = 24 from by decide +kernel]; rfl
theorem rhold_f (a : Int) : compradorref04_Hold.f a = some (hold a) := by
  unfold compradorref04_Hold.f hold mx mn
  congr 1
  repeat' split
  all_goals omega
theorem radd_l (d : Nat) : ∀ (fuel : Nat) (l : List Int) (s i : Int), 0 ≤ s → s ≤ 1099511627776 → 0 ≤ i → (l.length : Int) - i = d → (l.length : Int) ≤ 9223372036854775807 → d < fuel →
    compradorref04_Add.l0 fuel l s i = some (addFrom s (l.drop i.toNat)) := by
  induction d with
  | zero =>
    intro fuel l s i h0 h1 hi hd hm hf
    obtain ⟨f, rfl⟩ : ∃ m, fuel = m + 1 := ⟨fuel - 1, by omega⟩
    simp only [compradorref04_Add.l0]; rw [if_neg (by omega), List.drop_eq_nil_of_le (by omega)]; rfl
  | succ d ih =>
    intro fuel l s i h0 h1 hi hd hm hf
    obtain ⟨f, rfl⟩ : ∃ m, fuel = m + 1 := ⟨fuel - 1, by omega⟩
    have hlt : i < (l.length : Int) := by omega
    have hln : i.toNat < l.length := by omega
    have hr := hold_lo (rd l i); have hr' := hold_hi (rd l i)
    simp only [compradorref04_Add.l0]; rw [if_pos hlt, if_pos hi, rhold_f]; simp only [Option.bind_some, rhold_f]
    rw [wrap_id (n := s + _) (by omega) (by omega), wrap_id (n := i + 1) (by omega) (by omega), ih f l _ (i + 1) (hold_lo _) (hold_hi _) (by omega) (by omega) hm (by omega)]
    rw [List.drop_eq_getElem_cons hln]
    rw [show (i + 1).toNat = i.toNat + 1 from by omega]
    show some (addFrom (hold (s + hold (rd l i))) _) = some (addFrom (hold (s + hold (l[i.toNat]))) _)
    rw [show rd l i = l[i.toNat] from by unfold rd; simp [List.getD, hln]]
theorem radd_f (fuel : Nat) (l : List Int) (hm : l.length ≤ 9223372036854775807) (hf : l.length < fuel) : compradorref04_Add.f fuel l = some (addFrom 0 l) := by
  unfold compradorref04_Add.f
  have := radd_l l.length fuel l 0 0 (by omega) (by omega) (by omega) (by omega) (by omega) hf
  rw [this]; rfl
theorem rtwice_l (d : Nat) : ∀ (fuel : Nat) (n k i : Int), 0 ≤ n → n ≤ 1099511627776 → k ≤ 9223372036854775807 → 0 ≤ i → ((if k < 60 then k else 60) - i).toNat = d → d < fuel →
    compradorref04_Twice.l0 fuel n k i = some (tw d n) := by
  induction d with
  | zero =>
    intro fuel n k i h0 h1 hm hi hd hf
    obtain ⟨f, rfl⟩ : ∃ m, fuel = m + 1 := ⟨fuel - 1, by omega⟩
    simp only [compradorref04_Twice.l0]
    by_cases c : i < k
    · rw [if_pos c, if_neg (by split at hd <;> omega)]; rfl
    · rw [if_neg c]; rfl
  | succ d ih =>
    intro fuel n k i h0 h1 hm hi hd hf
    obtain ⟨f, rfl⟩ : ∃ m, fuel = m + 1 := ⟨fuel - 1, by omega⟩
    have c1 : i < k := by split at hd <;> omega
    have c2 : i < 60 := by split at hd <;> omega
    simp only [compradorref04_Twice.l0]
    rw [if_pos c1, if_pos c2, rhold_f]; simp only [Option.bind_some]
    rw [wrap_id (n := 2 * n) (by omega) (by omega), wrap_id (n := i + 1) (by omega) (by omega), ih f _ k (i + 1) (hold_lo _) (hold_hi _) hm (by omega) (by split <;> split at hd <;> omega) (by omega)]
    rfl
theorem rtwice_f (fuel : Nat) (n k : Int) (hk : k ≤ 9223372036854775807) (hf : 60 < fuel) : compradorref04_Twice.f fuel n k = some (tw k.toNat (hold n)) := by
  unfold compradorref04_Twice.f
  rw [rhold_f]; simp only [Option.bind_some]
  by_cases c : k < 60
  · rw [rtwice_l k.toNat fuel _ k 0 (hold_lo _) (hold_hi _) hk (by omega) (by rw [if_pos c]; omega) (by omega)]
  · rw [rtwice_l 60 fuel _ k 0 (hold_lo _) (hold_hi _) hk (by omega) (by rw [if_neg c]; rfl) (by omega)]
    rw [tw_far 60 _ (hold_lo _) (hold_hi _) (by omega), tw_far k.toNat _ (hold_lo _) (hold_hi _) (by omega)]


theorem radd_two (fuel : Nat) (a b : Int) (hf : 3 ≤ fuel) : compradorref04_Add.f fuel [a, b] = some (hold (hold a + hold b)) := by
  rw [radd_f fuel [a, b] (by simp) (by simp; omega)]
  show some (hold (hold (0 + hold a) + hold b)) = _
  rw [Int.zero_add, hold_hold]
theorem rwait_f (fuel : Nat) (b m k : Int) (hk : k ≤ 9223372036854775807) (h0 : -9223372036854775808 ≤ k) (hf : 60 < fuel) : compradorref33_Wait.f fuel b m k = some (wt b m k) := by
  unfold compradorref33_Wait.f wt
  by_cases c : k < 1
  · rw [if_pos c, if_pos c]
  · rw [if_neg c, if_neg c, wrap_id (n := k - 1) (by omega) (by omega), rtwice_f fuel b (k - 1) (by omega) (by omega)]
    simp only [Option.bind_some, rhold_f]
    rfl
theorem rtotal_l (d : Nat) : ∀ (fuel : Nat) (b m k : Int) (i : Nat), -9223372036854775808 ≤ k → k ≤ 9223372036854775807 → i ≤ 50 → ((i : Int) ≤ k ∨ i = 0) → ((if k < 50 then (if k < 0 then 0 else k) else 50) - (i : Int)).toNat = d → 2 * d + 100 ≤ fuel →
    compradorref33_Total.l0 fuel b m k (sm b m i) ((i : Int) + 1) = some (total b m k) := by
  induction d with
  | zero =>
    intro fuel b m k i hk0 hk1 hi hik hd hf
    obtain ⟨f, rfl⟩ : ∃ x, fuel = x + 3 := ⟨fuel - 3, by omega⟩
    have hs := sm_in b m i
    have hw := wt_in b m 50
    have hj : compradorref33_Total.j1 (f + 2) b m k (sm b m i) ((i : Int) + 1) false = some (total b m k) := by
      simp only [compradorref33_Total.j1]
      rw [if_neg (by simp), rwait_f _ b m 50 (by omega) (by omega) (by omega)]; simp only [Option.bind_some]
      by_cases hk : k > 50
      · rw [if_pos hk]
        have hi50 : i = 50 := by repeat' split at hd
                                 all_goals omega
        subst hi50
        have hres := Plain.total_far b m k hk
        by_cases c : wt b m 50 > 0
        · rw [show decide (wt b m 50 > 0) = true from by simp; exact c]
          simp only [compradorref33_Total.j2]
          have hdv : 0 ≤ (1099511627776 : Int) / wt b m 50 := Int.ediv_nonneg (by omega) (by omega)
          have hdv2 : (1099511627776 : Int) / wt b m 50 ≤ 1099511627776 := Int.ediv_le_self _ (by omega)
          have hab := Plain.above (k - 50) (wt b m 50) c
          have hmm := Plain.mul_lo (a := k - 50) (b := wt b m 50) (by omega) hw.1
          rw [if_pos trivial, if_neg (by omega), Int.tdiv_eq_ediv_of_nonneg (by omega), wrap_id (n := (1099511627776 : Int) / wt b m 50) (by omega) (by omega), wrap_id (n := k - 50) (by omega) (by omega)]
          by_cases g : (1099511627776 : Int) / wt b m 50 < k - 50
          · have g2 := hab.1 g
            rw [if_pos g, hres, hold_big (n := sm b m 50 + (k - 50) * wt b m 50) (by omega)]
          · have g2 : ¬ (1099511627776 < (k - 50) * wt b m 50) := fun h => g (hab.2 h)
            rw [if_neg g, wrap_id (n := (k - 50) * wt b m 50) (by omega) (by omega), radd_two f _ _ (by omega)]; simp only [Option.bind_some]
            rw [hold_id hs.1 hs.2, hold_id hmm (by omega), hres]
        · rw [show decide (wt b m 50 > 0) = false from by simp; omega]
          simp only [compradorref33_Total.j2]
          have h0 : wt b m 50 = 0 := by omega
          rw [if_neg (by simp), hres, h0, Int.mul_zero, Int.add_zero, hold_id hs.1 hs.2]
      · rw [if_neg hk]
        have hi2 : i = k.toNat := by repeat' split at hd
                                     all_goals omega
        simp only [compradorref33_Total.j2]
        rw [if_neg (by simp), Plain.total_50 b m k (by omega), hi2]
    simp only [compradorref33_Total.l0]
    by_cases c : (i : Int) + 1 ≤ k
    · rw [if_pos c, show decide ((i : Int) + 1 ≤ 50) = false from by repeat' split at hd
                                                                     all_goals (simp; omega)]
      exact hj
    · rw [if_neg c]; exact hj
  | succ d ih =>
    intro fuel b m k i hk0 hk1 hi hik hd hf
    obtain ⟨f, rfl⟩ : ∃ x, fuel = x + 2 := ⟨fuel - 2, by omega⟩
    have hs := sm_in b m i
    have hwi := wt_in b m ((i : Int) + 1)
    have hlt2 : (i : Int) + 1 ≤ k ∧ (i : Int) + 1 ≤ 50 := by repeat' split at hd
                                                             all_goals omega
    simp only [compradorref33_Total.l0]
    rw [if_pos hlt2.1, show decide ((i : Int) + 1 ≤ 50) = true from by simp; omega]
    simp only [compradorref33_Total.j1]
    rw [if_pos trivial, rwait_f f b m ((i : Int) + 1) (by omega) (by omega) (by omega)]; simp only [Option.bind_some]
    rw [radd_two f _ _ (by omega)]; simp only [Option.bind_some]
    rw [hold_id hs.1 hs.2, hold_id hwi.1 hwi.2, wrap_id (n := (i : Int) + 1 + 1) (by omega) (by omega)]
    have hnd : ((if k < 50 then (if k < 0 then 0 else k) else 50) - ((i + 1 : Nat) : Int)).toNat = d := by
      repeat' split at hd
      all_goals (repeat' split) <;> omega
    exact ih f b m k (i + 1) hk0 hk1 (by omega) (by omega) hnd (by omega)
theorem rtotal_f (fuel : Nat) (b m k : Int) (h0 : -9223372036854775808 ≤ k) (h1 : k ≤ 9223372036854775807) (hf : 300 ≤ fuel) : compradorref33_Total.f fuel b m k = some (total b m k) := by
  unfold compradorref33_Total.f
  exact rtotal_l _ fuel b m k 0 h0 h1 (by omega) (by omega) rfl (by repeat' split
                                                                    all_goals omega)
theorem waits_pure (a0 a1 n k : Int) (hk : (Lit.int .i64 k).wf = true) : ∃ fuel, compradorlaw33_BackoffWaits.f fuel a0 a1 n k = some true := by
  have bk := wf_i64 hk
  have hw := wt_in a0 a1 k
  refine ⟨k.toNat + 1001, ?_⟩
  unfold compradorlaw33_BackoffWaits.f
  rw [wait_f _ a0 a1 k (by omega) (by omega) (by omega), rwait_f _ a0 a1 k (by omega) (by omega) (by omega)]; simp only [Option.bind_some, if_true]
  rw [until_f _ n a0 a1 k (by omega) (by omega) (by omega)]; simp only [Option.bind_some]
  rw [radd_two _ _ _ (by omega)]; simp only [Option.bind_some]
  rw [hold_id hw.1 hw.2]
  simp only [bne_self_eq_false, compradorlaw33_BackoffWaits.j0]
  rw [if_neg (by simp), total_f _ a0 a1 k (by omega) (by omega) (by omega), rtotal_f _ a0 a1 k (by omega) (by omega) (by omega)]; simp only [Option.bind_some, if_true]
  rw [awake_f _ (by omega)]; rfl
end Go.Proofs.Ytenaggpgblaalaa.BackPW
