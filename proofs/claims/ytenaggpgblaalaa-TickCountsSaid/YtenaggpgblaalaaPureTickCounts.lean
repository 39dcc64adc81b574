/- TickCounts: numbers held, added, left, doubled, and whether a tick was passed, are the reference's. No condition. -/
import Derived.Test.YtenaggpgblaalaaPTickCountsx1
import Derived.Test.YtenaggpgblaalaaPlain
namespace Go.Proofs.Ytenaggpgblaalaa.Pure
open Go.RowKit Go.Proofs.Ytenaggpgblaalaa.PTickCounts Go.Proofs.YtenaggpgblaalaaW.PrintWords Go.Proofs.YtenaggpgblaalaaW.PrintLast Go.Proofs.YtenaggpgblaalaaW.PrintMore
open Plain (hold hold_lo hold_hi hold_id hold_big hold_neg hold_mono hold_hold tw tw_in tw_zero tw_top tw_mono tw_more tw_41 tw_far addFrom wrap_id)

theorem wf_i64 {a : Int} (h : (Lit.int .i64 a).wf = true) : -9223372036854775808 ≤ a ∧ a ≤ 9223372036854775807 := by
  simp [Lit.wf, IntKind.min, IntKind.max, IntKind.signed, IntKind.bits] at h; omega
theorem hold_f (a : Int) : tick_Hold.f a = some (hold a) := by
  unfold tick_Hold.f hold mx mn
  congr 1
  repeat' split
  all_goals omega
theorem twice_l (d : Nat) : ∀ (fuel : Nat) (n k : Int), 0 ≤ n → n ≤ 1099511627776 → k ≤ 9223372036854775807 → k.toNat = d → d < fuel →
    tick_Twice.l0 fuel n k = some (tw d n) := by
  induction d with
  | zero =>
    intro fuel n k h0 h1 hm hd hf
    obtain ⟨f, rfl⟩ : ∃ m, fuel = m + 1 := ⟨fuel - 1, by omega⟩
    simp only [tick_Twice.l0]; rw [if_neg (by omega)]; rfl
  | succ d ih =>
    intro fuel n k h0 h1 hm hd hf
    obtain ⟨f, rfl⟩ : ∃ m, fuel = m + 1 := ⟨fuel - 1, by omega⟩
    simp only [tick_Twice.l0]; rw [if_pos (by omega)]
    by_cases c0 : n > 0
    · rw [if_pos c0]
      by_cases c1 : n < 1099511627776
      · rw [if_pos c1, hold_f]; simp only [Option.bind_some]
        rw [wrap_id (n := n * 2) (by omega) (by omega), wrap_id (n := k - 1) (by omega) (by omega), ih f _ (k - 1) (hold_lo _) (hold_hi _) (by omega) (by omega) (by omega)]
        show some (tw d (hold (n * 2))) = some (tw d (hold (2 * n)))
        rw [show n * 2 = 2 * n from by omega]
      · obtain rfl : n = 1099511627776 := by omega
        rw [if_neg c1, tw_top]
    · obtain rfl : n = 0 := by omega
      rw [if_neg c0, tw_zero]
theorem twice_f (fuel : Nat) (n k : Int) (hk : k ≤ 9223372036854775807) (hf : k.toNat < fuel) : tick_Twice.f fuel n k = some (tw k.toNat (hold n)) := by
  unfold tick_Twice.f
  rw [hold_f]; simp only [Option.bind_some]
  exact twice_l _ fuel _ k (hold_lo _) (hold_hi _) hk rfl hf
theorem passed_f (a b : Int) : tick_Passed.f a b = some (decide (hold b ≤ hold a)) := by
  unfold tick_Passed.f; rw [hold_f, hold_f]; rfl
theorem left_f (a b : Int) : tick_Left.f a b = some (if hold b ≤ hold a then 0 else hold b - hold a) := by
  unfold tick_Left.f; rw [passed_f]; simp only [Option.bind_some, hold_f]
  have ha := hold_lo a; have hb := hold_hi b; have ha' := hold_hi a; have hb' := hold_lo b
  by_cases c : hold b ≤ hold a
  · simp [c]
  · simp [c]; rw [wrap_id (by omega) (by omega)]
theorem add_l (d : Nat) : ∀ (fuel : Nat) (l : List Int) (s i : Int), 0 ≤ s → s ≤ 1099511627776 → 0 ≤ i → (l.length : Int) - i = d → (l.length : Int) ≤ 9223372036854775807 → d < fuel →
    tick_Add.l0 fuel s l (l.length : Int) i = some (addFrom s (l.drop i.toNat)) := by
  induction d with
  | zero =>
    intro fuel l s i h0 h1 hi hd hm hf
    obtain ⟨f, rfl⟩ : ∃ m, fuel = m + 1 := ⟨fuel - 1, by omega⟩
    simp only [tick_Add.l0]; rw [if_neg (by omega), List.drop_eq_nil_of_le (by omega)]; rfl
  | succ d ih =>
    intro fuel l s i h0 h1 hi hd hm hf
    obtain ⟨f, rfl⟩ : ∃ m, fuel = m + 1 := ⟨fuel - 1, by omega⟩
    have hlt : i < (l.length : Int) := by omega
    have hln : i.toNat < l.length := by omega
    have hr := hold_lo (rd l i); have hr' := hold_hi (rd l i)
    simp only [tick_Add.l0]; rw [if_pos hlt, if_pos hi, if_pos hlt, hold_f]; simp only [Option.bind_some, hold_f]
    rw [wrap_id (n := s + _) (by omega) (by omega), wrap_id (n := i + 1) (by omega) (by omega), ih f l _ (i + 1) (hold_lo _) (hold_hi _) (by omega) (by omega) hm (by omega)]
    rw [List.drop_eq_getElem_cons hln]
    rw [show (i + 1).toNat = i.toNat + 1 from by omega]
    show some (addFrom (hold (s + hold (rd l i))) _) = some (addFrom (hold (s + hold (l[i.toNat]))) _)
    rw [show rd l i = l[i.toNat] from by unfold rd; simp [List.getD, hln]]
theorem add_f (fuel : Nat) (l : List Int) (hm : l.length ≤ 9223372036854775807) (hf : l.length < fuel) : tick_Add.f fuel l = some (addFrom 0 l) := by
  unfold tick_Add.f
  have := add_l l.length fuel l 0 0 (by omega) (by omega) (by omega) (by omega) (by omega) hf
  rw [this]; rfl
theorem awake_f (fuel : Nat) (hf : 10 ≤ fuel) : compradorlaw04_awake.f fuel = some true := by
  unfold compradorlaw04_awake.f
  rw [add_f fuel _ (by simp) (by simp; omega), show addFrom 0 [1099511627776, 1] = 1099511627776 from by decide +kernel]
  simp only [Option.bind_some]
  rw [if_pos trivial, twice_f fuel 3 2 (by omega) (by simp; omega), show tw (2 : Int).toNat (hold 3) = 12 from by decide +kernel]
  rfl

theorem rhold_f (a : Int) : compradorref04_Hold.f a = some (hold a) := by
  unfold compradorref04_Hold.f hold mx mn
  congr 1
  repeat' split
  all_goals omega
theorem radd_l (d : Nat) : ∀ (fuel : Nat) (l : List Int) (s i : Int), 0 ≤ s → s ≤ 1099511627776 → 0 ≤ i → (l.length : Int) - i = d → (l.length : Int) ≤ 9223372036854775807 → d < fuel →
    compradorref04_Add.l0 fuel l s i = some (addFrom s (l.drop i.toNat)) := by
  induction d with
  | zero =>
    intro fuel l s i h0 h1 hi hd hm hf
    obtain ⟨f, rfl⟩ : ∃ m, fuel = m + 1 := ⟨fuel - 1, by omega⟩
    simp only [compradorref04_Add.l0]; rw [if_neg (by omega), List.drop_eq_nil_of_le (by omega)]; rfl
  | succ d ih =>
    intro fuel l s i h0 h1 hi hd hm hf
    obtain ⟨f, rfl⟩ : ∃ m, fuel = m + 1 := ⟨fuel - 1, by omega⟩
    have hlt : i < (l.length : Int) := by omega
    have hln : i.toNat < l.length := by omega
    have hr := hold_lo (rd l i); have hr' := hold_hi (rd l i)
    simp only [compradorref04_Add.l0]; rw [if_pos hlt, if_pos hi, rhold_f]; simp only [Option.bind_some, rhold_f]
    rw [wrap_id (n := s + _) (by omega) (by omega), wrap_id (n := i + 1) (by omega) (by omega), ih f l _ (i + 1) (hold_lo _) (hold_hi _) (by omega) (by omega) hm (by omega)]
    rw [List.drop_eq_getElem_cons hln]
    rw [show (i + 1).toNat = i.toNat + 1 from by omega]
    show some (addFrom (hold (s + hold (rd l i))) _) = some (addFrom (hold (s + hold (l[i.toNat]))) _)
    rw [show rd l i = l[i.toNat] from by unfold rd; simp [List.getD, hln]]
theorem radd_f (fuel : Nat) (l : List Int) (hm : l.length ≤ 9223372036854775807) (hf : l.length < fuel) : compradorref04_Add.f fuel l = some (addFrom 0 l) := by
  unfold compradorref04_Add.f
  have := radd_l l.length fuel l 0 0 (by omega) (by omega) (by omega) (by omega) (by omega) hf
  rw [this]; rfl
theorem rleft_f (a b : Int) : compradorref04_Left.f a b = some (if hold b ≤ hold a then 0 else hold b - hold a) := by
  unfold compradorref04_Left.f; simp only [rhold_f, Option.bind_some]
  have ha := hold_lo a; have hb := hold_hi b; have ha' := hold_hi a; have hb' := hold_lo b
  rw [wrap_id (by omega) (by omega)]; unfold mx
  congr 1
  repeat' split
  all_goals omega
theorem rtwice_l (d : Nat) : ∀ (fuel : Nat) (n k i : Int), 0 ≤ n → n ≤ 1099511627776 → k ≤ 9223372036854775807 → 0 ≤ i → ((if k < 60 then k else 60) - i).toNat = d → d < fuel →
    compradorref04_Twice.l0 fuel n k i = some (tw d n) := by
  induction d with
  | zero =>
    intro fuel n k i h0 h1 hm hi hd hf
    obtain ⟨f, rfl⟩ : ∃ m, fuel = m + 1 := ⟨fuel - 1, by omega⟩
    simp only [compradorref04_Twice.l0]
    by_cases c : i < k
    · rw [if_pos c, if_neg (by split at hd <;> omega)]; rfl
    · rw [if_neg c]; rfl
  | succ d ih =>
    intro fuel n k i h0 h1 hm hi hd hf
    obtain ⟨f, rfl⟩ : ∃ m, fuel = m + 1 := ⟨fuel - 1, by omega⟩
    have c1 : i < k := by split at hd <;> omega
    have c2 : i < 60 := by split at hd <;> omega
    simp only [compradorref04_Twice.l0]
    rw [if_pos c1, if_pos c2, rhold_f]; simp only [Option.bind_some]
    rw [wrap_id (n := 2 * n) (by omega) (by omega), wrap_id (n := i + 1) (by omega) (by omega), ih f _ k (i + 1) (hold_lo _) (hold_hi _) hm (by omega) (by split <;> split at hd <;> omega) (by omega)]
    rfl
theorem rtwice_f (fuel : Nat) (n k : Int) (hk : k ≤ 9223372036854775807) (hf : 60 < fuel) : compradorref04_Twice.f fuel n k = some (tw k.toNat (hold n)) := by
  unfold compradorref04_Twice.f
  rw [rhold_f]; simp only [Option.bind_some]
  by_cases c : k < 60
  · rw [rtwice_l k.toNat fuel _ k 0 (hold_lo _) (hold_hi _) hk (by omega) (by rw [if_pos c]; omega) (by omega)]
  · rw [rtwice_l 60 fuel _ k 0 (hold_lo _) (hold_hi _) hk (by omega) (by rw [if_neg c]; rfl) (by omega)]
    rw [tw_far 60 _ (hold_lo _) (hold_hi _) (by omega), tw_far k.toNat _ (hold_lo _) (hold_hi _) (by omega)]

theorem TickCounts : compradorlaw04_TickCounts.Pure := by
  intro l n k hl _ hw hn hk
  unfold maxLen at hl
  have bn := wf_i64 hn; have bk := wf_i64 hk
  refine ⟨k.toNat + l.length + 100, ?_⟩
  unfold compradorlaw04_TickCounts.f
  by_cases c : (l.length : Int) > 200
  · rw [if_pos c, awake_f _ (by omega)]; rfl
  · rw [if_neg c]
    rw [add_f _ l (by omega) (by omega), radd_f _ l (by omega) (by omega), twice_f _ n k (by omega) (by omega), rtwice_f _ n k (by omega) (by omega), left_f, rleft_f, passed_f, awake_f _ (by omega)]
    simp only [hold_f, rhold_f, Option.bind_some, if_true, beq_self_eq_true]

end Go.Proofs.Ytenaggpgblaalaa.Pure
