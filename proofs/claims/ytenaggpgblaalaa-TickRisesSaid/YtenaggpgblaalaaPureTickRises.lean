/- TickRises: more is never told as less. No condition. -/
import Derived.Test.YtenaggpgblaalaaPTickRisesx1
import Derived.Test.YtenaggpgblaalaaPlain
namespace Go.Proofs.Ytenaggpgblaalaa.Pure
open Go.RowKit Go.Proofs.Ytenaggpgblaalaa.PTickRises Go.Proofs.YtenaggpgblaalaaW.PrintWords Go.Proofs.YtenaggpgblaalaaW.PrintLast Go.Proofs.YtenaggpgblaalaaW.PrintMore
open Plain (hold hold_lo hold_hi hold_id hold_big hold_neg hold_mono hold_hold tw tw_in tw_zero tw_top tw_mono tw_more tw_41 tw_far addFrom wrap_id)

theorem wf_i64 {a : Int} (h : (Lit.int .i64 a).wf = true) : -9223372036854775808 ≤ a ∧ a ≤ 9223372036854775807 := by
  simp [Lit.wf, IntKind.min, IntKind.max, IntKind.signed, IntKind.bits] at h; omega
theorem hold_f (a : Int) : tick_Hold.f a = some (hold a) := by
  unfold tick_Hold.f hold mx mn
  congr 1
  repeat' split
  all_goals omega
theorem twice_l (d : Nat) : ∀ (fuel : Nat) (n k : Int), 0 ≤ n → n ≤ 1099511627776 → k ≤ 9223372036854775807 → k.toNat = d → d < fuel →
    tick_Twice.l0 fuel n k = some (tw d n) := by
  induction d with
  | zero =>
    intro fuel n k h0 h1 hm hd hf
    obtain ⟨f, rfl⟩ : ∃ m, fuel = m + 1 := ⟨fuel - 1, by omega⟩
    simp only [tick_Twice.l0]; rw [if_neg (by omega)]; rfl
  | succ d ih =>
    intro fuel n k h0 h1 hm hd hf
    obtain ⟨f, rfl⟩ : ∃ m, fuel = m + 1 := ⟨fuel - 1, by omega⟩
    simp only [tick_Twice.l0]; rw [if_pos (by omega)]
    by_cases c0 : n > 0
    · rw [if_pos c0]
      by_cases c1 : n < 1099511627776
      · rw [if_pos c1, hold_f]; simp only [Option.bind_some]
        rw [wrap_id (n := n * 2) (by omega) (by omega), wrap_id (n := k - 1) (by omega) (by omega), ih f _ (k - 1) (hold_lo _) (hold_hi _) (by omega) (by omega) (by omega)]
        show some (tw d (hold (n * 2))) = some (tw d (hold (2 * n)))
        rw [show n * 2 = 2 * n from by omega]
      · obtain rfl : n = 1099511627776 := by omega
        rw [if_neg c1, tw_top]
    · obtain rfl : n = 0 := by omega
      rw [if_neg c0, tw_zero]
theorem twice_f (fuel : Nat) (n k : Int) (hk : k ≤ 9223372036854775807) (hf : k.toNat < fuel) : tick_Twice.f fuel n k = some (tw k.toNat (hold n)) := by
  unfold tick_Twice.f
  rw [hold_f]; simp only [Option.bind_some]
  exact twice_l _ fuel _ k (hold_lo _) (hold_hi _) hk rfl hf
theorem passed_f (a b : Int) : tick_Passed.f a b = some (decide (hold b ≤ hold a)) := by
  unfold tick_Passed.f; rw [hold_f, hold_f]; rfl
theorem left_f (a b : Int) : tick_Left.f a b = some (if hold b ≤ hold a then 0 else hold b - hold a) := by
  unfold tick_Left.f; rw [passed_f]; simp only [Option.bind_some, hold_f]
  have ha := hold_lo a; have hb := hold_hi b; have ha' := hold_hi a; have hb' := hold_lo b
  by_cases c : hold b ≤ hold a
  · simp [c]
  · simp [c]; rw [wrap_id (by omega) (by omega)]
theorem add_l (d : Nat) : ∀ (fuel : Nat) (l : List Int) (s i : Int), 0 ≤ s → s ≤ 1099511627776 → 0 ≤ i → (l.length : Int) - i = d → (l.length : Int) ≤ 9223372036854775807 → d < fuel →
    tick_Add.l0 fuel s l (l.length : Int) i = some (addFrom s (l.drop i.toNat)) := by
  induction d with
  | zero =>
    intro fuel l s i h0 h1 hi hd hm hf
    obtain ⟨f, rfl⟩ : ∃ m, fuel = m + 1 := ⟨fuel - 1, by omega⟩
    simp only [tick_Add.l0]; rw [if_neg (by omega), List.drop_eq_nil_of_le (by omega)]; rfl
  | succ d ih =>
    intro fuel l s i h0 h1 hi hd hm hf
    obtain ⟨f, rfl⟩ : ∃ m, fuel = m + 1 := ⟨fuel - 1, by omega⟩
    have hlt : i < (l.length : Int) := by omega
    have hln : i.toNat < l.length := by omega
    have hr := hold_lo (rd l i); have hr' := hold_hi (rd l i)
    simp only [tick_Add.l0]; rw [if_pos hlt, if_pos hi, if_pos hlt, hold_f]; simp only [Option.bind_some, hold_f]
    rw [wrap_id (n := s + _) (by omega) (by omega), wrap_id (n := i + 1) (by omega) (by omega), ih f l _ (i + 1) (hold_lo _) (hold_hi _) (by omega) (by omega) hm (by omega)]
    rw [List.drop_eq_getElem_cons hln]
    rw [show (i + 1).toNat = i.toNat + 1 from by omega]
    show some (addFrom (hold (s + hold (rd l i))) _) = some (addFrom (hold (s + hold (l[i.toNat]))) _)
    rw [show rd l i = l[i.toNat] from by unfold rd; simp [List.getD, hln]]
theorem add_f (fuel : Nat) (l : List Int) (hm : l.length ≤ 9223372036854775807) (hf : l.length < fuel) : tick_Add.f fuel l = some (addFrom 0 l) := by
  unfold tick_Add.f
  have := add_l l.length fuel l 0 0 (by omega) (by omega) (by omega) (by omega) (by omega) hf
  rw [this]; rfl
theorem awake_f (fuel : Nat) (hf : 10 ≤ fuel) : compradorlaw04_awake.f fuel = some true := by
  unfold compradorlaw04_awake.f
  rw [add_f fuel _ (by simp) (by simp; omega), show addFrom 0 [1099511627776, 1] = 1099511627776 from by decide +kernel]
  simp only [Option.bind_some]
  rw [if_pos trivial, twice_f fuel 3 2 (by omega) (by simp; omega), show tw (2 : Int).toNat (hold 3) = 12 from by decide +kernel]
  rfl

theorem add_two (fuel : Nat) (a b : Int) (hf : 3 ≤ fuel) : tick_Add.f fuel [a, b] = some (hold (hold a + hold b)) := by
  rw [add_f fuel [a, b] (by simp) (by simp; omega)]
  show some (hold (hold (0 + hold a) + hold b)) = _
  rw [Int.zero_add, hold_hold]
theorem add_left (fuel : Nat) (x y : Int) (h : x ≤ y) (hf : 3 ≤ fuel) : tick_Add.f fuel [x, if hold y ≤ hold x then 0 else hold y - hold x] = some (hold y) := by
  rw [add_two fuel _ _ hf]
  have hm := hold_mono h
  have a0 := hold_lo x; have a1 := hold_hi x; have b0 := hold_lo y; have b1 := hold_hi y
  congr 1
  split
  · rw [show hold 0 = 0 from rfl, Int.add_zero, hold_hold]; omega
  · rw [hold_id (n := hold y - hold x) (by omega) (by omega), show hold x + (hold y - hold x) = hold y from by omega, hold_hold]

theorem rises_j (fuel : Nat) (x y : Int) (h : x ≤ y) (hx : x ≤ 9223372036854775807) (hf : 100 ≤ fuel) : compradorlaw04_TickRises.j0 (fuel + 1) x y false = some true := by
  have m : mx x y = y := by unfold mx; split <;> omega
  simp only [compradorlaw04_TickRises.j0]
  rw [if_neg (by simp)]
  by_cases c : x < 1
  · rw [if_pos c, left_f]; simp only [Option.bind_some]
    rw [add_left fuel x y h (by omega), m, hold_f]; simp only [Option.bind_some, if_true]
    rw [awake_f fuel (by omega)]; rfl
  · rw [if_neg c, twice_f fuel x 41 (by omega) (by simp; omega)]; simp only [Option.bind_some]
    rw [show (41 : Int).toNat = 41 from rfl, tw_41 _ (by rw [show (1 : Int) = hold 1 from rfl]; exact hold_mono (by omega)) (hold_hi _), if_pos rfl, left_f]; simp only [Option.bind_some]
    rw [add_left fuel x y h (by omega), m, hold_f]; simp only [Option.bind_some, if_true]
    rw [awake_f fuel (by omega)]; rfl

theorem TickRises : compradorlaw04_TickRises.Pure := by
  intro a b c ha hb hc
  have ba := wf_i64 ha; have bb := wf_i64 hb; have bc := wf_i64 hc
  have hxy : mn a b ≤ mx a b := by unfold mn mx; split <;> split <;> omega
  have hx0 : -9223372036854775808 ≤ mn a b ∧ mn a b ≤ 9223372036854775807 := by unfold mn; split <;> omega
  have hy0 : -9223372036854775808 ≤ mx a b ∧ mx a b ≤ 9223372036854775807 := by unfold mx; split <;> omega
  unfold compradorlaw04_TickRises.Pure at *
  generalize hx : mn a b = x at *
  generalize hy : mx a b = y at *
  have hm := hold_mono hxy
  have c0 := hold_lo c; have c1 := hold_hi c
  have x0 := hold_lo x; have x1 := hold_hi x; have y0 := hold_lo y; have y1 := hold_hi y
  refine ⟨c.toNat + x.toNat + y.toNat + 101, ?_⟩
  unfold compradorlaw04_TickRises.f
  rw [hx, hy, hold_f, hold_f]; simp only [Option.bind_some]
  rw [if_neg (by omega), add_two _ _ _ (by omega), add_two _ _ _ (by omega)]; simp only [Option.bind_some]
  rw [if_neg (by have := hold_mono (a := hold x + hold c) (b := hold y + hold c) (by omega); omega), left_f, left_f]; simp only [Option.bind_some]
  rw [if_neg (by split <;> split <;> omega), twice_f _ x c (by omega) (by omega), twice_f _ y c (by omega) (by omega)]; simp only [Option.bind_some]
  rw [if_neg (by have := tw_mono c.toNat _ _ hm; omega), twice_f _ c x (by omega) (by omega), twice_f _ c y (by omega) (by omega)]; simp only [Option.bind_some]
  rw [show decide (tw x.toNat (hold c) > tw y.toNat (hold c)) = false from by
    have := tw_more x.toNat y.toNat (hold c) c0 c1 (by omega)
    simp; omega]
  rw [show c.toNat + x.toNat + y.toNat + 101 = (c.toNat + x.toNat + y.toNat + 100) + 1 from by omega]
  exact rises_j _ x y hxy (by omega) (by omega)

end Go.Proofs.Ytenaggpgblaalaa.Pure
