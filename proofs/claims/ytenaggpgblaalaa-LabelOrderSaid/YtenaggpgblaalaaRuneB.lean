/- The reference's runes are the model's own: Rune, Runes, Kind, Fit, Clip. Condition: texts of at most 100000 bytes. -/
import Derived.Test.YtenaggpgblaalaaRuneA
namespace Go.Proofs.Ytenaggpgblaalaa.Label
open Go.RowKit Go.Proofs.Ytenaggpgblaalaa.PLabelReads Go.Proofs.YtenaggpgblaalaaW.PrintWords Go.Proofs.YtenaggpgblaalaaW.PrintLast Go.Proofs.YtenaggpgblaalaaW.PrintMore
open Plain (wrap_id)
set_option linter.unusedVariables false
set_option linter.unusedSimpArgs false

theorem decode_B (s : ByteArray) (a : Nat) : Utf8.decode s a = Lib.decodeN (s.size - a) (B s a) (B s (a + 1)) (B s (a + 2)) (B s (a + 3)) := Lib.decode_at s a
theorem rune_round (k : Nat) (s : ByteArray) (a i : Nat) (n x : Int) (hi : (i : Int) < n) (h : a + i < s.size) (hs : s.size ≤ 9223372036854775806) (h0 : 0 ≤ x) (h1 : x ≤ 100000000000) :
    compradorref03_Rune.l0 (k + 1) s (a : Int) n x (i : Int) = compradorref03_Rune.l0 k s (a : Int) n (x * 64 + ((B s (a + i) % 64 : Nat) : Int)) ((i + 1 : Nat) : Int) := by
  have hb := B_lt s (a + i)
  have e1 : wrap64 ((a : Int) + i) = ((a + i : Nat) : Int) := by rw [wrap_id (by omega) (by omega)]; rfl
  have e2 : wrap64 ((i : Int) + 1) = ((i + 1 : Nat) : Int) := by rw [wrap_id (by omega) (by omega)]; rfl
  simp only [compradorref03_Rune.l0]
  rw [if_pos hi, e1, e2, if_pos (by omega), if_pos (by omega), bt_B s (a + i) h, wrap_id (n := ((B s (a + i) : Nat) : Int)) (by omega) (by omega), Int.tmod_eq_emod_of_nonneg (by omega), wrap_id (n := x * 64) (by omega) (by omega), wrap_id (by omega) (by omega)]
  rfl
theorem rune_last (k : Nat) (s : ByteArray) (a : Nat) (n x : Int) : compradorref03_Rune.l0 (k + 1) s (a : Int) n x n = some (x, n) := by
  simp only [compradorref03_Rune.l0]
  rw [if_neg (by omega)]
set_option maxHeartbeats 4000000 in
theorem rune_f (fuel : Nat) (s : ByteArray) (a : Nat) (ha : a < s.size) (hs : s.size ≤ 9223372036854775806) (hf : 40 ≤ fuel) :
    compradorref03_Rune.f fuel s (a : Int) = some (((Utf8.decode s a).1 : Int), ((Utf8.decode s a).2 : Int)) := by
  obtain ⟨k, rfl⟩ : ∃ k, fuel = k + 40 := ⟨fuel - 40, by omega⟩
  have b0 := B_lt s a; have b1 := B_lt s (a + 1); have b2 := B_lt s (a + 2); have b3 := B_lt s (a + 3)
  have e0 : wrap64 ((B s a : Nat) : Int) = (B s a : Int) := wrap_id (by omega) (by omega)
  rw [decode_B]
  unfold compradorref03_Rune.f
  rw [if_pos (by omega), if_pos (by omega), bt_B s a ha, e0]
  by_cases c1 : B s a < 128
  · rw [if_pos (by omega)]
    unfold Lib.decodeN
    rw [if_pos c1]
    rfl
  · rw [if_neg (by omega), wide_f _ s a ha hs (by omega)]; simp only [Option.bind_some]
    unfold wideF
    simp only
    by_cases c2 : 194 ≤ B s a ∧ B s a ≤ 223
    · rw [if_pos c2]
      by_cases g : a + 1 < s.size ∧ cont (B s (a + 1))
      · rw [if_pos g, if_neg (by omega), if_neg (by omega), Int.tmod_eq_emod_of_nonneg (by omega)]
        simp only [compradorref03_Rune.j0, compradorref03_Rune.j1]
        rw [if_neg (by omega)]
        have t := rune_round (k + 37) s a 1 2 ((B s a : Int) % 32) (by omega) g.1 hs (by omega) (by omega)
        rw [show ((1 : Nat) : Int) = 1 from rfl] at t
        rw [t, show (((1 + 1 : Nat)) : Int) = 2 from rfl, rune_last]
        have g2 := g.2; unfold cont at g2
        unfold Lib.decodeN
        rw [if_neg c1, if_pos (by omega), if_pos (by omega)]
        refine congrArg some (Prod.ext ?_ rfl)
        simp only
        omega
      · rw [if_neg g, if_pos rfl]
        have hc : ¬ (a + 1 < s.size ∧ (128 ≤ B s (a + 1) ∧ B s (a + 1) ≤ 191)) := g
        unfold Lib.decodeN
        rw [if_neg c1, if_neg (by omega), if_neg (by omega), if_neg (by omega)]
        rfl
    · rw [if_neg c2]
      by_cases c3 : 224 ≤ B s a ∧ B s a ≤ 239
      · rw [if_pos c3]
        by_cases g : a + 2 < s.size ∧ cont (B s (a + 1)) ∧ cont (B s (a + 2))
        · rw [if_pos g]
          have g1 := g.2.1; have g2 := g.2.2; unfold cont at g1 g2
          by_cases q : (B s a = 224 ∧ B s (a + 1) < 160) ∨ (B s a = 237 ∧ 159 < B s (a + 1))
          · have hfin : fin (B s a) (B s (a + 1)) 3 = 0 := by unfold fin; rw [if_pos (by omega)]
            rw [hfin, if_pos rfl]
            unfold Lib.decodeN
            rw [if_neg c1, if_neg (by omega), if_pos (by omega), if_neg (by omega)]
            rfl
          · have hfin : fin (B s a) (B s (a + 1)) 3 = 3 := by unfold fin; rw [if_neg (by omega)]
            rw [hfin, if_neg (by omega), if_pos rfl, Int.tmod_eq_emod_of_nonneg (by omega)]
            simp only [compradorref03_Rune.j0, compradorref03_Rune.j1]
            rw [if_neg (by omega)]
            have t := rune_round (k + 37) s a 1 3 ((B s a : Int) % 16) (by omega) (by omega) hs (by omega) (by omega)
            rw [show ((1 : Nat) : Int) = 1 from rfl] at t
            rw [t, rune_round _ s a (1 + 1) 3 _ (by omega) g.1 hs (by omega) (by omega), show (((1 + 1 + 1 : Nat)) : Int) = 3 from rfl, rune_last]
            unfold Lib.decodeN
            rw [if_neg c1, if_neg (by omega), if_pos (by omega), if_pos (by omega)]
            refine congrArg some (Prod.ext ?_ rfl)
            simp only [show a + (1 + 1) = a + 2 from rfl, show a + (1 + 1 + 1) = a + 3 from rfl]
            omega
        · rw [if_neg g, if_pos rfl]
          have hc : ¬ (a + 2 < s.size ∧ (128 ≤ B s (a + 1) ∧ B s (a + 1) ≤ 191) ∧ (128 ≤ B s (a + 2) ∧ B s (a + 2) ≤ 191)) := g
          unfold Lib.decodeN
          rw [if_neg c1, if_neg (by omega), if_neg (by omega), if_neg (by omega)]
          rfl
      · rw [if_neg c3]
        by_cases c4 : 240 ≤ B s a ∧ B s a ≤ 244
        · rw [if_pos c4]
          by_cases g : a + 3 < s.size ∧ cont (B s (a + 1)) ∧ cont (B s (a + 2)) ∧ cont (B s (a + 3))
          · rw [if_pos g]
            have g1 := g.2.1; have g2 := g.2.2.1; have g3 := g.2.2.2; unfold cont at g1 g2 g3
            by_cases q : (B s a = 240 ∧ B s (a + 1) < 144) ∨ (B s a = 244 ∧ 143 < B s (a + 1))
            · have hfin : fin (B s a) (B s (a + 1)) 4 = 0 := by unfold fin; rw [if_pos (by omega)]
              rw [hfin, if_pos rfl]
              unfold Lib.decodeN
              rw [if_neg c1, if_neg (by omega), if_neg (by omega), if_pos (by omega), if_neg (by omega)]
              rfl
            · have hfin : fin (B s a) (B s (a + 1)) 4 = 4 := by unfold fin; rw [if_neg (by omega)]
              rw [hfin, if_neg (by omega), if_neg (by omega)]
              simp only [compradorref03_Rune.j0, compradorref03_Rune.j1]
              rw [if_pos trivial, if_pos (by omega), if_pos (by omega), bt_B s a ha, e0, Int.tmod_eq_emod_of_nonneg (by omega)]
              have t := rune_round (k + 37) s a 1 4 ((B s a : Int) % 8) (by omega) (by omega) hs (by omega) (by omega)
              rw [show ((1 : Nat) : Int) = 1 from rfl] at t
              rw [t, rune_round _ s a (1 + 1) 4 _ (by omega) (by omega) hs (by omega) (by omega), rune_round _ s a (1 + 1 + 1) 4 _ (by omega) g.1 hs (by omega) (by omega), show (((1 + 1 + 1 + 1 : Nat)) : Int) = 4 from rfl, rune_last]
              unfold Lib.decodeN
              rw [if_neg c1, if_neg (by omega), if_neg (by omega), if_pos (by omega), if_pos (by omega)]
              refine congrArg some (Prod.ext ?_ rfl)
              simp only [show a + (1 + 1) = a + 2 from rfl, show a + (1 + 1 + 1) = a + 3 from rfl]
              omega
          · rw [if_neg g, if_pos rfl]
            have hc : ¬ (a + 3 < s.size ∧ (128 ≤ B s (a + 1) ∧ B s (a + 1) ≤ 191) ∧ (128 ≤ B s (a + 2) ∧ B s (a + 2) ≤ 191) ∧ (128 ≤ B s (a + 3) ∧ B s (a + 3) ≤ 191)) := g
            unfold Lib.decodeN
            rw [if_neg c1, if_neg (by omega), if_neg (by omega), if_neg (by omega)]
            rfl
        · rw [if_neg c4, if_pos rfl]
          unfold Lib.decodeN
          rw [if_neg c1]
          repeat' split
          all_goals first | rfl | (exfalso; omega)
end Go.Proofs.Ytenaggpgblaalaa.Label
