/- The reference's runes are the model's own: which rune stands at a place of a text, and how many bytes it has. No condition. -/
import Derived.Test.YtenaggpgblaalaaPLabelReadsx4
import Derived.Test.YtenaggpgblaalaaPlain
import Derived.Lib.DecodeN
namespace Go.Proofs.Ytenaggpgblaalaa.Label
open Go.RowKit Go.Proofs.Ytenaggpgblaalaa.PLabelReads Go.Proofs.YtenaggpgblaalaaW.PrintWords Go.Proofs.YtenaggpgblaalaaW.PrintLast Go.Proofs.YtenaggpgblaalaaW.PrintMore
open Plain (wrap_id)
set_option linter.unusedVariables false

def B (s : ByteArray) (i : Nat) : Nat := (s.get! i).toNat
theorem B_lt (s : ByteArray) (i : Nat) : B s i < 256 := (s.get! i).toNat_lt
theorem bt_B (s : ByteArray) (i : Nat) (h : i < s.size) : bt s (i : Int) = (B s i : Int) := by
  unfold bt B
  rw [dif_pos (by simpa using h)]
  have : s.get! i = s[i]'h := by simp [ByteArray.get!, getElem!_pos, h]; rfl
  rw [this]; rfl
def fin (c d n : Int) : Int := if (c = 224 ∧ d < 160) ∨ (c = 237 ∧ 159 < d) ∨ (c = 240 ∧ d < 144) ∨ (c = 244 ∧ 143 < d) then 0 else n
theorem wide_end (k : Nat) (s : ByteArray) (a : Nat) (n c : Int) (h : a + 1 < s.size) (hs : s.size ≤ 9223372036854775806) :
    compradorref03_wide.l0 (k + 1) s (a : Int) n c n = some (fin c (B s (a + 1)) n) := by
  have hb := B_lt s (a + 1)
  have e1 : wrap64 ((a : Int) + 1) = ((a + 1 : Nat) : Int) := by rw [wrap_id (by omega) (by omega)]; rfl
  simp only [compradorref03_wide.l0]
  rw [if_neg (by omega), e1, bt_B s (a + 1) h, wrap_id (n := ((B s (a + 1) : Nat) : Int)) (by omega) (by omega)]
  rw [if_pos (by omega), if_pos (by omega)]
  generalize ((B s (a + 1) : Nat) : Int) = d
  unfold fin
  repeat' split
  all_goals first | rfl | (exfalso; omega)
theorem wide_round (k : Nat) (s : ByteArray) (a i : Nat) (n c : Int) (hi : (i : Int) < n) (h : a + i < s.size) (hs : s.size ≤ 9223372036854775806) :
    compradorref03_wide.l0 (k + 1) s (a : Int) n c (i : Int) = if 128 ≤ B s (a + i) ∧ B s (a + i) ≤ 191 then compradorref03_wide.l0 k s (a : Int) n c ((i + 1 : Nat) : Int) else some 0 := by
  have hb := B_lt s (a + i)
  have e1 : wrap64 ((a : Int) + i) = ((a + i : Nat) : Int) := by rw [wrap_id (by omega) (by omega)]; rfl
  have e2 : wrap64 ((i : Int) + 1) = ((i + 1 : Nat) : Int) := by rw [wrap_id (by omega) (by omega)]; rfl
  simp only [compradorref03_wide.l0]
  rw [if_pos hi, e1, e2, if_pos (by omega), if_pos (by omega), bt_B s (a + i) h]
  by_cases c1 : ((B s (a + i) : Nat) : Int) < 128
  · rw [if_pos c1, if_neg (by omega)]
  · rw [if_neg c1]
    by_cases c2 : ((B s (a + i) : Nat) : Int) > 191
    · rw [if_pos c2, if_neg (by omega)]
    · rw [if_neg c2, if_pos (by omega)]
def cont (b : Nat) : Prop := 128 ≤ b ∧ b ≤ 191
instance (b : Nat) : Decidable (cont b) := inferInstanceAs (Decidable (_ ∧ _))
/-- How many bytes the rune at a place has; 0: none stands there. -/
def wideF (s : ByteArray) (a : Nat) : Int :=
  let c := B s a
  if 194 ≤ c ∧ c ≤ 223 then (if a + 1 < s.size ∧ cont (B s (a + 1)) then 2 else 0)
  else if 224 ≤ c ∧ c ≤ 239 then (if a + 2 < s.size ∧ cont (B s (a + 1)) ∧ cont (B s (a + 2)) then fin c (B s (a + 1)) 3 else 0)
  else if 240 ≤ c ∧ c ≤ 244 then (if a + 3 < s.size ∧ cont (B s (a + 1)) ∧ cont (B s (a + 2)) ∧ cont (B s (a + 3)) then fin c (B s (a + 1)) 4 else 0)
  else 0
theorem wide_j5 (k : Nat) (s : ByteArray) (a : Nat) (n c : Int) (ha : a < s.size) (hs : s.size ≤ 9223372036854775806) (h0 : n ≠ 0) :
    compradorref03_wide.j5 (k + 2) s (a : Int) n c = if (s.size : Int) - a < n then some 0 else compradorref03_wide.l0 k s (a : Int) n c 1 := by
  simp only [compradorref03_wide.j5, compradorref03_wide.j6]
  rw [if_neg h0, wrap_id (n := (s.size : Int) - a) (by omega) (by omega)]
  by_cases c1 : (s.size : Int) - a < n
  · rw [if_pos c1, if_pos (by simp; exact c1)]
  · rw [if_neg c1, if_neg (by simp; omega)]
theorem wide_j1 (k : Nat) (s : ByteArray) (a : Nat) (n c : Int) : compradorref03_wide.j1 (k + 4) s (a : Int) n c = compradorref03_wide.j5 k s (a : Int) (if 240 ≤ c ∧ c ≤ 244 then 4 else if 224 ≤ c ∧ c ≤ 239 then 3 else n) c := by
  simp only [compradorref03_wide.j1, compradorref03_wide.j2, compradorref03_wide.j3, compradorref03_wide.j4]
  by_cases c1 : c ≥ 224
  · by_cases c2 : c ≤ 239
    · simp [c1, c2, show ¬ (240 ≤ c) from by omega]
    · by_cases c3 : c ≤ 244
      · simp [c1, c2, c3, show 240 ≤ c from by omega]
      · simp [c1, c2, c3, show 240 ≤ c from by omega]
  · simp [c1, show ¬ (240 ≤ c) from by omega]
theorem wide_f (fuel : Nat) (s : ByteArray) (a : Nat) (ha : a < s.size) (hs : s.size ≤ 9223372036854775806) (hf : 20 ≤ fuel) : compradorref03_wide.f fuel s (a : Int) = some (wideF s a) := by
  obtain ⟨k, rfl⟩ : ∃ k, fuel = k + 20 := ⟨fuel - 20, by omega⟩
  have hb := B_lt s a
  have e0 : wrap64 ((B s a : Nat) : Int) = (B s a : Int) := wrap_id (by omega) (by omega)
  unfold compradorref03_wide.f
  rw [if_pos (by omega), if_pos (by omega), bt_B s a ha, e0]
  have hj : ∀ x : Bool, compradorref03_wide.j0 (k + 20) s (a : Int) 0 (B s a : Int) x = compradorref03_wide.j5 (k + 15) s (a : Int) (if 240 ≤ (B s a : Int) ∧ (B s a : Int) ≤ 244 then 4 else if 224 ≤ (B s a : Int) ∧ (B s a : Int) ≤ 239 then 3 else if x = true then 2 else 0) (B s a : Int) := by
    intro x
    simp only [compradorref03_wide.j0]
    cases x
    · rw [if_neg (by simp), wide_j1]; simp
    · rw [if_pos rfl, wide_j1]; simp
  unfold wideF
  simp only
  by_cases c2 : 194 ≤ B s a ∧ B s a ≤ 223
  · rw [if_pos (by omega), if_pos c2, hj, if_neg (by omega), if_neg (by omega), if_pos (by simp; omega), wide_j5 _ s a 2 _ ha hs (by omega)]
    by_cases h : a + 1 < s.size
    · rw [if_neg (by omega)]
      have := wide_round (k + 12) s a 1 2 (B s a) (by omega) h hs
      rw [show ((1 : Nat) : Int) = 1 from rfl] at this
      rw [this]
      by_cases g : 128 ≤ B s (a + 1) ∧ B s (a + 1) ≤ 191
      · rw [if_pos g, if_pos ⟨h, g⟩, show (((1 + 1 : Nat)) : Int) = 2 from rfl, wide_end _ s a 2 _ h hs]
        unfold fin; rw [if_neg (by omega)]
      · rw [if_neg g, if_neg (fun q => g q.2)]
    · rw [if_pos (by omega), if_neg (fun q => h q.1)]
  · rw [if_neg c2]
    have hx : (if (B s a : Int) ≥ 194 then compradorref03_wide.j0 (k + 20) s (a : Int) 0 (B s a : Int) (decide ((B s a : Int) ≤ 223)) else compradorref03_wide.j0 (k + 20) s (a : Int) 0 (B s a : Int) false) = compradorref03_wide.j0 (k + 20) s (a : Int) 0 (B s a : Int) false := by
      by_cases q : (B s a : Int) ≥ 194
      · rw [if_pos q, show decide ((B s a : Int) ≤ 223) = false from by simp; omega]
      · rw [if_neg q]
    rw [hx, hj]
    by_cases c3 : 224 ≤ B s a ∧ B s a ≤ 239
    · rw [if_pos c3, if_neg (by omega), if_pos (by omega), wide_j5 _ s a 3 _ ha hs (by omega)]
      by_cases h : a + 2 < s.size
      · rw [if_neg (by omega)]
        have t1 := wide_round (k + 12) s a 1 3 (B s a) (by omega) (by omega) hs
        rw [show ((1 : Nat) : Int) = 1 from rfl] at t1
        rw [t1]
        by_cases g1 : 128 ≤ B s (a + 1) ∧ B s (a + 1) ≤ 191
        · rw [if_pos g1, wide_round _ s a (1 + 1) 3 _ (by omega) h hs]
          by_cases g2 : 128 ≤ B s (a + (1 + 1)) ∧ B s (a + (1 + 1)) ≤ 191
          · rw [if_pos g2, if_pos ⟨h, g1, g2⟩, show (((1 + 1 + 1 : Nat)) : Int) = 3 from rfl, wide_end _ s a 3 _ (by omega) hs]
          · rw [if_neg g2, if_neg (fun q => g2 q.2.2)]
        · rw [if_neg g1, if_neg (fun q => g1 q.2.1)]
      · rw [if_pos (by omega), if_neg (fun q => h q.1)]
    · rw [if_neg c3]
      by_cases c4 : 240 ≤ B s a ∧ B s a ≤ 244
      · rw [if_pos c4, if_pos (by omega), wide_j5 _ s a 4 _ ha hs (by omega)]
        by_cases h : a + 3 < s.size
        · rw [if_neg (by omega)]
          have t1 := wide_round (k + 12) s a 1 4 (B s a) (by omega) (by omega) hs
          rw [show ((1 : Nat) : Int) = 1 from rfl] at t1
          rw [t1]
          by_cases g1 : 128 ≤ B s (a + 1) ∧ B s (a + 1) ≤ 191
          · rw [if_pos g1, wide_round _ s a (1 + 1) 4 _ (by omega) (by omega) hs]
            by_cases g2 : 128 ≤ B s (a + (1 + 1)) ∧ B s (a + (1 + 1)) ≤ 191
            · rw [if_pos g2, wide_round _ s a (1 + 1 + 1) 4 _ (by omega) h hs]
              by_cases g3 : 128 ≤ B s (a + (1 + 1 + 1)) ∧ B s (a + (1 + 1 + 1)) ≤ 191
              · rw [if_pos g3, if_pos ⟨h, g1, g2, g3⟩, show (((1 + 1 + 1 + 1 : Nat)) : Int) = 4 from rfl, wide_end _ s a 4 _ (by omega) hs]
              · rw [if_neg g3, if_neg (fun q => g3 q.2.2.2)]
            · rw [if_neg g2, if_neg (fun q => g2 q.2.2.1)]
          · rw [if_neg g1, if_neg (fun q => g1 q.2.1)]
        · rw [if_pos (by omega), if_neg (fun q => h q.1)]
      · rw [if_neg c4, if_neg (by omega), if_neg (by omega), if_neg (by simp)]
        simp only [compradorref03_wide.j5, compradorref03_wide.j6]
        rw [if_pos trivial, if_pos trivial]
end Go.Proofs.Ytenaggpgblaalaa.Label
