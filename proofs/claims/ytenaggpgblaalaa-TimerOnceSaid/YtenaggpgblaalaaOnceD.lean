/- Plain facts on Add: of names that rise, names that rise, and the name among them. No condition. -/
import Derived.Test.YtenaggpgblaalaaOnceB
namespace Go.Proofs.Ytenaggpgblaalaa.Timer
set_option linter.unusedVariables false
set_option linter.unusedSimpArgs false

theorem bless_not (x : List UInt8) : ∀ y, Op.bytesLess x y = true → Op.bytesLess y x = false ∧ x ≠ y := by
  induction x with
  | nil =>
    intro y h
    cases y with
    | nil => cases h
    | cons b y => exact ⟨rfl, by simp⟩
  | cons a x ih =>
    intro y h
    cases y with
    | nil => cases h
    | cons b y =>
      rw [Op.bytesLess] at h ⊢
      simp only [Bool.or_eq_true, Bool.and_eq_true, decide_eq_true_eq, beq_iff_eq] at h
      rcases h with h | ⟨rfl, h⟩
      · have h1 : ¬ b < a := by rw [UInt8.lt_iff_toNat_lt] at h ⊢; omega
        have h2 : ¬ b = a := by intro e; subst e; rw [UInt8.lt_iff_toNat_lt] at h; omega
        have h3 : ¬ a = b := fun e => h2 e.symm
        refine ⟨by simp [h1, h2], by simp [h3]⟩
      · obtain ⟨g1, g2⟩ := ih y h
        refine ⟨by simp [g1, UInt8.lt_irrefl], by simp [g2]⟩
theorem bless_trans (x : List UInt8) : ∀ y z, Op.bytesLess x y = true → Op.bytesLess y z = true → Op.bytesLess x z = true := by
  induction x with
  | nil =>
    intro y z h k
    cases z with
    | nil => cases y <;> cases k
    | cons c z => rfl
  | cons a x ih =>
    intro y z h k
    cases y with
    | nil => cases h
    | cons b y =>
      cases z with
      | nil => cases k
      | cons c z =>
        rw [Op.bytesLess] at h k ⊢
        simp only [Bool.or_eq_true, Bool.and_eq_true, decide_eq_true_eq, beq_iff_eq] at h k ⊢
        rcases h with h | ⟨rfl, h⟩
        · rcases k with k | ⟨rfl, k⟩
          · left; rw [UInt8.lt_iff_toNat_lt] at *; omega
          · left; exact h
        · rcases k with k | ⟨rfl, k⟩
          · left; exact k
          · right; exact ⟨rfl, ih y z h k⟩
theorem bless_total (x : List UInt8) : ∀ y, x ≠ y → Op.bytesLess x y = false → Op.bytesLess y x = true := by
  induction x with
  | nil =>
    intro y h k
    cases y with
    | nil => exact absurd rfl h
    | cons b y => cases k
  | cons a x ih =>
    intro y h k
    cases y with
    | nil => rfl
    | cons b y =>
      rw [Op.bytesLess] at k ⊢
      simp only [Bool.or_eq_false_iff, Bool.and_eq_false_iff, decide_eq_false_iff_not, Bool.or_eq_true, Bool.and_eq_true, decide_eq_true_eq, beq_iff_eq, beq_eq_false_iff_ne] at k ⊢
      by_cases hab : a = b
      · subst hab
        right
        refine ⟨rfl, ih y (fun e => h (by rw [e])) ?_⟩
        rcases k.2 with k2 | k2
        · exact absurd rfl k2
        · exact k2
      · left
        have h1 := k.1
        have h2 : a.toNat ≠ b.toNat := fun e => hab (UInt8.toNat_inj.1 e)
        rw [UInt8.lt_iff_toNat_lt] at *
        omega
def Up (N : List ByteArray) : Prop := N.Pairwise (fun a b => Op.bytesLess a.toList b.toList = true)
theorem Up.nodup {N : List ByteArray} (h : Up N) : N.Nodup := by
  refine List.Pairwise.imp ?_ h
  intro a b hab e
  exact (bless_not _ _ hab).2 (by rw [e])
theorem addL_true (x : ByteArray) (l : List ByteArray) : addL x true l = l := by
  induction l with
  | nil => rfl
  | cons y l ih => show [y] ++ addL x true l = y :: l; rw [ih]; rfl
theorem addL_cons (x y : ByteArray) (l : List ByteArray) : addL x false (y :: l) = if le x y = true then (if x = y then x :: l else x :: y :: l) else y :: addL x false l := by
  show (addS x false y).2 ++ addL x (addS x false y).1 l = _
  unfold addS
  by_cases h : le x y = true
  · rw [if_pos h, if_pos (by simp [h])]
    simp only
    rw [addL_true]
    by_cases e : x = y
    · rw [if_pos e, if_pos e]; rfl
    · rw [if_neg e, if_neg e]; rfl
  · rw [if_neg h, if_neg (by simp [h])]
    rfl
theorem addL_mem (x : ByteArray) (l : List ByteArray) (z : ByteArray) : z ∈ addL x false l ↔ z = x ∨ z ∈ l := by
  induction l with
  | nil => show z ∈ [x] ↔ _; simp
  | cons y l ih =>
    rw [addL_cons]
    by_cases h : le x y = true
    · rw [if_pos h]
      by_cases e : x = y
      · rw [if_pos e, e]; simp
      · rw [if_neg e]; simp
    · rw [if_neg h]
      simp only [List.mem_cons, ih]
      constructor
      · rintro (h | h | h)
        · exact Or.inr (Or.inl h)
        · exact Or.inl h
        · exact Or.inr (Or.inr h)
      · rintro (h | h | h)
        · exact Or.inr (Or.inl h)
        · exact Or.inl h
        · exact Or.inr (Or.inr h)
theorem le_less {x y : ByteArray} (h : le x y = true) (e : x ≠ y) : Op.bytesLess x.toList y.toList = true := by
  unfold le at h
  rw [Bool.or_eq_true] at h
  rcases h with h | h
  · exact h
  · exact absurd (beq_iff_eq.1 h) (toList_ne e)
theorem nle_less {x y : ByteArray} (h : ¬ le x y = true) : Op.bytesLess y.toList x.toList = true := by
  unfold le at h
  rw [Bool.or_eq_true, not_or] at h
  have h1 : Op.bytesLess x.toList y.toList = false := Bool.eq_false_iff.2 h.1
  exact bless_total _ _ (fun e => h.2 (beq_iff_eq.2 e)) h1
theorem Up.add {N : List ByteArray} (h : Up N) (x : ByteArray) : Up (addL x false N) := by
  induction N with
  | nil => exact List.pairwise_singleton _ _
  | cons y l ih =>
    obtain ⟨h1, h2⟩ := List.pairwise_cons.1 h
    rw [addL_cons]
    by_cases hl : le x y = true
    · rw [if_pos hl]
      by_cases e : x = y
      · rw [if_pos e, e]; exact h
      · rw [if_neg e]
        refine List.pairwise_cons.2 ⟨?_, h⟩
        intro z hz
        rcases List.mem_cons.1 hz with rfl | hz
        · exact le_less hl e
        · exact bless_trans _ _ _ (le_less hl e) (h1 z hz)
    · rw [if_neg hl]
      refine List.pairwise_cons.2 ⟨?_, ih h2⟩
      intro z hz
      rcases (addL_mem x l z).1 hz with rfl | hz
      · exact nle_less hl
      · exact h1 z hz
theorem addL_length (x : ByteArray) (l : List ByteArray) : (addL x false l).length ≤ l.length + 1 := by
  induction l with
  | nil => exact Nat.le_refl _
  | cons y l ih =>
    rw [addL_cons]
    split
    · split <;> simp
    · simp; omega
end Go.Proofs.Ytenaggpgblaalaa.Timer
