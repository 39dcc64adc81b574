/- Plain facts on what is due of a timer's items: the least one is the root. No condition. -/
import Derived.Test.YtenaggpgblaalaaTimerDrop
namespace Go.Proofs.Ytenaggpgblaalaa.Timer
set_option linter.unusedVariables false

theorem root_min {L : List S106} (h : Heap L) : ∀ i, i < L.length → ¬ lt (itm L i) (itm L 0) := by
  intro i
  induction i using Nat.strongRecOn with
  | _ i ih =>
    intro hi
    by_cases e : i = 0
    · subst e; unfold lt; omega
    · exact nlt_trans (h i (by omega) hi) (ih ((i - 1) / 2) (by omega) (by omega))
def lst (y : S106) : List S106 → S106
  | [] => y
  | z :: l => if lt z y then lst z l else lst y l
theorem lst_mem (l : List S106) : ∀ y, lst y l ∈ y :: l := by
  induction l with
  | nil => intro y; exact List.mem_cons_self ..
  | cons z l ih =>
    intro y
    unfold lst
    split
    · exact List.mem_cons_of_mem _ (ih z)
    · rcases List.mem_cons.1 (ih y) with h | h
      · rw [h]; exact List.mem_cons_self ..
      · exact List.mem_cons_of_mem _ (List.mem_cons_of_mem _ h)
theorem lst_min (l : List S106) : ∀ y, ∀ x ∈ y :: l, ¬ lt x (lst y l) := by
  induction l with
  | nil =>
    intro y x hx
    rw [List.mem_singleton.1 hx]
    unfold lst lt; omega
  | cons z l ih =>
    intro y x hx
    unfold lst
    by_cases h : lt z y
    · rw [if_pos h]
      rcases List.mem_cons.1 hx with rfl | hx
      · have h1 := ih z z (List.mem_cons_self ..)
        exact nlt_trans (lt_asym h) h1
      · exact ih z x hx
    · rw [if_neg h]
      rcases List.mem_cons.1 hx with rfl | hx
      · exact ih x x (List.mem_cons_self ..)
      · rcases List.mem_cons.1 hx with rfl | hx
        · exact nlt_trans h (ih y y (List.mem_cons_self ..))
        · exact ih y x (List.mem_cons_of_mem _ hx)
/-- Serials rise. -/
def Rise (Z : List S106) : Prop := Z.Pairwise (fun a b => a.f2 < b.f2)
theorem Rise.one {Z : List S106} (h : Rise Z) {x y : S106} (hx : x ∈ Z) (hy : y ∈ Z) (e : x.f2 = y.f2) : x = y := by
  induction Z with
  | nil => cases hx
  | cons z l ih =>
    obtain ⟨h1, h2⟩ := List.pairwise_cons.1 h
    rcases List.mem_cons.1 hx with hx1 | hx1
    · rcases List.mem_cons.1 hy with hy1 | hy1
      · rw [hx1, hy1]
      · have := h1 y hy1; rw [hx1] at e; omega
    · rcases List.mem_cons.1 hy with hy1 | hy1
      · have := h1 x hx1; rw [hy1] at e; omega
      · exact ih h2 hx1 hy1
theorem Rise.out {Z : List S106} (h : Rise Z) (x : ByteArray) : Rise (out x Z) := List.Pairwise.filter _ h
theorem root_lst {L : List S106} {y : S106} {l : List S106} (h : Heap L) (hp : L.Perm (y :: l)) (hr : Rise (y :: l)) : itm L 0 = lst y l := by
  have hl : 0 < L.length := by rw [hp.length_eq]; simp
  have m1 : itm L 0 ∈ y :: l := hp.mem_iff.1 (by rw [itm_eq L 0 hl]; exact List.getElem_mem hl)
  have m2 := lst_mem l y
  have a := lst_min l y _ m1
  have b : ¬ lt (lst y l) (itm L 0) := by
    obtain ⟨i, hi, e⟩ := List.getElem_of_mem (hp.mem_iff.2 m2)
    rw [← e, ← itm_eq L i hi]
    exact root_min h i hi
  refine hr.one m1 m2 ?_
  unfold lt at a b
  omega
/-- Who is due up to h, and who is left. -/
def due (h : Int) : Nat → List S106 → List ByteArray × List S106
  | 0, Z => ([], Z)
  | _ + 1, [] => ([], [])
  | f + 1, y :: l => if (lst y l).f1 ≤ h then ((lst y l).f0 :: (due h f (out (lst y l).f0 (y :: l))).1, (due h f (out (lst y l).f0 (y :: l))).2) else ([], y :: l)
theorem out_length (x : S106) (Z : List S106) (h : x ∈ Z) : (out x.f0 Z).length < Z.length := by
  unfold out
  refine List.length_filter_lt_length_iff_exists.2 ⟨x, h, by simp⟩
theorem due_rise (h : Int) (f : Nat) : ∀ Z, Rise Z → Rise (due h f Z).2 := by
  induction f with
  | zero => intro Z hZ; exact hZ
  | succ f ih =>
    intro Z hZ
    cases Z with
    | nil => exact hZ
    | cons y l =>
      unfold due
      split
      · exact ih _ (hZ.out _)
      · exact hZ
theorem due_length (h : Int) (f : Nat) : ∀ Z, (due h f Z).2.length ≤ Z.length ∧ (due h f Z).1.length ≤ Z.length := by
  induction f with
  | zero => intro Z; exact ⟨Nat.le_refl _, by simp [due]⟩
  | succ f ih =>
    intro Z
    cases Z with
    | nil => simp [due]
    | cons y l =>
      unfold due
      split
      · have h1 := ih (out (lst y l).f0 (y :: l))
        have h2 := out_length (lst y l) (y :: l) (lst_mem l y)
        simp only [List.length_cons] at *
        omega
      · simp
end Go.Proofs.Ytenaggpgblaalaa.Timer
