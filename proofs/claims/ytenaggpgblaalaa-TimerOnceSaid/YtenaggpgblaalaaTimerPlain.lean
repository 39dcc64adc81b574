/- The timer's answers are the reference's, of the same items in their serials' order. Condition: serials that rise. -/
import Derived.Test.YtenaggpgblaalaaRefXC
namespace Go.Proofs.Ytenaggpgblaalaa.Timer
open Go.RowKit Go.Proofs.Ytenaggpgblaalaa.PTimerPlays Go.Proofs.YtenaggpgblaalaaW.PrintWords Go.Proofs.YtenaggpgblaalaaW.PrintLast Go.Proofs.YtenaggpgblaalaaW.PrintMore
open Plain (wrap_id hold)
set_option linter.unusedVariables false
set_option linter.unusedSimpArgs false

def ab (y : S106) : S109 := ⟨y.f0, y.f1⟩
def pj (Z : List S106) : List S109 := Z.map ab
theorem pj_out (x : ByteArray) (Z : List S106) : outX x (pj Z) = pj (out x Z) := by
  unfold outX pj out
  rw [List.filter_map]
  rfl
theorem pj_has (x : ByteArray) (Z : List S106) : hasX x (pj Z) = has x Z := by
  unfold hasX pj has
  rw [List.any_map]
  rfl
theorem pj_length (Z : List S106) : (pj Z).length = Z.length := by unfold pj; simp
theorem lst_le (y : S106) (l : List S106) : (lst y l).f1 ≤ y.f1 := by
  have := lst_min l y y (List.mem_cons_self ..)
  unfold lt at this
  omega
theorem rise_tail {y z : S106} {l : List S106} (h : Rise (y :: z :: l)) : Rise (z :: l) ∧ Rise (y :: l) ∧ y.f2 < z.f2 := by
  obtain ⟨h1, h2⟩ := List.pairwise_cons.1 h
  refine ⟨h2, List.pairwise_cons.2 ⟨fun u hu => h1 u (List.mem_cons_of_mem _ hu), (List.pairwise_cons.1 h2).2⟩, h1 z (List.mem_cons_self ..)⟩
theorem pj_next (l : List S106) : ∀ y, Rise (y :: l) → nextX (pj (y :: l)) = ((lst y l).f1, true) := by
  induction l with
  | nil => intro y _; rfl
  | cons z l ih =>
    intro y h
    obtain ⟨h1, h2, h3⟩ := rise_tail h
    show (((pj l).foldl (fun m z => if z.f1 < m then z.f1 else m) (if z.f1 < y.f1 then z.f1 else y.f1)), true) = _
    unfold lst
    by_cases hl : z.f1 < y.f1
    · rw [if_pos hl, if_pos (show lt z y from Or.inl hl)]
      exact ih z h1
    · rw [if_neg hl, if_neg (show ¬ lt z y by unfold lt; omega)]
      exact ih y h2
theorem pj_name (l : List S106) : ∀ y, Rise (y :: l) → nameX (lst y l).f1 (pj (y :: l)) = (lst y l).f0 := by
  induction l with
  | nil => intro y _; show (if y.f1 = y.f1 then y.f0 else _) = _; rw [if_pos rfl]; rfl
  | cons z l ih =>
    intro y h
    obtain ⟨h1, h2, h3⟩ := rise_tail h
    show (if y.f1 = (lst y (z :: l)).f1 then y.f0 else nameX (lst y (z :: l)).f1 (pj (z :: l))) = _
    by_cases hl : lt z y
    · have e : lst y (z :: l) = lst z l := if_pos hl
      have hz := lst_le z l
      have hzy : z.f1 < y.f1 := by unfold lt at hl; omega
      rw [e, if_neg (by omega)]
      exact ih z h1
    · have e : lst y (z :: l) = lst y l := if_neg hl
      have hy := lst_le y l
      have hzy : ¬ z.f1 < y.f1 := by unfold lt at hl; omega
      have hi := ih y h2
      have hi2 : (if y.f1 = (lst y l).f1 then y.f0 else nameX (lst y l).f1 (pj l)) = (lst y l).f0 := hi
      rw [e]
      by_cases hyn : y.f1 = (lst y l).f1
      · rw [if_pos hyn] at hi2 ⊢
        exact hi2
      · rw [if_neg hyn] at hi2 ⊢
        show (if z.f1 = (lst y l).f1 then z.f0 else nameX (lst y l).f1 (pj l)) = _
        rw [if_neg (by omega)]
        exact hi2
theorem pj_due (h : Int) (f : Nat) : ∀ Z, Rise Z → dueX h f (pj Z) = ((due h f Z).1, pj (due h f Z).2) := by
  induction f with
  | zero => intro Z _; rfl
  | succ f ih =>
    intro Z hZ
    cases Z with
    | nil => rfl
    | cons y l =>
      rw [due_cons]
      show dueX h (f + 1) (ab y :: pj l) = _
      rw [dueX_cons]
      show (if (nextX (pj (y :: l))).1 ≤ h then (nameX (nextX (pj (y :: l))).1 (pj (y :: l)) :: (dueX h f (outX (nameX (nextX (pj (y :: l))).1 (pj (y :: l))) (pj (y :: l)))).1, (dueX h f (outX (nameX (nextX (pj (y :: l))).1 (pj (y :: l))) (pj (y :: l)))).2) else ([], pj (y :: l))) = _
      rw [pj_next l y hZ]
      show (if (lst y l).f1 ≤ h then (nameX (lst y l).f1 (pj (y :: l)) :: (dueX h f (outX (nameX (lst y l).f1 (pj (y :: l))) (pj (y :: l)))).1, (dueX h f (outX (nameX (lst y l).f1 (pj (y :: l))) (pj (y :: l)))).2) else ([], pj (y :: l))) = _
      rw [pj_name l y hZ, pj_out, ih _ (hZ.out _)]
      by_cases hle : (lst y l).f1 ≤ h
      · rw [if_pos hle, if_pos hle]
      · rw [if_neg hle, if_neg hle]
theorem get_some (x : ByteArray) (v : Int) (Z : List S106) : (∃ z ∈ Z, z.f0 = x) → (∀ z ∈ Z, z.f0 = x → z.f1 = v) → getX x (pj Z) = (v, true) := by
  induction Z with
  | nil => rintro ⟨z, hz, _⟩; cases hz
  | cons y l ih =>
    intro h1 h2
    show (if y.f0 = x then (y.f1, true) else getX x (pj l)) = _
    by_cases e : y.f0 = x
    · rw [if_pos e, h2 y (List.mem_cons_self ..) e]
    · rw [if_neg e]
      refine ih ?_ (fun z hz => h2 z (List.mem_cons_of_mem _ hz))
      obtain ⟨z, hz, e2⟩ := h1
      rcases List.mem_cons.1 hz with rfl | hz
      · exact absurd e2 e
      · exact ⟨z, hz, e2⟩
theorem get_none (x : ByteArray) (Z : List S106) : (∀ z ∈ Z, z.f0 ≠ x) → getX x (pj Z) = (0, false) := by
  induction Z with
  | nil => intro _; rfl
  | cons y l ih =>
    intro h
    show (if y.f0 = x then (y.f1, true) else getX x (pj l)) = _
    rw [if_neg (h y (List.mem_cons_self ..))]
    exact ih (fun z hz => h z (List.mem_cons_of_mem _ hz))
section
variable {N0 : Nat} {w : World} {g : Nat} {S : Int} {Z : List S106}
theorem Len.ts (h : TS N0 w g S Z) : Calls Try.prog 76 #[.pointer (some ⟨g, 0, none⟩)] w fun e w' => e = .returned (.int .i64 (Z.length : Int)) ∧ w' = w := by
  obtain ⟨A, c, gm, L, pl, h1, h2, h3, h4⟩ := h
  refine (Len.calls h1).mono ?_
  rintro e w' ⟨rfl, rfl⟩
  exact ⟨by rw [h4.length_eq], rfl⟩
theorem Next.ts (h : TS N0 w g S Z) (hr : Rise Z) : Calls Try.prog 72 #[.pointer (some ⟨g, 0, none⟩)] w fun e w' => e = .returned (.tuple #[.int .i64 (nextX (pj Z)).1, .bool (nextX (pj Z)).2]) ∧ w' = w := by
  obtain ⟨A, c, gm, L, pl, h1, h2, h3, h4⟩ := h
  cases Z with
  | nil =>
    refine (Next.out h1 (by rw [h4.length_eq]; rfl)).mono ?_
    rintro e w' ⟨rfl, rfl⟩
    exact ⟨rfl, rfl⟩
  | cons y l =>
    refine (Next.in h1 (by rw [h4.length_eq]; simp)).mono ?_
    rintro e w' ⟨rfl, rfl⟩
    rw [pj_next l y hr, root_lst h3 h4 hr]
    exact ⟨rfl, rfl⟩
theorem Get.ts (h : TS N0 w g S Z) (x : ByteArray) (hx : x.size ≤ 1000) : Calls Try.prog 74 #[.pointer (some ⟨g, 0, none⟩), .string x] w fun e w' => e = .returned (.tuple #[.int .i64 (getX x (pj Z)).1, .bool (getX x (pj Z)).2]) ∧ w' = w := by
  obtain ⟨A, c, gm, L, pl, h1, h2, h3, h4⟩ := h
  have ex : ∀ z ∈ Z, ∃ i, i < L.length ∧ itm L i = z := fun z hz => by
    obtain ⟨i, hi, e⟩ := List.getElem_of_mem (h4.mem_iff.2 hz)
    exact ⟨i, hi, by rw [itm_eq L i hi]; exact e⟩
  cases hp : pl x with
  | none =>
    refine (Get.out h1 x hx hp).mono ?_
    rintro e w' ⟨rfl, rfl⟩
    rw [get_none x Z (fun z hz e => by
      obtain ⟨i, hi, rfl⟩ := ex z hz
      have := h2.at_ i hi
      rw [e, hp] at this; cases this)]
    exact ⟨rfl, rfl⟩
  | some i =>
    obtain ⟨k, rfl, hk, e⟩ := h2.back x i hp
    refine (Get.in h1 x hx k hk hp).mono ?_
    rintro e' w' ⟨rfl, rfl⟩
    rw [get_some x (itm L k).f1 Z ⟨itm L k, h4.mem_iff.1 (by rw [itm_eq L k hk]; exact List.getElem_mem hk), e⟩ (fun z hz ez => by
      obtain ⟨i, hi, rfl⟩ := ex z hz
      rw [h2.inj hi hk (by rw [ez, e])])]
    exact ⟨rfl, rfl⟩
end
end Go.Proofs.Ytenaggpgblaalaa.Timer
