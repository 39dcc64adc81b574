/- The law TimerOnce in plain words: what is set, what has come, and what is left. No condition. -/
import Derived.Test.YtenaggpgblaalaaTimerPlays
import Derived.Test.YtenaggpgblaalaaOnceA
import Derived.Test.YtenaggpgblaalaaOnceD
namespace Go.Proofs.Ytenaggpgblaalaa.Timer
open Plain (wrap_id hold hold_id hold_lo)
set_option linter.unusedVariables false
set_option linter.unusedSimpArgs false

/-- The names of items. -/
def nm (Z : List S106) : List ByteArray := Z.map S106.f0
theorem nm_out (x : ByteArray) (Z : List S106) : nm (out x Z) = (nm Z).filter (fun y => decide (y ≠ x)) := by
  unfold nm out
  rw [List.filter_map]
  rfl
theorem nm_mem (x : ByteArray) (Z : List S106) : x ∈ nm Z ↔ ∃ z ∈ Z, z.f0 = x := by unfold nm; rw [List.mem_map]
theorem nm_length (Z : List S106) : (nm Z).length = Z.length := by unfold nm; simp
theorem perm_out {x : ByteArray} {Z : List S106} (h : (nm Z).Nodup) (hx : x ∈ nm Z) : (x :: nm (out x Z)).Perm (nm Z) := by
  rw [nm_out]
  refine (List.perm_ext_iff_of_nodup ?_ h).2 ?_
  · refine List.nodup_cons.2 ⟨fun e => ?_, h.filter _⟩
    have := (List.mem_filter.1 e).2
    simp at this
  · intro y
    rw [List.mem_cons, List.mem_filter]
    by_cases e : y = x
    · subst e; simp [hx]
    · simp [e]
theorem due_perm (h : Int) (f : Nat) : ∀ Z, (nm Z).Nodup → ((due h f Z).1 ++ nm (due h f Z).2).Perm (nm Z) := by
  induction f with
  | zero => intro Z hZ; exact List.Perm.refl _
  | succ f ih =>
    intro Z hZ
    cases Z with
    | nil => exact List.Perm.refl _
    | cons y l =>
      rw [due_cons]
      have hm : (lst y l).f0 ∈ nm (y :: l) := (nm_mem _ _).2 ⟨_, lst_mem l y, rfl⟩
      by_cases e : (lst y l).f1 ≤ h
      · rw [if_pos e]
        have hn : (nm (out (lst y l).f0 (y :: l))).Nodup := by rw [nm_out]; exact hZ.filter _
        exact (List.Perm.cons _ (ih _ hn)).trans (perm_out hZ hm)
      · rw [if_neg e]
        exact List.Perm.refl _
theorem due_left (h : Int) (f : Nat) : ∀ Z, Z.length < f → ∀ z ∈ (due h f Z).2, h < z.f1 := by
  induction f with
  | zero => intro Z hZ; omega
  | succ f ih =>
    intro Z hZ
    cases Z with
    | nil => intro z hz; cases hz
    | cons y l =>
      rw [due_cons]
      by_cases e : (lst y l).f1 ≤ h
      · rw [if_pos e]
        have hl := out_length (lst y l) (y :: l) (lst_mem l y)
        exact ih _ (by omega)
      · rw [if_neg e]
        intro z hz
        have := lst_min l y z hz
        unfold lt at this
        omega
/-- What holds while names are set. -/
structure In1 (i : Nat) (S : Int) (Z : List S106) (N : List ByteArray) : Prop where
  good : Good i S Z
  up : Up N
  len : N.length ≤ i
  mem : ∀ x, x ∈ N ↔ x ∈ nm Z
  nd : (nm Z).Nodup
  lo : ∀ z ∈ Z, 0 ≤ z.f1
  sz : ∀ x ∈ N, x.size ≤ 1000
theorem In1.start : In1 0 0 [] [] :=
  ⟨⟨List.Pairwise.nil, fun y hy => absurd hy (List.not_mem_nil), fun y hy => absurd hy (List.not_mem_nil), by simp, by omega, by simp⟩, List.Pairwise.nil, by simp, fun x => Iff.rfl, List.nodup_nil, fun y hy => absurd hy (List.not_mem_nil), fun y hy => absurd hy (List.not_mem_nil)⟩
theorem In1.set {i : Nat} {S : Int} {Z : List S106} {N : List ByteArray} (h : In1 i S Z N) (hi : i < 150) (x : ByteArray) (hx : x.size ≤ 1000) (t : Int) : In1 (i + 1) (S + 1) (out x Z ++ [⟨x, hold t, S + 1⟩]) (addL x false N) := by
  have e : nm (out x Z ++ [⟨x, hold t, S + 1⟩]) = (nm Z).filter (fun y => decide (y ≠ x)) ++ [x] := by
    rw [← nm_out]; unfold nm; simp
  refine ⟨h.good.set hi x t, h.up.add x, ?_, ?_, ?_, ?_, ?_⟩
  · have := addL_length x N
    have := h.len
    omega
  · intro y
    rw [addL_mem, e, List.mem_append, List.mem_filter, List.mem_singleton, h.mem y]
    by_cases e : y = x
    · simp [e]
    · simp [e]
  · rw [e, List.nodup_append]
    refine ⟨h.nd.filter _, by simp, ?_⟩
    intro a ha b hb
    rw [List.mem_singleton.1 hb]
    have := (List.mem_filter.1 ha).2
    simpa using this
  · intro z hz
    rcases List.mem_append.1 hz with hz | hz
    · exact h.lo z (List.mem_filter.1 hz).1
    · rw [List.mem_singleton.1 hz]; exact hold_lo t
  · intro y hy
    rcases (addL_mem x N y).1 hy with rfl | hy
    · exact hx
    · exact h.sz y hy
/-- What holds while names come. -/
structure In2 (Z : List S106) (N C : List ByteArray) : Prop where
  rise : Rise Z
  good : ∀ y ∈ Z, hold y.f1 = y.f1
  len : Z.length ≤ 150
  lo : ∀ z ∈ Z, 0 ≤ z.f1
  perm : (C ++ nm Z).Perm N
  nd : N.Nodup
  sz : ∀ x ∈ N, x.size ≤ 1000
  n : N.length ≤ 150
theorem In1.end_ {i : Nat} {S : Int} {Z : List S106} {N : List ByteArray} (h : In1 i S Z N) : Z.length = N.length ∧ In2 Z N [] := by
  have hp : (nm Z).Perm N := (List.perm_ext_iff_of_nodup h.nd h.up.nodup).2 (fun x => (h.mem x).symm)
  have hl : Z.length = N.length := by rw [← nm_length]; exact hp.length_eq
  have := h.good.len
  exact ⟨hl, h.good.rise, h.good.good, by omega, h.lo, hp, h.up.nodup, h.sz, by omega⟩
theorem inL_iff (x : ByteArray) (C : List ByteArray) : inL x C = true ↔ x ∈ C := by
  unfold inL
  rw [List.any_eq_true]
  exact ⟨fun ⟨y, hy, e⟩ => by rw [← of_decide_eq_true e]; exact hy, fun h => ⟨x, h, decide_eq_true rfl⟩⟩
theorem In2.nodup {Z : List S106} {N C : List ByteArray} (h : In2 Z N C) : (C ++ nm Z).Nodup := (h.perm.nodup_iff).2 h.nd
/-- A name is held just when it has not come; it is held for a tick that is no less than zero. -/
theorem In2.look {Z : List S106} {N C : List ByteArray} (h : In2 Z N C) (x : ByteArray) (hx : x ∈ N) : (getX x (pj Z)).2 = !inL x C ∧ 0 ≤ (getX x (pj Z)).1 := by
  have hm := h.perm.mem_iff.2 hx
  have hd := h.nodup
  rw [List.nodup_append] at hd
  obtain ⟨d1, d2, d3⟩ := hd
  by_cases hc : x ∈ C
  · have e1 := (inL_iff x C).2 hc
    have e2 : ∀ z ∈ Z, z.f0 ≠ x := fun z hz e => d3 x hc x ((nm_mem _ _).2 ⟨z, hz, e⟩) rfl
    rw [get_none x Z e2, e1]
    exact ⟨rfl, Int.le_refl _⟩
  · have e1 : inL x C = false := Bool.eq_false_iff.2 (fun e => hc ((inL_iff x C).1 e))
    rcases List.mem_append.1 hm with hm | hm
    · exact absurd hm hc
    · obtain ⟨z, hz, e⟩ := (nm_mem _ _).1 hm
      have e2 : ∀ y ∈ Z, y.f0 = x → y.f1 = z.f1 := by
        intro y hy ey
        have : y = z := by
          obtain ⟨a, ha, rfl⟩ := List.getElem_of_mem hy
          obtain ⟨b, hb, rfl⟩ := List.getElem_of_mem hz
          have : (nm Z)[a]'(by rw [nm_length]; exact ha) = (nm Z)[b]'(by rw [nm_length]; exact hb) := by
            unfold nm
            rw [List.getElem_map, List.getElem_map, ey, e]
          have d4 := List.pairwise_iff_getElem.1 d2
          have la : a < (nm Z).length := by rw [nm_length]; exact ha
          have lb : b < (nm Z).length := by rw [nm_length]; exact hb
          by_cases hab : a = b
          · subst hab; rfl
          · rcases Nat.lt_or_gt_of_ne hab with hlt | hlt
            · exact absurd this (d4 a b la lb hlt)
            · exact absurd this.symm (d4 b a lb la hlt)
        rw [this]
      rw [get_some x z.f1 Z ⟨z, hz, e⟩ e2, e1]
      exact ⟨rfl, h.lo z hz⟩
/-- What comes has not come before; what is left is due later. -/
theorem In2.come {Z : List S106} {N C : List ByteArray} (h : In2 Z N C) (t : Int) : (C ++ (due t 1001 Z).1).Nodup ∧ In2 (due t 1001 Z).2 N (C ++ (due t 1001 Z).1) := by
  have hd := h.nodup
  rw [List.nodup_append] at hd
  have hp : ((C ++ (due t 1001 Z).1) ++ nm (due t 1001 Z).2).Perm N := by
    rw [List.append_assoc]
    exact (List.Perm.append_left C (due_perm t 1001 Z hd.2.1)).trans h.perm
  have hn := (hp.nodup_iff).2 h.nd
  rw [List.nodup_append] at hn
  exact ⟨hn.1, due_rise _ _ _ h.rise, fun y hy => h.good y (due_mem _ _ _ y hy), Nat.le_trans (due_length _ _ _).1 h.len, fun y hy => h.lo y (due_mem _ _ _ y hy), hp, h.nd, h.sz, h.n⟩
theorem In2.next {Z : List S106} {N C : List ByteArray} (h : In2 Z N C) (t : Int) (hl : ∀ z ∈ Z, t < z.f1) : (nextX (pj Z)).2 = decide ((C.length : Int) < (N.length : Int)) ∧ ((nextX (pj Z)).2 = true → t < (nextX (pj Z)).1) ∧ C.length ≤ N.length := by
  have hp := h.perm.length_eq
  rw [List.length_append, nm_length] at hp
  cases Z with
  | nil =>
    refine ⟨?_, ?_, by simp at hp; omega⟩
    · show false = _
      rw [decide_eq_false]
      simp at hp
      omega
    · intro e; cases e
  | cons y l =>
    rw [pj_next l y h.rise]
    refine ⟨?_, fun _ => hl _ (lst_mem l y), by omega⟩
    show true = _
    rw [decide_eq_true]
    simp at hp
    omega
theorem nodup_take {C D : List ByteArray} (h : (C ++ D).Nodup) (k : Nat) (hk : k < D.length) : inL D[k] (C ++ D.take k) = false := by
  refine Bool.eq_false_iff.2 (fun e => ?_)
  have hm := (inL_iff _ _).1 e
  have e2 : C ++ D = (C ++ D.take k) ++ D.drop k := by rw [List.append_assoc, List.take_append_drop]
  rw [e2, List.nodup_append] at h
  refine h.2.2 _ hm _ ?_ rfl
  rw [List.drop_eq_getElem_cons hk]
  exact List.mem_cons_self ..
end Go.Proofs.Ytenaggpgblaalaa.Timer
