/- Plain facts on the timer's cut: what is left of items, places and heap when one is taken out. No condition. -/
import Derived.Test.YtenaggpgblaalaaPlainHeap
namespace Go.Proofs.Ytenaggpgblaalaa.Timer
set_option linter.unusedVariables false

theorem itm_take (L : List S106) (m i : Nat) (h : i < m) (hm : m ≤ L.length) : itm (L.take m) i = itm L i := by
  rw [itm_eq _ i (by rw [List.length_take]; omega), itm_eq L i (by omega), List.getElem_take]
theorem take_length (L : List S106) (m : Nat) (hm : m ≤ L.length) : (L.take m).length = m := by rw [List.length_take]; omega
theorem Sync.cut {L : List S106} {pl : ByteArray → Option Int} (h : Sync L pl) (m : Nat) (hm : L.length = m + 1) : Sync (L.take m) (era pl (itm L m).f0) := by
  refine ⟨?_, ?_, ?_⟩
  · intro i hi
    rw [take_length L m (by omega)] at hi
    rw [itm_take L m i hi (by omega)]
    unfold era
    rw [if_neg (fun e => by have := h.inj (show i < L.length by omega) (show m < L.length by omega) e; omega)]
    exact h.at_ i (by omega)
  · intro x i hx
    unfold era at hx
    by_cases h1 : x = (itm L m).f0
    · rw [if_pos h1] at hx; cases hx
    · rw [if_neg h1] at hx
      obtain ⟨n, e, hn, e2⟩ := h.back x i hx
      have hnm : n ≠ m := fun e3 => h1 (by rw [← e2, e3])
      refine ⟨n, e, by rw [take_length L m (by omega)]; omega, ?_⟩
      rw [itm_take L m n (by omega) (by omega), e2]
  · intro i hi
    rw [take_length L m (by omega)] at hi
    rw [itm_take L m i hi (by omega)]
    exact h.small i (by omega)
theorem erase_perm (L : List S106) : ∀ (k : Nat) (h : k < L.length), (L[k] :: L.eraseIdx k).Perm L := by
  induction L with
  | nil => intro k h; simp at h
  | cons x l ih =>
    intro k h
    cases k with
    | zero => exact List.Perm.refl _
    | succ k =>
      have hk : k < l.length := by simp at h; omega
      exact (List.Perm.swap x l[k] (l.eraseIdx k)).trans ((ih k hk).cons x)
theorem cut_perm (L : List S106) (k m : Nat) (hm : L.length = m + 1) (hk : k < L.length) : ((swapL L k m).take m).Perm (L.eraseIdx k) := by
  have h1 := swap_perm L k m hk (by omega)
  have e1 : swapL L k m = (swapL L k m).take m ++ [itm L k] := by
    have hl : (swapL L k m).length = m + 1 := by rw [swap_length]; exact hm
    conv => lhs; rw [← List.take_append_drop m (swapL L k m)]
    congr 1
    rw [List.drop_eq_getElem_cons (show m < (swapL L k m).length by omega), List.drop_eq_nil_of_le (by omega)]
    congr 1
    rw [← itm_eq _ m (by omega), itm_swap L k m m hk (by omega) (by omega), if_pos rfl]
  have h2 : (itm L k :: L.eraseIdx k).Perm L := by
    rw [itm_eq L k hk]
    exact erase_perm L k hk
  rw [e1] at h1
  have h3 : (itm L k :: (swapL L k m).take m).Perm (itm L k :: L.eraseIdx k) := (List.perm_append_singleton _ _).symm.trans (h1.trans h2.symm)
  exact h3.cons_inv
theorem cut_at {L : List S106} (h : Heap L) (k m : Nat) (hm : L.length = m + 1) (hk : k < m) : HeapAt ((swapL L k m).take m) k k := by
  have hl : (swapL L k m).length = m + 1 := by rw [swap_length]; exact hm
  have e : ∀ i, i < m → i ≠ k → itm ((swapL L k m).take m) i = itm L i := fun i hi hik => by
    rw [itm_take _ m i hi (by omega), itm_swap L k m i (by omega) (by omega) (by omega), if_neg (by omega), if_neg hik]
  refine ⟨?_, ?_, Nat.le_refl _, fun h => by omega⟩
  · intro i i0 il ik ip
    rw [take_length _ m (by omega)] at il
    unfold Edge
    rw [e i il ik, e _ (by omega) ip]
    exact h i i0 (by omega)
  · intro k0 i i0 il ip
    rw [take_length _ m (by omega)] at il
    rw [e i il (by omega), e _ (by omega) (by omega)]
    have h1 := h i i0 (by omega)
    have h2 := h k k0 (by omega)
    unfold Edge at h1 h2
    rw [ip] at h1
    exact nlt_trans h1 h2
theorem cut_last {L : List S106} (h : Heap L) (m : Nat) (hm : L.length = m + 1) : Heap ((swapL L m m).take m) := by
  have hl : (swapL L m m).length = m + 1 := by rw [swap_length]; exact hm
  have e : ∀ i, i < m → itm ((swapL L m m).take m) i = itm L i := fun i hi => by
    rw [itm_take _ m i hi (by omega), itm_swap L m m i (by omega) (by omega) (by omega), if_neg (by omega), if_neg (by omega)]
  intro i i0 il
  rw [take_length _ m (by omega)] at il
  unfold Edge
  rw [e i il, e _ (by omega)]
  exact h i i0 (by omega)
end Go.Proofs.Ytenaggpgblaalaa.Timer
