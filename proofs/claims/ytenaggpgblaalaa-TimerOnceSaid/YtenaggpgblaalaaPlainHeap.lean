/- Plain facts on the timer's heap: items, who comes ahead, what a swap does, how an item rises and sinks. No condition. -/
import Derived.Test.YtenaggpgblaalaaTimerD
namespace Go.Proofs.Ytenaggpgblaalaa.Timer
set_option linter.unusedVariables false

def lt (x y : S106) : Prop := x.f1 < y.f1 ∨ (x.f1 = y.f1 ∧ x.f2 < y.f2)
instance (x y : S106) : Decidable (lt x y) := by unfold lt; infer_instance
theorem lt_asym {x y : S106} (h : lt x y) : ¬ lt y x := by unfold lt at *; omega
theorem nlt_trans {x y z : S106} (h : ¬ lt x y) (k : ¬ lt y z) : ¬ lt x z := by unfold lt at *; omega
theorem nlt_lt {x y z : S106} (h : ¬ lt x y) (k : lt z y) : ¬ lt x z := by unfold lt at *; omega
theorem itm_eq (L : List S106) (i : Nat) (h : i < L.length) : itm L i = L[i] := by unfold itm; simp [List.getD, h]
theorem swap_length (L : List S106) (j k : Nat) : (swapL L j k).length = L.length := by unfold swapL; simp
theorem itm_swap (L : List S106) (j k i : Nat) (hj : j < L.length) (hk : k < L.length) (hi : i < L.length) : itm (swapL L j k) i = if i = k then itm L j else if i = j then itm L k else itm L i := by
  rw [itm_eq _ i (by rw [swap_length]; exact hi)]
  unfold swapL
  rw [List.getElem_set]
  by_cases h1 : k = i
  · rw [if_pos h1, if_pos h1.symm]
  · rw [if_neg h1, if_neg (fun e => h1 e.symm), List.getElem_set]
    by_cases h2 : j = i
    · rw [if_pos h2, if_pos h2.symm]
    · rw [if_neg h2, if_neg (fun e => h2 e.symm), itm_eq L i hi]
theorem swap_perm (L : List S106) (j k : Nat) (hj : j < L.length) (hk : k < L.length) : (swapL L j k).Perm L := by
  unfold swapL
  rw [itm_eq L j hj, itm_eq L k hk]
  exact List.set_set_perm hj hk
/-- Items and places agree. -/
structure Sync (L : List S106) (pl : ByteArray → Option Int) : Prop where
  at_ : ∀ i, i < L.length → pl (itm L i).f0 = some (i : Int)
  back : ∀ x i, pl x = some i → ∃ n : Nat, i = (n : Int) ∧ n < L.length ∧ (itm L n).f0 = x
  small : ∀ i, i < L.length → (itm L i).f0.size ≤ 1000
theorem Sync.inj {L : List S106} {pl : ByteArray → Option Int} (h : Sync L pl) {i j : Nat} (hi : i < L.length) (hj : j < L.length) (e : (itm L i).f0 = (itm L j).f0) : i = j := by
  have a := h.at_ i hi
  have b := h.at_ j hj
  rw [e, b] at a
  injection a with a
  omega
theorem Sync.swap {L : List S106} {pl : ByteArray → Option Int} (h : Sync L pl) {j k : Nat} (hj : j < L.length) (hk : k < L.length) : Sync (swapL L j k) (swapP L pl j k) := by
  refine ⟨?_, ?_, ?_⟩
  · intro i hi
    rw [swap_length] at hi
    rw [itm_swap L j k i hj hk hi]
    unfold swapP upd
    by_cases h1 : i = k
    · rw [if_pos h1, if_pos rfl, h1]
    · rw [if_neg h1]
      by_cases h2 : i = j
      · rw [if_pos h2]
        by_cases h3 : (itm L k).f0 = (itm L j).f0
        · exact absurd (h.inj hk hj h3) (by omega)
        · rw [if_neg h3, if_pos rfl, h2]
      · rw [if_neg h2, if_neg (fun e => h2 (h.inj hi hj e)), if_neg (fun e => h1 (h.inj hi hk e))]
        exact h.at_ i hi
  · intro x i hx
    unfold swapP upd at hx
    rw [swap_length]
    by_cases h1 : x = (itm L j).f0
    · rw [if_pos h1] at hx
      injection hx with hx
      exact ⟨k, hx.symm, hk, by rw [itm_swap L j k k hj hk hk, if_pos rfl, h1]⟩
    · rw [if_neg h1] at hx
      by_cases h2 : x = (itm L k).f0
      · rw [if_pos h2] at hx
        injection hx with hx
        refine ⟨j, hx.symm, hj, ?_⟩
        rw [itm_swap L j k j hj hk hj]
        by_cases h3 : j = k
        · rw [if_pos h3, h2, h3]
        · rw [if_neg h3, if_pos rfl, h2]
      · rw [if_neg h2] at hx
        obtain ⟨n, e, hn, e2⟩ := h.back x i hx
        refine ⟨n, e, hn, ?_⟩
        rw [itm_swap L j k n hj hk hn]
        by_cases h3 : n = k
        · exact absurd (by rw [← e2, h3]) h2
        · by_cases h4 : n = j
          · exact absurd (by rw [← e2, h4]) h1
          · rw [if_neg h3, if_neg h4, e2]
  · intro i hi
    rw [swap_length] at hi
    rw [itm_swap L j k i hj hk hi]
    split
    · exact h.small j hj
    · split
      · exact h.small k hk
      · exact h.small i hi
/-- An item does not come ahead of the one above it. -/
def Edge (L : List S106) (i : Nat) : Prop := ¬ lt (itm L i) (itm L ((i - 1) / 2))
def Heap (L : List S106) : Prop := ∀ i, 0 < i → i < L.length → Edge L i
/-- A heap but for k, whose item may belong above. -/
def HeapUp (L : List S106) (k : Nat) : Prop := (∀ i, 0 < i → i < L.length → i ≠ k → Edge L i) ∧ (0 < k → ∀ i, 0 < i → i < L.length → (i - 1) / 2 = k → ¬ lt (itm L i) (itm L ((k - 1) / 2)))
theorem up_end {L : List S106} {k : Nat} (h : HeapUp L k) (hk : k = 0 ∨ ¬ lt (itm L k) (itm L ((k - 1) / 2))) : Heap L := by
  intro i h0 h1
  by_cases e : i = k
  · subst e
    rcases hk with hk | hk
    · omega
    · exact hk
  · exact h.1 i h0 h1 e
theorem up_step {L : List S106} {k : Nat} (h : HeapUp L k) (hk : k < L.length) (h0 : 0 < k) (hl : lt (itm L k) (itm L ((k - 1) / 2))) : HeapUp (swapL L k ((k - 1) / 2)) ((k - 1) / 2) := by
  obtain ⟨p, hp⟩ : ∃ p, p = (k - 1) / 2 := ⟨_, rfl⟩
  rw [← hp] at hl ⊢
  have hpk : p < k := by omega
  have hpl : p < L.length := by omega
  have sw := fun i (hi : i < L.length) => itm_swap L k p i hk hpl hi
  have ek : itm (swapL L k p) k = itm L p := by rw [sw k hk, if_neg (by omega), if_pos rfl]
  have ep : itm (swapL L k p) p = itm L k := by rw [sw p hpl, if_pos rfl]
  have eo : ∀ i, i < L.length → i ≠ p → i ≠ k → itm (swapL L k p) i = itm L i := fun i hi h1 h2 => by rw [sw i hi, if_neg h1, if_neg h2]
  have hb := h.2 h0
  rw [← hp] at hb
  refine ⟨?_, ?_⟩
  · intro i i0 il ip
    rw [swap_length] at il
    unfold Edge
    by_cases e1 : i = k
    · subst e1
      rw [← hp, ek, ep]
      exact lt_asym hl
    · rw [eo i il ip e1]
      by_cases e2 : (i - 1) / 2 = k
      · rw [e2, ek]
        exact hb i i0 il e2
      · have hE := h.1 i i0 il e1
        unfold Edge at hE
        by_cases e3 : (i - 1) / 2 = p
        · rw [e3, ep]
          rw [e3] at hE
          exact nlt_lt hE hl
        · rw [eo _ (by omega) e3 e2]
          exact hE
  · intro p0 i i0 il ip
    rw [swap_length] at il
    rw [eo ((p - 1) / 2) (by omega) (by omega) (by omega)]
    have hq : ¬ lt (itm L p) (itm L ((p - 1) / 2)) := h.1 p p0 hpl (by omega)
    by_cases e1 : i = k
    · rw [e1, ek]; exact hq
    · rw [eo i il (by omega) e1]
      have hE := h.1 i i0 il e1
      unfold Edge at hE
      rw [ip] at hE
      exact nlt_trans hE hq
/-- A heap but for k, whose item may belong above or below, while q (k itself, or below it) is where it stands: above q all is well. -/
def HeapAt (L : List S106) (k q : Nat) : Prop := (∀ i, 0 < i → i < L.length → i ≠ k → (i - 1) / 2 ≠ q → Edge L i) ∧ (0 < q → ∀ i, 0 < i → i < L.length → (i - 1) / 2 = q → ¬ lt (itm L i) (itm L ((q - 1) / 2))) ∧ k ≤ q ∧ (k < q → 0 < k → Edge L k)
theorem down_end {L : List S106} {k q : Nat} (h : HeapAt L k q) (hq : ∀ i, 0 < i → i < L.length → (i - 1) / 2 = q → ¬ lt (itm L i) (itm L q)) : HeapUp L k := by
  have all : ∀ i, 0 < i → i < L.length → i ≠ k → Edge L i := fun i i0 il ik => by
    by_cases e : (i - 1) / 2 = q
    · unfold Edge; rw [e]; exact hq i i0 il e
    · exact h.1 i i0 il ik e
  refine ⟨all, ?_⟩
  intro k0 i i0 il ik
  by_cases e : k = q
  · subst e; exact h.2.1 k0 i i0 il ik
  · have h1 := all i i0 il (by omega)
    unfold Edge at h1
    rw [ik] at h1
    exact nlt_trans h1 (h.2.2.2 (by have := h.2.2.1; omega) k0)
theorem down_step {L : List S106} {k q m : Nat} (h : HeapAt L k q) (hm : m < L.length) (m0 : 0 < m) (hmq : (m - 1) / 2 = q) (hl : lt (itm L m) (itm L q))
    (hmin : ∀ i, 0 < i → i < L.length → (i - 1) / 2 = q → ¬ lt (itm L i) (itm L m)) : HeapAt (swapL L q m) k m := by
  have hqm : q < m := by omega
  have hql : q < L.length := by omega
  have sw := fun i (hi : i < L.length) => itm_swap L q m i hql hm hi
  have em : itm (swapL L q m) m = itm L q := by rw [sw m hm, if_pos rfl]
  have eq : itm (swapL L q m) q = itm L m := by rw [sw q hql, if_neg (by omega), if_pos rfl]
  have eo : ∀ i, i < L.length → i ≠ m → i ≠ q → itm (swapL L q m) i = itm L i := fun i hi h1 h2 => by rw [sw i hi, if_neg h1, if_neg h2]
  have hkq := h.2.2.1
  refine ⟨?_, ?_, by omega, ?_⟩
  · intro i i0 il ik im
    rw [swap_length] at il
    unfold Edge
    by_cases e1 : i = m
    · subst e1
      rw [hmq, em, eq]
      exact lt_asym hl
    · by_cases e2 : i = q
      · subst e2
        rw [eq, eo ((i - 1) / 2) (by omega) (by omega) (by omega)]
        exact h.2.1 i0 m m0 hm hmq
      · rw [eo i il e1 e2]
        by_cases e3 : (i - 1) / 2 = q
        · rw [e3, eq]; exact hmin i i0 il e3
        · rw [eo ((i - 1) / 2) (by omega) im e3]
          exact h.1 i i0 il ik e3
  · intro _ i i0 il im
    rw [swap_length] at il
    rw [hmq, eq, eo i il (by omega) (by omega)]
    have hE := h.1 i i0 il (by omega) (by omega)
    unfold Edge at hE
    rw [im] at hE
    exact hE
  · intro hk k0
    unfold Edge
    rw [eo ((k - 1) / 2) (by omega) (by omega) (by omega)]
    by_cases e : k = q
    · subst e
      rw [eq]
      exact h.2.1 k0 m m0 hm hmq
    · rw [eo k (by omega) (by omega) e]
      exact h.2.2.2 (by omega) k0
end Go.Proofs.Ytenaggpgblaalaa.Timer
