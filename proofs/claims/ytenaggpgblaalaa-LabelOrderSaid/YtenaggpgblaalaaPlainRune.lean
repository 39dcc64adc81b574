/- Plain facts on runes: a text as a list of runes, their kinds, which names may be, clips, and how two texts stand. No condition. -/
import Derived.Lib.DecodeN
namespace Go.Proofs.Ytenaggpgblaalaa.PlainRune

theorem width (s : ByteArray) (p : Nat) (h : p < s.size) : 1 ≤ (Utf8.decode s p).2 ∧ (Utf8.decode s p).2 ≤ 4 ∧ p + (Utf8.decode s p).2 ≤ s.size := by
  rw [Lib.decode_at]
  unfold Lib.decodeN
  repeat' split
  all_goals (simp only; omega)
theorem rune_in (s : ByteArray) (p : Nat) : (Utf8.decode s p).1 ≤ 1114111 := by
  rw [Lib.decode_at]
  have h0 : (s.get! p).toNat < 256 := (s.get! p).toNat_lt
  unfold Lib.decodeN
  repeat' split
  all_goals (simp only; omega)
def nxt (s : ByteArray) (p : Nat) : Nat := p + (Utf8.decode s p).2
def rn (s : ByteArray) (p : Nat) : Int := ((Utf8.decode s p).1 : Int)
def rfrom (s : ByteArray) : Nat → Nat → List Int
  | 0, _ => []
  | f + 1, p => if p < s.size then rn s p :: rfrom s f (nxt s p) else []
def runes (s : ByteArray) : List Int := rfrom s s.size 0
theorem rfrom_end (s : ByteArray) (f p : Nat) (h : ¬ p < s.size) : rfrom s f p = [] := by
  cases f with
  | zero => rfl
  | succ f => simp only [rfrom]; rw [if_neg h]
theorem rfrom_go (s : ByteArray) (f p : Nat) (h : p < s.size) (hf : s.size ≤ p + f) : ∃ f', f = f' + 1 ∧ rfrom s f p = rn s p :: rfrom s f' (nxt s p) ∧ s.size ≤ nxt s p + f' := by
  obtain ⟨f', rfl⟩ : ∃ f', f = f' + 1 := ⟨f - 1, by omega⟩
  refine ⟨f', rfl, ?_, ?_⟩
  · simp only [rfrom]; rw [if_pos h]
  · have := width s p h; unfold nxt; omega
theorem rfrom_more (s : ByteArray) (f : Nat) : ∀ (g p : Nat), s.size ≤ p + f → s.size ≤ p + g → rfrom s f p = rfrom s g p := by
  induction f with
  | zero => intro g p h _; rw [rfrom_end s g p (by omega)]; rfl
  | succ f ih =>
    intro g p hf hg
    by_cases h : p < s.size
    · obtain ⟨f', e, h1, h2⟩ := rfrom_go s (f + 1) p h hf
      obtain ⟨g', e2, h3, h4⟩ := rfrom_go s g p h hg
      have : f' = f := by omega
      subst this
      rw [h1, h3, ih g' (nxt s p) h2 h4]
    · rw [rfrom_end s _ p h, rfrom_end s g p h]
theorem rfrom_length (s : ByteArray) (f : Nat) : ∀ p, s.size ≤ p + f → (rfrom s f p).length ≤ s.size - p ∧ s.size ≤ p + 4 * (rfrom s f p).length := by
  induction f with
  | zero => intro p h; simp [rfrom]; omega
  | succ f ih =>
    intro p hf
    by_cases h : p < s.size
    · have hw := width s p h
      have hn := ih (nxt s p) (by unfold nxt; omega)
      simp only [rfrom]; rw [if_pos h]
      simp only [List.length_cons]
      unfold nxt at hn ⊢
      omega
    · rw [rfrom_end s _ p h]; simp; omega
def kd (r : Int) : Int := if 97 ≤ r ∧ r ≤ 122 then 0 else if 945 ≤ r ∧ r ≤ 969 then 1 else if 48 ≤ r ∧ r ≤ 57 then 2 else if r = 45 then 3 else 4
theorem kd_in (r : Int) : 0 ≤ kd r ∧ kd r ≤ 4 := by unfold kd; repeat' split
                                                    all_goals omega
/-- May a name be, of which n runes have been looked at. -/
def fitL : Nat → List Int → Bool
  | n, [] => decide (0 < n)
  | n, r :: l => if kd r > 3 ∨ (n = 0 ∧ kd r > 1) ∨ n = 12 then false else fitL (n + 1) l
theorem fitL_iff (l : List Int) : ∀ n, n ≤ 12 → (fitL n l = true ↔ (∀ x ∈ l, kd x ≤ 3) ∧ (n = 0 → ∀ r, l.head? = some r → kd r ≤ 1) ∧ 0 < n + l.length ∧ n + l.length ≤ 12) := by
  induction l with
  | nil => intro n hn; simp [fitL]; omega
  | cons r l ih =>
    intro n hn
    unfold fitL
    by_cases h : kd r > 3 ∨ (n = 0 ∧ kd r > 1) ∨ n = 12
    · rw [if_pos h]
      simp only [Bool.false_eq_true, false_iff, List.mem_cons, List.head?_cons, Option.some.injEq, List.length_cons, not_and]
      intro h1 h2 h3
      have a1 := h1 r (Or.inl rfl)
      rcases h with h | h | h
      · omega
      · have := h2 h.1 r rfl; omega
      · omega
    · rw [if_neg h, ih (n + 1) (by omega)]
      simp only [List.mem_cons, List.head?_cons, Option.some.injEq, List.length_cons]
      constructor
      · rintro ⟨h1, _, h3, h4⟩
        refine ⟨?_, ?_, by omega, by omega⟩
        · rintro x (rfl | hx)
          · omega
          · exact h1 x hx
        · rintro h0 x rfl; omega
      · rintro ⟨h1, h2, h3, h4⟩
        exact ⟨fun x hx => h1 x (Or.inr hx), fun h0 => by omega, by omega, by omega⟩
def fit (s : ByteArray) : Bool := fitL 0 (runes s)
theorem fit_iff (s : ByteArray) : fit s = true ↔ (∀ x ∈ runes s, kd x ≤ 3) ∧ (∀ r, (runes s).head? = some r → kd r ≤ 1) ∧ 1 ≤ (runes s).length ∧ (runes s).length ≤ 12 := by
  unfold fit
  rw [fitL_iff _ 0 (by omega)]
  simp only [true_implies, Nat.zero_add]
  exact Iff.rfl
theorem fit_small (s : ByteArray) (h : fit s = true) : s.size ≤ 48 := by
  have h1 := (fit_iff s).1 h
  have h2 := (rfrom_length s s.size 0 (by omega)).2
  unfold runes at h1
  omega
def mk (k : Int) (l : List Int) : Int := ((l.filter (fun r => kd r == k)).length : Int)
theorem mk_in (k : Int) (l : List Int) : 0 ≤ mk k l ∧ mk k l ≤ l.length := by
  unfold mk
  have := List.length_filter_le (fun r => kd r == k) l
  omega
theorem mk_snoc (k : Int) (l : List Int) (r : Int) : mk k (l ++ [r]) = mk k l + if kd r = k then 1 else 0 := by
  unfold mk
  rw [List.filter_append]
  by_cases h : kd r = k <;> simp [h]
/-- The place behind n runes. -/
def clipAt (s : ByteArray) : Nat → Nat → Int → Nat
  | 0, p, _ => p
  | f + 1, p, n => if p < s.size ∧ 0 < n then clipAt s f (nxt s p) (n - 1) else p
theorem clipAt_le (s : ByteArray) (f : Nat) : ∀ p n, p ≤ s.size → p ≤ clipAt s f p n ∧ clipAt s f p n ≤ s.size := by
  induction f with
  | zero => intro p n h; exact ⟨Nat.le_refl _, h⟩
  | succ f ih =>
    intro p n h
    unfold clipAt
    split
    · rename_i hc
      have hw := width s p hc.1
      have := ih (nxt s p) (n - 1) (by unfold nxt; omega)
      unfold nxt at this ⊢
      omega
    · exact ⟨Nat.le_refl _, h⟩
theorem clipAt_end (s : ByteArray) (f p : Nat) (n : Int) (h : ¬ (p < s.size ∧ 0 < n)) : clipAt s f p n = p := by
  cases f with
  | zero => rfl
  | succ f => simp only [clipAt]; rw [if_neg h]
def clip (s : ByteArray) (n : Int) : ByteArray := s.extract 0 (clipAt s s.size 0 n)
/-- How two lists of runes stand. -/
def cmp : List Int → List Int → Int
  | [], [] => 0
  | [], _ :: _ => -1
  | _ :: _, [] => 1
  | x :: a, y :: b => if x < y then -1 else if y < x then 1 else cmp a b
theorem cmp_neg (a : List Int) : ∀ b, cmp b a = - cmp a b := by
  induction a with
  | nil => intro b; cases b <;> rfl
  | cons x a ih =>
    intro b
    cases b with
    | nil => rfl
    | cons y b =>
      unfold cmp
      by_cases h1 : x < y
      · rw [if_pos h1, if_neg (show ¬ y < x by omega), if_pos h1]; rfl
      · by_cases h2 : y < x
        · rw [if_pos h2, if_neg h1, if_pos h2]
        · rw [if_neg h2, if_neg h1, if_neg h1, if_neg h2, ih]
theorem cmp_self (a : List Int) : cmp a a = 0 := by
  have := cmp_neg a a
  omega
theorem cmp_in (a : List Int) : ∀ b, cmp a b = -1 ∨ cmp a b = 0 ∨ cmp a b = 1 := by
  induction a with
  | nil => intro b; cases b <;> simp [cmp]
  | cons x a ih =>
    intro b
    cases b with
    | nil => simp [cmp]
    | cons y b =>
      unfold cmp
      repeat' split
      · simp
      · simp
      · exact ih b
end Go.Proofs.Ytenaggpgblaalaa.PlainRune
