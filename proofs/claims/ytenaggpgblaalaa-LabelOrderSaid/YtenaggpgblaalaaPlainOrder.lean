/- Plain facts on names that may be: their bytes are their runes' own, in the same order; their clips. No condition. -/
import Derived.Test.YtenaggpgblaalaaPlainRune
import Derived.Laws.Strings
namespace Go.Proofs.Ytenaggpgblaalaa.PlainRune
set_option linter.unusedVariables false

theorem kd_good (r : Int) (h : kd r ≤ 3) : 0 ≤ r ∧ r ≤ 969 := by
  unfold kd at h
  repeat' split at h
  all_goals omega
def enc (r : Int) : List UInt8 := if r < 128 then [UInt8.ofNat r.toNat] else [UInt8.ofNat (192 + r.toNat / 64), UInt8.ofNat (128 + r.toNat % 64)]
def E (l : List Int) : List UInt8 := l.flatMap enc
theorem E_cons (r : Int) (l : List Int) : E (r :: l) = enc r ++ E l := rfl
theorem u8 (n : Nat) (h : n < 256) : (UInt8.ofNat n).toNat = n := by simp [UInt8.toNat_ofNat']; omega
theorem u8_lt (n m : Nat) (h : n < m) (hm : m < 256) : UInt8.ofNat n < UInt8.ofNat m := by
  rw [UInt8.lt_iff_toNat_lt, u8 n (by omega), u8 m hm]; exact h
theorem less_nil (b : UInt8) (y : List UInt8) : Op.bytesLess [] (b :: y) = true := rfl
theorem less_lt (a b : UInt8) (x y : List UInt8) (h : a < b) : Op.bytesLess (a :: x) (b :: y) = true := by
  unfold Op.bytesLess; simp [h]
theorem less_app (p : List UInt8) : ∀ x y, Op.bytesLess (p ++ x) (p ++ y) = Op.bytesLess x y := by
  induction p with
  | nil => intro x y; rfl
  | cons a p ih =>
    intro x y
    show Op.bytesLess (a :: (p ++ x)) (a :: (p ++ y)) = _
    rw [Op.bytesLess, ih]
    simp
theorem less_not (x : List UInt8) : ∀ y, Op.bytesLess x y = true → Op.bytesLess y x = false ∧ x ≠ y := by
  induction x with
  | nil =>
    intro y h
    cases y with
    | nil => cases h
    | cons b y => exact ⟨rfl, by simp⟩
  | cons a x ih =>
    intro y h
    cases y with
    | nil => cases h
    | cons b y =>
      rw [Op.bytesLess] at h ⊢
      simp only [Bool.or_eq_true, Bool.and_eq_true, decide_eq_true_eq, beq_iff_eq] at h
      rcases h with h | ⟨rfl, h⟩
      · have h1 : ¬ b < a := by rw [UInt8.lt_iff_toNat_lt] at h ⊢; omega
        have h2 : ¬ b = a := by intro e; subst e; rw [UInt8.lt_iff_toNat_lt] at h; omega
        have h3 : ¬ a = b := fun e => h2 e.symm
        refine ⟨by simp [h1, h2], by simp [h3]⟩
      · obtain ⟨g1, g2⟩ := ih y h
        refine ⟨by simp [g1, UInt8.lt_irrefl], by simp [g2]⟩
theorem enc_lt (x y : Int) (A C : List UInt8) (hx : 0 ≤ x) (hy : y ≤ 969) (h : x < y) : Op.bytesLess (enc x ++ A) (enc y ++ C) = true := by
  unfold enc
  by_cases h1 : x < 128
  · rw [if_pos h1]
    by_cases h2 : y < 128
    · rw [if_pos h2]
      exact less_lt _ _ _ _ (u8_lt _ _ (by omega) (by omega))
    · rw [if_neg h2]
      exact less_lt _ _ _ _ (u8_lt _ _ (by omega) (by omega))
  · rw [if_neg h1, if_neg (by omega)]
    by_cases h3 : x.toNat / 64 < y.toNat / 64
    · exact less_lt _ _ _ _ (u8_lt _ _ (by omega) (by omega))
    · have e : x.toNat / 64 = y.toNat / 64 := by omega
      rw [e]
      show Op.bytesLess ([_] ++ (_ :: A)) ([_] ++ (_ :: C)) = true
      rw [less_app]
      exact less_lt _ _ _ _ (u8_lt _ _ (by omega) (by omega))
theorem enc_ne (r : Int) : ∃ b t, enc r = b :: t := by unfold enc; split <;> exact ⟨_, _, rfl⟩
theorem E_less (a : List Int) : ∀ b, (∀ x ∈ a, kd x ≤ 3) → (∀ x ∈ b, kd x ≤ 3) → cmp a b = -1 → Op.bytesLess (E a) (E b) = true := by
  induction a with
  | nil =>
    intro b _ _ h
    cases b with
    | nil => cases h
    | cons y b =>
      obtain ⟨c, t, e⟩ := enc_ne y
      rw [E_cons, e]
      rfl
  | cons x a ih =>
    intro b ha hb h
    cases b with
    | nil => cases h
    | cons y b =>
      have gx := kd_good x (ha x (List.mem_cons_self ..))
      have gy := kd_good y (hb y (List.mem_cons_self ..))
      unfold cmp at h
      rw [E_cons, E_cons]
      by_cases h1 : x < y
      · exact enc_lt x y _ _ gx.1 gy.2 h1
      · rw [if_neg h1] at h
        by_cases h2 : y < x
        · rw [if_pos h2] at h; cases h
        · rw [if_neg h2] at h
          have e : x = y := by omega
          subst e
          rw [less_app]
          exact ih b (fun z hz => ha z (List.mem_cons_of_mem _ hz)) (fun z hz => hb z (List.mem_cons_of_mem _ hz)) h
theorem cmp_zero (a : List Int) : ∀ b, cmp a b = 0 → a = b := by
  induction a with
  | nil => intro b h; cases b with
           | nil => rfl
           | cons y b => cases h
  | cons x a ih =>
    intro b h
    cases b with
    | nil => cases h
    | cons y b =>
      unfold cmp at h
      by_cases h1 : x < y
      · rw [if_pos h1] at h; cases h
      · rw [if_neg h1] at h
        by_cases h2 : y < x
        · rw [if_pos h2] at h; cases h
        · rw [if_neg h2] at h
          rw [ih b h, show x = y by omega]
theorem cmp_take (l : List Int) : ∀ m, cmp (l.take m) l ≤ 0 := by
  induction l with
  | nil => intro m; cases m <;> simp [cmp]
  | cons x l ih =>
    intro m
    cases m with
    | zero => simp [cmp]
    | succ m =>
      rw [List.take_succ_cons]
      unfold cmp
      rw [if_neg (by omega), if_neg (by omega)]
      exact ih m
theorem mk_all (l : List Int) : (∀ x ∈ l, kd x ≤ 3) → mk 0 l + mk 1 l + mk 2 l + mk 3 l = l.length := by
  induction l with
  | nil => intro _; rfl
  | cons x l ih =>
    intro h
    have h1 := ih (fun z hz => h z (List.mem_cons_of_mem _ hz))
    have h2 := h x (List.mem_cons_self ..)
    have h3 := kd_in x
    have c : ∀ k, mk k (x :: l) = mk k l + if kd x = k then 1 else 0 := fun k => by
      unfold mk
      rw [List.filter_cons]
      by_cases h : kd x = k <;> simp [h]
    rw [c, c, c, c]
    have h5 : kd x = 0 ∨ kd x = 1 ∨ kd x = 2 ∨ kd x = 3 := by omega
    rw [List.length_cons]
    rcases h5 with h | h | h | h <;> rw [h] <;> simp <;> omega
abbrev bl (s : ByteArray) : List UInt8 := s.data.toList
theorem bl_length (s : ByteArray) : (bl s).length = s.size := by simp [bl]
theorem bl_drop (s : ByteArray) (p : Nat) (h : p < s.size) : (bl s).drop p = s.get! p :: (bl s).drop (p + 1) := by
  have h2 : p < (bl s).length := by rw [bl_length]; exact h
  rw [List.drop_eq_getElem_cons h2]
  congr 1
  have h3 : p < s.data.size := h
  exact (getElem!_pos s.data p h3).symm
theorem small (n c0 c1 c2 c3 : Nat) (h0 : c0 < 256) (h1 : c1 < 256) (x y : Nat) (hd : Lib.decodeN n c0 c1 c2 c3 = (x, y)) (hx : x ≤ 969) :
    (x = c0 ∧ c0 < 128 ∧ y = 1) ∨ (1 < n ∧ 128 ≤ x ∧ c0 = 192 + x / 64 ∧ c1 = 128 + x % 64 ∧ y = 2) := by
  unfold Lib.decodeN at hd
  repeat' split at hd
  all_goals
    obtain ⟨e1, e2⟩ := Prod.mk.inj hd
    omega
/-- The rune at a place, of a name that may be. -/
theorem rune_at (s : ByteArray) (p : Nat) (h : p < s.size) (hk : kd (rn s p) ≤ 3) : (bl s).drop p = enc (rn s p) ++ (bl s).drop (nxt s p) := by
  have hg := kd_good _ hk
  have b0 : (s.get! p).toNat < 256 := (s.get! p).toNat_lt
  have b1 : (s.get! (p + 1)).toNat < 256 := (s.get! (p + 1)).toNat_lt
  have key : (rn s p = ((s.get! p).toNat : Int) ∧ (s.get! p).toNat < 128 ∧ nxt s p = p + 1) ∨ (p + 1 < s.size ∧ 128 ≤ rn s p ∧ (s.get! p).toNat = 192 + (rn s p).toNat / 64 ∧ (s.get! (p + 1)).toNat = 128 + (rn s p).toNat % 64 ∧ nxt s p = p + 2) := by
    have hd := small (s.size - p) (s.get! p).toNat (s.get! (p + 1)).toNat (s.get! (p + 2)).toNat (s.get! (p + 3)).toNat b0 b1 (Utf8.decode s p).1 (Utf8.decode s p).2 (Lib.decode_at s p).symm
    unfold rn at hg
    unfold rn nxt
    have := hd (by omega)
    omega
  rcases key with ⟨e, h1, e2⟩ | ⟨h1, h2, e1, e2, e3⟩
  · rw [e2, bl_drop s p h, e]
    unfold enc
    rw [if_pos (by omega)]
    simp
  · rw [e3, bl_drop s p h, bl_drop s (p + 1) h1]
    unfold enc
    rw [if_neg (by omega), ← e1, ← e2]
    simp
theorem back (s : ByteArray) (f : Nat) : ∀ p, s.size ≤ p + f → (∀ x ∈ rfrom s f p, kd x ≤ 3) → (bl s).drop p = E (rfrom s f p) := by
  induction f with
  | zero => intro p h _; rw [List.drop_eq_nil_of_le (by rw [bl_length]; omega)]; rfl
  | succ f ih =>
    intro p h hk
    by_cases hp : p < s.size
    · obtain ⟨f', e, h1, h2⟩ := rfrom_go s (f + 1) p hp h
      obtain rfl : f' = f := by omega
      rw [h1] at hk ⊢
      rw [rune_at s p hp (hk _ (List.mem_cons_self ..)), ih (nxt s p) h2 (fun x hx => hk x (List.mem_cons_of_mem _ hx))]
      rfl
    · rw [rfrom_end s _ p hp, List.drop_eq_nil_of_le (by rw [bl_length]; omega)]; rfl
/-- What is read of a rune's bytes is the rune. -/
theorem rune_of (s : ByteArray) (p : Nat) (r : Int) (t : List UInt8) (hr : kd r ≤ 3) (h : (bl s).drop p = enc r ++ t) : p < s.size ∧ rn s p = r ∧ (bl s).drop (nxt s p) = t ∧ nxt s p = p + (enc r).length := by
  have hg := kd_good r hr
  have hp : p < s.size := by
    by_cases hp : p < s.size
    · exact hp
    · exfalso
      rw [List.drop_eq_nil_of_le (by rw [bl_length]; omega)] at h
      obtain ⟨c, u, e⟩ := enc_ne r
      rw [e] at h; cases h
  rw [bl_drop s p hp] at h
  refine ⟨hp, ?_⟩
  unfold enc at h ⊢
  by_cases h1 : r < 128
  · rw [if_pos h1] at h ⊢
    obtain ⟨e1, e2⟩ := List.cons.inj h
    have e3 : (s.get! p).toNat = r.toNat := by rw [e1, u8 _ (by omega)]
    have hd : Utf8.decode s p = (r.toNat, 1) := by
      rw [Lib.decode_at]
      unfold Lib.decodeN
      rw [if_pos (by omega), e3]
    unfold rn nxt
    rw [hd]
    exact ⟨by simp; omega, e2, rfl⟩
  · rw [if_neg h1] at h ⊢
    obtain ⟨e1, e2⟩ := List.cons.inj h
    have hp1 : p + 1 < s.size := by
      by_cases hp1 : p + 1 < s.size
      · exact hp1
      · exfalso
        rw [List.drop_eq_nil_of_le (by rw [bl_length]; omega)] at e2
        cases e2
    have e2' : (bl s).drop (p + 1) = UInt8.ofNat (128 + r.toNat % 64) :: t := e2
    rw [bl_drop s (p + 1) hp1] at e2'
    obtain ⟨e4, e5⟩ := List.cons.inj e2'
    have e3 : (s.get! p).toNat = 192 + r.toNat / 64 := by rw [e1, u8 _ (by omega)]
    have e6 : (s.get! (p + 1)).toNat = 128 + r.toNat % 64 := by rw [e4, u8 _ (by omega)]
    have hd : Utf8.decode s p = (r.toNat, 2) := by
      rw [Lib.decode_at]
      unfold Lib.decodeN
      rw [if_neg (by omega), if_pos (by omega), if_pos (by omega), e3, e6]
      refine Prod.ext ?_ rfl
      simp only
      omega
    unfold rn nxt
    rw [hd]
    exact ⟨by simp; omega, e5, rfl⟩
theorem runes_of (s : ByteArray) (l : List Int) : ∀ (p f : Nat), (∀ x ∈ l, kd x ≤ 3) → s.size ≤ p + f → (bl s).drop p = E l → rfrom s f p = l := by
  induction l with
  | nil =>
    intro p f _ _ h
    refine rfrom_end s f p ?_
    intro hp
    rw [bl_drop s p hp] at h
    cases h
  | cons r l ih =>
    intro p f hk hf h
    obtain ⟨h1, h2, h3, _⟩ := rune_of s p r (E l) (hk r (List.mem_cons_self ..)) h
    obtain ⟨f', e, h4, h5⟩ := rfrom_go s f p h1 hf
    rw [h4, h2, ih (nxt s p) f' (fun x hx => hk x (List.mem_cons_of_mem _ hx)) h5 h3]
theorem clip_of (s : ByteArray) (l : List Int) : ∀ (p f : Nat) (n : Int), (∀ x ∈ l, kd x ≤ 3) → s.size ≤ p + f → (bl s).drop p = E l → clipAt s f p n = p + (E (l.take n.toNat)).length := by
  induction l with
  | nil =>
    intro p f n _ _ h
    have hp : ¬ p < s.size := fun hp => by rw [bl_drop s p hp] at h; cases h
    rw [clipAt_end s f p n (fun hc => hp hc.1)]
    simp [E]
  | cons r l ih =>
    intro p f n hk hf h
    obtain ⟨h1, h2, h3, h4⟩ := rune_of s p r (E l) (hk r (List.mem_cons_self ..)) h
    by_cases hn : 0 < n
    · obtain ⟨g, rfl⟩ : ∃ g, f = g + 1 := ⟨f - 1, by omega⟩
      have hw := width s p h1
      unfold clipAt
      rw [if_pos ⟨h1, hn⟩, ih (nxt s p) g (n - 1) (fun x hx => hk x (List.mem_cons_of_mem _ hx)) (by unfold nxt; omega) h3, h4]
      obtain ⟨m, hm⟩ : ∃ m, n.toNat = m + 1 := ⟨n.toNat - 1, by omega⟩
      rw [hm, show (n - 1).toNat = m by omega, List.take_succ_cons, E_cons, List.length_append]
      omega
    · rw [clipAt_end s f p n (fun hc => hn hc.2), show n.toNat = 0 by omega]
      simp [E]
theorem E_append (a b : List Int) : E (a ++ b) = E a ++ E b := by unfold E; rw [List.flatMap_append]
theorem bl_clip (s : ByteArray) (n : Int) (h : fit s = true) : bl (clip s n) = E ((runes s).take n.toNat) := by
  have hk := ((fit_iff s).1 h).1
  have hb := back s s.size 0 (by omega) hk
  have hc := clip_of s (runes s) 0 s.size n hk (by omega) hb
  rw [Nat.zero_add] at hc
  have e : bl (clip s n) = (bl s).take (clipAt s s.size 0 n) := by
    unfold clip bl
    simp
  rw [e, hc, show bl s = E (runes s) from hb]
  conv => lhs; rw [← List.take_append_drop n.toNat (runes s), E_append]
  rw [List.take_append_of_le_length (Nat.le_of_eq (by rw [List.take_append_drop]))]
  rw [List.take_append_drop]
  exact List.take_length
theorem runes_clip (s : ByteArray) (n : Int) (h : fit s = true) : runes (clip s n) = (runes s).take n.toNat := by
  have hk := ((fit_iff s).1 h).1
  refine runes_of (clip s n) ((runes s).take n.toNat) 0 _ (fun x hx => hk x (List.mem_of_mem_take hx)) (by omega) ?_
  exact bl_clip s n h
theorem fit_clip (s : ByteArray) (n : Int) (h : fit s = true) (hn : 1 ≤ n) : fit (clip s n) = true := by
  have hf := (fit_iff s).1 h
  rw [fit_iff, runes_clip s n h]
  obtain ⟨m, hm⟩ : ∃ m, n.toNat = m + 1 := ⟨n.toNat - 1, by omega⟩
  rw [hm]
  obtain ⟨h1, h2, h3, h4⟩ := hf
  refine ⟨fun x hx => h1 x (List.mem_of_mem_take hx), ?_, ?_, ?_⟩
  · intro r hr
    refine h2 r ?_
    cases hl : runes s with
    | nil => rw [hl] at hr; simp at hr
    | cons x l => rw [hl] at hr; simpa using hr
  · rw [List.length_take]; omega
  · rw [List.length_take]; omega
theorem clip_none (s : ByteArray) (n : Int) (hn : n < 1) : clip s n = ⟨#[]⟩ := by
  unfold clip
  rw [clipAt_end s s.size 0 n (by omega)]
  simp
  rfl
theorem bytes_of (s : ByteArray) (h : fit s = true) : bl s = E (runes s) := back s s.size 0 (by omega) ((fit_iff s).1 h).1
theorem order_lt (a b : ByteArray) (ha : fit a = true) (hb : fit b = true) (h : cmp (runes a) (runes b) = -1) : Op.bytesLess (bl a) (bl b) = true := by
  rw [bytes_of a ha, bytes_of b hb]
  exact E_less _ _ ((fit_iff a).1 ha).1 ((fit_iff b).1 hb).1 h
theorem order_eq (a b : ByteArray) (ha : fit a = true) (hb : fit b = true) (h : cmp (runes a) (runes b) = 0) : bl a = bl b := by
  rw [bytes_of a ha, bytes_of b hb, cmp_zero _ _ h]
theorem order_gt (a b : ByteArray) (ha : fit a = true) (hb : fit b = true) (h : cmp (runes a) (runes b) = 1) : Op.bytesLess (bl a) (bl b) = false ∧ bl a ≠ bl b := by
  have h2 : cmp (runes b) (runes a) = -1 := by rw [cmp_neg, h]
  have h3 := less_not _ _ (order_lt b a hb ha h2)
  exact ⟨h3.1, fun e => h3.2 e.symm⟩
theorem less_self (x : List UInt8) : Op.bytesLess x x = false := by
  cases h : Op.bytesLess x x with
  | false => rfl
  | true => exact absurd rfl (less_not x x h).2
end Go.Proofs.Ytenaggpgblaalaa.PlainRune
