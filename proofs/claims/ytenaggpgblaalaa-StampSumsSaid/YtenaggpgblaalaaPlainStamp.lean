/- Plain facts on stamps: the stamp as a fold, that another byte gives another stamp, the four bytes of a stamp, and the xor of two bytes, bit by bit. No condition. -/
import Derived.RowKit
import Derived.Laws.BitsAllLaws
namespace Go.Proofs.Ytenaggpgblaalaa.PlainStamp
open Go.RowKit

def stepN (s c : Nat) : Nat := ((s ^^^ c) * 16777619) % 4294967296
def onN (s : Nat) : List Int → Nat
  | [] => s
  | c :: l => onN (stepN s c.toNat) l
def ofN (l : List Int) : Nat := onN 2166136261 l
def Bytes (l : List Int) : Prop := ∀ x ∈ l, 0 ≤ x ∧ x ≤ 255

theorem stepN_lt (s c : Nat) : stepN s c < 4294967296 := Nat.mod_lt _ (by decide)
theorem onN_lt (l : List Int) : ∀ s, s < 4294967296 → onN s l < 4294967296 := by
  induction l with
  | nil => intro s h; exact h
  | cons c l ih => intro s h; exact ih _ (stepN_lt _ _)
theorem ofN_lt (l : List Int) : ofN l < 4294967296 := onN_lt l _ (by decide)
theorem onN_append (a b : List Int) : ∀ s, onN s (a ++ b) = onN (onN s a) b := by
  induction a with
  | nil => intro s; rfl
  | cons c a ih => intro s; exact ih _
theorem xor_xor (a c : Nat) : (a ^^^ c) ^^^ c = a := by rw [Nat.xor_assoc, Nat.xor_self, Nat.xor_zero]
theorem xor_left (a b c : Nat) (h : a ^^^ c = b ^^^ c) : a = b := by
  have := congrArg (· ^^^ c) h
  simpa [xor_xor] using this
theorem mul_back (a : Nat) (ha : a < 4294967296) : (a * 16777619 % 4294967296) * 899433627 % 4294967296 = a := by
  rw [Nat.mod_mul_mod, Nat.mul_assoc, show 16777619 * 899433627 = 1 + 4294967296 * 3513497 from rfl, Nat.mul_add, Nat.mul_one, Nat.mul_left_comm, Nat.add_mul_mod_self_left, Nat.mod_eq_of_lt ha]
theorem mul_inj (a b : Nat) (ha : a < 4294967296) (hb : b < 4294967296) (h : a * 16777619 % 4294967296 = b * 16777619 % 4294967296) : a = b := by
  rw [← mul_back a ha, ← mul_back b hb, h]
theorem xor_lt (a b : Nat) (ha : a < 4294967296) (hb : b < 4294967296) : a ^^^ b < 4294967296 := Nat.xor_lt_two_pow (n := 32) ha hb
theorem step_s (s t c : Nat) (hs : s < 4294967296) (ht : t < 4294967296) (hc : c < 4294967296) (h : stepN s c = stepN t c) : s = t :=
  xor_left s t c (mul_inj _ _ (xor_lt s c hs hc) (xor_lt t c ht hc) h)
theorem step_c (s c d : Nat) (hs : s < 4294967296) (hc : c < 4294967296) (hd : d < 4294967296) (h : stepN s c = stepN s d) : c = d := by
  have h1 := mul_inj _ _ (xor_lt s c hs hc) (xor_lt s d hs hd) h
  rw [Nat.xor_comm s c, Nat.xor_comm s d] at h1
  exact xor_left c d s h1
theorem on_inj (l : List Int) (hb : Bytes l) : ∀ s t, s < 4294967296 → t < 4294967296 → onN s l = onN t l → s = t := by
  induction l with
  | nil => intro s t _ _ h; exact h
  | cons c l ih =>
    intro s t hs ht h
    have hc := hb c (by simp)
    have h1 := ih (fun x hx => hb x (by simp [hx])) _ _ (stepN_lt _ _) (stepN_lt _ _) h
    exact step_s s t c.toNat hs ht (by omega) h1
/-- Another byte at one place gives another stamp. -/
theorem on_turned (l : List Int) (hb : Bytes l) (i : Nat) (hi : i < l.length) (d : Int) (hd : 0 ≤ d ∧ d ≤ 255) (hne : l[i] ≠ d) : ofN (l.set i d) ≠ ofN l := by
  intro h
  have e1 : l = l.take i ++ l[i] :: l.drop (i + 1) := by simp
  have e2 : l.set i d = l.take i ++ d :: l.drop (i + 1) := by rw [List.set_eq_take_append_cons_drop]; simp [hi]
  have hci := hb l[i] (List.getElem_mem hi)
  have hlt : onN 2166136261 (l.take i) < 4294967296 := onN_lt _ _ (by decide)
  unfold ofN at h
  rw [e2] at h
  rw [show onN 2166136261 l = onN 2166136261 (l.take i ++ l[i] :: l.drop (i + 1)) from congrArg _ e1, onN_append, onN_append] at h
  have hd' : Bytes (l.drop (i + 1)) := fun x hx => hb x (List.mem_of_mem_drop hx)
  have h1 := on_inj (l.drop (i + 1)) hd' _ _ (stepN_lt _ _) (stepN_lt _ _) h
  have h2 := step_c _ _ _ hlt (by omega) (by omega) h1
  exact hne (by omega)

/-- The four bytes of a stamp, the greatest one first. -/
def tail4 (s : Int) : List Int := [s / 16777216, s / 65536 % 256, s / 256 % 256, s % 256]
theorem tail4_bytes (s : Int) (h0 : 0 ≤ s) (h1 : s ≤ 4294967295) : Bytes (tail4 s) := by
  intro x hx
  simp only [tail4, List.mem_cons, List.not_mem_nil, or_false] at hx
  rcases hx with rfl | rfl | rfl | rfl <;> omega
def be (l : List Int) : Int := l.foldl (fun x c => x * 256 + c) 0
theorem be_tail4 (s : Int) : be (tail4 s) = s := by
  unfold be tail4
  simp only [List.foldl]
  omega
theorem be_inj (l m : List Int) (hl : l.length = 4) (hm : m.length = 4) (bl : Bytes l) (bm : Bytes m) (h : be l = be m) : l = m := by
  match l, m, hl, hm with
  | [a, b, c, d], [a', b', c', d'], _, _ =>
    have ha := bl a (by simp); have hb := bl b (by simp); have hc := bl c (by simp); have hd := bl d (by simp)
    have ha' := bm a' (by simp); have hb' := bm b' (by simp); have hc' := bm c' (by simp); have hd' := bm d' (by simp)
    unfold be at h
    simp only [List.foldl] at h
    obtain rfl : a = a' := by omega
    obtain rfl : b = b' := by omega
    obtain rfl : c = c' := by omega
    obtain rfl : d = d' := by omega
    rfl
theorem be_range (l : List Int) (hl : l.length ≤ 4) (bl : Bytes l) : 0 ≤ be l ∧ be l ≤ 4294967295 := by
  match l, hl with
  | [], _ => unfold be; simp
  | [a], _ =>
    have ha := bl a (by simp)
    unfold be; simp only [List.foldl]; omega
  | [a, b], _ =>
    have ha := bl a (by simp); have hb := bl b (by simp)
    unfold be; simp only [List.foldl]; omega
  | [a, b, c], _ =>
    have ha := bl a (by simp); have hb := bl b (by simp); have hc := bl c (by simp)
    unfold be; simp only [List.foldl]; omega
  | [a, b, c, d], _ =>
    have ha := bl a (by simp); have hb := bl b (by simp); have hc := bl c (by simp); have hd := bl d (by simp)
    unfold be; simp only [List.foldl]; omega
theorem or_step (x c : Int) (h0 : 0 ≤ x) (h1 : x < 16777216) (c0 : 0 ≤ c) (c1 : c ≤ 255) : bits .or .u32 (x * 256 % 4294967296) (c % 4294967296) = x * 256 + c := by
  rw [show x * 256 % 4294967296 = x * 256 from by omega, show c % 4294967296 = c from by omega, u32_or _ _ (by omega) (by omega) (by omega) (by omega)]
  have h := Nat.two_pow_add_eq_or_of_lt (i := 8) (b := c.toNat) (by omega) x.toNat
  rw [show (x * 256).toNat = 2 ^ 8 * x.toNat from by omega, ← h]
  omega

/-- What is opened. -/
def openF (l : List Int) : List Int × Bool :=
  if l.length < 4 then ([], false) else if be (l.drop (l.length - 4)) = (ofN (l.take (l.length - 4)) : Int) then (l.take (l.length - 4), true) else ([], false)
theorem openF_seal (l : List Int) : openF (l ++ tail4 (ofN l)) = (l, true) := by
  unfold openF
  have h4 : (tail4 (ofN l)).length = 4 := rfl
  have hl : (l ++ tail4 (ofN l)).length - 4 = l.length := by rw [List.length_append, h4]; omega
  rw [if_neg (by rw [List.length_append, h4]; omega), hl, List.drop_left, List.take_left, if_pos]
  exact be_tail4 _
theorem bytes_append {a b : List Int} (ha : Bytes a) (hb : Bytes b) : Bytes (a ++ b) := by
  intro x hx
  rcases List.mem_append.1 hx with h | h
  · exact ha x h
  · exact hb x h
theorem openF_turned (l : List Int) (hb : Bytes l) (i : Nat) (hi : i < (l ++ tail4 (ofN l)).length) (d : Int) (hd : 0 ≤ d ∧ d ≤ 255) (hne : (l ++ tail4 (ofN l))[i] ≠ d) :
    openF ((l ++ tail4 (ofN l)).set i d) = ([], false) := by
  have h4 : (tail4 (ofN l)).length = 4 := rfl
  have hlt := ofN_lt l
  unfold openF
  have hl : ((l ++ tail4 (ofN l)).set i d).length - 4 = l.length := by rw [List.length_set, List.length_append, h4]; omega
  rw [if_neg (by rw [List.length_set, List.length_append, h4]; omega), hl]
  rw [List.length_append, h4] at hi
  rw [if_neg]
  by_cases c : i < l.length
  · rw [List.set_append, if_pos c, show List.drop l.length (l.set i d ++ tail4 ↑(ofN l)) = tail4 ↑(ofN l) from by rw [← List.length_set (as := l) (i := i) (a := d)]; exact List.drop_left, show List.take l.length (l.set i d ++ tail4 ↑(ofN l)) = l.set i d from by rw [← List.length_set (as := l) (i := i) (a := d)]; exact List.take_left]
    rw [be_tail4 _]
    have := on_turned l hb i c d hd (by rw [List.getElem_append_left c] at hne; exact hne)
    omega
  · rw [List.set_append, if_neg c, List.drop_left, List.take_left]
    intro h
    have hs : be (tail4 (ofN l)) = ofN l := be_tail4 _
    replace h := h.trans hs.symm
    have hbt := tail4_bytes (ofN l) (by omega) (by omega)
    have hbs : Bytes ((tail4 (ofN l)).set (i - l.length) d) := by
      intro x hx
      rcases List.mem_or_eq_of_mem_set hx with h | h
      · exact hbt x h
      · subst h; exact hd
    have e := be_inj _ _ (by rw [List.length_set]; rfl) rfl hbs hbt h
    apply hne
    rw [List.getElem_append_right (by omega)]
    have e2 := congrArg (fun m => m[i - l.length]?) e
    simp only [List.getElem?_set_self (show i - l.length < (tail4 (ofN l)).length from by rw [h4]; omega)] at e2
    rw [List.getElem?_eq_getElem (by rw [h4]; omega)] at e2
    exact (Option.some.inj e2).symm

/-- The xor of two bytes, bit by bit. -/
theorem xor_half (a b : Nat) : a ^^^ b = (if a % 2 = b % 2 then 0 else 1) + 2 * ((a / 2) ^^^ (b / 2)) := by
  have h := Nat.div_add_mod (a ^^^ b) 2
  have h2 : (a ^^^ b) / 2 = a / 2 ^^^ b / 2 := Nat.xor_div_two
  have h3 : (a ^^^ b) % 2 = a % 2 ^^^ b % 2 := by
    have := Nat.xor_mod_two_pow (a := a) (b := b) (n := 1)
    simpa using this
  have h4 : a % 2 ^^^ b % 2 = if a % 2 = b % 2 then 0 else 1 := by
    rcases Nat.mod_two_eq_zero_or_one a with ha | ha <;> rcases Nat.mod_two_eq_zero_or_one b with hb | hb <;> rw [ha, hb] <;> rfl
  rw [h2, h3, h4] at h
  omega
theorem xor_low (s c : Nat) (hc : c < 256) : s ^^^ c = s - s % 256 + (s % 256 ^^^ c) := by
  have h := Nat.div_add_mod (s ^^^ c) 256
  have h2 : (s ^^^ c) / 256 = s / 256 := by
    have := Nat.xor_div_two_pow (a := s) (b := c) (n := 8)
    rw [show c / 2 ^ 8 = 0 from Nat.div_eq_of_lt hc, Nat.xor_zero] at this
    exact this
  have h3 : (s ^^^ c) % 256 = s % 256 ^^^ c := by
    have := Nat.xor_mod_two_pow (a := s) (b := c) (n := 8)
    rw [show c % 2 ^ 8 = c from Nat.mod_eq_of_lt hc] at this
    exact this
  rw [h2, h3] at h
  omega
end Go.Proofs.Ytenaggpgblaalaa.PlainStamp
