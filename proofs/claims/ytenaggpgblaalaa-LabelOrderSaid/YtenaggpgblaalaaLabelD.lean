/- The reference's Runes, Kind, Fit and Clip compute what the plain facts say. Condition: texts of at most 100000 bytes. -/
import Derived.Test.YtenaggpgblaalaaRuneB
import Derived.Test.YtenaggpgblaalaaPlainRune
namespace Go.Proofs.Ytenaggpgblaalaa.Label
open Go.RowKit Go.Proofs.Ytenaggpgblaalaa.PLabelReads Go.Proofs.YtenaggpgblaalaaW.PrintWords Go.Proofs.YtenaggpgblaalaaW.PrintLast Go.Proofs.YtenaggpgblaalaaW.PrintMore
open Plain (wrap_id)
open PlainRune
set_option linter.unusedVariables false
set_option linter.unusedSimpArgs false

theorem runes_l (f : Nat) : ∀ (s : ByteArray) (p k : Nat) (acc : List Int), s.size ≤ p + f → acc.length + f ≤ 1000000 → s.size ≤ 100000 → f + 41 ≤ k → p ≤ s.size →
    compradorref03_Runes.l0 k s acc (p : Int) = some (acc ++ rfrom s f p) := by
  induction f with
  | zero =>
    intro s p k acc h1 h2 h3 h4 h5
    obtain ⟨k', rfl⟩ : ∃ k', k = k' + 1 := ⟨k - 1, by omega⟩
    simp only [compradorref03_Runes.l0]
    rw [if_neg (by omega)]
    simp [rfrom]
  | succ f ih =>
    intro s p k acc h1 h2 h3 h4 h5
    obtain ⟨k', rfl⟩ : ∃ k', k = k' + 1 := ⟨k - 1, by omega⟩
    simp only [compradorref03_Runes.l0]
    by_cases h : p < s.size
    · have hw := width s p h
      rw [if_pos (by omega), rune_f k' s p h (by omega) (by omega)]
      simp only [Option.bind_some]
      rw [if_pos (by omega), wrap_id (by omega) (by omega)]
      rw [show ((p : Int) + ((Utf8.decode s p).2 : Int)) = ((nxt s p : Nat) : Int) from by unfold nxt; omega]
      refine (ih s (nxt s p) k' (acc ++ [rn s p]) (by unfold nxt; omega) (by simp; omega) h3 (by omega) (by unfold nxt; omega)).trans ?_
      conv => rhs; unfold rfrom
      rw [if_pos h]
      simp
    · rw [if_neg (by omega), rfrom_end s _ p h]
      simp
theorem runes_f (k : Nat) (s : ByteArray) (h : s.size ≤ 100000) (hk : s.size + 41 ≤ k) : compradorref03_Runes.f k s = some (runes s) := by
  unfold compradorref03_Runes.f
  have := runes_l s.size s 0 k [] (by omega) (by simp; omega) h hk (by omega)
  exact this
theorem kind_f (k : Nat) (r : Int) (hk : 4 ≤ k) : compradorref03_Kind.f k r = some (kd r) := by
  obtain ⟨k', rfl⟩ : ∃ k', k = k' + 4 := ⟨k - 4, by omega⟩
  unfold compradorref03_Kind.f kd
  simp only [compradorref03_Kind.j0, compradorref03_Kind.j1, compradorref03_Kind.j2, decide_eq_true_eq]
  repeat' split
  all_goals first | rfl | omega | simp_all <;> omega
theorem rd_nat (l : List Int) (i : Nat) (h : i < l.length) : rd l (i : Int) = l[i] := by
  unfold rd
  simp [List.getD, h]
theorem fit_l (d : Nat) : ∀ (l : List Int) (i k : Nat), l.length = i + d → l.length ≤ 100000 → d + 6 ≤ k →
    ∃ b, compradorref03_Fit.l0 k l (i : Int) = some b ∧ (b = true ↔ (∀ x ∈ l.drop i, kd x ≤ 3) ∧ (i = 0 → ∀ r, l.head? = some r → kd r ≤ 1) ∧ 1 ≤ l.length ∧ l.length ≤ 12) := by
  induction d with
  | zero =>
    intro l i k h1 h2 h3
    obtain ⟨k', rfl⟩ : ∃ k', k = k' + 1 := ⟨k - 1, by omega⟩
    simp only [compradorref03_Fit.l0]
    rw [if_neg (by omega), List.drop_eq_nil_of_le (by omega)]
    by_cases hl : (l.length : Int) ≥ 1
    · rw [if_pos hl]
      refine ⟨_, rfl, ?_⟩
      simp only [decide_eq_true_eq, List.not_mem_nil, false_implies, implies_true, true_and]
      constructor
      · intro h; exact ⟨by omega, by omega, by omega⟩
      · rintro ⟨_, _, h⟩; omega
    · rw [if_neg hl]
      refine ⟨_, rfl, ?_⟩
      simp only [Bool.false_eq_true, false_iff]
      rintro ⟨_, _, h, _⟩; omega
  | succ d ih =>
    intro l i k h1 h2 h3
    obtain ⟨k', rfl⟩ : ∃ k', k = k' + 1 := ⟨k - 1, by omega⟩
    have hi : i < l.length := by omega
    simp only [compradorref03_Fit.l0]
    rw [if_pos (by omega), if_pos (by omega), rd_nat l i hi, kind_f k' _ (by omega)]
    simp only [Option.bind_some]
    have hdrop := List.drop_eq_getElem_cons hi
    obtain ⟨b, hb, hiff⟩ := ih l (i + 1) k' (by omega) h2 (by omega)
    have hwr : wrap64 ((i : Int) + 1) = ((i + 1 : Nat) : Int) := by rw [wrap_id (by omega) (by omega)]; rfl
    have hkk := kd_in l[i]
    by_cases h4 : kd l[i] = 4
    · rw [if_pos h4]
      refine ⟨_, rfl, ?_⟩
      simp only [Bool.false_eq_true, false_iff]
      rintro ⟨h, _⟩
      have := h l[i] (by rw [hdrop]; exact List.mem_cons_self ..)
      omega
    · rw [if_neg h4]
      by_cases h0 : (i : Int) = 0
      · have h00 : i = 0 := by omega
        subst h00
        rw [if_pos h0]
        by_cases hq : kd l[0] > 1
        · rw [if_pos hq]
          refine ⟨_, rfl, ?_⟩
          simp only [Bool.false_eq_true, false_iff]
          rintro ⟨_, h, _⟩
          have := h trivial l[0] (by rw [List.head?_eq_getElem?]; exact List.getElem?_eq_getElem hi)
          omega
        · rw [if_neg hq, hwr, hb]
          refine ⟨_, rfl, ?_⟩
          rw [hiff, hdrop]
          constructor
          · rintro ⟨g1, g2, g3⟩
            refine ⟨?_, ?_, g3⟩
            · intro x hx
              rcases List.mem_cons.1 hx with rfl | hx
              · omega
              · exact g1 x hx
            · intro _ r hr
              rw [List.head?_eq_getElem?, List.getElem?_eq_getElem hi] at hr
              obtain rfl := Option.some.inj hr
              omega
          · rintro ⟨g1, g2, g3⟩
            exact ⟨fun x hx => g1 x (List.mem_cons_of_mem _ hx), fun h => by omega, g3⟩
      · rw [if_neg h0, hwr, hb]
        refine ⟨_, rfl, ?_⟩
        rw [hiff, hdrop]
        constructor
        · rintro ⟨g1, g2, g3⟩
          refine ⟨?_, fun h => by omega, g3⟩
          intro x hx
          rcases List.mem_cons.1 hx with rfl | hx
          · omega
          · exact g1 x hx
        · rintro ⟨g1, g2, g3⟩
          exact ⟨fun x hx => g1 x (List.mem_cons_of_mem _ hx), fun h => by omega, g3⟩
theorem runes_le (s : ByteArray) : (runes s).length ≤ s.size := by
  have := (rfrom_length s s.size 0 (by omega)).1
  unfold runes; omega
theorem fit_f (k : Nat) (s : ByteArray) (h : s.size ≤ 100000) (hk : 200000 ≤ k) : compradorref03_Fit.f k s = some (fit s) := by
  unfold compradorref03_Fit.f
  by_cases hs : (s.size : Int) > 100
  · rw [if_pos hs]
    have : ¬ fit s = true := fun hf => by have := fit_small s hf; omega
    rw [Bool.eq_false_iff.2 this]
  · rw [if_neg hs, runes_f k s h (by omega)]
    simp only [Option.bind_some]
    have hl := runes_le s
    obtain ⟨b, hb, hiff⟩ := fit_l (runes s).length (runes s) 0 k (by omega) (by omega) (by omega)
    rw [show ((0 : Nat) : Int) = 0 from rfl] at hb
    rw [hb]
    refine congrArg some ?_
    have h2 := fit_iff s
    simp only [List.drop_zero, true_implies] at hiff
    exact Bool.eq_iff_iff.2 (hiff.trans h2.symm)
theorem clip_l (f : Nat) : ∀ (s : ByteArray) (p k : Nat) (n : Int), s.size ≤ p + f → s.size ≤ 100000 → n ≤ 9223372036854775807 → f + 41 ≤ k → p ≤ s.size →
    compradorref03_Clip.l0 k s n (p : Int) = some (s.extract 0 (clipAt s f p n)) := by
  induction f with
  | zero =>
    intro s p k n h1 h3 h2 h4 h5
    obtain ⟨k', rfl⟩ : ∃ k', k = k' + 1 := ⟨k - 1, by omega⟩
    simp only [compradorref03_Clip.l0]
    rw [if_neg (by omega), if_pos (by omega), if_pos (by omega)]
    rfl
  | succ f ih =>
    intro s p k n h1 h3 h2 h4 h5
    obtain ⟨k', rfl⟩ : ∃ k', k = k' + 1 := ⟨k - 1, by omega⟩
    simp only [compradorref03_Clip.l0]
    by_cases h : p < s.size
    · have hw := width s p h
      rw [if_pos (by omega)]
      by_cases hn : n > 0
      · rw [if_pos hn, rune_f k' s p h (by omega) (by omega)]
        simp only [Option.bind_some]
        rw [wrap_id (n := n - 1) (by omega) (by omega), wrap_id (by omega) (by omega)]
        rw [show ((p : Int) + ((Utf8.decode s p).2 : Int)) = ((nxt s p : Nat) : Int) from by unfold nxt; omega]
        rw [ih s (nxt s p) k' (n - 1) (by unfold nxt; omega) h3 (by omega) (by omega) (by unfold nxt; omega)]
        conv => rhs; unfold clipAt
        rw [if_pos ⟨h, by omega⟩]
      · rw [if_neg hn, if_pos (by omega), if_pos (by omega), clipAt_end s _ p n (by omega)]
        rfl
    · rw [if_neg (by omega), if_pos (by omega), if_pos (by omega), clipAt_end s _ p n (by omega)]
      rfl
theorem clip_f (k : Nat) (s : ByteArray) (n : Int) (h : s.size ≤ 100000) (hn : n ≤ 9223372036854775807) (hk : s.size + 41 ≤ k) : compradorref03_Clip.f k s n = some (clip s n) :=
  clip_l s.size s 0 k n (by omega) h hn hk (by omega)
theorem RRunes.calls (s : ByteArray) (w : World) (hs : s.size ≤ 100000) :
    Calls Try.prog 51 #[.string s] w fun e w' => ∃ v0_ : Value, e = .returned (v0_) ∧ Kd.R (Kd.int .i64) 3 w' w.heap.size (fun _ => True) v0_ (runes s) ∧ Below w.heap.size w w' :=
  compradorref03_Runes.calls 200000 s (runes s) w (runes_f _ s hs (by omega))
theorem RKind.calls (r : Int) (w : World) : Calls Try.prog 85 #[.int .i64 r] w fun e w' => e = .returned (.int .i64 (kd r)) ∧ Drawn0 w w' :=
  compradorref03_Kind.calls 4 r (kd r) w (kind_f 4 r (by omega))
theorem RFit.calls (s : ByteArray) (w : World) (hs : s.size ≤ 100000) :
    Calls Try.prog 49 #[.string s] w fun e w' => e = .returned (.bool (fit s)) ∧ Below w.heap.size w w' :=
  compradorref03_Fit.calls 200000 s (fit s) w (fit_f _ s hs (by omega))
theorem RClip.calls (s : ByteArray) (n : Int) (w : World) (hs : s.size ≤ 100000) (hn : n ≤ 9223372036854775807) :
    Calls Try.prog 55 #[.string s, .int .i64 n] w fun e w' => e = .returned (.string (clip s n)) ∧ Drawn0 w w' :=
  compradorref03_Clip.calls 200000 s n (clip s n) w (clip_f _ s n hs hn (by omega))
end Go.Proofs.Ytenaggpgblaalaa.Label
