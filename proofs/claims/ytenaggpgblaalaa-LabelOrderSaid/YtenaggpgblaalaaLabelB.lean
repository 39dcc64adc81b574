/- The contracts of label's Fit and Clip. No condition but a text of at most 100000 bytes. -/
import Derived.Test.YtenaggpgblaalaaLabelA
namespace Go.Proofs.Ytenaggpgblaalaa.Label
open Go.RowKit Go.Proofs.Ytenaggpgblaalaa.PLabelReads Go.Proofs.YtenaggpgblaalaaW.PrintWords Go.Proofs.YtenaggpgblaalaaW.PrintLast Go.Proofs.YtenaggpgblaalaaW.PrintMore
open PlainRune
set_option linter.unusedVariables false
set_option linter.unusedSimpArgs false

theorem fitL_no (c : Nat) (r : Int) (l : List Int) (h : kd r > 3 ∨ (c = 0 ∧ kd r > 1) ∨ c = 12) : fitL c (r :: l) = false := by
  unfold fitL; rw [if_pos h]
theorem fitL_go (c : Nat) (r : Int) (l : List Int) (h : ¬ (kd r > 3 ∨ (c = 0 ∧ kd r > 1) ∨ c = 12)) : fitL c (r :: l) = fitL (c + 1) l := by
  conv => lhs; unfold fitL
  rw [if_neg h]
theorem Fit.any (s : ByteArray) (w : World) :
    Calls Try.prog 48 #[.string s] w fun e w' => e = .returned (.bool (fit s)) ∧ Below w.heap.size w w' := by
  go_enter Try.func48, Try.ntmps48
  go_wp2
  go_loopw [3] (fun n w' => ∃ (p f : Nat) (c : Nat), w' = w.iter s p ∧ n = .int .i64 (c : Int) ∧ Aside0 (fitL c (rfrom s f p) = fit s) ∧ Aside0 (s.size ≤ p + f) ∧ c ≤ 12 ∧ p ≤ s.size) (fun _ w' => s.size - w'.iterPos w.heap.size)
  case atStart => exact ⟨0, s.size, 0, rfl, rfl, ⟨rfl⟩, ⟨by omega⟩, by omega, by omega⟩
  case round =>
    obtain ⟨p, f, c, rfl, rfl, HC, HF, hcp, hps⟩ := hrel
    by_cases hp : p < s.size
    · have hnx : ∀ ty, (Instr.next (.pointer (some ⟨w.heap.size, 0, none⟩)) true ty).run Try.prog (w.iter s p) = _ := fun ty => run_next_any w s p ty hp
      have hw := width s p hp
      obtain ⟨f', rfl, hr, hf⟩ := rfrom_go s f p hp HF.out
      have hc := HC.out
      rw [hr] at hc
      have HF2 := Aside0.mk hf
      clear hr hf HC
      obtain ⟨K, hK⟩ : ∃ K, K = kd (rn s p) := ⟨_, rfl⟩
      have hkd := kd_in (rn s p)
      rw [← hK] at hkd
      by_cases h1 : K > 3
      · rw [fitL_no c _ _ (Or.inl (by rw [← hK]; exact h1))] at hc
        have HC := Aside0.mk hc
        have HK := Aside0.mk hK
        clear hc hK
        go_wp2_with fail
        refine (kind.calls (rn s p) _).mono ?_
        rintro e w' ⟨rfl, rfl⟩
        rw [← HK.out]
        go_wp2
        go_ret
        exact ⟨by rw [← HC.out]; rfl, iter_below w s _⟩
      · by_cases h2 : c = 0 ∧ K > 1
        · rw [fitL_no c _ _ (Or.inr (Or.inl (by rw [← hK]; exact h2)))] at hc
          have HC := Aside0.mk hc
          have HK := Aside0.mk hK
          clear hc hK
          obtain ⟨rfl, h3⟩ := h2
          go_wp2_with fail
          refine (kind.calls (rn s p) _).mono ?_
          rintro e w' ⟨rfl, rfl⟩
          rw [← HK.out]
          go_wp2
          go_ret
          exact ⟨by rw [← HC.out]; rfl, iter_below w s _⟩
        · by_cases h3 : c = 12
          · rw [fitL_no c _ _ (Or.inr (Or.inr h3))] at hc
            have HC := Aside0.mk hc
            have HK := Aside0.mk hK
            clear hc hK h2
            subst h3
            go_wp2_with fail
            refine (kind.calls (rn s p) _).mono ?_
            rintro e w' ⟨rfl, rfl⟩
            rw [← HK.out]
            go_wp2
            go_ret
            exact ⟨by rw [← HC.out]; rfl, iter_below w s _⟩
          · rw [fitL_go c _ _ (by rw [← hK]; omega)] at hc
            have HC := Aside0.mk hc
            have HK := Aside0.mk hK
            clear hc hK
            have q3 : ((c : Int) == 12) = false := beq_eq_false_iff_ne.2 (by omega)
            by_cases h4 : c = 0
            · subst h4
              have q2 : ¬ K > 1 := by omega
              clear h2
              go_wp2_with fail
              refine (kind.calls (rn s p) _).mono ?_
              rintro e w' ⟨rfl, rfl⟩
              rw [← HK.out]
              go_wp2
              go_roundw
              case rel => exact ⟨p + (Utf8.decode s p).2, f', 0 + 1, rfl, rfl, HC, HF2, by omega, by omega⟩
              case measure => simp; omega
            · have q4 : ((c : Int) == 0) = false := beq_eq_false_iff_ne.2 (by omega)
              clear h2
              go_wp2_with fail
              refine (kind.calls (rn s p) _).mono ?_
              rintro e w' ⟨rfl, rfl⟩
              rw [← HK.out]
              go_wp2
              go_roundw
              case rel => exact ⟨p + (Utf8.decode s p).2, f', c + 1, rfl, by go_num, HC, HF2, by omega, by omega⟩
              case measure => simp; omega
    · have hnx : ∀ ty, (Instr.next (.pointer (some ⟨w.heap.size, 0, none⟩)) true ty).run Try.prog (w.iter s p) = _ := fun ty => run_next_end w s p ty hp
      have hc := HC.out
      rw [rfrom_end s f p hp] at hc
      have HC2 := Aside0.mk hc
      clear hc HC
      go_wp2
      go_ret
      refine ⟨?_, iter_below w s _⟩
      rw [← HC2.out]
      simp [fitL]
theorem Fit.calls (s : ByteArray) (w : World) (hs : s.size ≤ 4611686018427387904) :
    Calls Try.prog 48 #[.string s] w fun e w' => e = .returned (.bool (fit s)) ∧ Below w.heap.size w w' := Fit.any s w
theorem Clip.calls (s : ByteArray) (n : Int) (w : World) (hs : s.size ≤ 4611686018427387904) (hn : n ≤ 9223372036854775807) :
    Calls Try.prog 54 #[.string s, .int .i64 n] w fun e w' => e = .returned (.string (clip s n)) ∧ Below w.heap.size w w' := by
  go_enter Try.func54, Try.ntmps54
  go_wp2
  go_loopw [1] (fun nv w' => ∃ (p f : Nat) (c : Int), w' = w.iter s p ∧ nv = .int .i64 c ∧ Aside0 (s.extract 0 (clipAt s f p c) = clip s n) ∧ Aside0 (s.size ≤ p + f) ∧ c ≤ 9223372036854775807 ∧ p ≤ s.size) (fun _ w' => s.size - w'.iterPos w.heap.size)
  case atStart => exact ⟨0, s.size, n, rfl, rfl, ⟨rfl⟩, ⟨by omega⟩, hn, by omega⟩
  case round =>
    obtain ⟨p, f, c, rfl, rfl, HC, HF, hcp, hps⟩ := hrel
    by_cases hp : p < s.size
    · have hnx : ∀ ty, (Instr.next (.pointer (some ⟨w.heap.size, 0, none⟩)) true ty).run Try.prog (w.iter s p) = _ := fun ty => run_next_any w s p ty hp
      have hw := width s p hp
      have hc := HC.out
      have hf := HF.out
      clear HC HF
      by_cases h1 : c ≤ 0
      · rw [clipAt_end s f p c (by omega)] at hc
        have HC := Aside0.mk hc
        clear hc hf
        go_wp2
        go_ret
        exact ⟨by rw [← HC.out]; rfl, iter_below w s _⟩
      · obtain ⟨g, rfl⟩ : ∃ g, f = g + 1 := ⟨f - 1, by omega⟩
        unfold clipAt at hc
        rw [if_pos ⟨hp, by omega⟩] at hc
        have HC := Aside0.mk hc
        have HF := Aside0.mk (show s.size ≤ p + (Utf8.decode s p).2 + g by omega)
        clear hc hf
        go_wp2
        go_roundw
        case rel => exact ⟨p + (Utf8.decode s p).2, g, c - 1, rfl, by go_num, HC, HF, by omega, by omega⟩
        case measure => simp; omega
    · have hnx : ∀ ty, (Instr.next (.pointer (some ⟨w.heap.size, 0, none⟩)) true ty).run Try.prog (w.iter s p) = _ := fun ty => run_next_end w s p ty hp
      have hc := HC.out
      rw [clipAt_end s f p c (by omega)] at hc
      have HC2 := Aside0.mk hc
      clear hc HC
      go_wp2
      go_ret
      refine ⟨?_, iter_below w s _⟩
      rw [← HC2.out, show p = s.size by omega]
      simp
end Go.Proofs.Ytenaggpgblaalaa.Label
