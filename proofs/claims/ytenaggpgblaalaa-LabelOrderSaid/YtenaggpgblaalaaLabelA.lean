/- The contracts of label's functions: kind, Size, Fit, Clip. No condition but a text of at most 100000 bytes. -/
import Derived.Test.YtenaggpgblaalaaPLabelReadsx4
import Derived.Test.YtenaggpgblaalaaPlainRune
import Derived.Laws.RangeAny
namespace Go.Proofs.Ytenaggpgblaalaa.Label
open Go.RowKit Go.Proofs.Ytenaggpgblaalaa.PLabelReads Go.Proofs.YtenaggpgblaalaaW.PrintWords Go.Proofs.YtenaggpgblaalaaW.PrintLast Go.Proofs.YtenaggpgblaalaaW.PrintMore
open PlainRune
set_option linter.unusedVariables false
set_option linter.unusedSimpArgs false

theorem iter_below (w : World) (s : ByteArray) (p : Nat) : Below w.heap.size w (w.iter s p) := below_alloc (Below.refl _ _) _
theorem kind.calls (r : Int) (w : World) : Calls Try.prog 84 #[.int .i32 r] w fun e w' => e = .returned (.int .i64 (kd r)) ∧ w' = w := by
  by_cases h0 : 97 ≤ r ∧ r ≤ 122
  · have e : kd r = 0 := by unfold kd; rw [if_pos h0]
    rw [e]
    obtain ⟨h1, h2⟩ := h0
    clear e
    go_enter Try.func84, Try.ntmps84
    go_wp2
    go_ret
    exact ⟨rfl, rfl⟩
  · by_cases h3 : 945 ≤ r ∧ r ≤ 969
    · have e : kd r = 1 := by unfold kd; rw [if_neg h0, if_pos h3]
      rw [e]
      obtain ⟨h1, h2⟩ := h3
      have h4 : ¬ r ≤ 122 := by omega
      clear e h0
      go_enter Try.func84, Try.ntmps84
      go_wp2
      go_ret
      exact ⟨rfl, rfl⟩
    · by_cases h5 : 48 ≤ r ∧ r ≤ 57
      · have e : kd r = 2 := by unfold kd; rw [if_neg h0, if_neg h3, if_pos h5]
        rw [e]
        obtain ⟨h1, h2⟩ := h5
        clear e h0 h3
        go_enter Try.func84, Try.ntmps84
        go_wp2
        go_ret
        exact ⟨rfl, rfl⟩
      · by_cases h6 : r = 45
        · subst h6
          rw [show kd 45 = 3 from rfl]
          go_enter Try.func84, Try.ntmps84
          go_wp2
          go_ret
          exact ⟨rfl, rfl⟩
        · have e : kd r = 4 := by unfold kd; rw [if_neg h0, if_neg h3, if_neg h5, if_neg h6]
          rw [e]
          have g6 : (r == 45) = false := beq_eq_false_iff_ne.2 h6
          have a1 : (97 ≤ r ∧ 122 < r) ∨ ¬ 97 ≤ r := by omega
          have a2 : (945 ≤ r ∧ 969 < r) ∨ ¬ 945 ≤ r := by omega
          have a3 : (48 ≤ r ∧ 57 < r) ∨ ¬ 48 ≤ r := by omega
          clear e h0 h3 h5 h6
          rcases a1 with ⟨p1, p2⟩ | p1 <;> rcases a2 with ⟨q1, q2⟩ | q1 <;> rcases a3 with ⟨u1, u2⟩ | u1
          all_goals
            first
            | (exfalso; omega)
            | (go_enter Try.func84, Try.ntmps84
               go_wp2
               go_ret
               exact ⟨rfl, rfl⟩)
theorem Size.calls (s : ByteArray) (w : World) (hs : s.size ≤ 100000) :
    Calls Try.prog 50 #[.string s] w fun e w' => e = .returned (.int .i64 ((runes s).length : Int)) ∧ Below w.heap.size w w' := by
  go_enter Try.func50, Try.ntmps50
  go_wp2
  go_loopw [3] (fun n w' => ∃ (p f : Nat) (c : Nat), w' = w.iter s p ∧ n = .int .i64 (c : Int) ∧ Aside0 (c + (rfrom s f p).length = (runes s).length) ∧ Aside0 (s.size ≤ p + f) ∧ c ≤ p ∧ p ≤ s.size) (fun _ w' => s.size - w'.iterPos w.heap.size)
  case atStart => exact ⟨0, s.size, 0, rfl, rfl, ⟨by rw [Nat.zero_add]; rfl⟩, ⟨by omega⟩, by omega, by omega⟩
  case round =>
    obtain ⟨p, f, c, rfl, rfl, HC, HF, hcp, hps⟩ := hrel
    by_cases hp : p < s.size
    · have hnx : ∀ ty, (Instr.next (.pointer (some ⟨w.heap.size, 0, none⟩)) true ty).run Try.prog (w.iter s p) = _ := fun ty => run_next_any w s p ty hp
      have hw := width s p hp
      obtain ⟨f', rfl, hr, hf⟩ := rfrom_go s f p hp HF.out
      have HR := Aside0.mk hr
      have HF2 := Aside0.mk hf
      clear hr hf
      go_wp2
      go_roundw
      case rel => exact ⟨p + (Utf8.decode s p).2, f', c + 1, rfl, by go_num, ⟨by have h1 := HC.out; rw [HR.out] at h1; simp only [List.length_cons] at h1; unfold nxt at h1; omega⟩, HF2, by omega, by omega⟩
      case measure => simp; omega
    · have hnx : ∀ ty, (Instr.next (.pointer (some ⟨w.heap.size, 0, none⟩)) true ty).run Try.prog (w.iter s p) = _ := fun ty => run_next_end w s p ty hp
      have hc := HC.out
      rw [rfrom_end s f p hp] at hc
      have HC2 := Aside0.mk hc
      clear hc HC
      go_wp2
      go_ret
      exact ⟨by have h := HC2.out; simp at h; rw [h]; rfl, iter_below w s p⟩
end Go.Proofs.Ytenaggpgblaalaa.Label
