/- The law's find: its contract. Condition: at most 2^40 names. -/
import Derived.Test.YtenaggpgblaalaaTimerFrame
namespace Go.Proofs.Ytenaggpgblaalaa.Timer
open Go.RowKit Go.Proofs.Ytenaggpgblaalaa.PTimerPlays Go.Proofs.YtenaggpgblaalaaW.PrintWords Go.Proofs.YtenaggpgblaalaaW.PrintLast Go.Proofs.YtenaggpgblaalaaW.PrintMore
open Plain (wrap_id hold)
set_option linter.unusedVariables false
set_option linter.unusedSimpArgs false

def inL (x : ByteArray) (l : List ByteArray) : Bool := l.any (fun y => decide (y = x))
theorem str_nat (l : List ByteArray) (i : Nat) (h : i < l.length) : rdOf ByteArray.empty l (i : Int) = l[i] := by
  unfold rdOf; simp [List.getD, h]
theorem find.calls (A : Option Addr) (c : Nat) (l : List ByteArray) (x : ByteArray) (w : World) (hr : Kd.C Kd.string w A l.length l) (hc : l.length ≤ c) (hl : l.length ≤ 1000000) :
    Calls Try.prog 78 #[.slice A l.length c, .string x] w fun e w' => ∃ n, e = .returned (.tuple #[.int .i64 n, .bool (inL x l)]) ∧ w' = w := by
  have HR := Aside0.mk hr
  have HL := Aside0.mk hl
  clear hr hl
  go_enter Try.func78, Try.ntmps78
  go_wp2
  go_loopw [6] (fun iv wr => ∃ i : Nat, iv = .int .i64 (i : Int) ∧ wr = w ∧ i ≤ l.length ∧ Aside0 (inL x (l.take i) = false)) (fun iv _ => l.length - (intOf iv).toNat)
  case atStart => exact ⟨0, rfl, rfl, by omega, ⟨rfl⟩⟩
  case round =>
    obtain ⟨i, rfl, rfl, hi, HN⟩ := hrel
    by_cases hil : i < l.length
    · have q0 : decide ((i : Int) < (l.length : Int)) = true := decide_eq_true (by omega)
      have q1 : (0 : Int) ≤ (i : Int) := by omega
      have q2 : (i : Int) < (l.length : Int) := by omega
      obtain ⟨ad, ea, hx⟩ := Kd.at_string HR.out (i : Int) q1 q2
      cases ea
      rw [Int.toNat_natCast, str_nat l i hil] at hx
      by_cases he : l[i] = x
      · have e1 : (l[i].toList == x.toList) = true := by rw [he]; exact beq_self_eq_true _
        have hin : inL x l = true := by
          unfold inL
          rw [List.any_eq_true]
          exact ⟨l[i], List.getElem_mem hil, decide_eq_true he⟩
        have HI := Aside0.mk hin
        generalize l[i] = y at hx e1
        clear he hin
        go_wp2
        go_ret2
        exact ⟨_, by rw [HI.out]; rfl, rfl⟩
      · have e1 : (l[i].toList == x.toList) = false := beq_eq_false_iff_ne.2 (toList_ne he)
        have HN2 := Aside0.mk (show inL x (l.take (i + 1)) = false by
          have h := HN.out
          unfold inL at h ⊢
          rw [List.take_add_one, List.getElem?_eq_getElem hil, List.any_append, h]
          simp [he])
        have hi2 := HL.out
        generalize l[i] = y at hx e1
        clear he
        go_wp2
        go_roundw
        case rel => exact ⟨i + 1, by go_num, trivial, by omega, HN2⟩
        case measure => simp [intOf]; omega
    · have q0 : decide ((i : Int) < (l.length : Int)) = false := decide_eq_false (by omega)
      have hin := HN.out
      rw [List.take_of_length_le (by omega)] at hin
      have HI := Aside0.mk hin
      clear hin
      go_wp2
      go_ret2
      exact ⟨_, by rw [HI.out]; rfl, rfl⟩
end Go.Proofs.Ytenaggpgblaalaa.Timer
