/- The reference's Add: its contract. Condition: at most 1000 names. -/
import Derived.Test.YtenaggpgblaalaaOnceB
namespace Go.Proofs.Ytenaggpgblaalaa.Timer
open Go.RowKit Go.Proofs.Ytenaggpgblaalaa.PTimerPlays Go.Proofs.YtenaggpgblaalaaW.PrintWords Go.Proofs.YtenaggpgblaalaaW.PrintLast Go.Proofs.YtenaggpgblaalaaW.PrintMore
open Plain (wrap_id hold)
set_option linter.unusedVariables false
set_option linter.unusedSimpArgs false

set_option maxHeartbeats 4000000 in
set_option maxRecDepth 100000 in
theorem Add.calls (A : Option Addr) (c : Nat) (l : List ByteArray) (x : ByteArray) (w : World) (hr : Kd.C Kd.string w A l.length l) (hc : l.length ≤ c) (hl : l.length ≤ 1000) :
    Calls Try.prog 77 #[.slice A l.length c, .string x] w fun e w' => ∃ v, e = .returned v ∧ NR w' w.heap.size v (addL x false l) ∧ Below w.heap.size w w' := by
  have HR := Aside0.mk hr
  have HL := Aside0.mk hl
  clear hr hl
  go_enter Try.func77, Try.ntmps77
  go_wp2
  go_loopw [5, 6, 7] (fun ov bv iv wr => ∃ (i : Nat) (d : Bool) (acc : List ByteArray), iv = .int .i64 (i : Int) ∧ bv = .bool d ∧ i ≤ l.length ∧ acc.length ≤ 2 * i ∧ Aside0 (NR wr w.heap.size ov acc) ∧ Aside0 (acc ++ addL x d (l.drop i) = addL x false l) ∧ Aside0 (Below w.heap.size w wr)) (fun _ _ iv _ => l.length - (intOf iv).toNat)
  case atStart => exact ⟨0, false, [], rfl, rfl, by omega, by simp, ⟨Kd.R_nil _ _ _ _ _⟩, ⟨rfl⟩, ⟨Below.refl _ _⟩⟩
  case round =>
    obtain ⟨i, d, acc, rfl, rfl, hi, ha, HR5, HQ, HB⟩ := hrel
    obtain ⟨A5, c5, rfl⟩ := Kd.R_slice HR5.out
    have HAL := Aside0.mk (show acc.length ≤ 2 * i ∧ i ≤ 1000 from ⟨ha, by have := HL.out; omega⟩)
    by_cases hil : i < l.length
    · have q0 : decide ((i : Int) < (l.length : Int)) = true := decide_eq_true (by omega)
      have q1 : (0 : Int) ≤ (i : Int) := by omega
      have q2 : (i : Int) < (l.length : Int) := by omega
      obtain ⟨ad, ea, hx0⟩ := Kd.at_string HR.out (i : Int) q1 q2
      cases ea
      rw [Int.toNat_natCast, str_nat l i hil] at hx0
      have hq := HQ.out
      rw [List.drop_eq_getElem_cons hil] at hq
      generalize l[i] = y at hx0 hq
      have HX := Aside0.mk hx0
      have hx := (HB.out.cell (World.block_lt_of_cell? w _ hx0)).trans hx0
      clear hx0 HQ
      have hi1 := HAL.out.2
      by_cases hd : d = true
      · subst hd
        have HQ2 := Aside0.mk (show (acc ++ [y]) ++ addL x true (l.drop (i + 1)) = addL x false l by rw [← hq]; simp [addL, addS])
        clear hq
        go_wp2_with (first | ((with_reducible refine gate_builtin (b := .append) (xs := #[.tmp 34, .tmp 39]) rfl ?_); at_builtin; refine Kd.R_append Kd.string (w0 := w) w.heap.size rfl (.tmp 34) (.tmp 39) 78 9 (.string ⟨#[]⟩) 16 rfl Try.underlying78 info9s rfl (by decide) (by omega) (.slice A5 acc.length c5) acc y [.string y] (fun _ => True) (fun _ => False) rfl rfl rfl (fun _ hk => hk.elim) (fun _ _ => trivial) HR5.out HB.out HB.out.size (by have := HAL.out; simp; omega) ?_; intro v9 w9 hr9 hb9 hg9 hat9; have HR9 := Aside0.mk hr9; have n0_ := Aside0.mk hb9; clear HB hr9 hb9 hg9 hat9; have HB := n0_; clear n0_))
        go_roundw
        case rel => exact ⟨i + 1, true, acc ++ [y], by go_num, rfl, by omega, by simp; omega, HR9, HQ2, HB⟩
        case measure => simp [intOf]; omega
      · have hd2 : d = false := Bool.eq_false_iff.2 hd
        subst hd2
        by_cases hle : le x y = true
        · have hlb : (Op.bytesLess x.toList y.toList || x.toList == y.toList) = true := hle
          by_cases hxy : x = y
          · have HQ2 := Aside0.mk (show (acc ++ [x]) ++ addL x true (l.drop (i + 1)) = addL x false l by subst hxy; rw [← hq]; simp [addL, addS, hle])
            have e1 : (x.toList == y.toList) = true := by rw [hxy]; exact beq_self_eq_true _
            clear hq hle hd hxy
            go_wp2_with (first | ((with_reducible refine gate_builtin (b := .append) (xs := #[.tmp 24, .tmp 26]) rfl ?_); at_builtin; refine Kd.R_append Kd.string (w0 := w) w.heap.size rfl (.tmp 24) (.tmp 26) 78 9 (.string ⟨#[]⟩) 16 rfl Try.underlying78 info9s rfl (by decide) (by omega) (.slice A5 acc.length c5) acc x [.string x] (fun _ => True) (fun _ => False) rfl rfl rfl (fun _ hk => hk.elim) (fun _ _ => trivial) HR5.out HB.out HB.out.size (by have := HAL.out; simp; omega) ?_; intro v8 w8 hr8 hb8 hg8 hat8; have HR8 := Aside0.mk hr8; have n0_ := Aside0.mk hb8; clear HB hr8 hb8 hg8 hat8; have HB := n0_; clear n0_; have hx2 := (HB.out.cell (World.block_lt_of_cell? w _ HX.out)).trans HX.out))
            go_roundw
            case rel => exact ⟨i + 1, true, acc ++ [x], by go_num, rfl, by omega, by simp; omega, HR8, HQ2, HB⟩
            case measure => simp [intOf]; omega
          · have HQ2 := Aside0.mk (show (acc ++ [x] ++ [y]) ++ addL x true (l.drop (i + 1)) = addL x false l by rw [← hq]; simp [addL, addS, hle, hxy])
            have e1 : (x.toList == y.toList) = false := beq_eq_false_iff_ne.2 (toList_ne hxy)
            have hbl : Op.bytesLess x.toList y.toList = true := by rw [e1, Bool.or_false] at hlb; exact hlb
            clear hq hle hd hxy hlb
            go_wp2_with (first | ((with_reducible refine gate_builtin (b := .append) (xs := #[.tmp 24, .tmp 26]) rfl ?_); at_builtin; refine Kd.R_append Kd.string (w0 := w) w.heap.size rfl (.tmp 24) (.tmp 26) 78 9 (.string ⟨#[]⟩) 16 rfl Try.underlying78 info9s rfl (by decide) (by omega) (.slice A5 acc.length c5) acc x [.string x] (fun _ => True) (fun _ => False) rfl rfl rfl (fun _ hk => hk.elim) (fun _ _ => trivial) HR5.out HB.out HB.out.size (by have := HAL.out; simp; omega) ?_; intro v8 w8 hr8 hb8 hg8 hat8; have HR8 := Aside0.mk hr8; have n0_ := Aside0.mk hb8; clear HB hr8 hb8 hg8 hat8; have HB := n0_; clear n0_; have hx2 := (HB.out.cell (World.block_lt_of_cell? w _ HX.out)).trans HX.out) | ((with_reducible refine gate_builtin (b := .append) (xs := #[.tmp 34, .tmp 39]) rfl ?_); at_builtin; refine Kd.R_append Kd.string (w0 := w) w.heap.size rfl (.tmp 34) (.tmp 39) 78 9 (.string ⟨#[]⟩) 16 rfl Try.underlying78 info9s rfl (by decide) (by omega) v8 (acc ++ [x]) y [.string y] (fun _ => True) (fun _ => False) rfl rfl rfl (fun _ hk => hk.elim) (fun _ _ => trivial) HR8.out HB.out HB.out.size (by have := HAL.out; simp; omega) ?_; intro v9 w9 hr9 hb9 hg9 hat9; have HR9 := Aside0.mk hr9; have n0_ := Aside0.mk hb9; clear HB hr9 hb9 hg9 hat9; have HB := n0_; clear n0_))
            go_roundw
            case rel => exact ⟨i + 1, true, acc ++ [x] ++ [y], by go_num, rfl, by omega, by simp; omega, HR9, HQ2, HB⟩
            case measure => simp [intOf]; omega
        · have hlb : (Op.bytesLess x.toList y.toList || x.toList == y.toList) = false := Bool.eq_false_iff.2 hle
          have HQ2 := Aside0.mk (show (acc ++ [y]) ++ addL x false (l.drop (i + 1)) = addL x false l by rw [← hq]; simp [addL, addS, hle])
          clear hq hle hd
          go_wp2_with (first | ((with_reducible refine gate_builtin (b := .append) (xs := #[.tmp 34, .tmp 39]) rfl ?_); at_builtin; refine Kd.R_append Kd.string (w0 := w) w.heap.size rfl (.tmp 34) (.tmp 39) 78 9 (.string ⟨#[]⟩) 16 rfl Try.underlying78 info9s rfl (by decide) (by omega) (.slice A5 acc.length c5) acc y [.string y] (fun _ => True) (fun _ => False) rfl rfl rfl (fun _ hk => hk.elim) (fun _ _ => trivial) HR5.out HB.out HB.out.size (by have := HAL.out; simp; omega) ?_; intro v9 w9 hr9 hb9 hg9 hat9; have HR9 := Aside0.mk hr9; have n0_ := Aside0.mk hb9; clear HB hr9 hb9 hg9 hat9; have HB := n0_; clear n0_))
          go_roundw
          case rel => exact ⟨i + 1, false, acc ++ [y], by go_num, rfl, by omega, by simp; omega, HR9, HQ2, HB⟩
          case measure => simp [intOf]; omega
    · have q0 : decide ((i : Int) < (l.length : Int)) = false := decide_eq_false (by omega)
      have hq := HQ.out
      rw [List.drop_eq_nil_of_le (show l.length ≤ i by omega)] at hq
      cases d with
      | true =>
        have HQ2 := Aside0.mk (show acc = addL x false l by rw [← hq]; simp [addL])
        clear hq HQ
        go_wp2
        go_ret
        exact ⟨_, rfl, by rw [← HQ2.out]; exact HR5.out, HB.out⟩
      | false =>
        have HQ2 := Aside0.mk (show acc ++ [x] = addL x false l by rw [← hq]; simp [addL])
        clear hq HQ
        go_wp2_with (first | ((with_reducible refine gate_builtin (b := .append) (xs := #[.tmp 43, .tmp 45]) rfl ?_); at_builtin; refine Kd.R_append Kd.string (w0 := w) w.heap.size rfl (.tmp 43) (.tmp 45) 78 9 (.string ⟨#[]⟩) 16 rfl Try.underlying78 info9s rfl (by decide) (by omega) (.slice A5 acc.length c5) acc x [.string x] (fun _ => True) (fun _ => False) rfl rfl rfl (fun _ hk => hk.elim) (fun _ _ => trivial) HR5.out HB.out HB.out.size (by have := HAL.out; simp; omega) ?_; intro v9 w9 hr9 hb9 hg9 hat9; have HR9 := Aside0.mk hr9; have n0_ := Aside0.mk hb9; clear HB hr9 hb9 hg9 hat9; have HB := n0_; clear n0_))
        go_ret
        exact ⟨_, rfl, by rw [← HQ2.out]; exact HR9.out, HB.out⟩
end Go.Proofs.Ytenaggpgblaalaa.Timer
