/- The contract of label's Marks. No condition but a text of at most 2^62 bytes. -/
import Derived.Test.YtenaggpgblaalaaLabelB
namespace Go.Proofs.Ytenaggpgblaalaa.Label
open Go.RowKit Go.Proofs.Ytenaggpgblaalaa.PLabelReads Go.Proofs.YtenaggpgblaalaaW.PrintWords Go.Proofs.YtenaggpgblaalaaW.PrintLast Go.Proofs.YtenaggpgblaalaaW.PrintMore
open PlainRune
set_option linter.unusedVariables false
set_option linter.unusedSimpArgs false

def m4 (m0 m1 m2 m3 : Int) : Array Value := #[.int .i64 m0, .int .i64 m1, .int .i64 m2, .int .i64 m3]
theorem size2 (w : World) (a b : Obj) : ((w.alloc a).alloc b).heap.size = w.heap.size + 1 + 1 := by simp only [World.alloc, Array.size_push]
theorem pos2 (w : World) (a b : Obj) (s : ByteArray) (p : Nat) : (((w.alloc a).alloc b).alloc (.stringIter s p)).iterPos (w.heap.size + 1 + 1) = p := by
  rw [← size2 w a b]; exact World.iterPos_iter _ _ _
theorem at0 (w : World) (a b c : Obj) : (((w.alloc a).alloc b).alloc c).heap[w.heap.size]? = some a := by
  show (((w.heap.push a).push b).push c)[w.heap.size]? = some a
  rw [Array.getElem?_push, if_neg (by simp only [Array.size_push]; omega), Array.getElem?_push, if_neg (by simp only [Array.size_push]; omega), Array.getElem?_push, if_pos rfl]
theorem mk_cons (k r : Int) (l : List Int) : mk k (r :: l) = mk k l + if kd r = k then 1 else 0 := by
  unfold mk
  rw [List.filter_cons]
  by_cases h : kd r = k <;> simp [h]
theorem Marks.calls (s : ByteArray) (w : World) (hs : s.size ≤ 4611686018427387904) :
    Calls Try.prog 52 #[.string s] w fun e w' => e = .returned (.agg #[.int .i64 (mk 0 (runes s)), .int .i64 (mk 1 (runes s)), .int .i64 (mk 2 (runes s)), .int .i64 (mk 3 (runes s))]) ∧ Below w.heap.size w w' := by
  go_enter Try.func52, Try.ntmps52
  go_wp2
  go_loopw [] (fun w' => ∃ (p f : Nat) (m0 m1 m2 m3 : Int), w' = ((w.alloc (.cells #[.int .i64 0, .int .i64 0, .int .i64 0, .int .i64 0] 56)).alloc (.cells #[.int .i64 m0, .int .i64 m1, .int .i64 m2, .int .i64 m3] 56)).alloc (.stringIter s p) ∧ Aside0 (m0 + mk 0 (rfrom s f p) = mk 0 (runes s) ∧ m1 + mk 1 (rfrom s f p) = mk 1 (runes s) ∧ m2 + mk 2 (rfrom s f p) = mk 2 (runes s) ∧ m3 + mk 3 (rfrom s f p) = mk 3 (runes s)) ∧ Aside0 (s.size ≤ p + f) ∧ Aside0 (0 ≤ m0 ∧ m0 ≤ p ∧ 0 ≤ m1 ∧ m1 ≤ p ∧ 0 ≤ m2 ∧ m2 ≤ p ∧ 0 ≤ m3 ∧ m3 ≤ p) ∧ p ≤ s.size) (fun w' => s.size - w'.iterPos (w.heap.size + 1 + 1))
  case atStart => exact ⟨0, s.size, 0, 0, 0, 0, rfl, ⟨by unfold runes; omega⟩, ⟨by omega⟩, ⟨by omega⟩, by omega⟩
  case round =>
    obtain ⟨p, f, m0, m1, m2, m3, rfl, HC, HF, HM, hps⟩ := hrel
    by_cases hp : p < s.size
    · have hnx : ∀ ty, (Instr.next (.pointer (some ⟨w.heap.size + 1 + 1, 0, none⟩)) true ty).run Try.prog (((w.alloc (.cells #[.int .i64 0, .int .i64 0, .int .i64 0, .int .i64 0] 56)).alloc (.cells #[.int .i64 m0, .int .i64 m1, .int .i64 m2, .int .i64 m3] 56)).alloc (.stringIter s p)) = .ok (.tuple #[.bool true, .int .i64 p, .int .i32 (Utf8.decode s p).1]) (((w.alloc (.cells #[.int .i64 0, .int .i64 0, .int .i64 0, .int .i64 0] 56)).alloc (.cells #[.int .i64 m0, .int .i64 m1, .int .i64 m2, .int .i64 m3] 56)).alloc (.stringIter s (p + (Utf8.decode s p).2))) := fun ty => by
        have h := run_next_any (P := Try.prog) ((w.alloc (.cells #[.int .i64 0, .int .i64 0, .int .i64 0, .int .i64 0] 56)).alloc (.cells #[.int .i64 m0, .int .i64 m1, .int .i64 m2, .int .i64 m3] 56)) s p ty hp
        rw [size2] at h
        exact h
      have hw := width s p hp
      obtain ⟨f', rfl, hr, hf⟩ := rfrom_go s f p hp HF.out
      have hc := HC.out
      rw [hr] at hc
      simp only [mk_cons] at hc
      have HF2 := Aside0.mk hf
      have hm := HM.out
      clear hr hf HC HM
      obtain ⟨K, hK⟩ : ∃ K, K = kd (rn s p) := ⟨_, rfl⟩
      have hkd := kd_in (rn s p)
      rw [← hK] at hkd hc
      have h5 : K = 0 ∨ K = 1 ∨ K = 2 ∨ K = 3 ∨ K = 4 := by omega
      rcases h5 with rfl | rfl | rfl | rfl | rfl
      · simp only [show ∀ x : Int, (x = x) = True from fun x => eq_true rfl, if_true, show ((0:Int) = 1) = False by decide, show ((0:Int) = 2) = False by decide, show ((0:Int) = 3) = False by decide, show ((1:Int) = 0) = False by decide, show ((1:Int) = 2) = False by decide, show ((1:Int) = 3) = False by decide, show ((2:Int) = 0) = False by decide, show ((2:Int) = 1) = False by decide, show ((2:Int) = 3) = False by decide, show ((3:Int) = 0) = False by decide, show ((3:Int) = 1) = False by decide, show ((3:Int) = 2) = False by decide, show ((4:Int) = 0) = False by decide, show ((4:Int) = 1) = False by decide, show ((4:Int) = 2) = False by decide, show ((4:Int) = 3) = False by decide, if_false] at hc
        have HC := Aside0.mk hc
        have HK := Aside0.mk hK
        have b1 : 0 ≤ m0 := by omega
        have b2 : m0 ≤ 4611686018427387904 := by omega
        have HM := Aside0.mk hm
        clear hc hK hm hkd
        go_wp2_with fail
        refine (kind.calls (rn s p) _).mono ?_
        rintro e w' ⟨rfl, rfl⟩
        rw [← HK.out]
        go_wp2
        go_roundw
        case rel => exact ⟨p + (Utf8.decode s p).2, f', m0 + 1, m1, m2, m3, rfl, ⟨by have := HC.out; unfold nxt at this; omega⟩, HF2, ⟨by have := HM.out; omega⟩, by omega⟩
        case measure => rw [pos2, pos2]; omega
      · simp only [show ∀ x : Int, (x = x) = True from fun x => eq_true rfl, if_true, show ((0:Int) = 1) = False by decide, show ((0:Int) = 2) = False by decide, show ((0:Int) = 3) = False by decide, show ((1:Int) = 0) = False by decide, show ((1:Int) = 2) = False by decide, show ((1:Int) = 3) = False by decide, show ((2:Int) = 0) = False by decide, show ((2:Int) = 1) = False by decide, show ((2:Int) = 3) = False by decide, show ((3:Int) = 0) = False by decide, show ((3:Int) = 1) = False by decide, show ((3:Int) = 2) = False by decide, show ((4:Int) = 0) = False by decide, show ((4:Int) = 1) = False by decide, show ((4:Int) = 2) = False by decide, show ((4:Int) = 3) = False by decide, if_false] at hc
        have HC := Aside0.mk hc
        have HK := Aside0.mk hK
        have b1 : 0 ≤ m1 := by omega
        have b2 : m1 ≤ 4611686018427387904 := by omega
        have HM := Aside0.mk hm
        clear hc hK hm hkd
        go_wp2_with fail
        refine (kind.calls (rn s p) _).mono ?_
        rintro e w' ⟨rfl, rfl⟩
        rw [← HK.out]
        go_wp2
        go_roundw
        case rel => exact ⟨p + (Utf8.decode s p).2, f', m0, m1 + 1, m2, m3, rfl, ⟨by have := HC.out; unfold nxt at this; omega⟩, HF2, ⟨by have := HM.out; omega⟩, by omega⟩
        case measure => rw [pos2, pos2]; omega
      · simp only [show ∀ x : Int, (x = x) = True from fun x => eq_true rfl, if_true, show ((0:Int) = 1) = False by decide, show ((0:Int) = 2) = False by decide, show ((0:Int) = 3) = False by decide, show ((1:Int) = 0) = False by decide, show ((1:Int) = 2) = False by decide, show ((1:Int) = 3) = False by decide, show ((2:Int) = 0) = False by decide, show ((2:Int) = 1) = False by decide, show ((2:Int) = 3) = False by decide, show ((3:Int) = 0) = False by decide, show ((3:Int) = 1) = False by decide, show ((3:Int) = 2) = False by decide, show ((4:Int) = 0) = False by decide, show ((4:Int) = 1) = False by decide, show ((4:Int) = 2) = False by decide, show ((4:Int) = 3) = False by decide, if_false] at hc
        have HC := Aside0.mk hc
        have HK := Aside0.mk hK
        have b1 : 0 ≤ m2 := by omega
        have b2 : m2 ≤ 4611686018427387904 := by omega
        have HM := Aside0.mk hm
        clear hc hK hm hkd
        go_wp2_with fail
        refine (kind.calls (rn s p) _).mono ?_
        rintro e w' ⟨rfl, rfl⟩
        rw [← HK.out]
        go_wp2
        go_roundw
        case rel => exact ⟨p + (Utf8.decode s p).2, f', m0, m1, m2 + 1, m3, rfl, ⟨by have := HC.out; unfold nxt at this; omega⟩, HF2, ⟨by have := HM.out; omega⟩, by omega⟩
        case measure => rw [pos2, pos2]; omega
      · simp only [show ∀ x : Int, (x = x) = True from fun x => eq_true rfl, if_true, show ((0:Int) = 1) = False by decide, show ((0:Int) = 2) = False by decide, show ((0:Int) = 3) = False by decide, show ((1:Int) = 0) = False by decide, show ((1:Int) = 2) = False by decide, show ((1:Int) = 3) = False by decide, show ((2:Int) = 0) = False by decide, show ((2:Int) = 1) = False by decide, show ((2:Int) = 3) = False by decide, show ((3:Int) = 0) = False by decide, show ((3:Int) = 1) = False by decide, show ((3:Int) = 2) = False by decide, show ((4:Int) = 0) = False by decide, show ((4:Int) = 1) = False by decide, show ((4:Int) = 2) = False by decide, show ((4:Int) = 3) = False by decide, if_false] at hc
        have HC := Aside0.mk hc
        have HK := Aside0.mk hK
        have b1 : 0 ≤ m3 := by omega
        have b2 : m3 ≤ 4611686018427387904 := by omega
        have HM := Aside0.mk hm
        clear hc hK hm hkd
        go_wp2_with fail
        refine (kind.calls (rn s p) _).mono ?_
        rintro e w' ⟨rfl, rfl⟩
        rw [← HK.out]
        go_wp2
        go_roundw
        case rel => exact ⟨p + (Utf8.decode s p).2, f', m0, m1, m2, m3 + 1, rfl, ⟨by have := HC.out; unfold nxt at this; omega⟩, HF2, ⟨by have := HM.out; omega⟩, by omega⟩
        case measure => rw [pos2, pos2]; omega
      · simp only [show ∀ x : Int, (x = x) = True from fun x => eq_true rfl, if_true, show ((0:Int) = 1) = False by decide, show ((0:Int) = 2) = False by decide, show ((0:Int) = 3) = False by decide, show ((1:Int) = 0) = False by decide, show ((1:Int) = 2) = False by decide, show ((1:Int) = 3) = False by decide, show ((2:Int) = 0) = False by decide, show ((2:Int) = 1) = False by decide, show ((2:Int) = 3) = False by decide, show ((3:Int) = 0) = False by decide, show ((3:Int) = 1) = False by decide, show ((3:Int) = 2) = False by decide, show ((4:Int) = 0) = False by decide, show ((4:Int) = 1) = False by decide, show ((4:Int) = 2) = False by decide, show ((4:Int) = 3) = False by decide, if_false] at hc
        have HC := Aside0.mk hc
        have HK := Aside0.mk hK
        have HM := Aside0.mk hm
        clear hc hK hm hkd
        go_wp2_with fail
        refine (kind.calls (rn s p) _).mono ?_
        rintro e w' ⟨rfl, rfl⟩
        rw [← HK.out]
        go_wp2
        go_roundw
        case rel => exact ⟨p + (Utf8.decode s p).2, f', m0, m1, m2, m3, rfl, ⟨by have := HC.out; unfold nxt at this; omega⟩, HF2, ⟨by have := HM.out; omega⟩, by omega⟩
        case measure => rw [pos2, pos2]; omega
    · have hnx : ∀ ty, (Instr.next (.pointer (some ⟨w.heap.size + 1 + 1, 0, none⟩)) true ty).run Try.prog (((w.alloc (.cells #[.int .i64 0, .int .i64 0, .int .i64 0, .int .i64 0] 56)).alloc (.cells #[.int .i64 m0, .int .i64 m1, .int .i64 m2, .int .i64 m3] 56)).alloc (.stringIter s p)) = .ok (.tuple #[.bool false]) (((w.alloc (.cells #[.int .i64 0, .int .i64 0, .int .i64 0, .int .i64 0] 56)).alloc (.cells #[.int .i64 m0, .int .i64 m1, .int .i64 m2, .int .i64 m3] 56)).alloc (.stringIter s p)) := fun ty => by
        have h := run_next_end (P := Try.prog) ((w.alloc (.cells #[.int .i64 0, .int .i64 0, .int .i64 0, .int .i64 0] 56)).alloc (.cells #[.int .i64 m0, .int .i64 m1, .int .i64 m2, .int .i64 m3] 56)) s p ty hp
        rw [size2] at h
        exact h
      have hc := HC.out
      rw [rfrom_end s f p hp] at hc
      have HC2 := Aside0.mk hc
      clear hc HC
      go_wp2
      (try simp only [Exit.inBlock, Exit.then])
      refine bodyPost_ret (results_cell_row rfl _ _ w.heap.size 56 #[.int .i64 m0, .int .i64 m1, .int .i64 m2, .int .i64 m3] (0, 0) _ rfl (at0 w _ _ _) Try.underlying56 rfl (by kernel_rfl)) rfl ?_
      obtain ⟨e0, e1, e2, e3⟩ := HC2.out
      rw [← e0, ← e1, ← e2, ← e3]
      refine ⟨by simp [mk], ?_⟩
      exact below_alloc (below_alloc (below_alloc (Below.refl _ _) _) _) _
end Go.Proofs.Ytenaggpgblaalaa.Label
