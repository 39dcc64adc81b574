/- The contract of the reference's Marks. Condition: a text of at most 100000 bytes. -/
import Derived.Test.YtenaggpgblaalaaLabelC
import Derived.Test.YtenaggpgblaalaaLabelD
namespace Go.Proofs.Ytenaggpgblaalaa.Label
open Go.RowKit Go.Proofs.Ytenaggpgblaalaa.PLabelReads Go.Proofs.YtenaggpgblaalaaW.PrintWords Go.Proofs.YtenaggpgblaalaaW.PrintLast Go.Proofs.YtenaggpgblaalaaW.PrintMore
open PlainRune
set_option linter.unusedVariables false
set_option linter.unusedSimpArgs false

theorem mk_take (k : Int) (l : List Int) (i : Nat) (h : i < l.length) : mk k (l.take (i + 1)) = mk k (l.take i) + if kd (rd l (i : Int)) = k then 1 else 0 := by
  rw [List.take_add_one, List.getElem?_eq_getElem h, rd_nat l i h]
  exact mk_snoc k _ _
set_option maxHeartbeats 1000000 in
theorem RMarks.calls (s : ByteArray) (w : World) (hs : s.size ≤ 100000) :
    Calls Try.prog 53 #[.string s] w fun e w' => e = .returned (.agg #[.int .i64 (mk 0 (runes s)), .int .i64 (mk 1 (runes s)), .int .i64 (mk 2 (runes s)), .int .i64 (mk 3 (runes s))]) ∧ Below w.heap.size w w' := by
  go_enter Try.func53, Try.ntmps53
  go_wp2_with fail
  refine (RRunes.calls s _ hs).mono ?_
  rintro e w1 ⟨v0, rfl, hr, hb⟩
  have hl : (runes s).length ≤ 100000 := by have := runes_le s; omega
  obtain ⟨l, hlr⟩ : ∃ l, runes s = l := ⟨_, rfl⟩
  rw [hlr] at hr hl
  have HLR := Aside0.mk hlr
  clear hlr
  have hg0 := blk_below (blk_alloc (blk_new w (.cells #[.int .i64 0, .int .i64 0, .int .i64 0, .int .i64 0] 56)) (.cells #[.int .i64 0, .int .i64 0, .int .i64 0, .int .i64 0] 56)) hb
  have hg1 := blk_below (blk_new (w.alloc (.cells #[.int .i64 0, .int .i64 0, .int .i64 0, .int .i64 0] 56)) (.cells #[.int .i64 0, .int .i64 0, .int .i64 0, .int .i64 0] 56)) hb
  have hB := below_step (below_alloc (below_alloc (Below.refl w.heap.size w) (.cells #[.int .i64 0, .int .i64 0, .int .i64 0, .int .i64 0] 56)) (.cells #[.int .i64 0, .int .i64 0, .int .i64 0, .int .i64 0] 56)) hb
  rw [show (w.alloc (.cells #[.int .i64 0, .int .i64 0, .int .i64 0, .int .i64 0] 56)).heap.size = w.heap.size + 1 from by simp only [World.alloc, Array.size_push]] at hg1
  rw [size2] at hr
  have HR := Aside0.mk hr
  have HG0 := Aside0.mk hg0
  have HG1 := Aside0.mk hg1
  have HB := Aside0.mk hB
  clear hr hg0 hg1 hB hb
  obtain ⟨A, c, rfl⟩ := Kd.R_slice HR.out
  go_wp2
  go_loopw [5] (fun iv w' => ∃ (i : Nat) (m0 m1 m2 m3 : Int), iv = .int .i64 (i : Int) ∧ Aside0 (m0 = mk 0 (l.take i) ∧ m1 = mk 1 (l.take i) ∧ m2 = mk 2 (l.take i) ∧ m3 = mk 3 (l.take i)) ∧ Aside0 (w'.heap[w.heap.size]? = some (.cells #[.int .i64 0, .int .i64 0, .int .i64 0, .int .i64 0] 56 (0, 0))) ∧ Aside0 (w'.heap[w.heap.size + 1]? = some (.cells #[.int .i64 m0, .int .i64 m1, .int .i64 m2, .int .i64 m3] 56 (0, 0))) ∧ Aside0 (Kd.R (Kd.int .i64) 3 w' (w.heap.size + 1 + 1) (fun _ => True) (.slice A l.length c) l) ∧ Aside0 (Below w.heap.size w w') ∧ i ≤ l.length) (fun iv _ => l.length - (intOf iv).toNat)
  case atStart => exact ⟨0, 0, 0, 0, 0, rfl, ⟨by simp [mk]⟩, HG0, HG1, HR, HB, by omega⟩
  case round =>
    clear HR HB HG0 HG1
    obtain ⟨i, m0, m1, m2, m3, rfl, HM, HG0, HG1, HR, HB, hil⟩ := hrel
    by_cases hi : i < l.length
    · have hib : decide ((i : Int) < (l.length : Int)) = true := decide_eq_true (by omega)
      obtain ⟨K, hK⟩ : ∃ K, K = kd (rd l (i : Int)) := ⟨_, rfl⟩
      have hkd := kd_in (rd l (i : Int))
      have hm := HM.out
      have s0 := mk_take 0 l i hi
      have s1 := mk_take 1 l i hi
      have s2 := mk_take 2 l i hi
      have s3 := mk_take 3 l i hi
      rw [← hK] at hkd s0 s1 s2 s3
      have t0 := mk_in 0 (l.take i)
      have t1 := mk_in 1 (l.take i)
      have t2 := mk_in 2 (l.take i)
      have t3 := mk_in 3 (l.take i)
      rw [List.length_take] at t0 t1 t2 t3
      have hM : 0 ≤ m0 ∧ m0 ≤ 100000 ∧ 0 ≤ m1 ∧ m1 ≤ 100000 ∧ 0 ≤ m2 ∧ m2 ≤ 100000 ∧ 0 ≤ m3 ∧ m3 ≤ 100000 := by omega
      clear t0 t1 t2 t3
      have p1 : 0 ≤ (i : Int) := by omega
      have q1 : (i : Int) < (l.length : Int) := by omega
      obtain ⟨ad, ea, hx⟩ := Kd.at_int (Kd.R_reads' HR.out).2.2 (i : Int) p1 q1
      cases ea
      rw [Int.toNat_natCast] at hx
      replace p1 := eq_true p1
      replace q1 := eq_true q1
      have c0 := (blk_cell HG1.out 0).trans rfl
      have c1 := (blk_cell HG1.out 1).trans rfl
      have c2 := (blk_cell HG1.out 2).trans rfl
      have c3 := (blk_cell HG1.out 3).trans rfl
      have f0 := blk_frozen HG1.out 0
      have f1 := blk_frozen HG1.out 1
      have f2 := blk_frozen HG1.out 2
      have f3 := blk_frozen HG1.out 3
      have h5 : K = 0 ∨ K = 1 ∨ K = 2 ∨ K = 3 ∨ K = 4 := by omega
      rcases h5 with rfl | rfl | rfl | rfl | rfl
      · simp only [show ∀ x : Int, (x = x) = True from fun x => eq_true rfl, if_true, show ((0:Int) = 1) = False by decide, show ((0:Int) = 2) = False by decide, show ((0:Int) = 3) = False by decide, show ((1:Int) = 0) = False by decide, show ((1:Int) = 2) = False by decide, show ((1:Int) = 3) = False by decide, show ((2:Int) = 0) = False by decide, show ((2:Int) = 1) = False by decide, show ((2:Int) = 3) = False by decide, show ((3:Int) = 0) = False by decide, show ((3:Int) = 1) = False by decide, show ((3:Int) = 2) = False by decide, show ((4:Int) = 0) = False by decide, show ((4:Int) = 1) = False by decide, show ((4:Int) = 2) = False by decide, show ((4:Int) = 3) = False by decide, if_false] at s0 s1 s2 s3
        have HC := Aside0.mk (show m0 + 1 = mk 0 (l.take (i + 1)) ∧ m1 = mk 1 (l.take (i + 1)) ∧ m2 = mk 2 (l.take (i + 1)) ∧ m3 = mk 3 (l.take (i + 1)) by omega)
        have HK := Aside0.mk hK
        have b1 : 0 ≤ m0 := by omega
        have b2 : m0 ≤ 100000 := by omega
        clear hK hm hkd s0 s1 s2 s3 hM HM
        go_wp2_with fail
        refine (RKind.calls (rd l (i : Int)) _).mono ?_
        rintro e w' ⟨rfl, ⟨nd, rfl⟩⟩
        rw [← HK.out]
        go_wp2
        go_roundw
        case rel => exact ⟨i + 1, m0 + 1, m1, m2, m3, by go_num, HC, ⟨blk_far (blk_drewN HG0.out nd) (by show w.heap.size ≠ w.heap.size + 1; omega) _⟩, ⟨blk_put (blk_drewN HG1.out nd) 0 _ rfl⟩, ⟨Kd.R_set (Kd.R_drewN HR.out nd) (blk_drewN HG1.out nd) (by decide) 0 _⟩, ⟨below_set (pw_below_drewN HB.out nd) (by omega)⟩, by omega⟩
        case measure => simp [intOf]; omega
      · simp only [show ∀ x : Int, (x = x) = True from fun x => eq_true rfl, if_true, show ((0:Int) = 1) = False by decide, show ((0:Int) = 2) = False by decide, show ((0:Int) = 3) = False by decide, show ((1:Int) = 0) = False by decide, show ((1:Int) = 2) = False by decide, show ((1:Int) = 3) = False by decide, show ((2:Int) = 0) = False by decide, show ((2:Int) = 1) = False by decide, show ((2:Int) = 3) = False by decide, show ((3:Int) = 0) = False by decide, show ((3:Int) = 1) = False by decide, show ((3:Int) = 2) = False by decide, show ((4:Int) = 0) = False by decide, show ((4:Int) = 1) = False by decide, show ((4:Int) = 2) = False by decide, show ((4:Int) = 3) = False by decide, if_false] at s0 s1 s2 s3
        have HC := Aside0.mk (show m0 = mk 0 (l.take (i + 1)) ∧ m1 + 1 = mk 1 (l.take (i + 1)) ∧ m2 = mk 2 (l.take (i + 1)) ∧ m3 = mk 3 (l.take (i + 1)) by omega)
        have HK := Aside0.mk hK
        have b1 : 0 ≤ m1 := by omega
        have b2 : m1 ≤ 100000 := by omega
        clear hK hm hkd s0 s1 s2 s3 hM HM
        go_wp2_with fail
        refine (RKind.calls (rd l (i : Int)) _).mono ?_
        rintro e w' ⟨rfl, ⟨nd, rfl⟩⟩
        rw [← HK.out]
        go_wp2
        go_roundw
        case rel => exact ⟨i + 1, m0, m1 + 1, m2, m3, by go_num, HC, ⟨blk_far (blk_drewN HG0.out nd) (by show w.heap.size ≠ w.heap.size + 1; omega) _⟩, ⟨blk_put (blk_drewN HG1.out nd) 1 _ rfl⟩, ⟨Kd.R_set (Kd.R_drewN HR.out nd) (blk_drewN HG1.out nd) (by decide) 1 _⟩, ⟨below_set (pw_below_drewN HB.out nd) (by omega)⟩, by omega⟩
        case measure => simp [intOf]; omega
      · simp only [show ∀ x : Int, (x = x) = True from fun x => eq_true rfl, if_true, show ((0:Int) = 1) = False by decide, show ((0:Int) = 2) = False by decide, show ((0:Int) = 3) = False by decide, show ((1:Int) = 0) = False by decide, show ((1:Int) = 2) = False by decide, show ((1:Int) = 3) = False by decide, show ((2:Int) = 0) = False by decide, show ((2:Int) = 1) = False by decide, show ((2:Int) = 3) = False by decide, show ((3:Int) = 0) = False by decide, show ((3:Int) = 1) = False by decide, show ((3:Int) = 2) = False by decide, show ((4:Int) = 0) = False by decide, show ((4:Int) = 1) = False by decide, show ((4:Int) = 2) = False by decide, show ((4:Int) = 3) = False by decide, if_false] at s0 s1 s2 s3
        have HC := Aside0.mk (show m0 = mk 0 (l.take (i + 1)) ∧ m1 = mk 1 (l.take (i + 1)) ∧ m2 + 1 = mk 2 (l.take (i + 1)) ∧ m3 = mk 3 (l.take (i + 1)) by omega)
        have HK := Aside0.mk hK
        have b1 : 0 ≤ m2 := by omega
        have b2 : m2 ≤ 100000 := by omega
        clear hK hm hkd s0 s1 s2 s3 hM HM
        go_wp2_with fail
        refine (RKind.calls (rd l (i : Int)) _).mono ?_
        rintro e w' ⟨rfl, ⟨nd, rfl⟩⟩
        rw [← HK.out]
        go_wp2
        go_roundw
        case rel => exact ⟨i + 1, m0, m1, m2 + 1, m3, by go_num, HC, ⟨blk_far (blk_drewN HG0.out nd) (by show w.heap.size ≠ w.heap.size + 1; omega) _⟩, ⟨blk_put (blk_drewN HG1.out nd) 2 _ rfl⟩, ⟨Kd.R_set (Kd.R_drewN HR.out nd) (blk_drewN HG1.out nd) (by decide) 2 _⟩, ⟨below_set (pw_below_drewN HB.out nd) (by omega)⟩, by omega⟩
        case measure => simp [intOf]; omega
      · simp only [show ∀ x : Int, (x = x) = True from fun x => eq_true rfl, if_true, show ((0:Int) = 1) = False by decide, show ((0:Int) = 2) = False by decide, show ((0:Int) = 3) = False by decide, show ((1:Int) = 0) = False by decide, show ((1:Int) = 2) = False by decide, show ((1:Int) = 3) = False by decide, show ((2:Int) = 0) = False by decide, show ((2:Int) = 1) = False by decide, show ((2:Int) = 3) = False by decide, show ((3:Int) = 0) = False by decide, show ((3:Int) = 1) = False by decide, show ((3:Int) = 2) = False by decide, show ((4:Int) = 0) = False by decide, show ((4:Int) = 1) = False by decide, show ((4:Int) = 2) = False by decide, show ((4:Int) = 3) = False by decide, if_false] at s0 s1 s2 s3
        have HC := Aside0.mk (show m0 = mk 0 (l.take (i + 1)) ∧ m1 = mk 1 (l.take (i + 1)) ∧ m2 = mk 2 (l.take (i + 1)) ∧ m3 + 1 = mk 3 (l.take (i + 1)) by omega)
        have HK := Aside0.mk hK
        have b1 : 0 ≤ m3 := by omega
        have b2 : m3 ≤ 100000 := by omega
        clear hK hm hkd s0 s1 s2 s3 hM HM
        go_wp2_with fail
        refine (RKind.calls (rd l (i : Int)) _).mono ?_
        rintro e w' ⟨rfl, ⟨nd, rfl⟩⟩
        rw [← HK.out]
        go_wp2
        go_roundw
        case rel => exact ⟨i + 1, m0, m1, m2, m3 + 1, by go_num, HC, ⟨blk_far (blk_drewN HG0.out nd) (by show w.heap.size ≠ w.heap.size + 1; omega) _⟩, ⟨blk_put (blk_drewN HG1.out nd) 3 _ rfl⟩, ⟨Kd.R_set (Kd.R_drewN HR.out nd) (blk_drewN HG1.out nd) (by decide) 3 _⟩, ⟨below_set (pw_below_drewN HB.out nd) (by omega)⟩, by omega⟩
        case measure => simp [intOf]; omega
      · simp only [show ∀ x : Int, (x = x) = True from fun x => eq_true rfl, if_true, show ((0:Int) = 1) = False by decide, show ((0:Int) = 2) = False by decide, show ((0:Int) = 3) = False by decide, show ((1:Int) = 0) = False by decide, show ((1:Int) = 2) = False by decide, show ((1:Int) = 3) = False by decide, show ((2:Int) = 0) = False by decide, show ((2:Int) = 1) = False by decide, show ((2:Int) = 3) = False by decide, show ((3:Int) = 0) = False by decide, show ((3:Int) = 1) = False by decide, show ((3:Int) = 2) = False by decide, show ((4:Int) = 0) = False by decide, show ((4:Int) = 1) = False by decide, show ((4:Int) = 2) = False by decide, show ((4:Int) = 3) = False by decide, if_false] at s0 s1 s2 s3
        have HC := Aside0.mk (show m0 = mk 0 (l.take (i + 1)) ∧ m1 = mk 1 (l.take (i + 1)) ∧ m2 = mk 2 (l.take (i + 1)) ∧ m3 = mk 3 (l.take (i + 1)) by omega)
        have HK := Aside0.mk hK
        clear hK hm hkd s0 s1 s2 s3 hM HM
        go_wp2_with fail
        refine (RKind.calls (rd l (i : Int)) _).mono ?_
        rintro e w' ⟨rfl, ⟨nd, rfl⟩⟩
        rw [← HK.out]
        go_wp2
        go_roundw
        case rel => exact ⟨i + 1, m0, m1, m2, m3, by go_num, HC, ⟨blk_drewN HG0.out nd⟩, ⟨blk_drewN HG1.out nd⟩, ⟨Kd.R_drewN HR.out nd⟩, ⟨pw_below_drewN HB.out nd⟩, by omega⟩
        case measure => simp [intOf]; omega
    · have hib : decide ((i : Int) < (l.length : Int)) = false := decide_eq_false (by omega)
      have hm := HM.out
      rw [show l.take i = l from List.take_of_length_le (by omega)] at hm
      have HM2 := Aside0.mk hm
      clear hm HM
      have c0 := (blk_cell HG1.out 0).trans rfl
      have c1 := (blk_cell HG1.out 1).trans rfl
      have c2 := (blk_cell HG1.out 2).trans rfl
      have c3 := (blk_cell HG1.out 3).trans rfl
      have u0 := HG0.out
      have u1 := blk_put u0 0 (.int .i64 m0) rfl
      have u2 := blk_put u1 1 (.int .i64 m1) rfl
      have u3 := blk_put u2 2 (.int .i64 m2) rfl
      have f0 := blk_frozen u0 0
      have f1 := blk_frozen u1 1
      have f2 := blk_frozen u2 2
      have f3 := blk_frozen u3 3
      have d0 := (blk_cell u0 0).trans rfl
      have d1 := (blk_cell u1 1).trans rfl
      have d2 := (blk_cell u2 2).trans rfl
      have d3 := (blk_cell u3 3).trans rfl
      clear u0 u1 u2 u3
      go_wp2
      (try simp only [Exit.inBlock, Exit.then])
      refine bodyPost_ret (results_cell_row rfl _ _ w.heap.size 56 #[.int .i64 m0, .int .i64 m1, .int .i64 m2, .int .i64 m3] (0, 0) _ rfl (blk_put (blk_put (blk_put (blk_put HG0.out 0 _ rfl) 1 _ rfl) 2 _ rfl) 3 _ rfl) Try.underlying56 rfl (by kernel_rfl)) rfl ?_
      obtain ⟨e0, e1, e2, e3⟩ := HM2.out
      exact ⟨by rw [HLR.out, e0, e1, e2, e3], below_set (below_set (below_set (below_set HB.out (Nat.le_refl _)) (Nat.le_refl _)) (Nat.le_refl _)) (Nat.le_refl _)⟩
end Go.Proofs.Ytenaggpgblaalaa.Label
