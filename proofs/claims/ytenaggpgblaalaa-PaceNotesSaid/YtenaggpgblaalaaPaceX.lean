/- The contract of the reference's Note. No condition but that its block is there. -/
import Derived.Test.YtenaggpgblaalaaPaceSums
namespace Go.Proofs.Ytenaggpgblaalaa.Pace
open Go.RowKit Go.Proofs.Ytenaggpgblaalaa.PPaceNotes Go.Proofs.YtenaggpgblaalaaW.PrintWords Go.Proofs.YtenaggpgblaalaaW.PrintLast Go.Proofs.YtenaggpgblaalaaW.PrintMore
open Plain (hold lim su nx lim_in lim_ge su_in su_300 Paced)
set_option linter.unusedVariables false
set_option linter.unusedSimpArgs false

/-- The reference's block: limit, count, times. -/
def XB (w : World) (g : Nat) (L C T : Int) : Prop := w.heap[g]? = some (.cells #[.int .i64 L, .int .i64 C, .int .i64 T] 61 (0, 0))
theorem XB.below {w w1 : World} {g : Nat} {L C T : Int} (h : XB w g L C T) (hb : Below w.heap.size w w1) : XB w1 g L C T := blk_below h hb
theorem XB.grown {w w1 : World} {g g' : Nat} {L C T : Int} (h : XB w g L C T) (hb : w.grownBy w1 (some g')) (hne : g ≠ g') : XB w1 g L C T := blk_grown h hb (fun e => hne (by injection e))
theorem PB.grown {w w1 : World} {g g' : Nat} {L C T : Int} (h : PB w g L C T) (hb : w.grownBy w1 (some g')) (hne : g ≠ g') : PB w1 g L C T := blk_grown h hb (fun e => hne (by injection e))
theorem XB.c0 {w : World} {g : Nat} {L C T : Int} (h : XB w g L C T) : w.cell? ⟨g, 0, none⟩ = some (.int .i64 L) := (blk_cell h 0).trans rfl
theorem XB.c1 {w : World} {g : Nat} {L C T : Int} (h : XB w g L C T) : w.cell? ⟨g, 1, none⟩ = some (.int .i64 C) := (blk_cell h 1).trans rfl
theorem XB.c2 {w : World} {g : Nat} {L C T : Int} (h : XB w g L C T) : w.cell? ⟨g, 2, none⟩ = some (.int .i64 T) := (blk_cell h 2).trans rfl
theorem XB.f {w : World} {g : Nat} {L C T : Int} (h : XB w g L C T) (i : Nat) : w.frozen? ⟨g, i, none⟩ = false := blk_frozen h i
theorem XB.s0 {w : World} {g : Nat} {L C T : Int} (h : XB w g L C T) (x : Int) : XB (w.setCell ⟨g, 0, none⟩ (.int .i64 x)) g x C T := blk_put h 0 _ rfl
theorem XB.s1 {w : World} {g : Nat} {L C T : Int} (h : XB w g L C T) (x : Int) : XB (w.setCell ⟨g, 1, none⟩ (.int .i64 x)) g L x T := blk_put h 1 _ rfl
theorem XB.s2 {w : World} {g : Nat} {L C T : Int} (h : XB w g L C T) (x : Int) : XB (w.setCell ⟨g, 2, none⟩ (.int .i64 x)) g L C x := blk_put h 2 _ rfl
theorem XB.dn {w : World} {g : Nat} {L C T : Int} (h : XB w g L C T) (n : Nat) : XB (w.drewN n) g L C T := h
theorem XNote.keep (g : Nat) (L C T : Int) (w : World) (h : XB w g L C T) (hc0 : 0 ≤ C) (hc1 : C ≤ 4611686018427387904) (hlt : C + 1 < L) :
    Calls Try.prog 57 #[.pointer (some ⟨g, 0, none⟩)] w fun e w' => e = .returned (.bool false) ∧ XB w' g L (C + 1) T ∧ w.grownBy w' (some g) := by
  have h0 := h.c0
  have h1 := h.c1
  have f1 := h.f 1
  have HP := Aside0.mk h
  have hd : decide (C + 1 < L) = true := decide_eq_true hlt
  clear h
  go_enter Try.func57, Try.ntmps57
  go_wp2
  go_quiet (fail)
  go_wp2
  go_ret
  exact ⟨rfl, HP.out.s1 (C + 1), grown_drewN (grown_set w g 1 (.int .i64 (C + 1))) nq⟩
def XN.T6 : Bool × List (List Nat × List Nat) := (true, [([], []), ([], []), ([1], [1]), ([2], [2]), ([3], [3]), ([], []), ([5], [5]), ([6], [6]), ([7], [7]), ([8], [8]), ([4, 9], [4, 9]), ([10], [10]), ([11], [11]), ([0, 0, 1, 2, 3, 4, 5, 6, 7, 8, 9, 10, 11, 12], [0]), ([13, 0, 1, 2, 3, 4, 5, 6, 7, 8, 9, 10, 11, 12], [13]), ([14, 12, 12, 0, 1, 2, 3, 4, 5, 6, 7, 8, 9, 10, 11, 12], [12, 14])])
def XN.B6 : List Nat := [0, 0, 2, 6, 14, 0, 32, 96, 224, 480, 1022, 2046, 4094, 8191, 16383, 32767]
theorem XN.tab6 : rtab .any (opsOf Try.f57 6) = XN.T6 := by kernel_rfl
theorem XN.bits6 : waitsOk XN.T6.2 XN.B6 = true := by kernel_rfl
theorem nx_eq (L : Int) : hold (L + L / 2 + 1) = nx L := by unfold nx; rfl
set_option maxHeartbeats 1000000 in
set_option maxRecDepth 100000 in
theorem XNote.anew (g : Nat) (L C T : Int) (w : World) (h : XB w g L C T) (hL0 : 1 ≤ L) (hL1 : L ≤ 1099511627776) (hc0 : 0 ≤ C) (hc1 : C ≤ 4611686018427387904) (hT0 : 0 ≤ T) (hT1 : T ≤ 4611686018427387904) (hge : ¬ C + 1 < L) :
    Calls Try.prog 57 #[.pointer (some ⟨g, 0, none⟩)] w fun e w' => e = .returned (.bool true) ∧ XB w' g (nx L) 0 (T + 1) ∧ w.grownBy w' (some g) := by
  have h0 := h.c0
  have h1 := h.c1
  have h2 := h.c2
  have f1 := h.f 1
  have f2 := h.f 2
  have HP := Aside0.mk h
  have hd : decide (C + 1 < L) = false := decide_eq_false hge
  clear h hge
  go_enter Try.func57, Try.ntmps57
  go_wp2
  go_quiet (fail)
  go_wp2
  have k0 : IntKind.i64.wrap (L + L / 2) = L + L / 2 := by rw [IntKind.wrap_i64]; omega
  have k1 : IntKind.i64.wrap (L + L / 2 + 1) = L + L / 2 + 1 := by rw [IntKind.wrap_i64]; omega
  have k2 : IntKind.i64.wrap (L / 2) = L / 2 := by rw [IntKind.wrap_i64]; omega
  have k3 : L.tdiv 2 = L / 2 := by rw [Int.tdiv_eq_ediv_of_nonneg (by omega)]
  have hp2 := ((HP.out.s1 (C + 1)).dn nq).s1 0 |>.s2 (T + 1)
  have hg2 := grown_trans (grown_trans (grown_drewN (grown_set w g 1 (.int .i64 (C + 1))) nq) (grown_set _ g 1 (.int .i64 0))) (grown_set _ g 2 (.int .i64 (T + 1)))
  generalize (((w.setCell ⟨g, 1, none⟩ (.int .i64 (C + 1))).drewN nq).setCell ⟨g, 1, none⟩ (.int .i64 0)).setCell ⟨g, 2, none⟩ (.int .i64 (T + 1)) = W2 at hp2 hg2 ⊢
  have HP3 := Aside0.mk (show XB W2.drew g L 0 (T + 1) from hp2)
  have HG3 := Aside0.mk (show w.grownBy W2.drew (some g) from grown_drewN hg2 1)
  clear hp2 hg2 h0 h1 h2 f1 f2 HP hd
  refine start_ (n := 16) (S := fun w' => w'.cell? ⟨g, 0, none⟩ = some (.int .i64 L)) (ds := [15]) #[false, false, false, false, false, false, false, false, false, false, false, false, false, false, false, false] (by kernel_rfl) rfl rfl (HP3.out.c0) (fun hHeld => ?_)
  refine with_tabW XN.tab6 XN.bits6 (fun HT_ HW_ => ?_)
  generalize W2.drew = W3 at HP3 HG3 hHeld ⊢
  refine pure_ (i := 0) (N := some 31) (v := ?_) (a' := ?_) #[true, false, false, false, false, false, false, false, false, false, false, false, false, false, false, false] rfl rfl (any_of HT_.out (by kernel_rfl)) (fun _ _ _ h => h) (Or.inl ⟨by rfl, ?_⟩) ?_ ?_
  rotate_left
  · intro w'
    go_simp
    with_reducible rfl
  rotate_left
  · simp only [Act.put, List.setIfInBounds_toArray, List.set_cons_zero, List.set_cons_succ, i64_w, i32_w]
    rfl
  refine pure_ (i := 1) (N := some 32) (v := ?_) (a' := ?_) #[true, true, false, false, false, false, false, false, false, false, false, false, false, false, false, false] rfl rfl (any_of HT_.out (by kernel_rfl)) (fun _ _ _ h => h) (Or.inl ⟨by rfl, ?_⟩) ?_ ?_
  rotate_left
  · intro w'
    go_simp
    with_reducible rfl
  rotate_left
  · simp only [Act.put, List.setIfInBounds_toArray, List.set_cons_zero, List.set_cons_succ, i64_w, i32_w]
    rfl
  refine pure_ (i := 2) (N := some 33) (v := ?_) (a' := ?_) #[true, true, true, false, false, false, false, false, false, false, false, false, false, false, false, false] rfl rfl (any_of HT_.out (by kernel_rfl)) (fun _ _ _ h => h) (Or.inl ⟨by rfl, ?_⟩) ?_ ?_
  rotate_left
  · intro w'
    go_simp
    with_reducible rfl
  rotate_left
  · simp only [Act.put, List.setIfInBounds_toArray, List.set_cons_zero, List.set_cons_succ, i64_w, i32_w]
    rfl
  refine pure_ (i := 3) (N := some 34) (v := ?_) (a' := ?_) #[true, true, true, true, false, false, false, false, false, false, false, false, false, false, false, false] rfl rfl (any_of HT_.out (by kernel_rfl)) (fun _ _ _ h => h) (Or.inl ⟨by rfl, ?_⟩) ?_ ?_
  rotate_left
  · intro w'
    go_simp
    with_reducible rfl
  rotate_left
  · simp only [Act.put, List.setIfInBounds_toArray, List.set_cons_zero, List.set_cons_succ, i64_w, i32_w]
    rfl
  refine pure_ (i := 5) (N := some 36) (v := ?_) (a' := ?_) #[true, true, true, true, false, true, false, false, false, false, false, false, false, false, false, false] rfl rfl (any_of HT_.out (by kernel_rfl)) (fun _ _ _ h => h) (Or.inl ⟨by rfl, ?_⟩) ?_ ?_
  rotate_left
  · intro w'
    go_simp
    with_reducible rfl
  rotate_left
  · simp only [Act.put, List.setIfInBounds_toArray, List.set_cons_zero, List.set_cons_succ, i64_w, i32_w]
    rfl
  refine pure_ (i := 6) (N := some 37) (v := ?_) (a' := ?_) #[true, true, true, true, false, true, true, false, false, false, false, false, false, false, false, false] rfl rfl (any_of HT_.out (by kernel_rfl)) (fun _ _ _ h => h) (Or.inl ⟨by rfl, ?_⟩) ?_ ?_
  rotate_left
  · intro w'
    go_simp
    with_reducible rfl
  rotate_left
  · simp only [Act.put, List.setIfInBounds_toArray, List.set_cons_zero, List.set_cons_succ, i64_w, i32_w]
    rfl
  refine pure_ (i := 7) (N := some 38) (v := ?_) (a' := ?_) #[true, true, true, true, false, true, true, true, false, false, false, false, false, false, false, false] rfl rfl (any_of HT_.out (by kernel_rfl)) (fun _ _ _ h => h) (Or.inl ⟨by rfl, ?_⟩) ?_ ?_
  rotate_left
  · intro w'
    go_simp
    with_reducible rfl
  rotate_left
  · simp only [Act.put, List.setIfInBounds_toArray, List.set_cons_zero, List.set_cons_succ, i64_w, i32_w]
    rfl
  refine take_ (i := 4) (N := some 35) (v := ?_) (a' := ?_) #[true, true, true, true, true, true, true, true, false, false, false, false, false, false, false, false] rfl rfl (take_ofW HT_.out HW_.out (by kernel_rfl)) (fun _ _ _ h => h) (Or.inl ⟨by rfl, ?_⟩) hHeld ?_ ?_
  rotate_left
  · intro w' s0
    go_simp
    with_reducible rfl
  rotate_left
  · simp only [Act.put, List.setIfInBounds_toArray, List.set_cons_zero, List.set_cons_succ, i64_w, i32_w]
    rfl
  refine take_ (i := 8) (N := some 39) (v := ?_) (a' := ?_) #[true, true, true, true, true, true, true, true, true, false, false, false, false, false, false, false] rfl rfl (take_ofW HT_.out HW_.out (by kernel_rfl)) (fun _ _ _ h => h) (Or.inl ⟨by rfl, ?_⟩) hHeld ?_ ?_
  rotate_left
  · intro w' s0
    go_simp
    with_reducible rfl
  rotate_left
  · simp only [Act.put, List.setIfInBounds_toArray, List.set_cons_zero, List.set_cons_succ, i64_w, i32_w]
    rfl
  refine pure_ (i := 9) (N := some 40) (v := ?_) (a' := ?_) #[true, true, true, true, true, true, true, true, true, true, false, false, false, false, false, false] rfl rfl (any_of HT_.out (by kernel_rfl)) (fun _ _ _ h => h) (Or.inl ⟨by rfl, ?_⟩) ?_ ?_
  rotate_left
  · intro w'
    go_simp
    with_reducible rfl
  rotate_left
  · simp only [Act.put, List.setIfInBounds_toArray, List.set_cons_zero, List.set_cons_succ, i64_w, i32_w]
    rfl
  refine pure_ (i := 10) (N := some 41) (v := ?_) (a' := ?_) #[true, true, true, true, true, true, true, true, true, true, true, false, false, false, false, false] rfl rfl (any_of HT_.out (by kernel_rfl)) (fun _ _ _ h => h) (Or.inl ⟨by rfl, ?_⟩) ?_ ?_
  rotate_left
  · intro w'
    go_simp
    with_reducible rfl
  rotate_left
  · simp only [Act.put, List.setIfInBounds_toArray, List.set_cons_zero, List.set_cons_succ, i64_w, i32_w]
    rfl
  refine pure_ (i := 11) (N := some 42) (v := ?_) (a' := ?_) #[true, true, true, true, true, true, true, true, true, true, true, true, false, false, false, false] rfl rfl (any_of HT_.out (by kernel_rfl)) (fun _ _ _ h => h) (Or.inl ⟨by rfl, ?_⟩) ?_ ?_
  rotate_left
  · intro w'
    go_simp
    with_reducible rfl
  rotate_left
  · simp only [Act.put, List.setIfInBounds_toArray, List.set_cons_zero, List.set_cons_succ, i64_w, i32_w]
    rfl
  refine one_ (i := 12) (N := some 43) #[true, true, true, true, true, true, true, true, true, true, true, true, true, false, false, false] rfl rfl (one_of HT_.out (by kernel_rfl)) (by decide) (fun K hK => ?_)
  refine goes_ Try.func19 (by kernel_rfl) rfl #[.int .i64 (L + L / 2 + 1)] (by rfl) rfl rfl (by (try simp only [List.map_toArray, List.map_cons, List.map_nil]); first | done | rfl) ?_
  with_reducible refine (RHold.calls' (L + L / 2 + 1) _).mono ?_
  rintro e w5 ⟨rfl, hb⟩
  rw [nx_eq L]
  refine ⟨_, rfl, ?_⟩
  have HP5 := Aside0.mk (HP3.out.below hb)
  have HG5 := Aside0.mk (grown_below HG3.out hb)
  clear hb
  refine hK.out _ _ (HP5.out.c0) (fun hHeld => ?_)
  clear hK K
  refine norm_ (a' := ?_) ?_ ?_
  rotate_left
  · show Act.put _ (some 43) _ = _
    simp only [Act.put, List.setIfInBounds_toArray, List.set_cons_zero, List.set_cons_succ, i64_w, i32_w]
    rfl
  refine pure_ (i := 13) (N := some 44) (v := ?_) (a' := ?_) #[true, true, true, true, true, true, true, true, true, true, true, true, true, true, false, false] rfl rfl (any_of HT_.out (by kernel_rfl)) (fun _ _ _ h => h) (Or.inl ⟨by rfl, ?_⟩) ?_ ?_
  rotate_left
  · intro w'
    go_simp
    with_reducible rfl
  rotate_left
  · simp only [Act.put, List.setIfInBounds_toArray, List.set_cons_zero, List.set_cons_succ, i64_w, i32_w]
    rfl
  refine pure_ (i := 14) (N := some 45) (v := ?_) (a' := ?_) #[true, true, true, true, true, true, true, true, true, true, true, true, true, true, true, false] rfl rfl (any_of HT_.out (by kernel_rfl)) (fun _ _ _ h => h) (Or.inl ⟨by rfl, ?_⟩) ?_ ?_
  rotate_left
  · intro w'
    go_simp
    with_reducible rfl
  rotate_left
  · simp only [Act.put, List.setIfInBounds_toArray, List.set_cons_zero, List.set_cons_succ, i64_w, i32_w]
    rfl
  refine last_ (i := 15) (N := none) #[true, true, true, true, true, true, true, true, true, true, true, true, true, true, true, true] rfl rfl (one_of HT_.out (by kernel_rfl)) (by decide) (fun K hK => ?_)
  have f5 := HP5.out.f 0
  have c5 := HP5.out.c0
  refine skip_ (w1 := ?_) (by rfl) rfl ?_ ?_
  rotate_left
  · go_simp
    rfl
  refine hK.out _ _ ?_
  clear hK K
  refine done_ (done_of HT_.out (by kernel_rfl)) ?_

  go_wp2
  go_ret
  exact ⟨rfl, HP5.out.s0 (nx L), grown_trans HG5.out (grown_set _ g 0 (.int .i64 (nx L)))⟩
end Go.Proofs.Ytenaggpgblaalaa.Pace
