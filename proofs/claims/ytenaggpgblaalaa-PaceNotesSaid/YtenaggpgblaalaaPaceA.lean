/- The contracts of the pace's methods: what each returns, and what its three numbers are behind it. No condition but that the pace's block is there. -/
import Derived.Test.YtenaggpgblaalaaPPaceNotesx1
import Derived.Laws.LoneSync
namespace Go.Proofs.Ytenaggpgblaalaa.Pace
open Go.RowKit Go.Proofs.Ytenaggpgblaalaa.PPaceNotes Go.Proofs.YtenaggpgblaalaaW.PrintWords Go.Proofs.YtenaggpgblaalaaW.PrintLast Go.Proofs.YtenaggpgblaalaaW.PrintMore
set_option linter.unusedVariables false
set_option linter.unusedSimpArgs false

/-- The pace's block: its limit, its count, how often it began anew. -/
def PB (w : World) (g : Nat) (L C T : Int) : Prop := w.heap[g]? = some (.cells #[.int .i64 L, .int .i64 C, .int .i64 T] 93 (0, 0))
theorem PB.below {w w1 : World} {g : Nat} {L C T : Int} (h : PB w g L C T) (hb : Below w.heap.size w w1) : PB w1 g L C T := blk_below h hb
theorem PB.c0 {w : World} {g : Nat} {L C T : Int} (h : PB w g L C T) : w.cell? ⟨g, 0, none⟩ = some (.int .i64 L) := (blk_cell h 0).trans rfl
theorem PB.c1 {w : World} {g : Nat} {L C T : Int} (h : PB w g L C T) : w.cell? ⟨g, 1, none⟩ = some (.int .i64 C) := (blk_cell h 1).trans rfl
theorem PB.c2 {w : World} {g : Nat} {L C T : Int} (h : PB w g L C T) : w.cell? ⟨g, 2, none⟩ = some (.int .i64 T) := (blk_cell h 2).trans rfl
theorem PB.f {w : World} {g : Nat} {L C T : Int} (h : PB w g L C T) (i : Nat) : w.frozen? ⟨g, i, none⟩ = false := blk_frozen h i
theorem PB.s0 {w : World} {g : Nat} {L C T : Int} (h : PB w g L C T) (x : Int) : PB (w.setCell ⟨g, 0, none⟩ (.int .i64 x)) g x C T := blk_put h 0 _ rfl
theorem PB.s1 {w : World} {g : Nat} {L C T : Int} (h : PB w g L C T) (x : Int) : PB (w.setCell ⟨g, 1, none⟩ (.int .i64 x)) g L x T := blk_put h 1 _ rfl
theorem PB.s2 {w : World} {g : Nat} {L C T : Int} (h : PB w g L C T) (x : Int) : PB (w.setCell ⟨g, 2, none⟩ (.int .i64 x)) g L C x := blk_put h 2 _ rfl
theorem PB.d {w : World} {g : Nat} {L C T : Int} (h : PB w g L C T) : PB w.drew g L C T := h
theorem grown_set (w : World) (g j : Nat) (v : Value) : w.grownBy (w.setCell ⟨g, j, none⟩ v) (some g) := by
  exact ⟨(Below.refl 0 w |>.setCell (Nat.zero_le _) v).os, (Below.refl 0 w |>.setCell (p := ⟨g, j, none⟩) (Nat.zero_le _) v).tape, (Below.refl 0 w |>.setCell (p := ⟨g, j, none⟩) (Nat.zero_le _) v).output, (Below.refl 0 w |>.setCell (p := ⟨g, j, none⟩) (Nat.zero_le _) v).size, fun i _ hi => Below.heap_setCell w ⟨g, j, none⟩ v i (fun e => hi (congrArg some e))⟩

theorem grown_drewN {w w' : World} {r : Option Nat} (h : w.grownBy w' r) (n : Nat) : w.grownBy (w'.drewN n) r := ⟨h.os, h.tape, h.output, h.size, h.block⟩
theorem grown_trans {a b c : World} {r : Option Nat} (h : a.grownBy b r) (k : b.grownBy c r) : a.grownBy c r :=
  ⟨k.os.trans h.os, k.tape.trans h.tape, k.output.trans h.output, Nat.le_trans h.size k.size, fun i hi hr => (k.block i (Nat.lt_of_lt_of_le hi h.size) hr).trans (h.block i hi hr)⟩
theorem grown_below {a b c : World} {r : Option Nat} (h : a.grownBy b r) (k : Below b.heap.size b c) : a.grownBy c r :=
  ⟨k.os.trans h.os, k.tape.trans h.tape, k.output.trans h.output, Nat.le_trans h.size k.size, fun i hi hr => (k.block i (Nat.lt_of_lt_of_le hi h.size)).trans (h.block i hi hr)⟩
theorem Load.calls (g : Nat) (x : Int) (w : World) (h2 : w.cell? ⟨g, 2, none⟩ = some (.int .i64 x)) :
    Calls Try.prog 81 #[.pointer (some ⟨g, 2, none⟩)] w fun e w' => e = .returned (.int .i64 x) ∧ w' = w := by
  have hld := run_call_load (P := Try.prog) Try.func89 (by kernel_rfl) (by kernel_rfl) (by kernel_rfl) .i64 (by kernel_rfl) h2
  go_enter Try.func81, Try.ntmps81
  go_wp2
  go_ret
  exact ⟨rfl, rfl⟩
theorem Add.calls (g : Nat) (x y : Int) (w : World) (h2 : w.cell? ⟨g, 2, none⟩ = some (.int .i64 x)) (hf : w.frozen? ⟨g, 2, none⟩ = false) :
    Calls Try.prog 83 #[.pointer (some ⟨g, 2, none⟩), .int .i64 y] w fun e w' => e = .returned (.int .i64 (wrap64 (x + y))) ∧ w' = w.setCell ⟨g, 2, none⟩ (.int .i64 (wrap64 (x + y))) := by
  have had := run_call_add (P := Try.prog) Try.func90 (by kernel_rfl) (by kernel_rfl) (by kernel_rfl) .i64 (by kernel_rfl) (x := x) (y := y) (s := wrap64 (x + y)) h2 hf (by simp [go_sem, wrap64, IntKind.wrap_i64])
  go_enter Try.func83, Try.ntmps83
  go_wp2
  go_ret
  exact ⟨rfl, rfl⟩
theorem Times.calls (g : Nat) (L C T : Int) (w : World) (h : PB w g L C T) :
    Calls Try.prog 43 #[.pointer (some ⟨g, 0, none⟩)] w fun e w' => e = .returned (.int .i64 T) ∧ w' = w := by
  have h2 := h.c2
  have HP := Aside0.mk h
  clear h
  go_enter Try.func43, Try.ntmps43
  go_wp2_with fail
  refine (Load.calls g T w h2).mono ?_
  rintro e w' ⟨rfl, rfl⟩
  go_wp2
  go_ret
  exact ⟨rfl, rfl⟩
theorem Times.nil (w : World) : Calls Try.prog 43 #[.pointer none] w fun e w' => e = .returned (.int .i64 0) ∧ w' = w := by
  go_enter Try.func43, Try.ntmps43
  go_wp2
  go_ret
  exact ⟨rfl, rfl⟩
theorem Limit.calls (g : Nat) (L C T : Int) (w : World) (h : PB w g L C T) :
    Calls Try.prog 44 #[.pointer (some ⟨g, 0, none⟩)] w fun e w' => e = .returned (.int .i64 L) ∧ w' = w := by
  have h0 := h.c0
  clear h
  go_enter Try.func44, Try.ntmps44
  go_wp2
  go_ret
  exact ⟨rfl, rfl⟩
theorem Limit.nil (w : World) : Calls Try.prog 44 #[.pointer none] w fun e w' => e = .returned (.int .i64 0) ∧ w' = w := by
  go_enter Try.func44, Try.ntmps44
  go_wp2
  go_ret
  exact ⟨rfl, rfl⟩
theorem Count.calls (g : Nat) (L C T : Int) (w : World) (h : PB w g L C T) :
    Calls Try.prog 58 #[.pointer (some ⟨g, 0, none⟩)] w fun e w' => e = .returned (.int .i64 C) ∧ w' = w := by
  have h1 := h.c1
  clear h
  go_enter Try.func58, Try.ntmps58
  go_wp2
  go_ret
  exact ⟨rfl, rfl⟩
theorem Count.nil (w : World) : Calls Try.prog 58 #[.pointer none] w fun e w' => e = .returned (.int .i64 0) ∧ w' = w := by
  go_enter Try.func58, Try.ntmps58
  go_wp2
  go_ret
  exact ⟨rfl, rfl⟩
theorem Note.nil (w : World) : Calls Try.prog 45 #[.pointer none] w fun e w' => e = .returned (.bool false) ∧ w' = w := by
  go_enter Try.func45, Try.ntmps45
  go_wp2
  go_ret
  exact ⟨rfl, rfl⟩
theorem New.calls (b L : Int) (w : World) (h : pace_first.f b = some L) :
    Calls Try.prog 42 #[.int .i64 b] w fun e w' => ∃ g : Nat, e = .returned (.pointer (some ⟨g, 0, none⟩)) ∧ PB w' g L 0 0 ∧ w.heap.size ≤ g ∧ Below w.heap.size w w' := by
  have hu93 := Try.underlying93
  go_enter Try.func42, Try.ntmps42
  go_wp2_with fail
  refine (pace_first.calls b L w h).mono ?_
  rintro e w1 ⟨rfl, hb⟩
  have HB := Aside0.mk hb
  clear hb
  go_wp2
  go_ret
  exact ⟨w1.heap.size, rfl, blk_new w1 _, below_size HB.out, below_alloc HB.out _⟩
theorem Note.keep (g : Nat) (L C T : Int) (w : World) (h : PB w g L C T) (hc0 : 0 ≤ C) (hc1 : C ≤ 4611686018427387904) (hlt : C + 1 < L) :
    Calls Try.prog 45 #[.pointer (some ⟨g, 0, none⟩)] w fun e w' => e = .returned (.bool false) ∧ PB w' g L (C + 1) T ∧ w.grownBy w' (some g) := by
  have h0 := h.c0
  have h1 := h.c1
  have f1 := h.f 1
  have HP := Aside0.mk h
  have hd : decide (C + 1 < L) = true := decide_eq_true hlt
  clear h
  go_enter Try.func45, Try.ntmps45
  go_wp2
  go_quiet (fail)
  go_wp2
  go_ret
  exact ⟨rfl, HP.out.s1 (C + 1), grown_drewN (grown_set w g 1 (.int .i64 (C + 1))) nq⟩
set_option maxHeartbeats 1000000 in
theorem Note.anew (k : Nat) (g : Nat) (L C T L' : Int) (w : World) (h : PB w g L C T) (hc0 : 0 ≤ C) (hc1 : C ≤ 4611686018427387904) (hT0 : 0 ≤ T) (hT1 : T ≤ 4611686018427387904) (hge : ¬ C + 1 < L) (hn : pace_next.f k L = some L') :
    Calls Try.prog 45 #[.pointer (some ⟨g, 0, none⟩)] w fun e w' => e = .returned (.bool true) ∧ PB w' g L' 0 (T + 1) ∧ w.grownBy w' (some g) := by
  have h0 := h.c0
  have h1 := h.c1
  have f1 := h.f 1
  have HP := Aside0.mk h
  have HN := Aside0.mk hn
  have hd : decide (C + 1 < L) = false := decide_eq_false hge
  clear h hn hge
  go_enter Try.func45, Try.ntmps45
  go_wp2
  go_quiet (fail)
  go_wp2_with fail
  refine (pace_next.calls k L L' _ HN.out).mono ?_
  rintro e w2 ⟨rfl, hb⟩
  have hp2 : PB w2 g L (C + 1) T := PB.below (w := (w.setCell ⟨g, 1, none⟩ (.int .i64 (C + 1))).drewN nq) (HP.out.s1 (C + 1)) hb
  have hg2 : w.grownBy w2 (some g) := grown_below (grown_drewN (grown_set w g 1 (.int .i64 (C + 1))) nq) hb
  have HP2 := Aside0.mk hp2
  have HG2 := Aside0.mk hg2
  have k0 := hp2.c0
  have k1 := hp2.c1
  have e0 := hp2.f 0
  have e1 := hp2.f 1
  clear hp2 hg2 hb h0 h1 f1 HP
  go_wp2_with fail
  have hp3 : PB ((w2.setCell ⟨g, 1, none⟩ (.int .i64 0)).setCell ⟨g, 0, none⟩ (.int .i64 L')) g L' 0 T := (HP2.out.s1 0).s0 L'
  refine (Add.calls g T 1 _ hp3.c2 (hp3.f 2)).mono ?_
  rintro e w4 ⟨rfl, rfl⟩
  have hw : wrap64 (T + 1) = T + 1 := by unfold wrap64; omega
  have hp4 := hp3.s2 (T + 1)
  rw [hw]
  have HP4 := Aside0.mk hp4
  have HG4 := Aside0.mk (grown_trans (grown_trans (grown_trans HG2.out (grown_set w2 g 1 (.int .i64 0))) (grown_set _ g 0 (.int .i64 L'))) (grown_set _ g 2 (.int .i64 (T + 1))))
  clear hp3 hp4 hw k0 k1 e0 e1
  go_wp2
  go_ret
  exact ⟨rfl, HP4.out, HG4.out⟩
end Go.Proofs.Ytenaggpgblaalaa.Pace
