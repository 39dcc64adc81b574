/- The reference's Set, Next and Get: their contracts. Condition: at most 100000 names. -/
import Derived.Test.YtenaggpgblaalaaRefXA
namespace Go.Proofs.Ytenaggpgblaalaa.Timer
open Go.RowKit Go.Proofs.Ytenaggpgblaalaa.PTimerPlays Go.Proofs.YtenaggpgblaalaaW.PrintWords Go.Proofs.YtenaggpgblaalaaW.PrintLast Go.Proofs.YtenaggpgblaalaaW.PrintMore
open Plain (wrap_id hold)
set_option linter.unusedVariables false
set_option linter.unusedSimpArgs false

theorem RHold.calls (a : Int) (w : World) : Calls Try.prog 19 #[.int .i64 a] w fun e w' => e = .returned (.int .i64 (hold a)) ∧ Below w.heap.size w w' := by
  refine compradorref04_Hold.calls a (hold a) w ?_
  unfold compradorref04_Hold.f hold
  refine congrArg some ?_
  simp only [mx, mn]
  (repeat' split) <;> omega
section
variable {N0 : Nat} {w : World} {g : Nat} {A : Option Addr} {c : Nat} {M : List S109}
set_option maxHeartbeats 4000000 in
set_option maxRecDepth 100000 in
theorem XSet.calls (h : XS N0 w g M) (hM : M.length ≤ 100000) (x : ByteArray) (at_ : Int) :
    Calls Try.prog 66 #[.pointer (some ⟨g, 0, none⟩), .string x, .int .i64 at_] w fun e w' => e = .returned (.tuple #[]) ∧ XS N0 w' g (outX x M ++ [⟨x, hold at_⟩]) ∧ XTurn N0 g w w' := by
  have H0 := Aside0.mk h
  have HM := Aside0.mk hM
  clear h hM
  go_enter Try.func66, Try.ntmps66
  go_wp2_with fail
  refine (XDrop.calls H0.out HM.out x).mono ?_
  rintro e w1 ⟨rfl, ⟨A, c, h1⟩, hT1⟩
  have H := Aside0.mk h1
  have HT := Aside0.mk hT1
  have hml : (outX x M).length ≤ 100000 := Nat.le_trans (List.length_filter_le _ _) HM.out
  have HML := Aside0.mk hml
  obtain ⟨M1, hM1⟩ : ∃ M1, outX x M = M1 := ⟨_, rfl⟩
  rw [hM1] at H HML
  have HM1 := Aside0.mk hM1
  have r0 := H.out.c0
  clear h1 hT1 hml hM1
  go_wp2_with (first | ((with_reducible refine gate_builtin (b := .append) (xs := #[.tmp 10, .tmp 14]) rfl ?_); at_builtin; refine Kd.R_append_rows k109 (w0 := w1) w1.heap.size rfl (.tmp 10) (.tmp 14) 71 109 (.agg #[.string ⟨#[]⟩, .int .i64 0]) 24 rfl Try.underlying71 info109 rfl (by decide) (by omega) (.slice none 0 0) [] M1 A M1.length c (fun _ => True) (fun _ => False) rfl rfl (Kd.R_nil _ _ _ _ _) (Kd.R_reads' H.out.row).2.2 (fun y cs h => by rw [k109_open h]; exact k109_mkM _ _ _ _) (fun _ hk => hk.elim) (fun _ _ => trivial) (Below.refl _ _) (Nat.le_refl _) (by have := HML.out; simp; omega) ?_; intro v1 w2 hr2 hb2 hg2 hat2; rw [List.nil_append] at hr2))
  have HR2 := Aside0.mk hr2
  have HB2 := Aside0.mk hb2
  obtain ⟨A2, c2, rfl⟩ := Kd.R_slice hr2
  clear hr2 hb2 hg2 hat2
  refine (RHold.calls at_ w2).mono ?_
  rintro e w3 ⟨rfl, hb⟩
  have HR3 := Aside0.mk (Kd.R_below HR2.out hb)
  have HB3 := Aside0.mk (below_step HB2.out hb)
  obtain ⟨hv, hhv⟩ : ∃ v, hold at_ = v := ⟨_, rfl⟩
  rw [hhv]
  have HHV := Aside0.mk hhv
  clear hb HR2 HB2 hhv r0
  go_wp2_with (first | ((with_reducible refine gate_builtin (b := .append) (xs := #[.tmp 16, .tmp 21]) rfl ?_); at_builtin; refine Kd.R_append k109 (w0 := w1) w1.heap.size rfl (.tmp 16) (.tmp 21) 71 109 (.agg #[.string ⟨#[]⟩, .int .i64 0]) 24 rfl Try.underlying71 info109 rfl (by decide) (by omega) (.slice A2 M1.length c2) M1 ⟨x, hv⟩ [.string x, .int .i64 hv] (fun _ => True) (fun _ => False) rfl rfl (k109_mkM _ _ _ _) (fun _ hk => hk.elim) (fun _ _ => trivial) HR3.out HB3.out HB3.out.size (by have := HML.out; omega) ?_; intro v1 w4 hr4 hb4 hg4 hat4; have HR4 := Aside0.mk hr4; have HB4 := Aside0.mk hb4; have s0 := (H.out.below hb4).c0; have s1 := (H.out.below hb4).f 0; obtain ⟨A4, c4, rfl⟩ := Kd.R_slice hr4; clear hr4 hb4 hg4 hat4))
  go_end0
  have hX := H.out.below HB4.out
  refine ⟨rfl, ⟨A4, c4, ?_⟩, (HT.out.trans (XTurn.below HB4.out)).trans (XTurn.set w4 _)⟩
  rw [HM1.out, HHV.out]
  have hr4 := HR4.out
  rw [List.length_append] at hr4
  refine ⟨hX.hg, ?_, ?_⟩
  · rw [List.length_append]
    exact blk_put hX.blk 0 _ rfl
  · rw [List.length_append]
    exact Kd.R_set (Kd.R_lower hr4 (Nat.le_trans H.out.hg (Nat.le_of_lt (blk_lt H.out.blk)))) hX.blk (by decide) 0 _
/-- The least tick, and whether there is one. -/
def nextX : List S109 → Int × Bool
  | [] => (0, false)
  | y :: l => ((l.foldl (fun m z => if z.f1 < m then z.f1 else m) y.f1), true)
theorem next_l (d : Nat) : ∀ (M : List S109) (i k : Nat) (m : Int), M.length = i + d → 0 < i → d + 1 ≤ k → M.length ≤ 100000 → compradorref34_X_Next.l0 k m (i : Int) M = some ((M.drop i).foldl (fun m z => if z.f1 < m then z.f1 else m) m, true) := by
  induction d with
  | zero =>
    intro M i k m h1 h2 h3 h4
    obtain ⟨k', rfl⟩ : ∃ k', k = k' + 1 := ⟨k - 1, by omega⟩
    simp only [compradorref34_X_Next.l0]
    rw [if_neg (by omega), List.drop_eq_nil_of_le (by omega), decide_eq_true (by omega)]
    rfl
  | succ d ih =>
    intro M i k m h1 h2 h3 h4
    obtain ⟨k', rfl⟩ : ∃ k', k = k' + 1 := ⟨k - 1, by omega⟩
    have hi : i < M.length := by omega
    have e2 : rd_T109 M (i : Int) = M[i] := by unfold rd_T109; rw [Int.toNat_natCast]; simp [List.getD, hi]
    have e3 : wrap64 ((i : Int) + 1) = ((i + 1 : Nat) : Int) := by rw [wrap_id (by omega) (by omega)]; rfl
    simp only [compradorref34_X_Next.l0]
    rw [if_pos (by omega), if_neg (by omega), if_pos (by omega), e2, e3, List.drop_eq_getElem_cons hi, List.foldl_cons]
    by_cases h : M[i].f1 < m
    · rw [if_pos h, if_pos h]; exact ih M (i + 1) k' _ (by omega) (by omega) (by omega) h4
    · rw [if_neg h, if_neg h]; exact ih M (i + 1) k' _ (by omega) (by omega) (by omega) h4
theorem next_f (k : Nat) (M : List S109) (h : M.length ≤ 100000) (hk : M.length ≤ k) : compradorref34_X_Next.f (k + 1) M = some ((nextX M).1, (nextX M).2) := by
  unfold compradorref34_X_Next.f
  cases M with
  | nil => rfl
  | cons y l =>
    simp only [compradorref34_X_Next.l0]
    have hl : 0 < (y :: l).length := by simp
    rw [if_pos (by omega), if_pos trivial, if_pos (by omega)]
    have e2 : rd_T109 (y :: l) 0 = y := rfl
    have e3 : wrap64 (0 + 1) = ((1 : Nat) : Int) := by rw [wrap_id (by omega) (by omega)]; rfl
    rw [e2, e3, next_l l.length (y :: l) 1 k y.f1 (by simp; omega) (by omega) (by simp at hk; omega) h]
    rfl
theorem XNext.calls (h : XM N0 w g A c M) (hM : M.length ≤ 100000) : Calls Try.prog 73 #[.agg #[.slice A M.length c]] w fun e w' => e = .returned (.tuple #[.int .i64 (nextX M).1, .bool (nextX M).2]) ∧ Below w.heap.size w w' :=
  compradorref34_X_Next.calls (199999 + 1) A c M _ _ w (Kd.R_reads' h.row).2.2 (Kd.R_reads' h.row).2.1 (next_f 199999 M hM (by omega))
/-- Up to when a name waits. -/
def getX (x : ByteArray) : List S109 → Int × Bool
  | [] => (0, false)
  | y :: l => if y.f0 = x then (y.f1, true) else getX x l
theorem get_l (d : Nat) : ∀ (M : List S109) (x : ByteArray) (i k : Nat), M.length = i + d → d + 1 ≤ k → M.length ≤ 100000 → compradorref34_X_Get.l0 k x (i : Int) M = some ((getX x (M.drop i)).1, (getX x (M.drop i)).2) := by
  induction d with
  | zero =>
    intro M x i k h1 h3 h4
    obtain ⟨k', rfl⟩ : ∃ k', k = k' + 1 := ⟨k - 1, by omega⟩
    simp only [compradorref34_X_Get.l0]
    rw [if_neg (by omega), List.drop_eq_nil_of_le (by omega)]
    rfl
  | succ d ih =>
    intro M x i k h1 h3 h4
    obtain ⟨k', rfl⟩ : ∃ k', k = k' + 1 := ⟨k - 1, by omega⟩
    have hi : i < M.length := by omega
    have e2 : rd_T109 M (i : Int) = M[i] := by unfold rd_T109; rw [Int.toNat_natCast]; simp [List.getD, hi]
    have e3 : wrap64 ((i : Int) + 1) = ((i + 1 : Nat) : Int) := by rw [wrap_id (by omega) (by omega)]; rfl
    simp only [compradorref34_X_Get.l0]
    rw [if_pos (by omega), if_pos (by omega), e2, e3, List.drop_eq_getElem_cons hi]
    unfold getX
    by_cases h : M[i].f0 = x
    · rw [if_pos (by rw [h]), if_pos h]
    · rw [if_neg (toList_ne h), if_neg h]
      exact ih M x (i + 1) k' (by omega) (by omega) h4
theorem XGet.calls (h : XM N0 w g A c M) (hM : M.length ≤ 100000) (x : ByteArray) : Calls Try.prog 75 #[.agg #[.slice A M.length c], .string x] w fun e w' => e = .returned (.tuple #[.int .i64 (getX x M).1, .bool (getX x M).2]) ∧ Below w.heap.size w w' :=
  compradorref34_X_Get.calls 200000 A c M x _ _ w (Kd.R_reads' h.row).2.2 (Kd.R_reads' h.row).2.1 (get_l M.length M x 0 200000 (by omega) (by omega) hM)
end
end Go.Proofs.Ytenaggpgblaalaa.Timer
