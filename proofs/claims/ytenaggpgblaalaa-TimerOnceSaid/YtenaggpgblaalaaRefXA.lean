/- The reference's X: its block and row; its Drop: its contract. Condition: at most 100000 names. -/
import Derived.Test.YtenaggpgblaalaaTimerAwake
import Derived.Lib.Strings
namespace Go.Proofs.Ytenaggpgblaalaa.Timer
open Go.RowKit Go.Proofs.Ytenaggpgblaalaa.PTimerPlays Go.Proofs.YtenaggpgblaalaaW.PrintWords Go.Proofs.YtenaggpgblaalaaW.PrintLast Go.Proofs.YtenaggpgblaalaaW.PrintMore
open Plain (wrap_id hold)
set_option linter.unusedVariables false
set_option linter.unusedSimpArgs false

def im (M : List S109) (i : Nat) : S109 := M.getD i z109
theorem im_eq (M : List S109) (i : Nat) (h : i < M.length) : im M i = M[i] := by unfold im; simp [List.getD, h]
theorem info109 : (Try.prog.info? 109).map (fun i => (i.zero, i.size, i.bytes)) = some (some (.agg #[.string ⟨#[]⟩, .int .i64 0]), 2, 24) := by kernel_rfl
/-- The reference's block and row. -/
structure XM (N0 : Nat) (w : World) (g : Nat) (A : Option Addr) (c : Nat) (M : List S109) : Prop where
  hg : N0 ≤ g
  blk : w.heap[g]? = some (.cells #[.slice A M.length c] 73 (0, 0))
  row : k109.R 109 w N0 (fun _ => True) (.slice A M.length c) M
theorem XM.below {N0 : Nat} {w w' : World} {g : Nat} {A : Option Addr} {c : Nat} {M : List S109} (h : XM N0 w g A c M) (hb : Below w.heap.size w w') : XM N0 w' g A c M :=
  ⟨h.hg, blk_below h.blk hb, Kd.R_below h.row hb⟩
def XS (N0 : Nat) (w : World) (g : Nat) (M : List S109) : Prop := ∃ A c, XM N0 w g A c M
theorem XS.below {N0 : Nat} {w w' : World} {g : Nat} {M : List S109} (h : XS N0 w g M) (hb : Below w.heap.size w w') : XS N0 w' g M := by
  obtain ⟨A, c, h⟩ := h
  exact ⟨A, c, h.below hb⟩
/-- The reference writes its block alone. -/
structure XTurn (N0 g : Nat) (w w' : World) : Prop where
  os : w'.os = w.os
  tape : w'.tape = w.tape
  output : w'.output = w.output
  size : w.heap.size ≤ w'.heap.size
  keep : ∀ k, k < w.heap.size → k ≠ g → w'.heap[k]? = w.heap[k]?
theorem XTurn.refl (N0 g : Nat) (w : World) : XTurn N0 g w w := ⟨rfl, rfl, rfl, Nat.le_refl _, fun _ _ _ => rfl⟩
theorem XTurn.trans {N0 g : Nat} {a b c : World} (h : XTurn N0 g a b) (k : XTurn N0 g b c) : XTurn N0 g a c :=
  ⟨k.os.trans h.os, k.tape.trans h.tape, k.output.trans h.output, Nat.le_trans h.size k.size, fun i hi hn => (k.keep i (Nat.lt_of_lt_of_le hi h.size) hn).trans (h.keep i hi hn)⟩
theorem XTurn.below {N0 g : Nat} {w w' : World} (h : Below w.heap.size w w') : XTurn N0 g w w' := ⟨h.os, h.tape, h.output, h.size, fun k hk _ => h.block k hk⟩
theorem XTurn.set {N0 g : Nat} (w : World) (v : Value) : XTurn N0 g w (w.setCell ⟨g, 0, none⟩ v) := by
  have h := grown_set w g 0 v
  exact ⟨h.os, h.tape, h.output, h.size, fun k hk hn => h.block k hk (fun e => hn (by injection e))⟩
section
variable {N0 : Nat} {w : World} {g : Nat} {A : Option Addr} {c : Nat} {M : List S109}
theorem XM.c0 (h : XM N0 w g A c M) : w.cell? ⟨g, 0, none⟩ = some (.slice A M.length c) := (blk_cell h.blk 0).trans rfl
theorem XM.f (h : XM N0 w g A c M) (i : Nat) : w.frozen? ⟨g, i, none⟩ = false := blk_frozen h.blk i
theorem XM.form (h : XM N0 w g A c M) (hp : 0 < M.length) : ∃ gr, A = some ⟨gr, 0, none⟩ := by
  obtain ⟨gr, cap, e, _⟩ := Kd.R_form h.row hp
  injection e with e1
  exact ⟨gr, e1⟩
theorem XM.at {gr : Nat} (h : XM N0 w g (some ⟨gr, 0, none⟩) c M) (i : Nat) (hi : i < M.length) : w.cell? ⟨gr, i * 2, none⟩ = some (.string (im M i).f0) ∧ w.cell? ⟨gr, i * 2 + 1, none⟩ = some (.int .i64 (im M i).f1) := by
  obtain ⟨ad, ea, hx0, hx1⟩ := at_T109 (Kd.R_reads' h.row).2.2 (i : Int) (by omega) (by omega)
  obtain rfl := Option.some.inj ea
  have e : (⟨gr, 0, none⟩ : Addr).add ((i : Int).toNat * 2) = ⟨gr, i * 2, none⟩ := by
    simp [Addr.add]
    try omega
  rw [e] at hx0 hx1
  have e2 : rd_T109 M (i : Int) = im M i := by unfold rd_T109 im; rw [Int.toNat_natCast]
  rw [e2] at hx0 hx1
  exact ⟨hx0, hx1⟩
def outX (x : ByteArray) (M : List S109) : List S109 := M.filter (fun y => decide (y.f0 ≠ x))
def hasX (x : ByteArray) (M : List S109) : Bool := M.any (fun y => decide (y.f0 = x))
theorem outX_len (x : ByteArray) (M : List S109) : decide (((outX x M).length : Int) < (M.length : Int)) = hasX x M := by
  rw [Bool.eq_iff_iff, decide_eq_true_eq]
  unfold hasX outX
  rw [List.any_eq_true]
  constructor
  · intro h
    have h1 : (M.filter (fun y => decide (y.f0 ≠ x))).length < M.length := by omega
    rw [List.length_filter_lt_length_iff_exists] at h1
    obtain ⟨y, hy, e⟩ := h1
    exact ⟨y, hy, by simpa using e⟩
  · rintro ⟨y, hy, e⟩
    have h1 : (M.filter (fun y => decide (y.f0 ≠ x))).length < M.length := List.length_filter_lt_length_iff_exists.2 ⟨y, hy, by simpa using e⟩
    omega
theorem toList_ne {a b : ByteArray} (h : a ≠ b) : a.toList ≠ b.toList := fun e => h (by
  rw [Lib.toList_data, Lib.toList_data] at e
  have e2 : a.data = b.data := Array.toList_inj.1 e
  cases a; cases b; simp_all)
set_option maxHeartbeats 4000000 in
set_option maxRecDepth 100000 in
theorem XDrop.calls (h : XS N0 w g M) (hM : M.length ≤ 100000) (x : ByteArray) :
    Calls Try.prog 68 #[.pointer (some ⟨g, 0, none⟩), .string x] w fun e w' => e = .returned (.bool (hasX x M)) ∧ XS N0 w' g (outX x M) ∧ XTurn N0 g w w' := by
  obtain ⟨A, c, h⟩ := h
  have H := Aside0.mk h
  have HM := Aside0.mk hM
  clear h
  go_enter Try.func68, Try.ntmps68
  go_wp2
  go_loopw [5, 6] (fun lv iv wr => ∃ (i : Nat) (acc : List S109), iv = .int .i64 (i : Int) ∧ i ≤ M.length ∧ Aside0 (acc = outX x (M.take i)) ∧ Aside0 (k109.R 109 wr w.heap.size (fun _ => True) lv acc) ∧ Aside0 (Below w.heap.size w wr)) (fun _ iv _ => M.length - (intOf iv).toNat)
  case atStart => exact ⟨0, [], rfl, by omega, ⟨rfl⟩, ⟨Kd.R_nil _ _ _ _ _⟩, ⟨Below.refl _ _⟩⟩
  case round =>
    obtain ⟨i, acc, rfl, hi, HA, HR, HB⟩ := hrel
    have HW := Aside0.mk (H.out.below HB.out)
    have r0 := HW.out.c0
    obtain ⟨A5, c5, rfl⟩ := Kd.R_slice HR.out
    by_cases hl : i < M.length
    · have hd : decide ((i : Int) < (M.length : Int)) = true := decide_eq_true (by omega)
      obtain ⟨gr, rfl⟩ := HW.out.form (by omega)
      obtain ⟨x0, x1⟩ := HW.out.at i hl
      have q1 : (0 : Int) ≤ (i : Int) := by omega
      have q2 : (i : Int) < (M.length : Int) := by omega
      have htk : outX x (M.take (i + 1)) = outX x (M.take i) ++ (if (im M i).f0 ≠ x then [im M i] else []) := by
        unfold outX
        rw [List.take_add_one, List.getElem?_eq_getElem hl, List.filter_append, im_eq M i hl]
        by_cases e : M[i].f0 = x <;> simp [e]
      have hal : acc.length ≤ 100000 := by
        rw [HA.out]
        have := List.length_filter_le (fun y : S109 => decide (y.f0 ≠ x)) (M.take i)
        rw [List.length_take] at this
        unfold outX
        omega
      have HAL := Aside0.mk hal
      by_cases hne : (im M i).f0 = x
      · rw [if_neg (by simpa using hne), List.append_nil] at htk
        have HTK := Aside0.mk (show acc = outX x (M.take (i + 1)) by rw [htk]; exact HA.out)
        have e1 : ((im M i).f0.toList == x.toList) = true := by rw [hne]; exact beq_self_eq_true _
        have e2 : ((im M i).f0.toList != x.toList) = false := by rw [hne]; exact bne_self_eq_false _
        clear htk hne hal
        go_wp2
        go_roundw
        case rel => exact ⟨i + 1, acc, by go_num, by omega, HTK, HR, HB⟩
        case measure => simp [intOf]; omega
      · rw [if_pos hne] at htk
        have HTK := Aside0.mk (show acc ++ [im M i] = outX x (M.take (i + 1)) by rw [htk, HA.out])
        have e1 : ((im M i).f0.toList == x.toList) = false := beq_eq_false_iff_ne.2 (toList_ne hne)
        have e2 : ((im M i).f0.toList != x.toList) = true := bne_iff_ne.2 (toList_ne hne)
        clear htk hne hal
        go_wp2_with (first | ((with_reducible refine gate_builtin (b := .append) (xs := #[.tmp 27, .tmp 35]) rfl ?_); at_builtin; refine Kd.R_append k109 (w0 := w) w.heap.size rfl (.tmp 27) (.tmp 35) 71 109 (.agg #[.string ⟨#[]⟩, .int .i64 0]) 24 rfl Try.underlying71 info109 rfl (by decide) (by omega) (.slice A5 acc.length c5) acc (im M i) [.string (im M i).f0, .int .i64 (im M i).f1] (fun _ => True) (fun _ => False) rfl rfl (k109_mkM _ _ _ _) (fun _ hk => hk.elim) (fun _ _ => trivial) HR.out HB.out HB.out.size (by have := HAL.out; omega) ?_; intro v1 w9 hr9 hb9 hg9 hat9))
        have HR9 := Aside0.mk hr9
        have HB9 := Aside0.mk hb9
        clear hr9 hb9 hg9 hat9
        go_wp2
        go_roundw
        case rel => exact ⟨i + 1, acc ++ [im M i], by go_num, by omega, HTK, HR9, HB9⟩
        case measure => simp [intOf]; omega
    · have hd : decide ((i : Int) < (M.length : Int)) = false := decide_eq_false (by omega)
      have hacc := HA.out
      rw [List.take_of_length_le (by omega)] at hacc
      have hlen := outX_len x M
      rw [← hacc] at hlen
      have HAC := Aside0.mk hacc
      have f0 := HW.out.f 0
      obtain ⟨N, hN⟩ : ∃ N, acc.length = N := ⟨_, rfl⟩
      have HN := Aside0.mk hN
      rw [hN] at hlen
      obtain ⟨b, hb⟩ : ∃ b, hasX x M = b := ⟨_, rfl⟩
      rw [hb] at hlen
      have hlen2 : decide (N < M.length) = b := by rw [← hlen]; exact decide_eq_decide.2 (by omega)
      have HBB := Aside0.mk hb
      have hset : XM N0 (wr.setCell ⟨g, 0, none⟩ (.slice A5 N c5)) g A5 c5 (outX x M) := by
        rw [← hN, ← hacc]
        exact ⟨HW.out.hg, blk_put HW.out.blk 0 _ rfl, Kd.R_set (Kd.R_lower HR.out (Nat.le_trans H.out.hg (Nat.le_of_lt (blk_lt H.out.blk)))) HW.out.blk (by decide) 0 _⟩
      have HF := Aside0.mk (show XS N0 (wr.setCell ⟨g, 0, none⟩ (.slice A5 N c5)) g (outX x M) ∧ XTurn N0 g w (wr.setCell ⟨g, 0, none⟩ (.slice A5 N c5)) from ⟨⟨_, _, hset⟩, (XTurn.below HB.out).trans (XTurn.set wr _)⟩)
      rw [hN]
      clear hset hacc hN hb
      go_wp2
      go_ret
      exact ⟨by rw [HBB.out]; rfl, HF.out⟩
end
end Go.Proofs.Ytenaggpgblaalaa.Timer
