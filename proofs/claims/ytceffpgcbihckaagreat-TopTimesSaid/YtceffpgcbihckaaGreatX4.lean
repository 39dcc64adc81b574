/- The walk of TopTimes, part 4. No condition but what each theorem names. -/
import Derived.Test.YtceffpgcbihckaaGreatX3
set_option linter.unusedVariables false
set_option linter.unusedSimpArgs false
namespace Go.Proofs.YtceffpgcbihckaaGreat.Top
open Go.RowKit Go.Proofs.YtceffpgcbihckaaGreatW.PrintWords Go.Proofs.YtceffpgcbihckaaGreatW.PrintLast Go.Proofs.YtceffpgcbihckaaGreatW.PrintMore Go.Proofs.YtceffpgcbihckaaGreat.Base
def ORD1.T1 : Bool × List (List Nat × List Nat) := (true, [([], []), ([], []), ([0], [0]), ([2], [2]), ([3, 1], [1, 3]), ([4], [4]), ([5], [5]), ([], []), ([], []), ([7], [7]), ([9], [9]), ([10, 8], [8, 10]), ([11], [11]), ([12], [12]), ([6, 13], [6, 13]), ([14, 14, 0, 1, 2, 3, 4, 5, 6, 7, 8, 9, 10, 11, 12, 13, 14], [14])])
def ORD1.B1 : List Nat := [0, 0, 1, 5, 15, 31, 63, 0, 0, 128, 640, 1920, 3968, 8064, 16383, 32767]
theorem ORD1.tab1 : rtab .any (opsOf Tryz.f115 1) = ORD1.T1 := by kernel_rfl
theorem ORD1.bits1 : waitsOk ORD1.T1.2 ORD1.B1 = true := by kernel_rfl
theorem ins.nil {F : Value} (w : World) : Calls Tryz.prog 228 #[.slice none 0 0, .int .i64 0, .int .i64 0, F] w fun e w' => e = .returned (.tuple #[]) ∧ w' = w := by
 go_enter Tryz.func228, Tryz.ntmps228
 go_wp2
 go_loopw [8] (fun iv wr => iv = .int .i64 1 ∧ wr = w) (fun _ _ => 0)
 case atStart => exact ⟨rfl, rfl⟩
 case round =>
  obtain ⟨rfl, rfl⟩ := hrel
  go_wp2
  go_end0
  exact ⟨rfl, rfl⟩
theorem pdq.nil {F : Value} (lim : Int) (w : World) : Calls Tryz.prog 166 #[.slice none 0 0, .int .i64 0, .int .i64 0, .int .i64 lim, F] w fun e w' => e = .returned (.tuple #[]) ∧ w' = w := by
 go_enter Tryz.func166, Tryz.ntmps166
 go_wp2_with fail
 go_loopw [1, 2] (fun v1 v2 wr => v1 = .int .i64 0 ∧ v2 = .int .i64 0 ∧ wr = w) (fun _ _ _ => 0)
 case atStart => exact ⟨rfl, rfl, rfl⟩
 case round =>
  obtain ⟨rfl, rfl, rfl⟩ := hrel
  go_wp2_with fail
  refine (ins.nil wr).mono ?_
  rintro e w5 ⟨rfl, rfl⟩
  go_wp2
  refine bodyPost_ret (results_none rfl _ _ _) rfl ?_
  exact ⟨rfl, rfl⟩
theorem sortI.nil {F : Value} (w : World) : Calls Tryz.prog 114 #[.slice none 0 0, F] w fun e w' => e = .returned (.tuple #[]) ∧ Below w.heap.size w w' := by
 go_enter Tryz.func114, Tryz.ntmps114
 go_wp2_with fail
 refine (len.calls 0 (by omega) (by omega) w).mono ?_
 rintro e w4 ⟨⟨r, rfl⟩, hb4⟩
 have HB := Aside0.mk hb4
 clear hb4
 go_wp2_with fail
 refine (pdq.nil r w4).mono ?_
 rintro e w5 ⟨rfl, rfl⟩
 go_wp2
 go_end0
 exact ⟨rfl, HB.out⟩
def taken (f : Nat → Int × Int) (n : Int) : Nat → List Int
 | 0 => []
 | i + 1 => taken f n i ++ (if busy f n i then [(i : Int)] else [])
theorem taken_length (f : Nat → Int × Int) (n : Int) (i : Nat) : (taken f n i).length ≤ i := by
 induction i with
 | zero => exact Nat.le_refl _
 | succ i ih =>
  unfold taken
  rw [List.length_append]
  split <;> simp <;> omega
theorem taken_mem (f : Nat → Int × Int) (n : Int) (i : Nat) (x : Int) : x ∈ taken f n i ↔ ∃ k : Nat, x = (k : Int) ∧ k < i ∧ busy f n k = true := by
 induction i with
 | zero => unfold taken; simp
 | succ i ih =>
  unfold taken
  rw [List.mem_append, ih]
  constructor
  ·rintro (⟨k, rfl, hk, hb⟩ | h)
   ·exact ⟨k, rfl, by omega, hb⟩
   ·by_cases hb : busy f n i = true
    ·rw [if_pos hb, List.mem_singleton] at h
     exact ⟨i, h, by omega, hb⟩
    ·rw [if_neg hb] at h
     cases h
  ·rintro ⟨k, rfl, hk, hb⟩
   by_cases e : k = i
   ·subst e
    rw [if_pos hb]
    exact .inr (List.mem_singleton.2 rfl)
   ·exact .inl ⟨k, rfl, by omega, hb⟩
theorem compare.calls (a b : Int) (w : World) : Calls Tryz.prog 116 #[.int .i64 a, .int .i64 b] w fun e w' => (∃ r : Int, e = .returned (.int .i64 r)) ∧ Below w.heap.size w w' := by
 have e0 : ∀ (x : Int) (w : World), Calls Tryz.prog 167 #[.int .i64 x] w fun e w' => e = .returned (.bool false) ∧ w' = w := by
  intro x w
  have q : (x != x) = false := bne_self_eq_false _
  go_enter Tryz.func167, Tryz.ntmps167
  go_wp2
  go_ret
  exact ⟨rfl, rfl⟩
 go_enter Tryz.func116, Tryz.ntmps116
 go_wp2_with fail
 refine (e0 a w).mono ?_
 rintro e w4 ⟨rfl, rfl⟩
 go_wp2_with fail
 refine (e0 b w4).mono ?_
 rintro e w5 ⟨rfl, rfl⟩
 go_wp2
 all_goals (go_ret; exact ⟨⟨_, rfl⟩, Below.refl _ _⟩)
section
variable {w w' : World} {g : Nat} {f : Nat → Int × Int} {n gv : Int}
set_option maxHeartbeats 4000000 in
set_option maxRecDepth 100000 in
theorem order.calls (h : TB w g f n gv) (gb : Nat) (hb : w.heap[gb]? = some (.cells #[.pointer (some ⟨g, 0, none⟩)] 101 (0, 0))) (i j : Nat) (hi : i < 8) (hj : j < 8) :
  Calls Tryz.prog 115 #[.int .i64 (i : Int), .int .i64 (j : Int), .pointer (some ⟨gb, 0, none⟩)] w fun e w' => (∃ r : Int, e = .returned (.int .i64 r)) ∧ Below w.heap.size w w' := by
 obtain ⟨a0, a1⟩ := h.at i hi
 obtain ⟨b0, b1⟩ := h.at j hj
 have c0 := (blk_cell hb 0).trans rfl
 have q1 : (0 : Int) ≤ (i : Int) := by omega
 have q2 : (i : Int) < 8 := by omega
 have q3 : (0 : Int) ≤ (j : Int) := by omega
 have q4 : (j : Int) < 8 := by omega
 generalize (f i).1 = x at a0
 generalize (f j).1 = y at b0
 have HA := Aside0.mk (And.intro a0 (And.intro b0 c0))
 clear h hb a0 a1 b0 b1 c0
 go_enter Tryz.func115, Tryz.ntmps115
 go_wp2
 refine start_ (n := 16) (S := fun w' => w'.cell? ⟨g, i * 2, none⟩ = some (.int .i64 x) ∧ w'.cell? ⟨g, j * 2, none⟩ = some (.int .i64 y) ∧ w'.cell? ⟨gb, 0, none⟩ = some (.pointer (some ⟨g, 0, none⟩))) (ds := []) #[O,O,O,O,O,O,O,O,O,O,O,O,O,O,O,O] (by kernel_rfl) rfl rfl ⟨HA.out.1, HA.out.2.1, HA.out.2.2⟩ (fun hHeld => ?_)
 refine with_tabW ORD1.tab1 ORD1.bits1 (fun HT_ HW_ => ?_)
 refine pure_ (i := 1) (N := some 7) (v := ?_) (a' := ?_) #[O,Y,O,O,O,O,O,O,O,O,O,O,O,O,O,O] rfl rfl (any_of HT_.out (by kernel_rfl)) (fun _ _ _ h => h) (Or.inl ⟨by rfl, ?_⟩) ?_ ?_
 rotate_left
 ·intro w'
  go_simp
  with_reducible rfl
 rotate_left
 ·simp only [PN]
  rfl
 refine pure_ (i := 8) (N := some 14) (v := ?_) (a' := ?_) #[O,Y,O,O,O,O,O,O,Y,O,O,O,O,O,O,O] rfl rfl (any_of HT_.out (by kernel_rfl)) (fun _ _ _ h => h) (Or.inl ⟨by rfl, ?_⟩) ?_ ?_
 rotate_left
 ·intro w'
  go_simp
  with_reducible rfl
 rotate_left
 ·simp only [PN]
  rfl
 refine take_ (i := 0) (N := some 6) (v := ?_) (a' := ?_) #[Y,Y,O,O,O,O,O,O,Y,O,O,O,O,O,O,O] rfl rfl (take_ofW HT_.out HW_.out (by kernel_rfl)) (fun _ _ _ h => h) (Or.inl ⟨by rfl, ?_⟩) hHeld ?_ ?_
 rotate_left
 ·rintro w' ⟨s0, s1, s2⟩
  go_simp
  with_reducible rfl
 rotate_left
 ·simp only [PN]
  rfl
 refine pure_ (i := 2) (N := some 8) (v := ?_) (a' := ?_) #[Y,Y,Y,O,O,O,O,O,Y,O,O,O,O,O,O,O] rfl rfl (any_of HT_.out (by kernel_rfl)) (fun _ _ _ h => h) (Or.inl ⟨by rfl, ?_⟩) ?_ ?_
 rotate_left
 ·intro w'
  go_simp
  with_reducible rfl
 rotate_left
 ·simp only [PN]
  rfl
 refine pure_ (i := 3) (N := some 9) (v := ?_) (a' := ?_) #[Y,Y,Y,Y,O,O,O,O,Y,O,O,O,O,O,O,O] rfl rfl (any_of HT_.out (by kernel_rfl)) (fun _ _ _ h => h) (Or.inl ⟨by rfl, ?_⟩) ?_ ?_
 rotate_left
 ·intro w'
  go_simp
  with_reducible rfl
 rotate_left
 ·simp only [PN]
  rfl
 refine pure_ (i := 4) (N := some 10) (v := ?_) (a' := ?_) #[Y,Y,Y,Y,Y,O,O,O,Y,O,O,O,O,O,O,O] rfl rfl (any_of HT_.out (by kernel_rfl)) (fun _ _ _ h => h) (Or.inl ⟨by rfl, ?_⟩) ?_ ?_
 rotate_left
 ·intro w'
  go_simp
  with_reducible rfl
 rotate_left
 ·simp only [PN]
  rfl
 refine pure_ (i := 5) (N := some 11) (v := ?_) (a' := ?_) #[Y,Y,Y,Y,Y,Y,O,O,Y,O,O,O,O,O,O,O] rfl rfl (any_of HT_.out (by kernel_rfl)) (fun _ _ _ h => h) (Or.inl ⟨by rfl, ?_⟩) ?_ ?_
 rotate_left
 ·intro w'
  go_simp
  with_reducible rfl
 rotate_left
 ·simp only [PN]
  rfl
 refine take_ (i := 6) (N := some 12) (v := ?_) (a' := ?_) #[Y,Y,Y,Y,Y,Y,Y,O,Y,O,O,O,O,O,O,O] rfl rfl (take_ofW HT_.out HW_.out (by kernel_rfl)) (fun _ _ _ h => h) (Or.inl ⟨by rfl, ?_⟩) hHeld ?_ ?_
 rotate_left
 ·rintro w' ⟨s0, s1, s2⟩
  go_simp
  with_reducible rfl
 rotate_left
 ·simp only [PN]
  rfl
 refine take_ (i := 7) (N := some 13) (v := ?_) (a' := ?_) #[Y,Y,Y,Y,Y,Y,Y,Y,Y,O,O,O,O,O,O,O] rfl rfl (take_ofW HT_.out HW_.out (by kernel_rfl)) (fun _ _ _ h => h) (Or.inl ⟨by rfl, ?_⟩) hHeld ?_ ?_
 rotate_left
 ·rintro w' ⟨s0, s1, s2⟩
  go_simp
  with_reducible rfl
 rotate_left
 ·simp only [PN]
  rfl
 refine pure_ (i := 9) (N := some 15) (v := ?_) (a' := ?_) #[Y,Y,Y,Y,Y,Y,Y,Y,Y,Y,O,O,O,O,O,O] rfl rfl (any_of HT_.out (by kernel_rfl)) (fun _ _ _ h => h) (Or.inl ⟨by rfl, ?_⟩) ?_ ?_
 rotate_left
 ·intro w'
  go_simp
  with_reducible rfl
 rotate_left
 ·simp only [PN]
  rfl
 refine pure_ (i := 10) (N := some 16) (v := ?_) (a' := ?_) #[Y,Y,Y,Y,Y,Y,Y,Y,Y,Y,Y,O,O,O,O,O] rfl rfl (any_of HT_.out (by kernel_rfl)) (fun _ _ _ h => h) (Or.inl ⟨by rfl, ?_⟩) ?_ ?_
 rotate_left
 ·intro w'
  go_simp
  with_reducible rfl
 rotate_left
 ·simp only [PN]
  rfl
 refine pure_ (i := 11) (N := some 17) (v := ?_) (a' := ?_) #[Y,Y,Y,Y,Y,Y,Y,Y,Y,Y,Y,Y,O,O,O,O] rfl rfl (any_of HT_.out (by kernel_rfl)) (fun _ _ _ h => h) (Or.inl ⟨by rfl, ?_⟩) ?_ ?_
 rotate_left
 ·intro w'
  go_simp
  with_reducible rfl
 rotate_left
 ·simp only [PN]
  rfl
 refine pure_ (i := 12) (N := some 18) (v := ?_) (a' := ?_) #[Y,Y,Y,Y,Y,Y,Y,Y,Y,Y,Y,Y,Y,O,O,O] rfl rfl (any_of HT_.out (by kernel_rfl)) (fun _ _ _ h => h) (Or.inl ⟨by rfl, ?_⟩) ?_ ?_
 rotate_left
 ·intro w'
  go_simp
  with_reducible rfl
 rotate_left
 ·simp only [PN]
  rfl
 refine take_ (i := 13) (N := some 19) (v := ?_) (a' := ?_) #[Y,Y,Y,Y,Y,Y,Y,Y,Y,Y,Y,Y,Y,Y,O,O] rfl rfl (take_ofW HT_.out HW_.out (by kernel_rfl)) (fun _ _ _ h => h) (Or.inl ⟨by rfl, ?_⟩) hHeld ?_ ?_
 rotate_left
 ·rintro w' ⟨s0, s1, s2⟩
  go_simp
  with_reducible rfl
 rotate_left
 ·simp only [PN]
  rfl
 refine one_ (i := 14) (N := some 20) #[Y,Y,Y,Y,Y,Y,Y,Y,Y,Y,Y,Y,Y,Y,Y,O] rfl rfl (one_of HT_.out (by kernel_rfl)) (by decide) (fun K hK => ?_)
 refine goes_ Tryz.func116 (by kernel_rfl) rfl #[.int .i64 x, .int .i64 y] (by rfl) rfl rfl (by (try simp only [List.map_toArray, List.map_cons, List.map_nil]); first | done | rfl) ?_
 with_reducible refine (compare.calls x y _).mono ?_
 rintro e w5 ⟨⟨r, rfl⟩, hb5⟩
 refine ⟨_, rfl, ?_⟩
 have HA2 := Aside0.mk (And.intro ((hb5.cell (World.block_lt_of_cell? _ _ HA.out.1)).trans HA.out.1) (And.intro ((hb5.cell (World.block_lt_of_cell? _ _ HA.out.2.1)).trans HA.out.2.1) ((hb5.cell (World.block_lt_of_cell? _ _ HA.out.2.2)).trans HA.out.2.2)))
 have HB := Aside0.mk (below_go (below_drew (Below.refl w.heap.size w)) hb5)
 refine hK.out _ _ ⟨HA2.out.1, HA2.out.2.1, HA2.out.2.2⟩ (fun hHeld => ?_)
 clear hK K
 refine norm_ (a' := ?_) ?_ ?_
 rotate_left
 ·show Act.put _ (some 20) _ = _
  simp only [PN]
  rfl
 refine pure_ (i := 15) (N := some 5) (v := ?_) (a' := ?_) #[Y,Y,Y,Y,Y,Y,Y,Y,Y,Y,Y,Y,Y,Y,Y,Y] rfl rfl (any_of HT_.out (by kernel_rfl)) (fun _ _ _ h => h) (Or.inl ⟨by rfl, ?_⟩) ?_ ?_
 rotate_left
 ·intro w'
  go_simp
  with_reducible rfl
 rotate_left
 ·simp only [PN]
  rfl
 refine done_ (done_of HT_.out (by kernel_rfl)) ?_
 clear hHeld
 go_wp2
 go_ret
 exact ⟨⟨_, rfl⟩, HB.out⟩
set_option maxHeartbeats 4000000 in
set_option maxRecDepth 100000 in
theorem table.Slots.calls (h : TB w g f n gv) (h0 : 1 ≤ n) (h8 : n ≤ 8) : Calls Tryz.prog 65 #[.pointer (some ⟨g, 0, none⟩)] w fun e w' => ∃ v, ∃ ys : List Int, e = .returned v ∧ ys.Perm (taken f n n.toNat) ∧ (ys = [] → v = .slice none 0 0) ∧ (Kd.int .i64).R 3 w' w.heap.size (fun _ => True) v ys ∧ Below w.heap.size w w' := by
 have H := Aside0.mk h
 have HN := Aside0.mk (And.intro h0 h8)
 clear h h0 h8
 go_enter Tryz.func65, Tryz.ntmps65
 have HG := Aside0.mk (blk_new w (.cells #[.pointer (some ⟨g, 0, none⟩)] 101))
 have HB := Aside0.mk (below_alloc (Below.refl w.heap.size w) (.cells #[.pointer (some ⟨g, 0, none⟩)] 101))
 have H2 := Aside0.mk (H.out.below HB.out)
 have hmf := makeFn
 have k0 := H2.out.size
 have k1 := (blk_cell HG.out 0).trans rfl
 clear H
 go_wp2
 generalize w.alloc (.cells #[.pointer (some ⟨g, 0, none⟩)] 101) = w1 at HG HB H2 k0 k1 ⊢
 clear k0 k1
 have HGL := Aside0.mk (blk_lt HG.out)
 go_loopw [3, 11] (fun ov iv wr => ∃ (i : Nat) (ys : List Int), iv = .int .i64 (i : Int) ∧ (i : Int) ≤ n ∧ Aside0 (ys = taken f n i ∧ (ys = [] → ov = .slice none 0 0)) ∧ Aside0 ((Kd.int .i64).R 3 wr w.heap.size (fun _ => True) ov ys) ∧ Aside0 (TB wr g f n gv) ∧ Aside0 (wr.heap[w.heap.size]? = some (.cells #[.pointer (some ⟨g, 0, none⟩)] 101 (0, 0))) ∧ Aside0 (Below w.heap.size w wr)) (fun _ iv _ => n.toNat - (intOf iv).toNat)
 case atStart => exact ⟨0, [], rfl, by have := HN.out; omega, ⟨rfl, fun _ => rfl⟩, ⟨Kd.R_nil _ _ _ _ _⟩, H2, HG, HB⟩
 case round =>
  clear HG HB H2
  obtain ⟨i, ys, rfl, hi, HY, HR, H2, HG, HB⟩ := hrel
  obtain ⟨A3, c3, rfl⟩ := Kd.R_slice HR.out
  have HL := Aside0.mk (show ys.length ≤ 8 by have h1 := taken_length f n i; have h2 := HN.out; rw [HY.out.1]; omega)
  have hn8 := HN.out
  by_cases hil : (i : Int) < n
  ·have q0 : decide ((i : Int) < n) = true := decide_eq_true hil
   have k1 := (blk_cell HG.out 0).trans rfl
   have a9 : wrap64 ((i : Int) + 1) = (i : Int) + 1 := wrap_id (by omega) (by omega)
   go_wp2_with fail
   refine (table.has.calls H2.out i (by have := HN.out; omega) (by have := HN.out; omega)).mono ?_
   rintro e w5 ⟨rfl, rfl⟩
   clear k1
   by_cases hbz : busy f n i = true
   ·rw [show (decide ((i : Int) < n) && !((f i).1 == 0 && (f i).2 == 0)) = true from hbz]
    have HY2 := Aside0.mk (show ys ++ [(i : Int)] = taken f n (i + 1) by unfold taken; rw [if_pos hbz, HY.out.1])
    clear HY hbz
    go_wp2_with (first | ((with_reducible refine gate_builtin (b := .append) (xs := #[.tmp 17, .tmp 19]) rfl ?_); at_builtin; refine Kd.R_append (Kd.int .i64) (w0 := w) w.heap.size rfl (.tmp 17) (.tmp 19) 42 3 (.int .i64 0) 8 rfl Tryz.underlying42 infoInt rfl (by decide) (by omega) (.slice A3 ys.length c3) ys (i : Int) [.int .i64 (i : Int)] (fun _ => True) (fun _ => False) rfl rfl rfl (fun _ hk => hk.elim) (fun _ _ => trivial) HR.out HB.out HB.out.size (by have := HL.out; simp; omega) ?_; intro v9 w9 hr9 hb9 hg9 hat9; have n0_ := Aside0.mk hr9; have n1_ := Aside0.mk hb9; have n2_ := Aside0.mk (show TB w9 g f n gv from blk_grown H2.out hg9 (Kd.R_ne HR.out H2.out (by decide))); have n3_ := Aside0.mk (blk_grown HG.out hg9 (Kd.R_ne HR.out HG.out (by decide))); clear HR HB H2 HG hr9 hb9 hg9 hat9))
    go_roundw
    case rel => exact ⟨i + 1, ys ++ [(i : Int)], by go_num, by omega, ⟨HY2.out, fun e => by simp at e⟩, n0_, n2_, n3_, n1_⟩
    case measure => simp [intOf]; omega
   ·have hb0 := Bool.eq_false_iff.2 hbz
    rw [show (decide ((i : Int) < n) && !((f i).1 == 0 && (f i).2 == 0)) = false from hb0]
    have HY2 := Aside0.mk (show ys = taken f n (i + 1) ∧ (ys = [] → Value.slice A3 ys.length c3 = .slice none 0 0) from ⟨by unfold taken; rw [if_neg hbz, List.append_nil]; exact HY.out.1, HY.out.2⟩)
    clear HY hbz hb0
    go_wp2
    go_roundw
    case rel => exact ⟨i + 1, ys, by go_num, by omega, HY2, HR, H2, HG, HB⟩
    case measure => simp [intOf]; omega
  ·have q0 : decide ((i : Int) < n) = false := decide_eq_false hil
   have hy := HY.out.1
   have hnil := HY.out.2
   rw [show i = n.toNat by omega] at hy
   have HY2 := Aside0.mk (show ys.Perm (taken f n n.toNat) ∧ ∀ x ∈ ys, ∃ k : Nat, x = (k : Int) ∧ k < 8 by
    rw [hy]
    refine ⟨List.Perm.refl _, fun x hx => ?_⟩
    obtain ⟨k, rfl, hk, _⟩ := (taken_mem f n _ x).1 hx
    exact ⟨k, rfl, by omega⟩)
   clear hy HY
   cases ys with
   | nil =>
    have e3 := hnil rfl
    injection e3 with e3 e4 e5
    subst e3
    subst e5
    have HF := Aside0.mk (show Below w.heap.size w wr from HB.out)
    go_wp2_with fail
    refine (sortI.nil wr).mono ?_
    rintro e w5 ⟨rfl, hb5⟩
    have HF2 := Aside0.mk (below_step HB.out hb5)
    have HR2 := Aside0.mk (Kd.R_below HR.out hb5)
    clear hb5
    go_wp2
    go_ret
    exact ⟨_, [], rfl, HY2.out.1, fun _ => rfl, HR2.out, HF2.out⟩
   | cons y yt =>
    clear hnil
    obtain ⟨gr, cp, e3, hg1, hg2, cells, hc⟩ := Kd.R_form HR.out (by simp)
    injection e3 with e3 e4 e5
    subst e3
    have hne1 : some g ≠ some gr := fun e => by injection e with e; subst e; rw [H2.out] at hc; injection hc with hc; injection hc with _ hc; exact absurd hc (by decide)
    have hne2 : some w.heap.size ≠ some gr := fun e => by injection e with e; subst e; rw [HG.out] at hc; injection hc with hc; injection hc with _ hc; exact absurd hc (by decide)
    have HNE := Aside0.mk (And.intro hne1 (And.intro hne2 hg1))
    have HSL := Aside0.mk (show wr.heap.size ≥ w.heap.size from HB.out.size)
    clear hne1 hne2 hc hg2 e4 e5 hg1
    go_wp2_with fail
    refine (sortI.calls (xs := y :: yt) HR.out (by have := HL.out; omega) Tryz.func115 rfl rfl (fun w' => TB w' g f n gv ∧ w'.heap[w.heap.size]? = some (.cells #[.pointer (some ⟨g, 0, none⟩)] 101 (0, 0))) ⟨H2.out, HG.out⟩ (fun a b h k => ⟨blk_grown h.1 k HNE.out.1, blk_grown h.2 k HNE.out.2.1⟩) ?_).mono ?_
    ·intro w' x z hx hz hI
     obtain ⟨i1, rfl, hi1⟩ := HY2.out.2 x hx
     obtain ⟨i2, rfl, hi2⟩ := HY2.out.2 z hz
     exact (order.calls hI.1 _ hI.2 i1 i2 hi1 hi2).mono (fun e w2 hh => by obtain ⟨⟨r, h⟩, hb⟩ := hh; exact ⟨r, h, hb⟩)
    rintro e w5 ⟨rfl, zs, hp, hr5, hi5, hg5⟩
    have HF := Aside0.mk (And.intro (hp.trans HY2.out.1) (show ¬ zs = [] from fun e => by have h := hp.length_eq; rw [e] at h; simp at h))
    have HR2 := Aside0.mk hr5
    have HB2 := Aside0.mk (HB.out.trans (below_of_grown hg5 HNE.out.2.2 HSL.out))
    clear hp hr5 hi5 hg5
    go_wp2
    go_ret
    exact ⟨_, zs, rfl, HF.out.1, fun e => absurd e HF.out.2, HR2.out, HB2.out⟩
def over (f : Nat → Int × Int) (now : Int) (i : Nat) : Bool := !((f i).2 == 0 || !decide (mx 0 (mn (f i).2 1099511627776) ≤ mx 0 (mn now 1099511627776)))
end
theorem grown_sets (b : Nat) : ∀ (vs : List Value) (o : Nat) (w : World), w.grownBy (w.setCells b o vs) (some b)
 | [], o, w => grown_of_below (Below.refl _ _) _
 | v :: r, o, w => (grown_set w b o v).trans_row (grown_sets b r (o + 1) _)
theorem typed_sets {g t : Nat} : ∀ (vs : List Value) (o : Nat) (w : World), (∃ cs, w.heap[g]? = some (.cells cs t (0, 0))) → ∃ cs, (w.setCells g o vs).heap[g]? = some (.cells cs t (0, 0))
 | [], _, _, h => h
 | v :: r, o, w, ⟨cs, h⟩ => typed_sets r (o + 1) _ ⟨_, blk_put h o v rfl⟩
def idxF (p : Int → Bool) : Nat → List Int → Option Nat
 | _, [] => none
 | i, x :: l => if p x = true then some i else idxF p (i + 1) l
def idxV (p : Int → Bool) (xs : List Int) : Int := match idxF p 0 xs with | some i => (i : Int) | none => -1
theorem idx_drop (p : Int → Bool) (xs : List Int) (i : Nat) (h : i < xs.length) : idxF p i (xs.drop i) = if p xs[i] = true then some i else idxF p (i + 1) (xs.drop (i + 1)) := by
 rw [List.drop_eq_getElem_cons h]
 rfl
theorem rdof (xs : List Int) (i : Nat) (h : i < xs.length) : rdOf (0 : Int) xs (i : Int) = xs[i] := by
 unfold rdOf
 rw [Int.toNat_natCast, List.getD_eq_getElem?_getD, List.getElem?_eq_getElem h]
 rfl
set_option maxHeartbeats 4000000 in
set_option maxRecDepth 100000 in
theorem idx.calls {w : World} {gr c base : Nat} {ok : Nat → Prop} {xs : List Int} (hr : (Kd.int .i64).R 3 w base ok (.slice (some ⟨gr, 0, none⟩) xs.length c) xs) (hn : xs.length ≤ 1000)
  {f : FuncId} {fn : Func} {cap : Array Value} (hf : Tryz.prog.funcs[f]? = some fn) (hname : (fn.name == "runtime.NumGoroutine") = false) (hb : fn.body.isSome = true)
  (I : World → Prop) (hI : I w) (hIb : ∀ a b, I a → Below a.heap.size a b → I b) (p : Int → Bool)
  (hcmp : ∀ (w' : World) (x : Int), x ∈ xs → I w' → Calls Tryz.prog f (#[.int .i64 x] ++ cap) w' fun e w'' => e = .returned (.bool (p x)) ∧ Below w'.heap.size w' w'') :
  Calls Tryz.prog 197 #[.slice (some ⟨gr, 0, none⟩) xs.length c, .func (.func f) #[] cap] w fun e w' => e = .returned (.int .i64 (idxV p xs)) ∧ I w' ∧ Below w.heap.size w w' := by
 have HR0 := Aside0.mk hr
 have HN := Aside0.mk hn
 have HI0 := Aside0.mk hI
 clear hr hn hI
 go_enter Tryz.func197, Tryz.ntmps197
 go_wp2
 go_loopw [8] (fun iv wr => ∃ i : Nat, iv = .int .i64 (i : Int) ∧ i ≤ xs.length ∧ Aside0 (idxF p i (xs.drop i) = idxF p 0 xs) ∧ Aside0 ((Kd.int .i64).R 3 wr base ok (.slice (some ⟨gr, 0, none⟩) xs.length c) xs) ∧ Aside0 (I wr) ∧ Aside0 (Below w.heap.size w wr)) (fun iv _ => xs.length - (intOf iv).toNat)
 case atStart => exact ⟨0, rfl, by omega, ⟨rfl⟩, HR0, HI0, ⟨Below.refl _ _⟩⟩
 case round =>
  clear HR0 HI0
  obtain ⟨i, rfl, hi, HQ, HR, HI, HB⟩ := hrel
  by_cases hil : i < xs.length
  ·have q0 : decide ((i : Int) < (xs.length : Int)) = true := decide_eq_true (by omega)
   have r0 : (0 : Int) ≤ (i : Int) := by omega
   have r1 : (i : Int) < (xs.length : Int) := by omega
   have hn1 := HN.out
   have a9 : wrap64 ((i : Int) + 1) = (i : Int) + 1 := wrap_id (by omega) (by omega)
   obtain ⟨ca, fa⟩ := Kd.R_celln (0 : Int) HR.out (i : Int) r0 r1
   rw [Int.toNat_natCast, rdof xs i hil] at ca
   have hq := HQ.out
   rw [idx_drop p xs i hil] at hq
   have HM := Aside0.mk (List.getElem_mem hil)
   generalize xs[i] = x at ca hq HM
   have HQ2 := Aside0.mk hq
   clear hq fa HQ
   go_wp2_with fail
   refine goesU_ hf hname hb _ ?_
   refine (hcmp _ x HM.out HI.out).mono ?_
   rintro e w5 ⟨rfl, hb5⟩
   refine ⟨_, rfl, ?_⟩
   have n0_ := Aside0.mk (Kd.R_below HR.out hb5)
   have n1_ := Aside0.mk (hIb _ _ HI.out hb5)
   have n2_ := Aside0.mk (below_step HB.out hb5)
   clear HR HI HB hb5 ca
   cases hp : p x with
   | true =>
    have HV := Aside0.mk (show idxV p xs = (i : Int) by unfold idxV; rw [← HQ2.out, if_pos hp])
    clear hp
    go_wp2
    go_ret
    exact ⟨by rw [HV.out]; rfl, n1_.out, n2_.out⟩
   | false =>
    have HQ3 := Aside0.mk (show idxF p (i + 1) (xs.drop (i + 1)) = idxF p 0 xs by rw [← HQ2.out, hp]; rfl)
    clear hp
    go_wp2
    go_roundw
    case rel => exact ⟨i + 1, by go_num, by omega, HQ3, n0_, n1_, n2_⟩
    case measure => simp [intOf]; omega
  ·have q0 : decide ((i : Int) < (xs.length : Int)) = false := decide_eq_false (by omega)
   have HV := Aside0.mk (show idxV p xs = -1 by
    have h := HQ.out
    rw [List.drop_eq_nil_of_le (show xs.length ≤ i by omega)] at h
    unfold idxV
    rw [← h]
    rfl)
   clear HQ
   go_wp2
   go_ret
   exact ⟨by rw [HV.out]; rfl, HI.out, HB.out⟩
theorem idx_none (p : Int → Bool) (l : List Int) : ∀ i, idxF p i l = none → l.filter (fun x => !p x) = l := by
 induction l with
 | nil => intro i _; rfl
 | cons x l ih =>
  intro i h
  unfold idxF at h
  by_cases hp : p x = true
  ·rw [if_pos hp] at h; cases h
  ·rw [if_neg hp] at h
   rw [List.filter_cons_of_pos (by simp [hp]), ih _ h]
theorem idx_some (p : Int → Bool) (l : List Int) : ∀ i k, idxF p i l = some k → i ≤ k ∧ k - i < l.length ∧ l.take (k - i) = (l.take (k - i + 1)).filter (fun x => !p x) := by
 induction l with
 | nil => intro i k h; cases h
 | cons x l ih =>
  intro i k h
  unfold idxF at h
  by_cases hp : p x = true
  ·rw [if_pos hp] at h
   injection h with h
   subst h
   refine ⟨Nat.le_refl _, by simp, ?_⟩
   rw [Nat.sub_self]
   simp [hp]
  ·rw [if_neg hp] at h
   obtain ⟨h1, h2, h3⟩ := ih _ _ h
   refine ⟨by omega, by simp; omega, ?_⟩
   rw [show k - i = (k - (i + 1)) + 1 by omega, List.take_succ_cons, List.take_succ_cons, List.filter_cons_of_pos (by simp [hp]), ← h3]
theorem set_take {xs zs : List Int} {p : Int → Bool} {i j : Nat} (h1 : zs.length = xs.length) (hij : i < j) (hj : j < xs.length) (h2 : zs.take i = (xs.take j).filter (fun x => !p x)) (h3 : zs.drop j = xs.drop j) :
  zs[j]'(by omega) = xs[j] ∧ (p xs[j] = true → zs.take i = (xs.take (j + 1)).filter (fun x => !p x)) ∧ (p xs[j] = false → (zs.set i xs[j]).take (i + 1) = (xs.take (j + 1)).filter (fun x => !p x)) ∧ zs.drop (j + 1) = xs.drop (j + 1) ∧ (zs.set i xs[j]).drop (j + 1) = xs.drop (j + 1) := by
 have hd : zs.drop (j + 1) = xs.drop (j + 1) := by
  have := congrArg List.tail h3
  rwa [List.tail_drop, List.tail_drop] at this
 have ht : xs.take (j + 1) = xs.take j ++ [xs[j]] := by rw [List.take_add_one, List.getElem?_eq_getElem hj]; rfl
 refine ⟨?_, ?_, ?_, hd, ?_⟩
 ·have := congrArg List.head? h3
  rw [List.head?_drop, List.head?_drop, List.getElem?_eq_getElem hj, List.getElem?_eq_getElem (by omega)] at this
  injection this
 ·intro hp
  rw [ht, List.filter_append, h2]
  simp [hp]
 ·intro hp
  rw [ht, List.filter_append, ← h2, List.take_add_one, List.take_set_of_le (Nat.le_refl _)]
  rw [List.getElem?_set_self (by omega)]
  simp [hp]
 ·rw [List.drop_set_of_lt (by omega)]
  exact hd
set_option maxHeartbeats 4000000 in
set_option maxRecDepth 100000 in
theorem del.calls {w : World} {gr c base : Nat} {ok : Nat → Prop} {xs : List Int} (hr : (Kd.int .i64).R 3 w base ok (.slice (some ⟨gr, 0, none⟩) xs.length c) xs) (hn : xs.length ≤ 1000)
  {f : FuncId} {fn : Func} {cap : Array Value} (hf : Tryz.prog.funcs[f]? = some fn) (hname : (fn.name == "runtime.NumGoroutine") = false) (hb : fn.body.isSome = true)
  (I : World → Prop) (hI : I w) (hIg : ∀ a b, I a → a.grownBy b (some gr) → I b) (p : Int → Bool)
  (hcmp : ∀ (w' : World) (x : Int), x ∈ xs → I w' → Calls Tryz.prog f (#[.int .i64 x] ++ cap) w' fun e w'' => e = .returned (.bool (p x)) ∧ Below w'.heap.size w' w'') :
  Calls Tryz.prog 142 #[.slice (some ⟨gr, 0, none⟩) xs.length c, .func (.func f) #[] cap] w fun e w' => (∃ A c2, e = .returned (.slice A (xs.filter (fun x => !p x)).length c2) ∧ (xs.filter (fun x => !p x)).length ≤ c2 ∧ (Kd.int .i64).C w' A (xs.filter (fun x => !p x)).length (xs.filter (fun x => !p x)) ∧ ∀ ad, A = some ad → ∃ cells, w'.heap[ad.block]? = some (.cells cells 3 (0, 0))) ∧ I w' ∧ w.grownBy w' (some gr) := by
 have HR0 := Aside0.mk hr
 have HN := Aside0.mk hn
 clear hr hn
 go_enter Tryz.func142, Tryz.ntmps142
 go_wp2_with fail
 refine (idx.calls HR0.out HN.out hf hname hb I hI (fun a b h k => hIg a b h (grown_of_below k _)) p hcmp).mono ?_
 rintro e w5 ⟨rfl, hi5, hb5⟩
 have HR := Aside0.mk (Kd.R_below HR0.out hb5)
 have HI := Aside0.mk hi5
 have HG := Aside0.mk (show w.grownBy w5 (some gr) from grown_of_below hb5 _)
 clear HR0 hI hi5 hb5
 cases hq : idxF p 0 xs with
 | none =>
  have HV := Aside0.mk (show idxV p xs = -1 by unfold idxV; rw [hq])
  have HF := Aside0.mk (show xs.filter (fun x => !p x) = xs from idx_none p xs 0 hq)
  rw [HV.out]
  clear HV hq
  go_wp2
  go_ret
  exact ⟨⟨_, _, by rw [HF.out]; rfl, by rw [HF.out]; exact (Kd.R_reads' HR.out).2.1, by rw [HF.out]; exact (Kd.R_reads' HR.out).2.2, fun ad h => by cases h; exact Kd.R_typed HR.out gr rfl⟩, HI.out, HG.out⟩
 | some i0 =>
  have HV := Aside0.mk (show idxV p xs = (i0 : Int) by unfold idxV; rw [hq])
  have HF := Aside0.mk (show i0 < xs.length ∧ xs.take i0 = (xs.take (i0 + 1)).filter (fun x => !p x) from by have h := idx_some p xs 0 i0 hq; simpa using h.2)
  rw [HV.out]
  have e0 : ((i0 : Int) == -1) = false := beq_eq_false_iff_ne.2 (by omega)
  have hl1 := HF.out.1
  have hn1 := HN.out
  have a0 : wrap64 ((i0 : Int) + 1) = (i0 : Int) + 1 := wrap_id (by omega) (by omega)
  clear HV hq
  go_wp2
  clear a0
  go_loopw [5, 6] (fun iv jv wr => ∃ (i j : Nat) (zs : List Int), iv = .int .i64 (i : Int) ∧ jv = .int .i64 (j : Int) ∧ i < j ∧ j ≤ xs.length ∧ Aside0 (zs.length = xs.length ∧ zs.take i = (xs.take j).filter (fun x => !p x) ∧ zs.drop j = xs.drop j) ∧ Aside0 ((Kd.int .i64).R 3 wr base ok (.slice (some ⟨gr, 0, none⟩) xs.length c) zs) ∧ Aside0 (I wr) ∧ Aside0 (w.grownBy wr (some gr))) (fun _ jv _ => xs.length - (intOf jv).toNat)
  case atStart => exact ⟨i0, i0 + 1, xs, rfl, by go_num, by omega, by omega, ⟨rfl, HF.out.2, rfl⟩, HR, HI, HG⟩
  case round =>
   clear HR HI HG
   obtain ⟨i, j, zs, rfl, rfl, hij, hj, HZ, HR, HI, HG⟩ := hrel
   by_cases hjl : j < xs.length
   ·have q0 : decide ((j : Int) < (xs.length : Int)) = true := decide_eq_true (by omega)
    have r0 : (0 : Int) ≤ (j : Int) := by omega
    have r1 : (j : Int) < (xs.length : Int) := by omega
    have s0 : (0 : Int) ≤ (i : Int) := by omega
    have s1 : (i : Int) < (xs.length : Int) := by omega
    have a9 : wrap64 ((j : Int) + 1) = (j : Int) + 1 := wrap_id (by omega) (by omega)
    have a8 : wrap64 ((i : Int) + 1) = (i : Int) + 1 := wrap_id (by omega) (by omega)
    obtain ⟨ca, fa⟩ := Kd.R_celln (0 : Int) HR.out (j : Int) r0 r1
    obtain ⟨cb, fb⟩ := Kd.R_celln (0 : Int) HR.out (i : Int) s0 s1
    obtain ⟨z1, z2, z3, z4, z5⟩ := set_take HZ.out.1 hij hjl HZ.out.2.1 HZ.out.2.2
    rw [Int.toNat_natCast, rdof zs j (by rw [HZ.out.1]; exact hjl), z1] at ca
    rw [Int.toNat_natCast] at cb fb
    have HM := Aside0.mk (List.getElem_mem hjl)
    generalize xs[j] = x at ca z1 z2 z3 z5 HM
    generalize rdOf (0 : Int) zs (i : Int) = y at cb
    have HZ2 := Aside0.mk (And.intro z2 (And.intro z3 (And.intro z4 z5)))
    clear z1 z2 z3 z4 z5 fa fb cb
    go_wp2_with fail
    refine goesU_ hf hname hb _ ?_
    refine (hcmp _ x HM.out HI.out).mono ?_
    rintro e w6 ⟨rfl, hb6⟩
    refine ⟨_, rfl, ?_⟩
    have n0_ := Aside0.mk (Kd.R_below HR.out hb6)
    have n1_ := Aside0.mk (hIg _ _ HI.out (grown_of_below hb6 _))
    have n2_ := Aside0.mk (HG.out.trans_row (grown_of_below hb6 _))
    clear HR HI HG hb6 ca
    cases hp : p x with
    | true =>
     have HZ3 := Aside0.mk (show zs.length = xs.length ∧ zs.take i = (xs.take (j + 1)).filter (fun x => !p x) ∧ zs.drop (j + 1) = xs.drop (j + 1) from ⟨HZ.out.1, HZ2.out.1 hp, HZ2.out.2.2.1⟩)
     clear hp
     go_wp2
     go_roundw
     case rel => exact ⟨i, j + 1, zs, rfl, by go_num, by omega, by omega, HZ3, n0_, n1_, n2_⟩
     case measure => simp [intOf]; omega
    | false =>
     have HZ3 := Aside0.mk (show (zs.set i x).length = xs.length ∧ (zs.set i x).take (i + 1) = (xs.take (j + 1)).filter (fun x => !p x) ∧ (zs.set i x).drop (j + 1) = xs.drop (j + 1) from ⟨by rw [List.length_set]; exact HZ.out.1, HZ2.out.2.1 hp, HZ2.out.2.2.2⟩)
     have hcf := Kd.R_celln (0 : Int) n0_.out (i : Int) s0 s1
     have hpg := Kd.R_putg n0_.out (i : Int) x
     rw [Int.toNat_natCast] at hcf hpg
     have cf0 := hcf.1
     have cf1 := hcf.2
     have m0_ := Aside0.mk hpg.1
     have m1_ := Aside0.mk (hIg _ _ n1_.out hpg.2)
     have m2_ := Aside0.mk (n2_.out.trans_row hpg.2)
     clear hp hcf hpg
     go_wp2
     go_roundw
     case rel => exact ⟨i + 1, j + 1, zs.set i x, by go_num, by go_num, by omega, by omega, HZ3, m0_, m1_, m2_⟩
     case measure => simp [intOf]; omega
   ·have q0 : decide ((j : Int) < (xs.length : Int)) = false := decide_eq_false (by omega)
    have hz2 := HZ.out.2.1
    rw [List.take_of_length_le (show xs.length ≤ j by omega)] at hz2
    have HZ2 := Aside0.mk hz2
    clear hz2
    have hil : i < xs.length := by omega
    obtain ⟨b1, b2, b3⟩ := Kd.R_reads' HR.out
    have s0 : (0 : Int) ≤ (i : Int) := by omega
    have s1 : (i : Int) ≤ (c : Int) := by omega
    have s2 : (i : Int) ≤ (xs.length : Int) := by omega
    have hclr := Lib.run_clear_slice (P := Tryz.prog) wr 42 3 0 (.int .i64 0) Tryz.underlying42 (fun w => by kernel_rfl) rfl rfl gr i (xs.length - i) (c - i) (by omega) (fun j hj => by
     have h := (Kd.R_celln (0 : Int) HR.out ((i + j : Nat) : Int) (by omega) (by omega)).1
     rw [Int.toNat_natCast] at h
     rw [h]
     rfl) (fun j hj => by
     have h := (Kd.R_celln (0 : Int) HR.out ((i + j : Nat) : Int) (by omega) (by omega)).2
     rw [Int.toNat_natCast] at h
     exact h)
    have hgs := grown_sets gr (List.replicate (xs.length - i) (Value.int .i64 0)) i wr
    have HI2 := Aside0.mk (hIg _ _ HI.out hgs)
    have HG2 := Aside0.mk (HG.out.trans_row hgs)
    have hfl : (xs.filter (fun x => !p x)).length = i := by rw [← HZ2.out, List.length_take]; have := HZ.out.1; omega
    have HC := Aside0.mk (show (Kd.int .i64).C (wr.setCells gr i (List.replicate (xs.length - i) (Value.int .i64 0))) (some ⟨gr, 0, none⟩) (xs.filter (fun x => !p x)).length (xs.filter (fun x => !p x)) from by
     refine Kd.C_of_reads (d := (0 : Int)) (h1 := fun _ => rfl) ⟨rfl, by omega, fun _ => ⟨_, rfl, fun j hj => ?_⟩⟩
     have e : (⟨gr, 0, none⟩ : Addr).add j = ⟨gr, j, none⟩ := by
      simp [Addr.add]
      intro h
      exact h.symm
     rw [e, World.cell?_setCells_out _ _ _ _ _ (fun _ _ => Or.inl (show j < i by omega))]
     have h := (Kd.R_celln (0 : Int) HR.out (j : Int) (by omega) (by omega)).1
     rw [Int.toNat_natCast, rdof zs j (by omega)] at h
     rw [h]
     have e2 : (xs.filter (fun x => !p x)).getD j 0 = zs[j]'(by omega) := by
      rw [← HZ2.out, List.getD_eq_getElem?_getD, List.getElem?_take_of_lt (by omega), List.getElem?_eq_getElem (by omega)]
      rfl
     rw [e2])
    have HTY := Aside0.mk (typed_sets (List.replicate (xs.length - i) (Value.int .i64 0)) i wr (Kd.R_typed HR.out gr rfl))
    have HFL := Aside0.mk (And.intro hfl (show i ≤ c by omega))
    clear b1 b3 hgs hfl HR HI HG
    go_wp2
    go_ret
    exact ⟨⟨_, _, by rw [HFL.out.1]; rfl, by rw [HFL.out.1]; exact HFL.out.2, HC.out, fun ad h => by cases h; exact HTY.out⟩, HI2.out, HG2.out⟩
def held (a : Int) : Int := mx 0 (mn a 1099511627776)
theorem held_held (a : Int) : held (held a) = held a := by
 unfold held mx mn
 repeat' split
 all_goals omega
theorem held_in (x : Int) : 0 ≤ held x ∧ held x ≤ 1099511627776 := by
 unfold held mx mn
 repeat' split
 all_goals omega
theorem hold.calls (a : Int) (w : World) : Calls Tryz.prog 141 #[.int .i64 a] w fun e w' => e = .returned (.int .i64 (held a)) ∧ Below w.heap.size w w' := by
 obtain ⟨j2, h2⟩ : ∃ j : Int, mn a 1099511627776 = j := ⟨_, rfl⟩
 have h2_ : (if 1099511627776 < a then 1099511627776 else a) = j2 := h2
 obtain ⟨j3, h3⟩ : ∃ j : Int, mx 0 j2 = j := ⟨_, rfl⟩
 have h3_ : (if 0 < j2 then j2 else 0) = j3 := h3
 have HE := Aside0.mk (show held a = j3 by unfold held; rw [h2, h3])
 clear h2 h3
 go_enter Tryz.func141, Tryz.ntmps141
 go_wp2
 go_ret
 exact ⟨by rw [HE.out]; rfl, Below.refl _ _⟩
def add2 (x y : Int) (i : Nat) : Int := if i = 0 then 0 else if i = 1 then held x else held (held x + held y)
set_option maxRecDepth 100000 in
theorem add2.calls {w : World} {A : Option Addr} {cp : Nat} (x y : Int) (h : (Kd.int .i64).C w A 2 [x, y]) : Calls Tryz.prog 103 #[.slice A 2 cp] w fun e w' => e = .returned (.int .i64 (held (held x + held y))) ∧ Below w.heap.size w w' := by
 have HC := Aside0.mk h
 clear h
 go_enter Tryz.func103, Tryz.ntmps103
 go_wp2
 go_loopw [3, 8] (fun sv iv wr => ∃ i : Nat, iv = .int .i64 (i : Int) ∧ sv = .int .i64 (add2 x y i) ∧ i ≤ 2 ∧ Aside0 (Below w.heap.size w wr)) (fun _ iv _ => (2 - intOf iv).toNat)
 case atStart => exact ⟨0, rfl, rfl, by omega, ⟨Below.refl _ _⟩⟩
 case round =>
  obtain ⟨i, rfl, rfl, hi, HB⟩ := hrel
  by_cases hlt : i < 2
  ·have q0 : decide ((i : Int) < 2) = true := decide_eq_true (by omega)
   have HR := Aside0.mk (Kd.C_below HC.out HB.out)
   obtain ⟨ad, rfl, hc⟩ := Kd.at_int HR.out (i : Int) (by omega) (by omega)
   have u0 : (0 : Int) ≤ (i : Int) := by omega
   have u1 : (i : Int) < 2 := by omega
   have a9 : wrap64 ((i : Int) + 1) = (i : Int) + 1 := wrap_id (by omega) (by omega)
   rw [Int.toNat_natCast] at hc
   generalize hv : rd [x, y] (i : Int) = v at hc
   have HV := Aside0.mk hv
   clear hv
   go_wp2_with fail
   refine (hold.calls v wr).mono ?_
   rintro e w4 ⟨rfl, hb4⟩
   have HB4 := Aside0.mk (below_go HB.out (hb4.mono (by have := HB.out.size; omega)))
   have h1 := held_in v
   have h2 : 0 ≤ add2 x y i ∧ add2 x y i ≤ 1099511627776 := by unfold add2; split; omega; split <;> exact held_in _
   have a8 : wrap64 (add2 x y i + held v) = add2 x y i + held v := wrap_id (by omega) (by omega)
   go_wp2_with fail
   refine (hold.calls _ w4).mono ?_
   rintro e w5 ⟨rfl, hb5⟩
   have HB5 := Aside0.mk (below_go HB4.out (hb5.mono (by have := HB4.out.size; omega)))
   clear hb4 hb5
   go_wp2
   go_roundw
   case rel =>
    refine ⟨i + 1, by go_num, ?_, by omega, HB5⟩
    congr 2
    rcases (show i = 0 ∨ i = 1 by omega) with rfl | rfl
    ·rw [← HV.out]
     show held (0 + held x) = held x
     rw [Int.zero_add, held_held]
    ·rw [← HV.out]
     rfl
   case measure => simp [intOf]; omega
  ·have q0 : decide ((i : Int) < 2) = false := decide_eq_false (by omega)
   have hi2 : i = 2 := by omega
   subst hi2
   go_wp2
   go_ret
   exact ⟨rfl, HB.out⟩
def DUE1.T1 : Bool × List (List Nat × List Nat) := (true, [([], []), ([], []), ([0], [0]), ([2], [2]), ([3, 1], [1, 3]), ([4], [4]), ([5], [5]), ([6], [6]), ([7], [7]), ([8], [8]), ([8], [8]), ([8], [8]), ([10, 8], [8, 10]), ([12, 8], [8, 12]), ([13, 11, 8], [8, 11, 13]), ([14, 8], [8, 14]), ([15, 8], [8, 15]), ([9, 16, 8, 8], [8, 9, 16]), ([17, 8], [8, 17]), ([8, 18], [8, 18]), ([19, 17, 0, 1, 2, 3, 4, 5, 6, 7, 8, 9, 10, 11, 12, 13, 14, 15, 16, 17, 18, 19], [19])])
def DUE1.B1 : List Nat := [0, 0, 1, 5, 15, 31, 63, 127, 255, 511, 511, 511, 1535, 5631, 15871, 32255, 65023, 131071, 262143, 524287, 1048575]
theorem DUE1.tab1 : rtab .any (opsOf Tryz.f143 1) = DUE1.T1 := by kernel_rfl
theorem DUE1.bits1 : waitsOk DUE1.T1.2 DUE1.B1 = true := by kernel_rfl
theorem passed.calls (now b : Int) (w : World) : Calls Tryz.prog 144 #[.int .i64 now, .int .i64 b] w fun e w' => e = .returned (.bool (decide (held b ≤ held now))) ∧ Below w.heap.size w w' := by
 go_enter Tryz.func144, Tryz.ntmps144
 go_wp2_with fail
 refine (hold.calls b w).mono ?_
 rintro e w4 ⟨rfl, hb4⟩
 go_wp2_with fail
 refine (hold.calls now w4).mono ?_
 rintro e w5 ⟨rfl, hb5⟩
 have HB := Aside0.mk (below_step hb4 hb5)
 clear hb4 hb5
 obtain ⟨x, hx⟩ : ∃ x, held b = x := ⟨_, rfl⟩
 obtain ⟨y, hy⟩ : ∃ y, held now = y := ⟨_, rfl⟩
 have HXY := Aside0.mk (And.intro hx hy)
 rw [hx, hy]
 clear hx hy
 go_wp2
 go_ret
 exact ⟨by rw [HXY.out.1, HXY.out.2]; rfl, HB.out⟩
def stay (f : Nat → Int × Int) (now : Int) (x : Int) : Bool := (f x.toNat).2 == 0 || !decide (held (f x.toNat).2 ≤ held now)
section
variable {w w' : World} {g : Nat} {f : Nat → Int × Int} {n gv : Int}
set_option maxHeartbeats 4000000 in
set_option maxRecDepth 100000 in
theorem due1.calls (h : TB w g f n gv) (ga gb : Nat) (now : Int) (ha : w.heap[ga]? = some (.cells #[.pointer (some ⟨g, 0, none⟩)] 101 (0, 0))) (hb : w.heap[gb]? = some (.cells #[.int .i64 now] 3 (0, 0))) (i : Nat) (hi : i < 8) :
  Calls Tryz.prog 143 #[.int .i64 (i : Int), .pointer (some ⟨ga, 0, none⟩), .pointer (some ⟨gb, 0, none⟩)] w fun e w' => e = .returned (.bool (stay f now (i : Int))) ∧ Below w.heap.size w w' := by
 obtain ⟨a0, a1⟩ := h.at i hi
 have c0 := (blk_cell ha 0).trans rfl
 have d0 := (blk_cell hb 0).trans rfl
 have q1 : (0 : Int) ≤ (i : Int) := by omega
 have q2 : (i : Int) < 8 := by omega
 have hs : stay f now (i : Int) = ((f i).2 == 0 || !decide (held (f i).2 ≤ held now)) := by unfold stay; rw [Int.toNat_natCast]
 generalize (f i).2 = y at a1 hs
 have HA := Aside0.mk (show w.cell? _ = _ ∧ w.cell? _ = _ ∧ w.cell? _ = _ from And.intro a1 (And.intro c0 d0))
 clear h ha hb a0 a1 c0 d0
 by_cases hy : y = 0
 ·subst hy
  have HS := Aside0.mk (show stay f now (i : Int) = true from hs)
  clear hs
  obtain ⟨k0, k1, k2⟩ := HA.out
  go_enter Tryz.func143, Tryz.ntmps143
  go_wp2
  go_quiet (fail)
  go_wp2
  go_ret
  exact ⟨by rw [HS.out]; rfl, pw_below_drewN (Below.refl _ _) _⟩
 ·have e0 : (y == 0) = false := beq_eq_false_iff_ne.2 hy
  have HS := Aside0.mk (show stay f now (i : Int) = !decide (held y ≤ held now) by rw [hs, e0]; rfl)
  clear hs
  go_enter Tryz.func143, Tryz.ntmps143
  go_wp2
  refine start_ (n := 21) (S := fun w' => w'.cell? ⟨g, i * 2 + 1, none⟩ = some (.int .i64 y) ∧ w'.cell? ⟨ga, 0, none⟩ = some (.pointer (some ⟨g, 0, none⟩)) ∧ w'.cell? ⟨gb, 0, none⟩ = some (.int .i64 now)) (ds := []) #[O,O,O,O,O,O,O,O,O,O,O,O,O,O,O,O,O,O,O,O,O] (by kernel_rfl) rfl rfl ⟨HA.out.1, HA.out.2.1, HA.out.2.2⟩ (fun hHeld => ?_)
  refine with_tabW DUE1.tab1 DUE1.bits1 (fun HT_ HW_ => ?_)
  refine pure_ (i := 1) (N := some 6) (v := ?_) (a' := ?_) #[O,Y,O,O,O,O,O,O,O,O,O,O,O,O,O,O,O,O,O,O,O] rfl rfl (any_of HT_.out (by kernel_rfl)) (fun _ _ _ h => h) (Or.inl ⟨by rfl, ?_⟩) ?_ ?_
  rotate_left
  ·intro w'
   go_simp
   with_reducible rfl
  rotate_left
  ·simp only [PN]
   rfl
  refine take_ (i := 0) (N := some 5) (v := ?_) (a' := ?_) #[Y,Y,O,O,O,O,O,O,O,O,O,O,O,O,O,O,O,O,O,O,O] rfl rfl (take_ofW HT_.out HW_.out (by kernel_rfl)) (fun _ _ _ h => h) (Or.inl ⟨by rfl, ?_⟩) hHeld ?_ ?_
  rotate_left
  ·rintro w' ⟨s0, s1, s2⟩
   go_simp
   with_reducible rfl
  rotate_left
  ·simp only [PN]
   rfl
  refine pure_ (i := 2) (N := some 7) (v := ?_) (a' := ?_) #[Y,Y,Y,O,O,O,O,O,O,O,O,O,O,O,O,O,O,O,O,O,O] rfl rfl (any_of HT_.out (by kernel_rfl)) (fun _ _ _ h => h) (Or.inl ⟨by rfl, ?_⟩) ?_ ?_
  rotate_left
  ·intro w'
   go_simp
   with_reducible rfl
  rotate_left
  ·simp only [PN]
   rfl
  refine pure_ (i := 3) (N := some 8) (v := ?_) (a' := ?_) #[Y,Y,Y,Y,O,O,O,O,O,O,O,O,O,O,O,O,O,O,O,O,O] rfl rfl (any_of HT_.out (by kernel_rfl)) (fun _ _ _ h => h) (Or.inl ⟨by rfl, ?_⟩) ?_ ?_
  rotate_left
  ·intro w'
   go_simp
   with_reducible rfl
  rotate_left
  ·simp only [PN]
   rfl
  refine pure_ (i := 4) (N := some 9) (v := ?_) (a' := ?_) #[Y,Y,Y,Y,Y,O,O,O,O,O,O,O,O,O,O,O,O,O,O,O,O] rfl rfl (any_of HT_.out (by kernel_rfl)) (fun _ _ _ h => h) (Or.inl ⟨by rfl, ?_⟩) ?_ ?_
  rotate_left
  ·intro w'
   go_simp
   with_reducible rfl
  rotate_left
  ·simp only [PN]
   rfl
  refine pure_ (i := 5) (N := some 10) (v := ?_) (a' := ?_) #[Y,Y,Y,Y,Y,Y,O,O,O,O,O,O,O,O,O,O,O,O,O,O,O] rfl rfl (any_of HT_.out (by kernel_rfl)) (fun _ _ _ h => h) (Or.inl ⟨by rfl, ?_⟩) ?_ ?_
  rotate_left
  ·intro w'
   go_simp
   with_reducible rfl
  rotate_left
  ·simp only [PN]
   rfl
  refine take_ (i := 6) (N := some 11) (v := ?_) (a' := ?_) #[Y,Y,Y,Y,Y,Y,Y,O,O,O,O,O,O,O,O,O,O,O,O,O,O] rfl rfl (take_ofW HT_.out HW_.out (by kernel_rfl)) (fun _ _ _ h => h) (Or.inl ⟨by rfl, ?_⟩) hHeld ?_ ?_
  rotate_left
  ·rintro w' ⟨s0, s1, s2⟩
   go_simp
   with_reducible rfl
  rotate_left
  ·simp only [PN]
   rfl
  refine pure_ (i := 7) (N := some 12) (v := ?_) (a' := ?_) #[Y,Y,Y,Y,Y,Y,Y,Y,O,O,O,O,O,O,O,O,O,O,O,O,O] rfl rfl (any_of HT_.out (by kernel_rfl)) (fun _ _ _ h => h) (Or.inl ⟨by rfl, ?_⟩) ?_ ?_
  rotate_left
  ·intro w'
   go_simp
   with_reducible rfl
  rotate_left
  ·simp only [PN]
   rfl
  refine pure_ (i := 8) (N := some 13) (v := ?_) (a' := ?_) #[Y,Y,Y,Y,Y,Y,Y,Y,Y,O,O,O,O,O,O,O,O,O,O,O,O] rfl rfl (any_of HT_.out (by kernel_rfl)) (fun _ _ _ h => h) (Or.inl ⟨by rfl, ?_⟩) ?_ ?_
  rotate_left
  ·intro w'
   go_simp
   with_reducible rfl
  rotate_left
  ·simp only [PN]
   rfl
  refine pure_ (i := 11) (N := some 16) (v := ?_) (a' := ?_) #[Y,Y,Y,Y,Y,Y,Y,Y,Y,O,O,Y,O,O,O,O,O,O,O,O,O] rfl rfl (any_of HT_.out (by kernel_rfl)) (fun _ _ _ h => h) (Or.inl ⟨by rfl, ?_⟩) ?_ ?_
  rotate_left
  ·intro w'
   go_simp
   with_reducible rfl
  rotate_left
  ·simp only [PN]
   rfl
  refine take_ (i := 9) (N := some 14) (v := ?_) (a' := ?_) #[Y,Y,Y,Y,Y,Y,Y,Y,Y,Y,O,Y,O,O,O,O,O,O,O,O,O] rfl rfl (take_ofW HT_.out HW_.out (by kernel_rfl)) (fun _ _ _ h => h) (Or.inl ⟨by rfl, ?_⟩) hHeld ?_ ?_
  rotate_left
  ·rintro w' ⟨s0, s1, s2⟩
   go_simp
   with_reducible rfl
  rotate_left
  ·simp only [PN]
   rfl
  refine take_ (i := 10) (N := some 15) (v := ?_) (a' := ?_) #[Y,Y,Y,Y,Y,Y,Y,Y,Y,Y,Y,Y,O,O,O,O,O,O,O,O,O] rfl rfl (take_ofW HT_.out HW_.out (by kernel_rfl)) (fun _ _ _ h => h) (Or.inl ⟨by rfl, ?_⟩) hHeld ?_ ?_
  rotate_left
  ·rintro w' ⟨s0, s1, s2⟩
   go_simp
   with_reducible rfl
  rotate_left
  ·simp only [PN]
   rfl
  refine pure_ (i := 12) (N := some 17) (v := ?_) (a' := ?_) #[Y,Y,Y,Y,Y,Y,Y,Y,Y,Y,Y,Y,Y,O,O,O,O,O,O,O,O] rfl rfl (any_of HT_.out (by kernel_rfl)) (fun _ _ _ h => h) (Or.inl ⟨by rfl, ?_⟩) ?_ ?_
  rotate_left
  ·intro w'
   go_simp
   with_reducible rfl
  rotate_left
  ·simp only [PN]
   rfl
  refine pure_ (i := 13) (N := some 18) (v := ?_) (a' := ?_) #[Y,Y,Y,Y,Y,Y,Y,Y,Y,Y,Y,Y,Y,Y,O,O,O,O,O,O,O] rfl rfl (any_of HT_.out (by kernel_rfl)) (fun _ _ _ h => h) (Or.inl ⟨by rfl, ?_⟩) ?_ ?_
  rotate_left
  ·intro w'
   go_simp
   with_reducible rfl
  rotate_left
  ·simp only [PN]
   rfl
  refine pure_ (i := 14) (N := some 19) (v := ?_) (a' := ?_) #[Y,Y,Y,Y,Y,Y,Y,Y,Y,Y,Y,Y,Y,Y,Y,O,O,O,O,O,O] rfl rfl (any_of HT_.out (by kernel_rfl)) (fun _ _ _ h => h) (Or.inl ⟨by rfl, ?_⟩) ?_ ?_
  rotate_left
  ·intro w'
   go_simp
   with_reducible rfl
  rotate_left
  ·simp only [PN]
   rfl
  refine pure_ (i := 15) (N := some 20) (v := ?_) (a' := ?_) #[Y,Y,Y,Y,Y,Y,Y,Y,Y,Y,Y,Y,Y,Y,Y,Y,O,O,O,O,O] rfl rfl (any_of HT_.out (by kernel_rfl)) (fun _ _ _ h => h) (Or.inl ⟨by rfl, ?_⟩) ?_ ?_
  rotate_left
  ·intro w'
   go_simp
   with_reducible rfl
  rotate_left
  ·simp only [PN]
   rfl
  refine take_ (i := 16) (N := some 21) (v := ?_) (a' := ?_) #[Y,Y,Y,Y,Y,Y,Y,Y,Y,Y,Y,Y,Y,Y,Y,Y,Y,O,O,O,O] rfl rfl (take_ofW HT_.out HW_.out (by kernel_rfl)) (fun _ _ _ h => h) (Or.inl ⟨by rfl, ?_⟩) hHeld ?_ ?_
  rotate_left
  ·rintro w' ⟨s0, s1, s2⟩
   go_simp
   with_reducible rfl
  rotate_left
  ·simp only [PN]
   rfl
  refine one_ (i := 17) (N := some 22) #[Y,Y,Y,Y,Y,Y,Y,Y,Y,Y,Y,Y,Y,Y,Y,Y,Y,Y,O,O,O] rfl rfl (one_of HT_.out (by kernel_rfl)) (by decide) (fun K hK => ?_)
  refine goes_ Tryz.func144 (by kernel_rfl) rfl #[.int .i64 now, .int .i64 y] (by rfl) rfl rfl (by (try simp only [List.map_toArray, List.map_cons, List.map_nil]); first | done | rfl) ?_
  with_reducible refine (passed.calls now y _).mono ?_
  rintro e w5 ⟨rfl, hb5⟩
  refine ⟨_, rfl, ?_⟩
  have HA2 := Aside0.mk (And.intro ((hb5.cell (World.block_lt_of_cell? _ _ HA.out.1)).trans HA.out.1) (And.intro ((hb5.cell (World.block_lt_of_cell? _ _ HA.out.2.1)).trans HA.out.2.1) ((hb5.cell (World.block_lt_of_cell? _ _ HA.out.2.2)).trans HA.out.2.2)))
  have HB := Aside0.mk (below_go (below_drew (Below.refl w.heap.size w)) hb5)
  refine hK.out _ _ ⟨HA2.out.1, HA2.out.2.1, HA2.out.2.2⟩ (fun hHeld => ?_)
  clear hK K
  refine norm_ (a' := ?_) ?_ ?_
  rotate_left
  ·show Act.put _ (some 22) _ = _
   simp only [PN]
   rfl
  refine pure_ (i := 18) (N := some 23) (v := ?_) (a' := ?_) #[Y,Y,Y,Y,Y,Y,Y,Y,Y,Y,Y,Y,Y,Y,Y,Y,Y,Y,Y,O,O] rfl rfl (any_of HT_.out (by kernel_rfl)) (fun _ _ _ h => h) (Or.inl ⟨by rfl, ?_⟩) ?_ ?_
  rotate_left
  ·intro w'
   go_simp
   with_reducible rfl
  rotate_left
  ·simp only [PN]
   rfl
  refine pure_ (i := 19) (N := some 24) (v := ?_) (a' := ?_) #[Y,Y,Y,Y,Y,Y,Y,Y,Y,Y,Y,Y,Y,Y,Y,Y,Y,Y,Y,Y,O] rfl rfl (any_of HT_.out (by kernel_rfl)) (fun _ _ _ h => h) (Or.inl ⟨by rfl, ?_⟩) ?_ ?_
  rotate_left
  ·intro w'
   go_simp
   with_reducible rfl
  rotate_left
  ·simp only [PN]
   rfl
  refine pure_ (i := 20) (N := some 4) (v := ?_) (a' := ?_) #[Y,Y,Y,Y,Y,Y,Y,Y,Y,Y,Y,Y,Y,Y,Y,Y,Y,Y,Y,Y,Y] rfl rfl (any_of HT_.out (by kernel_rfl)) (fun _ _ _ h => h) (Or.inl ⟨by rfl, ?_⟩) ?_ ?_
  rotate_left
  ·intro w'
   go_simp
   with_reducible rfl
  rotate_left
  ·simp only [PN]
   rfl
  refine done_ (done_of HT_.out (by kernel_rfl)) ?_
  clear hHeld
  go_wp2
  go_ret
  exact ⟨by rw [HS.out]; rfl, HB.out⟩
theorem del.nil {F : Value} (w : World) : Calls Tryz.prog 142 #[.slice none 0 0, F] w fun e w' => e = .returned (.slice none 0 0) ∧ w' = w := by
 have e0 : ∀ w : World, Calls Tryz.prog 197 #[.slice none 0 0, F] w fun e w' => e = .returned (.int .i64 (-1)) ∧ w' = w := by
  intro w
  go_enter Tryz.func197, Tryz.ntmps197
  go_wp2
  go_loopw [8] (fun iv wr => iv = .int .i64 0 ∧ wr = w) (fun _ _ => 0)
  case atStart => exact ⟨rfl, rfl⟩
  case round =>
   obtain ⟨rfl, rfl⟩ := hrel
   go_wp2
   go_ret
   exact ⟨rfl, rfl⟩
 go_enter Tryz.func142, Tryz.ntmps142
 go_wp2_with fail
 refine (e0 w).mono ?_
 rintro e w5 ⟨rfl, rfl⟩
 go_wp2
 go_ret
 exact ⟨rfl, rfl⟩
set_option maxHeartbeats 4000000 in
set_option maxRecDepth 100000 in
theorem table.Due.calls (h : TB w g f n gv) (h0 : 1 ≤ n) (h8 : n ≤ 8) (now : Int) : Calls Tryz.prog 104 #[.pointer (some ⟨g, 0, none⟩), .int .i64 now] w fun e w' => ∃ A c, ∃ ys : List Int, e = .returned (.slice A ys.length c) ∧ ys.length ≤ c ∧ ys.Perm ((taken f n n.toNat).filter (fun x => !stay f now x)) ∧ (Kd.int .i64).C w' A ys.length ys ∧ (∀ ad, A = some ad → ∃ cells, w'.heap[ad.block]? = some (.cells cells 3 (0, 0))) ∧ Below w.heap.size w w' := by
 have H := Aside0.mk h
 have HN := Aside0.mk (And.intro h0 h8)
 clear h h0 h8
 have hmf := makeFn
 go_enter Tryz.func104, Tryz.ntmps104
 go_wp2_with fail
 have HA1 := Aside0.mk (blk_new w (.cells #[.pointer (some ⟨g, 0, none⟩)] 101))
 have HB1 := Aside0.mk (below_alloc (below_alloc (Below.refl w.heap.size w) (.cells #[.pointer (some ⟨g, 0, none⟩)] 101)) (.cells #[.int .i64 now] 3))
 have HA2 := Aside0.mk (blk_below HA1.out (below_alloc (Below.refl _ _) (.cells #[.int .i64 now] 3)))
 have hs1 : (w.alloc (.cells #[.pointer (some ⟨g, 0, none⟩)] 101)).heap.size = w.heap.size + 1 := by simp
 have hnew := blk_new (w.alloc (.cells #[.pointer (some ⟨g, 0, none⟩)] 101)) (.cells #[.int .i64 now] 3)
 rw [hs1] at hnew
 have HA3 := Aside0.mk hnew
 have H2 := Aside0.mk (H.out.below HB1.out)
 clear hs1 hnew HA1 H
 generalize (w.alloc (.cells #[.pointer (some ⟨g, 0, none⟩)] 101)).alloc (.cells #[.int .i64 now] 3) = w1 at HB1 HA2 HA3 H2 ⊢
 refine (table.Slots.calls H2.out HN.out.1 HN.out.2).mono ?_
 rintro e w4 ⟨v4, ys, rfl, hp, hnil, hr, hb4⟩
 have HB := Aside0.mk (below_step HB1.out hb4)
 have G1 := Aside0.mk (blk_below HA2.out hb4)
 have G2 := Aside0.mk (blk_below HA3.out hb4)
 have H4 := Aside0.mk (H2.out.below hb4)
 have HP := Aside0.mk (hp.filter (fun x => !stay f now x))
 have HM := Aside0.mk (show ys.length ≤ 8 ∧ ∀ x ∈ ys, ∃ k : Nat, x = (k : Int) ∧ k < 8 from ⟨by have h1 := taken_length f n n.toNat; have h2 := hp.length_eq; have h3 := HN.out; omega, fun x hx => by
  obtain ⟨k, rfl, hk, _⟩ := (taken_mem f n _ x).1 (hp.mem_iff.1 hx)
  exact ⟨k, rfl, by have := HN.out; omega⟩⟩)
 have HSZ := Aside0.mk (blk_lt HA3.out)
 clear hp HA2 HA3 H2 hb4
 cases ys with
 | nil =>
  have e4 := hnil rfl
  subst e4
  clear hr hnil
  go_wp2_with fail
  refine (del.nil w4).mono ?_
  rintro e w5 ⟨rfl, rfl⟩
  go_wp2
  go_ret
  exact ⟨none, 0, [], rfl, Nat.le_refl _, HP.out, Kd.C_nil _ _, (fun _ h => by cases h), HB.out⟩
 | cons y yt =>
  obtain ⟨gr, c4, rfl, hg1, hg2, cells, hc⟩ := Kd.R_form hr (by simp)
  have HR := Aside0.mk hr
  have hne1 : some g ≠ some gr := fun e => by injection e with e; subst e; rw [H4.out] at hc; injection hc with hc; injection hc with _ hc; exact absurd hc (by decide)
  have hne2 : some w.heap.size ≠ some gr := fun e => by injection e with e; subst e; have := HB1.out.size; have := blk_lt G1.out; rw [G1.out] at hc; injection hc with hc; injection hc with _ hc; exact absurd hc (by decide)
  have hsz := HSZ.out
  have hne3 : some (w.heap.size + 1) ≠ some gr := fun e => by injection e with e; omega
  have HNE := Aside0.mk (And.intro hne1 (And.intro hne2 (And.intro hne3 (show w.heap.size ≤ gr by omega))))
  clear hne1 hne2 hne3 hc hg2 hg1 hsz hr hnil
  go_wp2_with fail
  refine (del.calls (xs := y :: yt) HR.out (by have := HM.out.1; omega) Tryz.func143 rfl rfl (fun w' => TB w' g f n gv ∧ w'.heap[w.heap.size]? = some (.cells #[.pointer (some ⟨g, 0, none⟩)] 101 (0, 0)) ∧ w'.heap[w.heap.size + 1]? = some (.cells #[.int .i64 now] 3 (0, 0))) ⟨H4.out, G1.out, G2.out⟩ (fun a b h k => ⟨blk_grown h.1 k HNE.out.1, blk_grown h.2.1 k HNE.out.2.1, blk_grown h.2.2 k HNE.out.2.2.1⟩) (stay f now) ?_).mono ?_
  ·intro w' x hx hI
   obtain ⟨i1, rfl, hi1⟩ := HM.out.2 x hx
   exact due1.calls hI.1 _ _ now hI.2.1 hI.2.2 i1 hi1
  rintro e w5 ⟨⟨A5, c5, rfl, hl5, hc5, ht5⟩, hi5, hg5⟩
  have HC5 := Aside0.mk (And.intro hl5 (And.intro hc5 ht5))
  have HB2 := Aside0.mk (HB.out.trans (below_of_grown hg5 HNE.out.2.2.2 HB.out.size))
  clear hl5 hc5 ht5 hi5 hg5
  go_wp2
  go_ret
  exact ⟨_, _, _, rfl, HC5.out.1, HP.out, HC5.out.2.1, HC5.out.2.2, HB2.out⟩
def ADM4.T4 : Bool × List (List Nat × List Nat) := (true, [([], []), ([0], [0]), ([1], [1]), ([], []), ([3], [3]), ([4], [4]), ([5], [5]), ([2, 6], [2, 6]), ([], []), ([7, 8], [7, 8]), ([9, 9, 0, 1, 2, 3, 4, 5, 6, 7, 8, 9], [9])])
def ADM4.B4 : List Nat := [0, 1, 3, 0, 8, 24, 56, 127, 0, 511, 1023]
theorem ADM4.tab4 : rtab .any (opsOf Tryz.f100 4) = ADM4.T4 := by kernel_rfl
theorem ADM4.bits4 : waitsOk ADM4.T4.2 ADM4.B4 = true := by kernel_rfl
theorem free_lt (f : Nat → Int × Int) (d : Nat) : ∀ i k, free f d i = some k → i ≤ k ∧ k < i + d := by
 induction d with
 | zero => intro i k h; cases h
 | succ d ih =>
  intro i k h
  rw [free_succ] at h
  by_cases hz : (f i).1 = 0 ∧ (f i).2 = 0
  ·rw [if_pos hz] at h
   injection h with h
   omega
  ·rw [if_neg hz] at h
   have := ih _ _ h
   omega
def until_ (now ticks : Int) : Int := if 0 < ticks then held (held now + held ticks) else 0
def admitT (f : Nat → Int × Int) (m : Nat) (gv now ticks : Int) : Nat → Int × Int := match free f m 0 with | some i => updT f i (gv + 1, until_ now ticks) | none => f
set_option maxHeartbeats 4000000 in
set_option maxRecDepth 100000 in
theorem table.Admit.calls {m : Nat} (h : TB w g f (m : Int) gv) (h0 : 1 ≤ m) (h8 : m ≤ 8) (hg0 : 0 ≤ gv) (hg1 : gv ≤ 1000000) (now ticks : Int) :
  Calls Tryz.prog 100 #[.pointer (some ⟨g, 0, none⟩), .int .i64 now, .int .i64 ticks] w fun e w' => e = .returned (.tuple #[.int .i64 (gv + 1), .int .i64 (freeV f m), .bool (decide (0 ≤ freeV f m))]) ∧
   TB w' g (admitT f m gv now ticks) (m : Int) (gv + 1) ∧ w.grownBy w' (some g) := by
 have H := Aside0.mk h
 have HN := Aside0.mk (And.intro h0 (And.intro h8 (And.intro hg0 hg1)))
 have k0 := h.given
 have f0 := blk_frozen h 17
 have a0 : wrap64 (gv + 1) = gv + 1 := wrap_id (by omega) (by omega)
 have hp := blk_put h 17 (.int .i64 (gv + 1)) (show (tcs f (m : Int) gv).setIfInBounds 17 (.int .i64 (gv + 1)) = tcs f (m : Int) (gv + 1) from rfl)
 have H2 := Aside0.mk (show TB (w.setCell ⟨g, 17, none⟩ (.int .i64 (gv + 1))) g f (m : Int) (gv + 1) from hp)
 have HG := Aside0.mk (grown_set w g 17 (.int .i64 (gv + 1)))
 have u0 : (m : Int) ≤ (8 : Int) := by omega
 have u1 : (0 : Int) ≤ (m : Int) := by omega
 clear h h0 h8 hg0 hg1 hp
 go_enter Tryz.func100, Tryz.ntmps100
 go_wp2
 clear k0 f0 a0 H
 generalize w.setCell ⟨g, 17, none⟩ (.int .i64 (gv + 1)) = w1 at H2 HG ⊢
 obtain ⟨gw, hgw⟩ : ∃ x, gv + 1 = x := ⟨_, rfl⟩
 have HGW := Aside0.mk hgw
 rw [hgw] at H2 ⊢
 clear hgw
 have n0_ := Aside0.mk (H2.out.below (below_drew (Below.refl _ _)))
 have n1_ := Aside0.mk (HG.out.trans_row (grown_of_below (below_drew (Below.refl _ _)) _))
 clear H2 HG
 have H2 := n0_
 have HG := n1_
 clear n0_ n1_
 refine start_ (n := 11) (S := fun w' => w'.cell? ⟨g, 16, none⟩ = some (.int .i64 (m : Int))) (ds := []) #[O,O,O,O,O,O,O,O,O,O,O] (by kernel_rfl) rfl rfl (H2.out.size) (fun hHeld => ?_)
 refine with_tabW ADM4.tab4 ADM4.bits4 (fun HT_ HW_ => ?_)
 refine pure_ (i := 0) (N := some 20) (v := ?_) (a' := ?_) #[Y,O,O,O,O,O,O,O,O,O,O] rfl rfl (any_of HT_.out (by kernel_rfl)) (fun _ _ _ h => h) (Or.inl ⟨by rfl, ?_⟩) ?_ ?_
 rotate_left
 ·intro w'
  go_simp
  with_reducible rfl
 rotate_left
 ·simp only [PN]
  rfl
 refine pure_ (i := 1) (N := some 21) (v := ?_) (a' := ?_) #[Y,Y,O,O,O,O,O,O,O,O,O] rfl rfl (any_of HT_.out (by kernel_rfl)) (fun _ _ _ h => h) (Or.inl ⟨by rfl, ?_⟩) ?_ ?_
 rotate_left
 ·intro w'
  go_simp
  with_reducible rfl
 rotate_left
 ·simp only [PN]
  rfl
 refine pure_ (i := 2) (N := some 22) (v := ?_) (a' := ?_) #[Y,Y,Y,O,O,O,O,O,O,O,O] rfl rfl (any_of HT_.out (by kernel_rfl)) (fun _ _ _ h => h) (Or.inl ⟨by rfl, ?_⟩) ?_ ?_
 rotate_left
 ·intro w'
  go_simp
  with_reducible rfl
 rotate_left
 ·simp only [PN]
  rfl
 refine pure_ (i := 3) (N := some 23) (v := ?_) (a' := ?_) #[Y,Y,Y,Y,O,O,O,O,O,O,O] rfl rfl (any_of HT_.out (by kernel_rfl)) (fun _ _ _ h => h) (Or.inl ⟨by rfl, ?_⟩) ?_ ?_
 rotate_left
 ·intro w'
  go_simp
  with_reducible rfl
 rotate_left
 ·simp only [PN]
  rfl
 refine pure_ (i := 4) (N := some 24) (v := ?_) (a' := ?_) #[Y,Y,Y,Y,Y,O,O,O,O,O,O] rfl rfl (any_of HT_.out (by kernel_rfl)) (fun _ _ _ h => h) (Or.inl ⟨by rfl, ?_⟩) ?_ ?_
 rotate_left
 ·intro w'
  go_simp
  with_reducible rfl
 rotate_left
 ·simp only [PN]
  rfl
 refine pure_ (i := 5) (N := some 25) (v := ?_) (a' := ?_) #[Y,Y,Y,Y,Y,Y,O,O,O,O,O] rfl rfl (any_of HT_.out (by kernel_rfl)) (fun _ _ _ h => h) (Or.inl ⟨by rfl, ?_⟩) ?_ ?_
 rotate_left
 ·intro w'
  go_simp
  with_reducible rfl
 rotate_left
 ·simp only [PN]
  rfl
 refine pure_ (i := 8) (N := some 28) (v := ?_) (a' := ?_) #[Y,Y,Y,Y,Y,Y,O,O,Y,O,O] rfl rfl (any_of HT_.out (by kernel_rfl)) (fun _ _ _ h => h) (Or.inl ⟨by rfl, ?_⟩) ?_ ?_
 rotate_left
 ·intro w'
  go_simp
  with_reducible rfl
 rotate_left
 ·simp only [PN]
  rfl
 refine take_ (i := 6) (N := some 26) (v := ?_) (a' := ?_) #[Y,Y,Y,Y,Y,Y,Y,O,Y,O,O] rfl rfl (take_ofW HT_.out HW_.out (by kernel_rfl)) (fun _ _ _ h => h) (Or.inl ⟨by rfl, ?_⟩) hHeld ?_ ?_
 rotate_left
 ·intro w' s0
  go_simp
  with_reducible rfl
 rotate_left
 ·simp only [PN]
  rfl
 refine pure_ (i := 7) (N := some 27) (v := ?_) (a' := ?_) #[Y,Y,Y,Y,Y,Y,Y,Y,Y,O,O] rfl rfl (any_of HT_.out (by kernel_rfl)) (fun _ _ _ h => h) (Or.inl ⟨by rfl, ?_⟩) ?_ ?_
 rotate_left
 ·intro w'
  go_simp
  with_reducible rfl
 rotate_left
 ·simp only [PN]
  rfl
 refine one_ (i := 9) (N := some 29) #[Y,Y,Y,Y,Y,Y,Y,Y,Y,Y,O] rfl rfl (one_of HT_.out (by kernel_rfl)) (by decide) (fun K hK => ?_)
 refine goes_ Tryz.func139 (by kernel_rfl) rfl #[.slice (some ⟨g, 0, none⟩) m 8, .agg #[.int .i64 0, .int .i64 0]] (by rfl) rfl rfl (by (try simp only [List.map_toArray, List.map_cons, List.map_nil]); first | done | rfl) ?_
 with_reducible refine (slices.Index.calls H2.out m HN.out.2.1 8).mono ?_
 rintro e w5 ⟨rfl, hb5⟩
 refine ⟨_, rfl, ?_⟩
 have n0_ := Aside0.mk (H2.out.below hb5)
 have n1_ := Aside0.mk (HG.out.trans_row (grown_of_below hb5 _))
 clear H2 HG hb5
 have H2 := n0_
 have HG := n1_
 clear n0_ n1_
 refine hK.out _ _ (H2.out.size) (fun hHeld => ?_)
 clear hK K
 refine norm_ (a' := ?_) ?_ ?_
 rotate_left
 ·show Act.put _ (some 29) _ = _
  simp only [PN]
  rfl
 refine pure_ (i := 10) (N := some 9) (v := ?_) (a' := ?_) #[Y,Y,Y,Y,Y,Y,Y,Y,Y,Y,Y] rfl rfl (any_of HT_.out (by kernel_rfl)) (fun _ _ _ h => h) (Or.inl ⟨by rfl, ?_⟩) ?_ ?_
 rotate_left
 ·intro w'
  go_simp
  with_reducible rfl
 rotate_left
 ·simp only [PN]
  rfl
 refine done_ (done_of HT_.out (by kernel_rfl)) ?_
 clear hHeld
 cases hf : free f m 0 with
 | none =>
  have hv : freeV f m = -1 := by unfold freeV; rw [hf]
  have HF := Aside0.mk (show freeV f m = -1 ∧ admitT f m gv now ticks = f from ⟨hv, by unfold admitT; rw [hf]⟩)
  rw [hv]
  have k0 := H2.out.given
  clear hf hv
  go_wp2
  go_ret3
  exact ⟨by rw [HF.out.1, HGW.out]; rfl, by rw [HF.out.2, HGW.out]; exact H2.out, HG.out⟩
 | some i =>
  have hv : freeV f m = (i : Int) := by unfold freeV; rw [hf]
  have hi := free_lt f m 0 i hf
  have HF := Aside0.mk (show freeV f m = (i : Int) ∧ admitT f m gv now ticks = updT f i (gv + 1, until_ now ticks) from ⟨hv, by unfold admitT; rw [hf]⟩)
  have HI := Aside0.mk (show i < 8 by have := HN.out; omega)
  rw [hv]
  have k0 := H2.out.given
  have q0 : decide ((i : Int) < 0) = false := decide_eq_false (by omega)
  have q1 : (0 : Int) ≤ (i : Int) := by omega
  have q2 : (i : Int) < 8 := by have := HN.out; omega
  clear hf hv hi
  by_cases ht : 0 < ticks
  ·have t0 : decide (0 < ticks) = true := decide_eq_true ht
   have HU := Aside0.mk (show until_ now ticks = held (held now + held ticks) by unfold until_; rw [if_pos ht])
   have hst := H2.out.put i HI.out (gw, held (held now + held ticks))
   go_wp2_with fail
   have A1 := Aside0.mk (blk_new w5 (.cells #[.int .i64 gw, .int .i64 0] 159))
   have BA := Aside0.mk (below_alloc (below_alloc (Below.refl w5.heap.size w5) (.cells #[.int .i64 gw, .int .i64 0] 159)) (.cells #[.int .i64 now, .int .i64 ticks] 3))
   have A2 := Aside0.mk (blk_below A1.out (below_alloc (Below.refl _ _) (.cells #[.int .i64 now, .int .i64 ticks] 3)))
   have hs1 : (w5.alloc (.cells #[.int .i64 gw, .int .i64 0] 159)).heap.size = w5.heap.size + 1 := by simp
   have hnew := blk_new (w5.alloc (.cells #[.int .i64 gw, .int .i64 0] 159)) (.cells #[.int .i64 now, .int .i64 ticks] 3)
   rw [hs1] at hnew
   have hrow : (Kd.int .i64).C ((w5.alloc (.cells #[.int .i64 gw, .int .i64 0] 159)).alloc (.cells #[.int .i64 now, .int .i64 ticks] 3)) (some ⟨w5.heap.size + 1, 0, none⟩) [now, ticks].length [now, ticks] := by
    refine Kd.C_of_reads (d := (0 : Int)) (h1 := fun _ => rfl) ⟨rfl, by simp, fun _ => ⟨_, rfl, fun j hj => ?_⟩⟩
    match j, hj with
    | 0, _ => exact (blk_cell hnew 0).trans rfl
    | 1, _ => exact (blk_cell hnew 1).trans rfl
   have HR := Aside0.mk hrow
   have H3 := Aside0.mk (H2.out.below BA.out)
   have HG3 := Aside0.mk (HG.out.trans_row (grown_of_below BA.out _))
   have GL := Aside0.mk (show w5.heap.size ≠ g from fun e => by have := blk_lt H2.out; omega)
   clear hs1 hnew hrow A1 k0 hst
   generalize (w5.alloc (.cells #[.int .i64 gw, .int .i64 0] 159)).alloc (.cells #[.int .i64 now, .int .i64 ticks] 3) = wB at A2 HR H3 HG3 BA ⊢
   refine (add2.calls now ticks HR.out).mono ?_
   rintro e w6 ⟨rfl, hb6⟩
   have A3 := Aside0.mk (blk_below A2.out hb6)
   have H4 := Aside0.mk (H3.out.below hb6)
   have HG4 := Aside0.mk (HG3.out.trans_row (grown_of_below hb6 _))
   have GL2 := Aside0.mk (show w.heap.size ≤ w5.heap.size from HG.out.size)
   clear A2 HR H3 HG3 BA hb6 H2 HG
   generalize w5.heap.size = gl at A3 GL GL2 ⊢
   obtain ⟨tt, htt⟩ : ∃ x, held (held now + held ticks) = x := ⟨_, rfl⟩
   have HTT := Aside0.mk htt
   rw [htt]
   clear htt
   have b0 := (blk_cell A3.out 0).trans rfl
   have b1 := (blk_cell A3.out 1).trans rfl
   have b2 := blk_frozen A3.out 1
   have C3 := Aside0.mk (blk_put A3.out 1 (.int .i64 tt) rfl)
   have hgl := grown_set w6 gl 1 (.int .i64 tt)
   have H5 := Aside0.mk (show TB (w6.setCell ⟨gl, 1, none⟩ (.int .i64 tt)) g f (m : Int) gw from blk_grown H4.out hgl (fun e => by injection e with e; exact GL.out e.symm))
   have HGG := Aside0.mk (HG4.out.far hgl GL2.out)
   clear hgl H4
   go_wp2
   generalize w6.setCell ⟨gl, 1, none⟩ (.int .i64 tt) = w7 at H5 C3 HGG ⊢
   clear b0 b1 b2
   have c0 := (blk_cell C3.out 0).trans rfl
   have c1 := (blk_cell C3.out 1).trans rfl
   have g0 := blk_frozen H5.out (i * 2)
   have g1 := blk_frozen H5.out (i * 2 + 1)
   obtain ⟨a0, a1⟩ := H5.out.at i HI.out
   have hput := H5.out.put i HI.out (gw, tt)
   have HP := Aside0.mk hput
   clear hput
   go_region
   have hgg := ((grown_set w7 g (i * 2) (.int .i64 gw)).trans_row (grown_set _ g (i * 2 + 1) (.int .i64 tt))).drew_
   have d0 := (blk_cell (blk_grown C3.out hgg (fun e => by injection e with e; exact GL.out e)) 0).trans rfl
   clear c0 c1 g0 g1 a0 a1
   have HP2 := Aside0.mk (show TB ((w7.setCell ⟨g, i * 2, none⟩ (.int .i64 gw)).setCell ⟨g, i * 2 + 1, none⟩ (.int .i64 tt)).drew g _ _ _ from HP.out)
   have HGH := Aside0.mk hgg
   clear HP hgg
   generalize ((w7.setCell ⟨g, i * 2, none⟩ (.int .i64 gw)).setCell ⟨g, i * 2 + 1, none⟩ (.int .i64 tt)).drew = w8 at d0 HP2 HGH ⊢
   go_wp2
   go_ret3
   exact ⟨by rw [HF.out.1, HGW.out]; simp, by rw [HF.out.2, HU.out, HGW.out, HTT.out]; exact HP2.out, HGG.out.trans_row HGH.out⟩
  ·have t0 : decide (0 < ticks) = false := decide_eq_false ht
   have HU := Aside0.mk (show until_ now ticks = 0 by unfold until_; rw [if_neg ht])
   have C3 := Aside0.mk (blk_new w5 (.cells #[.int .i64 gw, .int .i64 0] 159))
   have BA := Aside0.mk (below_alloc (Below.refl w5.heap.size w5) (.cells #[.int .i64 gw, .int .i64 0] 159))
   have HLG := Aside0.mk (show g < w5.heap.size from blk_lt H2.out)
   have H5 := Aside0.mk (H2.out.below BA.out)
   have HG4 := Aside0.mk (HG.out.trans_row (grown_of_below BA.out _))
   clear H2 HG
   go_wp2
   generalize w5.alloc (.cells #[.int .i64 gw, .int .i64 0] 159) = w7 at C3 BA H5 HG4 ⊢
   have GL := Aside0.mk (show w5.heap.size ≠ g from fun e => by have := HLG.out; omega)
   generalize w5.heap.size = gl at C3 GL ⊢
   clear k0
   have c0 := (blk_cell C3.out 0).trans rfl
   have c1 := (blk_cell C3.out 1).trans rfl
   have g0 := blk_frozen H5.out (i * 2)
   have g1 := blk_frozen H5.out (i * 2 + 1)
   obtain ⟨a0, a1⟩ := H5.out.at i HI.out
   have HP := Aside0.mk (H5.out.put i HI.out (gw, 0))
   go_region
   have hgg := ((grown_set w7 g (i * 2) (.int .i64 gw)).trans_row (grown_set _ g (i * 2 + 1) (.int .i64 0))).drew_
   have d0 := (blk_cell (blk_grown C3.out hgg (fun e => by injection e with e; exact GL.out e)) 0).trans rfl
   clear c0 c1 g0 g1 a0 a1
   have HP2 := Aside0.mk (show TB ((w7.setCell ⟨g, i * 2, none⟩ (.int .i64 gw)).setCell ⟨g, i * 2 + 1, none⟩ (.int .i64 0)).drew g _ _ _ from HP.out)
   have HGH := Aside0.mk hgg
   clear HP hgg
   generalize ((w7.setCell ⟨g, i * 2, none⟩ (.int .i64 gw)).setCell ⟨g, i * 2 + 1, none⟩ (.int .i64 0)).drew = w8 at d0 HP2 HGH ⊢
   go_wp2
   go_ret3
   exact ⟨by rw [HF.out.1, HGW.out]; simp, by rw [HF.out.2, HU.out, HGW.out]; exact HP2.out, HG4.out.trans_row HGH.out⟩
end
structure PL where
 t : Nat
 m : Nat
 b : Int
 c : Int
 ah : Bool
 rs : Int
 kp : Int
def scs (P : PL) (now : Int) (gx gt gf : Nat) (su : Nat → Value) (va : Value) : Array Value := #[.int .i64 (P.t : Int), .int .i64 (P.m : Int), .int .i64 P.b, .int .i64 P.c, .bool P.ah, .int .i64 P.rs, .int .i64 P.kp, .int .i64 now, .pointer (some ⟨gx, 0, none⟩), .pointer (some ⟨gt, 0, none⟩), .pointer (some ⟨gf, 0, none⟩), su 0, su 1, su 2, su 3, su 4, su 5, su 6, su 7, va]
def told (id k : Int) (A : Option Addr) (c : Nat) : List Value := [.int .i64 2, .int .i64 0, .string ⟨#[]⟩, .int .i64 id, .int .i64 k, .slice A 0 c, .slice none 0 0]
def iss (t : Int) (x : ByteArray) : List Value := [.int .i64 1, .int .i64 t, .string x, .int .i64 0, .int .i64 0, .slice none 0 0, .slice none 0 0]
def AOk (r : List Value) : Prop := (∃ id k A c, r = told id k A c ∧ 0 ≤ id ∧ id ≤ 1000000 ∧ (k = 1 ∨ k = 4 ∨ k = 5)) ∨ ∃ t x, r = iss t x
def tk : List Value → List Int
 | [.int _ 2, _, _, _, .int _ k, _, _] => [k]
 | _ => []
def ST : List Nat := [108, 162, 256, 306, 49, 131, 173, 229, 235, 232, 324, 9]
def SD : List Nat := [108, 162, 256, 306, 131, 173, 229, 235, 232, 324, 9, 157, 117, 126, 359, 363]
structure SE (w0 : World) (N0 : Nat) (w : World) (gs gx gt gf mx : Nat) (Z U : Nat → Prop) (P : PL) (xs : List Nd) (now gv : Nat) (f : Nat → Int × Int) (su : Nat → Value) (va : Value) (rows : List (List Value)) (b : Nat) : Prop where
 blk : w.heap[gs]? = some (.cells (scs P (now : Int) gx gt gf su va) 108 (0, 0))
 ib : w.heap[gx]? = some (.cells #[.map (some mx)] 157 (0, 0))
 im : MV 9 w mx 0 (fun _ => none)
 tb : TB w gt f (P.t : Int) (gv : Int)
 fz : FZ N0 w gf (fun k => k = mx ∨ Z k) b
 us : ∀ i, i < 8 → U i → ∃ gu, su i = .pointer (some ⟨gu, 0, none⟩) ∧ SU w0 N0 w gu gx xs
 ra : (Kd.raw 7).R 131 w N0 (fun _ => True) va rows
 ok : ∀ r ∈ rows, AOk r
 low : N0 ≤ gs ∧ N0 ≤ gx ∧ N0 ≤ mx ∧ N0 ≤ gt
 nz : ¬ Z mx
 pt : 1 ≤ P.t ∧ P.t ≤ 8
 fi : ∀ i, i < 8 → 0 ≤ (f i).1 ∧ (f i).1 ≤ (gv : Int)
section
variable {w0 : World} {N0 : Nat} {w w' : World} {gs gx gt gf mx : Nat} {Z U : Nat → Prop} {P : PL} {xs : List Nd} {now gv : Nat} {f : Nat → Int × Int} {su : Nat → Value} {va : Value} {rows : List (List Value)} {b : Nat}
theorem SE.ix (h : SE w0 N0 w gs gx gt gf mx Z U P xs now gv f su va rows b) : IX w gx := ⟨mx, h.ib, h.im⟩
theorem SE.kf {Ts : List Nat} {X : Nat → Prop} (h : SE w0 N0 w gs gx gt gf mx Z U P xs now gv f su va rows b) (hk : Kf N0 Ts X w w') (ht : ∀ t ∈ SD, t ∉ Ts) (hx : ∀ k, X k → Z k) : SE w0 N0 w' gs gx gt gf mx Z U P xs now gv f su va rows b :=
 { h with
  blk := hk.blk h.blk (ht _ (by simp [SD]))
  ib := hk.blk h.ib (ht _ (by simp [SD]))
  im := h.im.kf hk (fun e => h.nz (hx _ e))
  tb := hk.blk h.tb (ht _ (by simp [SD]))
  fz := h.fz.kf hk (fun t h1 => ht t (by simp only [FT, SD, List.mem_cons, List.not_mem_nil, or_false] at h1 ⊢; omega)) (fun k hk => .inr (hx k hk))
  us := fun i hi hu => by
   obtain ⟨gu, h1, h2⟩ := h.us i hi hu
   exact ⟨gu, h1, h2.kf hk ⟨ht _ (by simp [SD]), ht _ (by simp [SD]), ht _ (by simp [SD]), ht _ (by simp [SD]), ht _ (by simp [SD])⟩ (ht _ (by simp [SD]))⟩
  ra := R_kf h.ra hk (fun q hq => by
   rcases List.mem_cons.1 hq with rfl | hq
   ·exact ht _ (by simp [SD])
   ·cases hq) }
theorem SE.below (h : SE w0 N0 w gs gx gt gf mx Z U P xs now gv f su va rows b) (hb : Below w.heap.size w w') : SE w0 N0 w' gs gx gt gf mx Z U P xs now gv f su va rows b := h.kf (Ts := []) (X := fun _ => False) (Kf.below hb) (fun _ _ h => by cases h) (fun _ h => h.elim)
theorem SE.svc {now' : Nat} {su' : Nat → Value} {U' : Nat → Prop} (h : SE w0 N0 w gs gx gt gf mx Z U P xs now gv f su va rows b) (hg : w.grownBy w' (some gs)) (hb : w'.heap[gs]? = some (.cells (scs P (now' : Int) gx gt gf su' va) 108 (0, 0))) (hu : ∀ i, i < 8 → U' i → ∃ gu, su' i = .pointer (some ⟨gu, 0, none⟩) ∧ SU w0 N0 w gu gx xs) : SE w0 N0 w' gs gx gt gf mx Z U' P xs now' gv f su' va rows b :=
 have hk : Kf N0 [108] (fun _ => False) w w' := Kf.grown hg h.blk (by simp) h.low.1
 { h with
  blk := hb
  ib := hk.blk h.ib (by decide)
  im := h.im.kf hk (fun e => e)
  tb := hk.blk h.tb (by decide)
  fz := h.fz.kf hk (by decide) (fun _ e => e.elim)
  us := fun i hi hu' => by
   obtain ⟨gu, h1, h2⟩ := hu i hi hu'
   exact ⟨gu, h1, h2.kf hk (by decide) (by decide)⟩
  ra := R_kf h.ra hk (by decide) }
theorem SE.act {w1 : World} {va' : Value} {rows' : List (List Value)} (h : SE w0 N0 w gs gx gt gf mx Z U P xs now gv f su va rows b) (hr : (Kd.raw 7).R 131 w1 N0 (fun _ => True) va' rows') (hg : w.grownBy w1 va.ownBlock) (ho : ∀ r ∈ rows', AOk r) : SE w0 N0 (w1.setCell ⟨gs, 19, none⟩ va') gs gx gt gf mx Z U P xs now gv f su va' rows' b :=
 have k1 : Kf N0 [131] (fun _ => False) w w1 := Kf.row hg h.ra (by simp)
 have b1 := k1.blk h.blk (by decide)
 have k2 : Kf N0 [108] (fun _ => False) w1 (w1.setCell ⟨gs, 19, none⟩ va') := Kf.grown (grown_set w1 gs 19 va') b1 (by simp) h.low.1
 have hk : Kf N0 [108, 131] (fun _ => False) w (w1.setCell ⟨gs, 19, none⟩ va') := (k1.mono (fun t ht => by simp at ht; simp [ht]) (fun _ h => h)).trans (k2.mono (fun t ht => by simp at ht; simp [ht]) (fun _ h => h))
 { h with
  blk := blk_put b1 19 va' rfl
  ib := hk.blk h.ib (by decide)
  im := h.im.kf hk (fun e => e)
  tb := hk.blk h.tb (by decide)
  fz := h.fz.kf hk (by decide) (fun _ e => e.elim)
  us := fun i hi hu' => by
   obtain ⟨gu, h1, h2⟩ := h.us i hi hu'
   exact ⟨gu, h1, h2.kf hk (by decide) (by decide)⟩
  ra := R_kf hr k2 (by decide)
  ok := ho }
theorem SE.actKf {w1 : World} {va' : Value} (h : SE w0 N0 w gs gx gt gf mx Z U P xs now gv f su va rows b) (hg : w.grownBy w1 va.ownBlock) : Kf N0 ST (fun k => ¬ Z k) w (w1.setCell ⟨gs, 19, none⟩ va') :=
 have k1 : Kf N0 [131] (fun _ => False) w w1 := Kf.row hg h.ra (by simp)
 have k2 : Kf N0 [108] (fun _ => False) w1 (w1.setCell ⟨gs, 19, none⟩ va') := Kf.grown (grown_set w1 gs 19 va') (k1.blk h.blk (by decide)) (by simp) h.low.1
 (k1.mono (fun t ht => by simp at ht; simp [ht, ST]) (fun _ h => h.elim)).trans (k2.mono (fun t ht => by simp at ht; simp [ht, ST]) (fun _ h => h.elim))
theorem SE.tbl {f' : Nat → Int × Int} {gv' : Nat} (h : SE w0 N0 w gs gx gt gf mx Z U P xs now gv f su va rows b) (ht : TB w' gt f' (P.t : Int) (gv' : Int)) (hg : w.grownBy w' (some gt)) (hi : ∀ i, i < 8 → 0 ≤ (f' i).1 ∧ (f' i).1 ≤ (gv' : Int)) : SE w0 N0 w' gs gx gt gf mx Z U P xs now gv' f' su va rows b :=
 have hk : Kf N0 [162] (fun _ => False) w w' := Kf.grown hg h.tb (by simp) h.low.2.2.2
 { h with
  blk := hk.blk h.blk (by decide)
  ib := hk.blk h.ib (by decide)
  im := h.im.kf hk (fun e => e)
  tb := ht
  fz := h.fz.kf hk (by decide) (fun _ e => e.elim)
  us := fun i hi hu' => by
   obtain ⟨gu, h1, h2⟩ := h.us i hi hu'
   exact ⟨gu, h1, h2.kf hk (by decide) (by decide)⟩
  ra := R_kf h.ra hk (by decide)
  fi := hi }
theorem SE.fch {b' : Nat} (h : SE w0 N0 w gs gx gt gf mx Z U P xs now gv f su va rows b) (hf : FZ N0 w' gf (fun k => k = mx ∨ Z k) b') (hk : Kf N0 FT (fun k => ¬ (k = mx ∨ Z k)) w w') : SE w0 N0 w' gs gx gt gf mx Z U P xs now gv f su va rows b' :=
 { h with
  blk := hk.blk h.blk (by decide)
  ib := hk.blk h.ib (by decide)
  im := h.im.kf hk (fun e => e (.inl rfl))
  tb := hk.blk h.tb (by decide)
  fz := hf
  us := fun i hi hu' => by
   obtain ⟨gu, h1, h2⟩ := h.us i hi hu'
   exact ⟨gu, h1, h2.kf hk (by decide) (by decide)⟩
  ra := R_kf h.ra hk (by decide) }
theorem Kf.toST {Ts : List Nat} {X : Nat → Prop} (h : Kf N0 Ts X w w') (ht : ∀ t ∈ Ts, t ∈ ST) (hx : ∀ k, X k → ¬ Z k) : Kf N0 ST (fun k => ¬ Z k) w w' := h.mono ht hx
theorem SE.sut {gu : Nat} (h : SE w0 N0 w gs gx gt gf mx Z U P xs now gv f su va rows b) (hs : SU w0 N0 w gu gx xs) (hs' : SU w0 N0 w' gu gx xs) (hg : w.grownBy w' (some gu)) : SE w0 N0 w' gs gx gt gf mx Z U P xs now gv f su va rows b :=
 have hk : Kf N0 [256] (fun _ => False) w w' := by
  obtain ⟨h0, _, _, _, _, _, h1, _⟩ := hs
  exact Kf.grown hg h1 (by simp) h0
 { h with
  blk := hk.blk h.blk (by decide)
  ib := hk.blk h.ib (by decide)
  im := h.im.kf hk (fun e => e)
  tb := hk.blk h.tb (by decide)
  fz := h.fz.kf hk (by decide) (fun _ e => e.elim)
  us := fun i hi hu' => by
   obtain ⟨gj, h1, h2⟩ := h.us i hi hu'
   refine ⟨gj, h1, ?_⟩
   by_cases e : gj = gu
   ·rw [e]; exact hs'
   ·obtain ⟨h0, vr, gc, st, lk, kn, hb, hr, hc, hg2, h5⟩ := h2
    refine ⟨h0, vr, gc, st, lk, kn, blk_grown hb hg (fun e2 => by injection e2 with e2; exact e e2), R_kf hr hk (by rw [kNmE]; decide), hc.kf hk (by decide), hg2, h5⟩
  ra := R_kf h.ra hk (by decide) }
end
theorem infoAct : (Tryz.prog.info? 131).map (fun i => (i.zero, i.size, i.bytes)) = some (some (.agg #[.int .i64 0, .int .i64 0, .string ⟨#[]⟩, .int .i64 0, .int .i64 0, .slice none 0 0, .slice none 0 0]), 7, 96) := by kernel_rfl
def TEL1.T1 : Bool × List (List Nat × List Nat) := (true, [([], []), ([], []), ([1], [1]), ([2], [2]), ([3], [3]), ([], []), ([], []), ([5, 6], [5, 6]), ([7], [7]), ([4, 8], [4, 8]), ([0, 0, 1, 2, 3, 4, 5, 6, 7, 8, 9], [0]), ([10, 0, 1, 2, 3, 4, 5, 6, 7, 8, 9], [10]), ([11, 9, 9, 0, 1, 2, 3, 4, 5, 6, 7, 8, 9], [9, 11])])
def TEL1.B1 : List Nat := [0, 0, 2, 6, 14, 0, 0, 96, 224, 510, 1023, 2047, 4095]
theorem TEL1.tab1 : rtab .any (opsOf Tryz.f101 1) = TEL1.T1 := by kernel_rfl
theorem TEL1.bits1 : waitsOk TEL1.T1.2 TEL1.B1 = true := by kernel_rfl
section
variable {w0 : World} {N0 : Nat} {w w' : World} {gs gx gt gf mx : Nat} {Z U : Nat → Prop} {P : PL} {xs : List Nd} {now gv : Nat} {f : Nat → Int × Int} {su : Nat → Value} {va : Value} {rows : List (List Value)} {b : Nat}
set_option maxRecDepth 100000 in
set_option maxHeartbeats 1000000 in
theorem service.tell.calls (h : SE w0 N0 w gs gx gt gf mx Z U P xs now gv f su va rows b) (hN : N0 ≤ w.heap.size) (hl : rows.length ≤ 1000) (id k : Int) (A : Option Addr) (c : Nat) (h0 : 0 ≤ id) (h1 : id ≤ 1000000) (hk : k = 1 ∨ k = 4 ∨ k = 5) : Calls Tryz.prog 101 #[.pointer (some ⟨gs, 0, none⟩), .int .i64 id, .agg #[.int .i64 k, .slice A 0 c, .slice none 0 0]] w fun e w' => e = .returned (.tuple #[]) ∧ (∃ va', SE w0 N0 w' gs gx gt gf mx Z U P xs now gv f su va' (rows ++ [told id k A c]) b) ∧ Kf N0 ST (fun k => ¬ Z k) w w' := by
 obtain ⟨Av, cv, rfl⟩ := Kd.R_slice h.ra
 have hba := below_alloc (Below.refl w.heap.size w) (.cells #[.int .i64 k, .slice A 0 c, .slice none 0 0] 49)
 have HGB4 := Aside0.mk (blk_new w (.cells #[.int .i64 k, .slice A 0 c, .slice none 0 0] 49))
 have HE4 := Aside0.mk (h.below hba)
 have HK4 := Aside0.mk (show Kf N0 ST (fun k => ¬ Z k) w _ from Kf.below hba)
 have HLN := Aside0.mk hl
 have HOK := Aside0.mk (And.intro h0 (And.intro h1 hk))
 have HW4 := Aside0.mk (Nat.le_trans hN hba.size)
 clear h hba hN hl h0 h1 hk
 go_enter Tryz.func101, Tryz.ntmps101
 go_wp2
 generalize w.alloc (.cells #[.int .i64 k, .slice A 0 c, .slice none 0 0] 49) = w4 at HGB4 HE4 HK4 HW4 ⊢
 generalize w.heap.size = gb at HGB4 ⊢
 have HGB := Aside0.mk (show w4.drew.heap[gb]? = _ from HGB4.out)
 have HE := Aside0.mk (HE4.out.below (below_drew (Below.refl w4.heap.size w4)))
 have HK := Aside0.mk (HK4.out.trans (Kf.below (below_drew (Below.refl w4.heap.size w4))))
 have HW := Aside0.mk (show N0 ≤ w4.drew.heap.size from HW4.out)
 clear HGB4 HE4 HK4 HW4
 refine start_ (n := 13) (S := fun w' => w'.cell? ⟨gs, 19, none⟩ = some (.slice Av rows.length cv) ∧ w'.cell? ⟨gb, 0, none⟩ = some (.int .i64 k) ∧ w'.cell? ⟨gb, 1, none⟩ = some (.slice A 0 c) ∧ w'.cell? ⟨gb, 2, none⟩ = some (.slice none 0 0)) (ds := [9, 12]) #[O,O,O,O,O,O,O,O,O,O,O,O,O] (by kernel_rfl) rfl rfl ⟨((blk_cell HE.out.blk 19).trans rfl), ((blk_cell HGB.out 0).trans rfl), ((blk_cell HGB.out 1).trans rfl), ((blk_cell HGB.out 2).trans rfl)⟩ (fun hHeld => ?_)
 refine with_tabW TEL1.tab1 TEL1.bits1 (fun HT_ HW_ => ?_)
 refine pure_ (i := 0) (N := some 6) (v := ?_) (a' := ?_) #[Y,O,O,O,O,O,O,O,O,O,O,O,O] rfl rfl (any_of HT_.out (by kernel_rfl)) (fun _ _ _ h => h) (Or.inl ⟨by rfl, ?_⟩) ?_ ?_
 rotate_left
 ·intro w'
  go_simp
  with_reducible rfl
 rotate_left
 ·simp only [PN]
  rfl
 refine pure_ (i := 1) (N := some 7) (v := ?_) (a' := ?_) #[Y,Y,O,O,O,O,O,O,O,O,O,O,O] rfl rfl (any_of HT_.out (by kernel_rfl)) (fun _ _ _ h => h) (Or.inl ⟨by rfl, ?_⟩) ?_ ?_
 rotate_left
 ·intro w'
  go_simp
  with_reducible rfl
 rotate_left
 ·simp only [PN]
  rfl
 refine pure_ (i := 2) (N := some 8) (v := ?_) (a' := ?_) #[Y,Y,Y,O,O,O,O,O,O,O,O,O,O] rfl rfl (any_of HT_.out (by kernel_rfl)) (fun _ _ _ h => h) (Or.inl ⟨by rfl, ?_⟩) ?_ ?_
 rotate_left
 ·intro w'
  go_simp
  with_reducible rfl
 rotate_left
 ·simp only [PN]
  rfl
 refine pure_ (i := 3) (N := some 9) (v := ?_) (a' := ?_) #[Y,Y,Y,Y,O,O,O,O,O,O,O,O,O] rfl rfl (any_of HT_.out (by kernel_rfl)) (fun _ _ _ h => h) (Or.inl ⟨by rfl, ?_⟩) ?_ ?_
 rotate_left
 ·intro w'
  go_simp
  with_reducible rfl
 rotate_left
 ·simp only [PN]
  rfl
 refine pure_ (i := 5) (N := some 11) (v := ?_) (a' := ?_) #[Y,Y,Y,Y,O,Y,O,O,O,O,O,O,O] rfl rfl (any_of HT_.out (by kernel_rfl)) (fun _ _ _ h => h) (Or.inl ⟨by rfl, ?_⟩) ?_ ?_
 rotate_left
 ·intro w'
  go_simp
  with_reducible rfl
 rotate_left
 ·simp only [PN]
  rfl
 refine take_ (i := 4) (N := some 10) (v := ?_) (a' := ?_) #[Y,Y,Y,Y,Y,Y,O,O,O,O,O,O,O] rfl rfl (take_ofW HT_.out HW_.out (by kernel_rfl)) (fun _ _ _ h => h) (Or.inl ⟨by rfl, ?_⟩) hHeld ?_ ?_
 rotate_left
 ·rintro w' ⟨s0, s1, s2, s3⟩
  go_simp
  with_reducible rfl
 rotate_left
 ·simp only [PN]
  rfl
 refine take_ (i := 6) (N := some 12) (v := ?_) (a' := ?_) #[Y,Y,Y,Y,Y,Y,Y,O,O,O,O,O,O] rfl rfl (take_ofW HT_.out HW_.out (by kernel_rfl)) (fun _ _ _ h => h) (Or.inl ⟨by rfl, ?_⟩) hHeld ?_ ?_
 rotate_left
 ·rintro w' ⟨s0, s1, s2, s3⟩
  go_simp
  with_reducible rfl
 rotate_left
 ·simp only [PN]
  rfl
 refine pure_ (i := 7) (N := some 13) (v := ?_) (a' := ?_) #[Y,Y,Y,Y,Y,Y,Y,Y,O,O,O,O,O] rfl rfl (any_of HT_.out (by kernel_rfl)) (fun _ _ _ h => h) (Or.inl ⟨by rfl, ?_⟩) ?_ ?_
 rotate_left
 ·intro w'
  go_simp
  with_reducible rfl
 rotate_left
 ·simp only [PN]
  rfl
 refine one_ (i := 8) (N := some 14) #[Y,Y,Y,Y,Y,Y,Y,Y,Y,O,O,O,O] rfl rfl (one_of HT_.out (by kernel_rfl)) (by decide) (fun K hK => ?_)
 have hba_ := below_alloc (Below.refl w4.drew.heap.size w4.drew) (.cells #[.int .i64 2, .int .i64 0, .string ⟨#[]⟩, .int .i64 id, .int .i64 k, .slice A 0 c, .slice none 0 0] 131)
 have HE6 := Aside0.mk (HE.out.below hba_)
 have HGB6 := Aside0.mk (blk_below HGB.out hba_)
 clear hba_
 refine value_ (w1 := ?_) (v := ?_) (by rfl) rfl ?_ ?_
 rotate_left 2
 ·go_simp
  constructor
  ·rfl
  ·rfl
 refine hK.out _ _ ⟨((blk_cell HE6.out.blk 19).trans rfl), ((blk_cell HGB6.out 0).trans rfl), ((blk_cell HGB6.out 1).trans rfl), ((blk_cell HGB6.out 2).trans rfl)⟩ (fun hHeld => ?_)
 clear hK K
 refine norm_ (a' := ?_) ?_ ?_
 rotate_left
 ·show Act.put _ (some 14) _ = _
  simp only [PN]
  rfl
 refine last_ (i := 9) (N := some 15) #[Y,Y,Y,Y,Y,Y,Y,Y,Y,Y,O,O,O] rfl rfl (one_of HT_.out (by kernel_rfl)) (by decide) (fun K hK => ?_)
 refine Kd.R_append_step (Kd.raw 7) (w0 := w4.drew) (N0) (by rfl) (.tmp 10) (.tmp 14) 77 131 (.agg #[.int .i64 0, .int .i64 0, .string ⟨#[]⟩, .int .i64 0, .int .i64 0, .slice none 0 0, .slice none 0 0]) 96 rfl Tryz.underlying77 infoAct rfl (by decide) (by omega) (.slice Av rows.length cv) (rows) ([.int .i64 2, .int .i64 0, .string ⟨#[]⟩, .int .i64 id, .int .i64 k, .slice A 0 c, .slice none 0 0]) [.int .i64 2, .int .i64 0, .string ⟨#[]⟩, .int .i64 id, .int .i64 k, .slice A 0 c, .slice none 0 0] (fun _ => True) (fun _ => False) rfl rfl ⟨rfl, rfl, by intro u hu; simp only [List.mem_cons, List.not_mem_nil, or_false] at hu; rcases hu with rfl | rfl | rfl | rfl | rfl | rfl | rfl <;> rfl⟩ (fun _ hk => hk.elim) (fun _ _ => trivial) HE.out.ra (Below.refl N0 w4.drew) HW.out (by have := HLN.out; omega) ?_
 intro v9 w9 hr9 hb9 hg9 hat9
 obtain ⟨A9, c9, rfl⟩ := Kd.R_slice hr9
 have HR9 := Aside0.mk hr9
 have HG9 := Aside0.mk hg9
 have hb9c := blk_grown HE.out.blk hg9 (Kd.R_ne HE.out.ra HE.out.blk (by decide))
 have f19 := blk_frozen hb9c 19
 have k19 : w9.cell? ⟨gs, 19, none⟩ = some (.slice Av rows.length cv) := (blk_cell hb9c 19).trans rfl
 clear hr9 hb9 hg9 hat9 hb9c
 refine hK.out _ _ ?_
 clear hK K
 refine norm_ (a' := ?_) ?_ ?_
 rotate_left
 ·show Act.put _ (some 15) _ = _
  simp only [PN]
  rfl
 refine pure_ (i := 10) (N := some 16) (v := ?_) (a' := ?_) #[Y,Y,Y,Y,Y,Y,Y,Y,Y,Y,Y,O,O] rfl rfl (any_of HT_.out (by kernel_rfl)) (fun _ _ _ h => h) (Or.inl ⟨by rfl, ?_⟩) ?_ ?_
 rotate_left
 ·intro w'
  go_simp
  with_reducible rfl
 rotate_left
 ·simp only [PN]
  rfl
 refine pure_ (i := 11) (N := some 17) (v := ?_) (a' := ?_) #[Y,Y,Y,Y,Y,Y,Y,Y,Y,Y,Y,Y,O] rfl rfl (any_of HT_.out (by kernel_rfl)) (fun _ _ _ h => h) (Or.inl ⟨by rfl, ?_⟩) ?_ ?_
 rotate_left
 ·intro w'
  go_simp
  with_reducible rfl
 rotate_left
 ·simp only [PN]
  rfl
 refine last_ (i := 12) (N := none) #[Y,Y,Y,Y,Y,Y,Y,Y,Y,Y,Y,Y,Y] rfl rfl (one_of HT_.out (by kernel_rfl)) (by decide) (fun K hK => ?_)
 refine skip_ (w1 := ?_) (by rfl) rfl ?_ ?_
 rotate_left
 ·go_simp
  rfl
 refine hK.out _ _ ?_
 clear hK K
 refine done_ (done_of HT_.out (by kernel_rfl)) ?_
 clear hHeld f19 k19
 have hrl : (rows ++ [[Value.int .i64 2, .int .i64 0, .string ⟨#[]⟩, .int .i64 id, .int .i64 k, .slice A 0 c, .slice none 0 0]]).length = rows.length + 1 := by simp
 rw [hrl] at HR9
 have HEF := Aside0.mk (HE.out.act HR9.out HG9.out (fun r hr => by
  rcases List.mem_append.1 hr with h | h
  ·exact HE.out.ok r h
  ·rw [List.mem_singleton.1 h]
   exact .inl ⟨id, k, A, c, rfl, HOK.out.1, HOK.out.2.1, HOK.out.2.2⟩))
 have HKF := Aside0.mk (fun v => HK.out.trans (HE.out.actKf (va' := v) HG9.out))
 go_wp2
 go_end0
 exact ⟨rfl, ⟨_, HEF.out⟩, HKF.out _⟩
end
theorem scs_set (P : PL) (now : Int) (gx gt gf : Nat) (su : Nat → Value) (va : Value) (i : Nat) (hi : i < 8) (x : Value) : (scs P now gx gt gf su va).setIfInBounds (11 + i) x = scs P now gx gt gf (fun c => if c = i then x else su c) va := by
 rcases (show i = 0 ∨ i = 1 ∨ i = 2 ∨ i = 3 ∨ i = 4 ∨ i = 5 ∨ i = 6 ∨ i = 7 by omega) with rfl | rfl | rfl | rfl | rfl | rfl | rfl | rfl <;> rfl
theorem scs_at (P : PL) (now : Int) (gx gt gf : Nat) (su : Nat → Value) (va : Value) (i : Nat) (hi : i < 8) : (scs P now gx gt gf su va)[11 + i]? = some (su i) := by
 rcases (show i = 0 ∨ i = 1 ∨ i = 2 ∨ i = 3 ∨ i = 4 ∨ i = 5 ∨ i = 6 ∨ i = 7 by omega) with rfl | rfl | rfl | rfl | rfl | rfl | rfl | rfl <;> rfl
section
variable {w0 : World} {N0 : Nat} {w w' : World} {gs gx gt gf mx : Nat} {Z U : Nat → Prop} {P : PL} {xs : List Nd} {now gv : Nat} {f : Nat → Int × Int} {su : Nat → Value} {va : Value} {rows : List (List Value)} {b : Nat}
theorem SE.suit (h : SE w0 N0 w gs gx gt gf mx Z U P xs now gv f su va rows b) (i : Nat) (hi : i < 8) : w.cell? ⟨gs, 11 + i, none⟩ = some (su i) := (blk_cell h.blk (11 + i)).trans (scs_at _ _ _ _ _ _ _ i hi)
theorem SE.suits (h : SE w0 N0 w gs gx gt gf mx Z U P xs now gv f su va rows b) (i : Nat) (hi : i < 8) (x : Value) {U' : Nat → Prop} (hu : ∀ j, j < 8 → U' j → (j = i ∧ ∃ gu, x = .pointer (some ⟨gu, 0, none⟩) ∧ SU w0 N0 w gu gx xs) ∨ (j ≠ i ∧ U j)) : SE w0 N0 (w.setCell ⟨gs, 11 + i, none⟩ x) gs gx gt gf mx Z U' P xs now gv f (fun c => if c = i then x else su c) va rows b ∧ Kf N0 ST (fun k => ¬ Z k) w (w.setCell ⟨gs, 11 + i, none⟩ x) :=
 ⟨h.svc (grown_set w gs (11 + i) x) (blk_put h.blk (11 + i) x (scs_set _ _ _ _ _ _ _ i hi x)) (fun j hj hj' => by
  rcases hu j hj hj' with ⟨e, gu, h1, h2⟩ | ⟨e, h1⟩
  ·exact ⟨gu, by rw [if_pos e]; exact h1, h2⟩
  ·obtain ⟨gu, h2, h3⟩ := h.us j hj h1
   exact ⟨gu, by rw [if_neg e]; exact h2, h3⟩), Kf.grown (grown_set w gs (11 + i) x) h.blk (by simp [ST]) h.low.1⟩
set_option maxRecDepth 100000 in
set_option maxHeartbeats 1000000 in
theorem service.leave.calls (h : SE w0 N0 w gs gx gt gf mx Z U P xs now gv f su va rows b) (hN : N0 ≤ w.heap.size) (hl : rows.length ≤ 1000) (hg : gv ≤ 1000000) (i : Nat) (hi : i < 8) (hbz : busy f (P.t : Int) i = true) (k : Int) (A : Option Addr) (c : Nat) (hk : k = 1 ∨ k = 4 ∨ k = 5) : Calls Tryz.prog 105 #[.pointer (some ⟨gs, 0, none⟩), .int .i64 (i : Int), .agg #[.int .i64 k, .slice A 0 c, .slice none 0 0]] w fun e w' => e = .returned (.tuple #[]) ∧ (∃ su' va', SE w0 N0 w' gs gx gt gf mx Z (fun j => U j ∧ j ≠ i) P xs now gv (updT f i (0, 0)) su' va' (rows ++ [told (f i).1 k A c]) b) ∧ Kf N0 ST (fun k => ¬ Z k) w w' := by
 have hba := below_alloc (Below.refl w.heap.size w) (.cells #[.int .i64 k, .slice A 0 c, .slice none 0 0] 49)
 have HGB1 := Aside0.mk (blk_new w (.cells #[.int .i64 k, .slice A 0 c, .slice none 0 0] 49))
 have HE1 := Aside0.mk (h.below hba)
 have HK1 := Aside0.mk (show Kf N0 ST (fun k => ¬ Z k) w _ from Kf.below hba)
 have HI := Aside0.mk (And.intro hi (And.intro hbz (And.intro (show (P.t : Int) ≤ 8 by have := h.pt; omega) (And.intro hk (And.intro (h.fi i hi) (And.intro hl (And.intro hg hN)))))))
 have u0 : (0 : Int) ≤ (i : Int) := by omega
 have u1 : (i : Int) < 8 := by omega
 clear hba h hl hg hi hbz hk hN
 go_enter Tryz.func105, Tryz.ntmps105
 have c9 : (w.alloc (.cells #[.int .i64 k, .slice A 0 c, .slice none 0 0] 49)).cell? ⟨gs, 9, none⟩ = some (.pointer (some ⟨gt, 0, none⟩)) := (blk_cell HE1.out.blk 9).trans rfl
 go_wp2_with fail
 generalize w.alloc (.cells #[.int .i64 k, .slice A 0 c, .slice none 0 0] 49) = w1 at HGB1 HE1 HK1 c9 ⊢
 generalize w.heap.size = gb at HGB1 ⊢
 refine (table.At.calls HE1.out.tb i HI.out.1 HI.out.2.2.1 HI.out.2.1).mono ?_
 rintro e w2 ⟨rfl, hb2⟩
 have HE2 := Aside0.mk (HE1.out.below hb2)
 have HK2 := Aside0.mk (HK1.out.trans (Kf.below hb2))
 have HGB2 := Aside0.mk (blk_below HGB1.out hb2)
 have k0 : w2.cell? ⟨gb, 0, none⟩ = some (.int .i64 k) := (blk_cell HGB2.out 0).trans rfl
 have k1 : w2.cell? ⟨gb, 1, none⟩ = some (.slice A 0 c) := (blk_cell HGB2.out 1).trans rfl
 have k2 : w2.cell? ⟨gb, 2, none⟩ = some (.slice none 0 0) := (blk_cell HGB2.out 2).trans rfl
 have HTL := Aside0.mk (service.tell.calls HE2.out (Nat.le_trans HI.out.2.2.2.2.2.2.2 HK2.out.size) HI.out.2.2.2.2.2.1 (f i).1 k A c HI.out.2.2.2.2.1.1 (by have := HI.out.2.2.2.2.1.2; have := HI.out.2.2.2.2.2.2.1; omega) HI.out.2.2.2.1)
 obtain ⟨y, hy⟩ : ∃ y, (f i).1 = y := ⟨_, rfl⟩
 have HY := Aside0.mk hy
 rw [hy] at HTL ⊢
 clear hb2 HE1 HK1 HGB1 c9 hy
 go_wp2_with fail
 refine HTL.out.mono ?_
 rintro e w3 ⟨rfl, ⟨va3, he3⟩, hk3⟩
 have HE3 := Aside0.mk he3
 have HK3 := Aside0.mk (HK2.out.trans hk3)
 have c9 : w3.cell? ⟨gs, 9, none⟩ = some (.pointer (some ⟨gt, 0, none⟩)) := (blk_cell HE3.out.blk 9).trans rfl
 clear he3 hk3 HE2 HK2 HGB2 HTL k0 k1 k2
 go_wp2_with fail
 refine (table.Free.calls HE3.out.tb i HI.out.1 HI.out.2.2.1 HI.out.2.1).mono ?_
 rintro e w4 ⟨rfl, ht4, hg4⟩
 have HE4 := Aside0.mk (HE3.out.tbl (gv' := gv) ht4 hg4 (fun j hj => by
  unfold updT
  split
  ·exact ⟨Int.le_refl _, by simp⟩
  ·exact HE3.out.fi j hj))
 have HK4 := Aside0.mk (HK3.out.trans (Kf.grown hg4 HE3.out.tb (by simp [ST]) HE3.out.low.2.2.2))
 have c10 : w4.cell? ⟨gs, 10, none⟩ = some (.pointer (some ⟨gf, 0, none⟩)) := (blk_cell HE4.out.blk 10).trans rfl
 clear ht4 hg4 HE3 HK3 c9
 go_wp2_with fail
 refine (Leave.z HE4.out.fz i (by have := HI.out.1; omega)).mono ?_
 rintro e w5 ⟨⟨t5, rfl⟩, hf5, hk5⟩
 have HE5 := Aside0.mk (HE4.out.fch hf5 hk5)
 have HK5 := Aside0.mk (HK4.out.trans (hk5.mono (fun t ht => by simp only [FT, ST, List.mem_cons, List.not_mem_nil, or_false] at ht ⊢; omega) (fun k hk hz => hk (.inr hz))))
 have cs := HE5.out.suit i HI.out.1
 have fs := blk_frozen HE5.out.blk (11 + i)
 clear hf5 hk5 HE4 HK4 c10
 have HF := Aside0.mk (HE5.out.suits i HI.out.1 (.pointer none) (U' := fun j => U j ∧ j ≠ i) (fun j hj hu => .inr ⟨hu.2, hu.1⟩))
 go_wp2
 go_end0
 exact ⟨rfl, ⟨_, _, by rw [HY.out]; exact HF.out.1⟩, HK5.out.trans HF.out.2⟩
end
set_option maxRecDepth 100000 in
theorem bytesEqual.calls (w : World) : Calls Tryz.prog 136 #[.slice none 0 0, .slice none 0 0] w fun e w' => e = .returned (.bool true) ∧ w' = w := by
 have e0 := own_string (P := Tryz.prog) (w := w) (src := 27) (dst := 9) Tryz.underlying27 Tryz.underlying5 Tryz.underlying9 (xs := []) (own_nil w 0 5 1)
 go_enter Tryz.func136, Tryz.ntmps136
 go_wp2
 go_ret
 exact ⟨rfl, rfl⟩
set_option maxRecDepth 100000 in
set_option maxHeartbeats 4000000 in
theorem equalSp.calls {w : World} {A A2 : Option Addr} {c c2 : Nat} {xs : List Sp} (h : kSp.C w A xs.length xs) (h2 : kSp.C w A2 xs.length xs) (hl : xs.length ≤ 1000) : Calls Tryz.prog 246 #[.slice A xs.length c, .slice A2 xs.length c2] w fun e w' => e = .returned (.bool true) ∧ Below w.heap.size w w' := by
 have HA := Aside0.mk h
 have HB := Aside0.mk h2
 have HL := Aside0.mk hl
 have n0 : ((xs.length : Int) != (xs.length : Int)) = false := bne_self_eq_false _
 clear h h2 hl
 go_enter Tryz.func246, Tryz.ntmps246
 go_wp2
 go_loopw [13] (fun iv wr => ∃ i : Nat, iv = .int .i64 (i : Int) ∧ i ≤ xs.length ∧ Aside0 (Below w.heap.size w wr)) (fun iv _ => ((xs.length : Int) - intOf iv).toNat)
 case atStart => exact ⟨0, rfl, by omega, ⟨Below.refl _ _⟩⟩
 case round =>
  obtain ⟨i, rfl, hi, HW⟩ := hrel
  have hll := HL.out
  by_cases hlt : i < xs.length
  ·have q0 : decide ((i : Int) < (xs.length : Int)) = true := decide_eq_true (by omega)
   have u0 : (0 : Int) ≤ (i : Int) := by omega
   have u1 : (i : Int) < (xs.length : Int) := by omega
   have a9 : wrap64 ((i : Int) + 1) = (i : Int) + 1 := wrap_id (by omega) (by omega)
   obtain ⟨ad, rfl, k0, k1⟩ := at_Sp (Kd.C_below HA.out HW.out) i hlt
   obtain ⟨ad2, rfl, k2, k3⟩ := at_Sp (Kd.C_below HB.out HW.out) i hlt
   generalize xs.getD i zSp = s at k0 k1 k2 k3
   go_wp2
   go_quiet (fail)
   go_wp2
   go_roundw
   case rel => exact ⟨i + 1, by go_num, hlt, ⟨pw_below_drewN HW.out _⟩⟩
   case measure => first | (rw [a9]; exact meas _ _ hlt) | exact meas _ _ hlt
  ·have q0 : decide ((i : Int) < (xs.length : Int)) = false := decide_eq_false (by omega)
   go_wp2
   go_ret
   exact ⟨rfl, HW.out⟩
theorem spanSame.calls {w : World} {A A2 : Option Addr} {c c2 : Nat} {xs : List Sp} (h : kSp.C w A xs.length xs) (h2 : kSp.C w A2 xs.length xs) (hl : xs.length ≤ 1000) : Calls Tryz.prog 191 #[.slice A xs.length c, .slice A2 xs.length c2] w fun e w' => e = .returned (.bool true) ∧ Below w.heap.size w w' := by
 go_enter Tryz.func191, Tryz.ntmps191
 go_wp2_with fail
 refine (equalSp.calls h h2 hl).mono ?_
 rintro e w5 ⟨rfl, hb5⟩
 have HB := Aside0.mk hb5
 clear hb5
 go_wp2
 go_ret
 exact ⟨rfl, HB.out⟩
set_option maxRecDepth 100000 in
set_option maxHeartbeats 4000000 in
theorem needSame1.calls {w : World} {A A2 : Option Addr} {c c2 : Nat} {x : Nd} (h : kSp.C w A x.2.length x.2) (h2 : kSp.C w A2 x.2.length x.2) (hl : x.2.length ≤ 1000) : Calls Tryz.prog 190 #[.agg #[.string x.1, .slice A x.2.length c], .agg #[.string x.1, .slice A2 x.2.length c2]] w fun e w' => e = .returned (.bool true) ∧ Below w.heap.size w w' := by
 have HB := Aside0.mk (below_alloc (below_alloc (Below.refl w.heap.size w) (.cells #[.string x.1, .slice A x.2.length c] 117)) (.cells #[.string x.1, .slice A2 x.2.length c2] 117))
 have H1 := Aside0.mk (Kd.C_below h HB.out)
 have H2 := Aside0.mk (Kd.C_below h2 HB.out)
 have HL := Aside0.mk hl
 have e0 : (x.1.toList == x.1.toList) = true := beq_self_eq_true _
 clear h h2 hl
 go_enter Tryz.func190, Tryz.ntmps190
 go_wp2_with fail
 refine (spanSame.calls H1.out H2.out HL.out).mono ?_
 rintro e w5 ⟨rfl, hb5⟩
 have HB5 := Aside0.mk (below_step HB.out hb5)
 clear hb5
 go_wp2
 go_ret
 exact ⟨rfl, HB5.out⟩
set_option maxRecDepth 100000 in
set_option maxHeartbeats 8000000 in
theorem equalNd.calls {w : World} {A A2 : Option Addr} {c c2 : Nat} {xs : List Nd} (h : kNd.C w A xs.length xs) (h2 : kNd.C w A2 xs.length xs) (hl : xs.length ≤ 6) (hs : ∀ x ∈ xs, x.2.length ≤ 1000) : Calls Tryz.prog 189 #[.slice A xs.length c, .slice A2 xs.length c2, .func (.func 190) #[] #[]] w fun e w' => e = .returned (.bool true) ∧ Below w.heap.size w w' := by
 have HA := Aside0.mk h
 have HB := Aside0.mk h2
 have HL := Aside0.mk hl
 have HS := Aside0.mk hs
 have n0 : ((xs.length : Int) != (xs.length : Int)) = false := bne_self_eq_false _
 clear h h2 hl hs
 go_enter Tryz.func189, Tryz.ntmps189
 go_wp2
 go_loopw [17] (fun iv wr => ∃ i : Nat, iv = .int .i64 (i : Int) ∧ i ≤ xs.length ∧ Aside0 (Below w.heap.size w wr)) (fun iv _ => ((xs.length : Int) - intOf iv).toNat)
 case atStart => exact ⟨0, rfl, by omega, ⟨Below.refl _ _⟩⟩
 case round =>
  obtain ⟨i, rfl, hi, HW⟩ := hrel
  have hll := HL.out
  by_cases hlt : i < xs.length
  ·have q0 : decide ((i : Int) < (xs.length : Int)) = true := decide_eq_true (by omega)
   have u0 : (0 : Int) ≤ (i : Int) := by omega
   have u1 : (i : Int) < (xs.length : Int) := by omega
   have HA9 := Aside0.mk (show wrap64 ((i : Int) + 1) = (i : Int) + 1 from wrap_id (by omega) (by omega))
   obtain ⟨ad, B1, d1, rfl, k0, k1, hc1, hs1⟩ := at_Nd (Kd.C_below HA.out HW.out) i hlt
   obtain ⟨ad2, B2, d2, rfl, k2, k3, hc2, hs2⟩ := at_Nd (Kd.C_below HB.out HW.out) i hlt
   have hx := HS.out _ (getD_mem xs zNd i hlt)
   generalize xs.getD i zNd = x at k0 k1 k2 k3 hc1 hs1 hc2 hs2 hx
   have HBa := Aside0.mk (below_alloc (below_alloc (Below.refl wr.heap.size wr) (.cells #[.string x.1, .slice B1 x.2.length d1] 117)) (.cells #[.string x.1, .slice B2 x.2.length d2] 117))
   have h2b := below_alloc (Below.refl wr.heap.size wr) (.cells #[.string x.1, .slice B1 x.2.length d1] 117)
   have k4 : (wr.alloc (.cells #[.string x.1, .slice B1 x.2.length d1] 117)).cell? (ad2.add (i * 2)) = some (.string x.1) := (h2b.cell (World.block_lt_of_cell? _ _ k2)).trans k2
   have k5 : (wr.alloc (.cells #[.string x.1, .slice B1 x.2.length d1] 117)).cell? ⟨(ad2.add (i * 2)).block, (ad2.add (i * 2)).off + 1, none⟩ = some (.slice B2 x.2.length d2) := (h2b.cell (World.block_lt_of_cell? _ _ k3)).trans k3
   have H1 := Aside0.mk (Kd.C_below hs1 HBa.out)
   have H2 := Aside0.mk (Kd.C_below hs2 HBa.out)
   have HX := Aside0.mk hx
   have HW2 := Aside0.mk (below_step HW.out HBa.out)
   clear hc1 hs1 hc2 hs2 hx HBa HW h2b
   go_wp2_with fail
   refine (needSame1.calls H1.out H2.out HX.out).mono ?_
   rintro e w5 ⟨rfl, hb5⟩
   have HW5 := Aside0.mk (below_step HW2.out hb5)
   clear hb5 k0 k1 k2 k3 k4 k5
   have a9 := HA9.out
   go_wp2
   go_roundw
   case rel => exact ⟨i + 1, by go_num, hlt, HW5⟩
   case measure => first | (rw [a9]; exact meas _ _ hlt) | exact meas _ _ hlt
  ·have q0 : decide ((i : Int) < (xs.length : Int)) = false := decide_eq_false (by omega)
   go_wp2
   go_ret
   exact ⟨rfl, HW.out⟩
theorem needSame.calls {w : World} {A A2 : Option Addr} {c c2 : Nat} {xs : List Nd} (h : kNd.C w A xs.length xs) (h2 : kNd.C w A2 xs.length xs) (hl : xs.length ≤ 6) (hs : ∀ x ∈ xs, x.2.length ≤ 1000) : Calls Tryz.prog 137 #[.slice A xs.length c, .slice A2 xs.length c2] w fun e w' => e = .returned (.bool true) ∧ Below w.heap.size w w' := by
 go_enter Tryz.func137, Tryz.ntmps137
 go_wp2_with fail
 refine (equalNd.calls h h2 hl hs).mono ?_
 rintro e w5 ⟨rfl, hb5⟩
 have HB := Aside0.mk hb5
 clear hb5
 go_wp2
 go_ret
 exact ⟨rfl, HB.out⟩
abbrev evV (k : Int) (ns : Value) (t : Int) : Value := .agg #[.int .i64 k, ns, .int .i64 t, .int .i64 0, .slice none 0 0]
set_option maxRecDepth 100000 in
set_option maxHeartbeats 8000000 in
theorem event.Same.calls {w : World} {A A2 : Option Addr} {c c2 : Nat} {xs : List Nd} (k t : Int) (h : kNd.C w A xs.length xs) (h2 : kNd.C w A2 xs.length xs) (hl : xs.length ≤ 6) (hs : ∀ x ∈ xs, x.2.length ≤ 1000) : Calls Tryz.prog 98 #[evV k (.slice A xs.length c) t, evV k (.slice A2 xs.length c2) t] w fun e w' => e = .returned (.bool true) ∧ Below w.heap.size w w' := by
 have HB := Aside0.mk (below_alloc (below_alloc (Below.refl w.heap.size w) (.cells #[.int .i64 k, .slice A xs.length c, .int .i64 t, .int .i64 0, .slice none 0 0] 68)) (.cells #[.int .i64 k, .slice A2 xs.length c2, .int .i64 t, .int .i64 0, .slice none 0 0] 68))
 have H1 := Aside0.mk (Kd.C_below h HB.out)
 have H2 := Aside0.mk (Kd.C_below h2 HB.out)
 have HL := Aside0.mk hl
 have HS := Aside0.mk hs
 clear h h2 hl hs
 go_enter Tryz.func98, Tryz.ntmps98
 go_wp2_with fail
 refine (bytesEqual.calls _).mono ?_
 rintro e w5 ⟨rfl, rfl⟩
 go_wp2_with fail
 refine (needSame.calls H1.out H2.out HL.out HS.out).mono ?_
 rintro e w5 ⟨rfl, hb5⟩
 have HB5 := Aside0.mk (below_step HB.out hb5)
 clear hb5
 go_wp2
 go_ret
 exact ⟨rfl, HB5.out⟩
theorem of_ask.calls (w : World) (ns : Value) (A : Option Addr) (n c : Nat) (hn : ns = .slice A n c) (t : Int) : Calls Tryz.prog 97 #[evV 1 ns t] w fun e w' => e = .returned (.iface 244 (.agg #[.int .i64 t, ns])) ∧ Below w.heap.size w w' := by
 subst hn
 go_enter Tryz.func97, Tryz.ntmps97
 go_wp2
 go_ret
 exact ⟨rfl, below_alloc (Below.refl _ _) _⟩
theorem of_tick.calls (w : World) : Calls Tryz.prog 97 #[evV 2 (.slice none 0 0) 0] w fun e w' => e = .returned (.iface 184 (.agg #[])) ∧ Below w.heap.size w w' := by
 go_enter Tryz.func97, Tryz.ntmps97
 go_wp2
 go_ret
 exact ⟨rfl, below_alloc (Below.refl _ _) _⟩
theorem ta_no (w : World) : (Instr.typeAssert (.iface 184 (.agg #[])) 181 244 true).run Tryz.prog w = .ok (.tuple #[.agg #[.int .i64 0, .slice none 0 0], .bool false]) w := by kernel_rfl
theorem ta_yes (w : World) : (Instr.typeAssert (.iface 184 (.agg #[])) 181 184 true).run Tryz.prog w = .ok (.tuple #[.agg #[], .bool true]) w := by kernel_rfl
theorem ta_ask (w : World) (v : Value) : (Instr.typeAssert (.iface 244 v) 181 244 true).run Tryz.prog w = .ok (.tuple #[v, .bool true]) w := by kernel_rfl
theorem ta_askno (w : World) (v : Value) : (Instr.typeAssert (.iface 244 v) 181 184 true).run Tryz.prog w = .ok (.tuple #[.agg #[], .bool false]) w := by kernel_rfl
set_option maxRecDepth 100000 in
set_option maxHeartbeats 4000000 in
theorem back_tick.calls (w : World) : Calls Tryz.prog 99 #[.iface 184 (.agg #[])] w fun e w' => e = .returned (.tuple #[evV 2 (.slice none 0 0) 0, .bool true]) ∧ Below w.heap.size w w' := by
 have t0 := ta_no
 have t1 := ta_yes
 go_enter Tryz.func99, Tryz.ntmps99
 go_wp2
 refine bodyPost_ret (results_ct rfl _ _ w.heap.size 68 #[.int .i64 2, .slice none 0 0, .int .i64 0, .int .i64 0, .slice none 0 0] (0, 0) _ rfl (blk_below (blk_new w _) (below_alloc (Below.refl _ _) _)) Tryz.underlying68 rfl (by kernel_rfl)) rfl ?_
 exact ⟨rfl, below_alloc (below_alloc (Below.refl _ _) _) _⟩
def BCK5.T5 : Bool × List (List Nat × List Nat) := (true, [([], []), ([0], [0]), ([], []), ([2], [2]), ([1, 3], [1, 3]), ([], []), ([5], [5]), ([6], [6]), ([7, 7], [7]), ([8], [8]), ([9, 8], [8, 9]), ([10, 8], [8, 10]), ([8, 11], [8, 11]), ([12, 8], [12]), ([13], [13]), ([14, 13], [13, 14]), ([15, 13], [13, 15]), ([13, 16], [13, 16]), ([4, 13, 0, 1, 2, 3, 4], [4]), ([17, 18, 0, 1, 2, 3, 4, 5, 6, 7, 8, 9, 10, 11, 12, 13, 14, 15, 16, 17, 18], [17])])
def BCK5.B5 : List Nat := [0, 1, 0, 4, 15, 0, 32, 96, 224, 480, 992, 2016, 4064, 8160, 16352, 32736, 65504, 131040, 16383, 524287]
theorem BCK5.tab5 : rtab .any (opsOf Tryz.f99 5) = BCK5.T5 := by kernel_rfl
theorem BCK5.bits5 : waitsOk BCK5.T5.2 BCK5.B5 = true := by kernel_rfl
set_option maxRecDepth 100000 in
set_option maxHeartbeats 4000000 in
theorem back_ask.calls {w : World} {A : Option Addr} {n c : Nat} (t : Int) (h0 : 0 ≤ t) (h1 : t ≤ 1099511627776) {xs : List Nd} (hn : n = xs.length) (h : kNd.C w A xs.length xs) (hl : xs.length ≤ 6) (hk : NdOk 0 8 xs) : Calls Tryz.prog 99 #[.iface 244 (.agg #[.int .i64 t, .slice A n c])] w fun e w' => e = .returned (.tuple #[evV 1 (.slice A n c) t, .bool true]) ∧ Below w.heap.size w w' := by
 have t0 := ta_ask
 have q0 : decide (0 ≤ t) = true := decide_eq_true h0
 have q1 : decide (t ≤ 1099511627776) = true := decide_eq_true h1
 have HB1 := Aside0.mk (below_alloc (Below.refl w.heap.size w) (.cells #[.int .i64 0, .slice none 0 0, .int .i64 0, .int .i64 0, .slice none 0 0] 68))
 have HB2 := Aside0.mk (below_alloc HB1.out (.cells #[.int .i64 t, .slice A n c] 244))
 have hs1 : (w.alloc (.cells #[.int .i64 0, .slice none 0 0, .int .i64 0, .int .i64 0, .slice none 0 0] 68)).heap.size = w.heap.size + 1 := by simp
 have hz := blk_below (blk_new w (.cells #[.int .i64 0, .slice none 0 0, .int .i64 0, .int .i64 0, .slice none 0 0] 68)) (below_alloc (Below.refl _ _) (.cells #[.int .i64 t, .slice A n c] 244))
 have HZ := Aside0.mk hz
 have hy := blk_new (w.alloc (.cells #[.int .i64 0, .slice none 0 0, .int .i64 0, .int .i64 0, .slice none 0 0] 68)) (.cells #[.int .i64 t, .slice A n c] 244)
 rw [hs1] at hy
 have HY := Aside0.mk hy
 have HCX := Aside0.mk (Kd.C_below h HB2.out)
 have HLK := Aside0.mk (And.intro hl hk)
 have HN := Aside0.mk hn
 clear h0 h1 h hl hk hs1 hz hy hn
 go_enter Tryz.func99, Tryz.ntmps99
 go_upto_region 5 with fail
 generalize (w.alloc (.cells #[.int .i64 0, .slice none 0 0, .int .i64 0, .int .i64 0, .slice none 0 0] 68)).alloc (.cells #[.int .i64 t, .slice A n c] 244) = w4 at HZ HY HB2 HCX ⊢
 generalize hg5 : w.heap.size + 1 = g5 at HY ⊢
 obtain ⟨g2, hg2⟩ : ∃ g2, w.heap.size = g2 := ⟨_, rfl⟩
 have HNE := Aside0.mk (show g5 ≠ g2 from by rw [← hg2, ← hg5]; exact Nat.succ_ne_self _)
 have HG2 := Aside0.mk hg2
 rw [hg2] at HZ ⊢
 clear hg2 hg5
 have HC := Aside0.mk (show w4.drew.cell? ⟨g5, 0, none⟩ = some (.int .i64 t) ∧ w4.drew.cell? ⟨g5, 1, none⟩ = some (.slice A n c) from ⟨show w4.cell? _ = _ from (blk_cell HY.out 0).trans rfl, show w4.cell? _ = _ from (blk_cell HY.out 1).trans rfl⟩)
 have HCK := Aside0.mk (show Calls Tryz.prog 20 #[.slice A n c] w4.drew (fun e w' => e = .returned (.bool true) ∧ Below w4.drew.heap.size w4.drew w') from by rw [HN.out]; exact need.Check.calls (w := w4.drew) (Kd.C_below HCX.out (below_drew (Below.refl _ _))) HLK.out.1 HLK.out.2)
 refine start_ (n := 20) (S := fun w' => w'.cell? ⟨g5, 0, none⟩ = some (.int .i64 t) ∧ w'.cell? ⟨g5, 1, none⟩ = some (.slice A n c)) (ds := []) #[O,O,O,O,O,O,O,O,O,O,O,O,O,O,O,O,O,O,O,O] (by kernel_rfl) rfl rfl ⟨HC.out.1, HC.out.2⟩ (fun hHeld => ?_)
 refine with_tabW BCK5.tab5 BCK5.bits5 (fun HT_ HW_ => ?_)
 refine pure_ (i := 0) (N := some 13) (v := ?_) (a' := ?_) #[Y,O,O,O,O,O,O,O,O,O,O,O,O,O,O,O,O,O,O,O] rfl rfl (any_of HT_.out (by kernel_rfl)) (fun _ _ _ h => h) (Or.inl ⟨by rfl, ?_⟩) ?_ ?_
 rotate_left
 ·intro w'
  go_simp
  with_reducible rfl
 rotate_left
 ·simp only [PN]
  rfl
 refine pure_ (i := 2) (N := some 15) (v := ?_) (a' := ?_) #[Y,O,Y,O,O,O,O,O,O,O,O,O,O,O,O,O,O,O,O,O] rfl rfl (any_of HT_.out (by kernel_rfl)) (fun _ _ _ h => h) (Or.inl ⟨by rfl, ?_⟩) ?_ ?_
 rotate_left
 ·intro w'
  go_simp
  with_reducible rfl
 rotate_left
 ·simp only [PN]
  rfl
 refine pure_ (i := 5) (N := some 18) (v := ?_) (a' := ?_) #[Y,O,Y,O,O,Y,O,O,O,O,O,O,O,O,O,O,O,O,O,O] rfl rfl (any_of HT_.out (by kernel_rfl)) (fun _ _ _ h => h) (Or.inl ⟨by rfl, ?_⟩) ?_ ?_
 rotate_left
 ·intro w'
  go_simp
  with_reducible rfl
 rotate_left
 ·simp only [PN]
  rfl
 refine take_ (i := 1) (N := some 14) (v := ?_) (a' := ?_) #[Y,Y,Y,O,O,Y,O,O,O,O,O,O,O,O,O,O,O,O,O,O] rfl rfl (take_ofW HT_.out HW_.out (by kernel_rfl)) (fun _ _ _ h => h) (Or.inl ⟨by rfl, ?_⟩) hHeld ?_ ?_
 rotate_left
 ·rintro w' ⟨s0, s1⟩
  go_simp
  with_reducible rfl
 rotate_left
 ·simp only [PN]
  rfl
 refine take_ (i := 3) (N := some 16) (v := ?_) (a' := ?_) #[Y,Y,Y,Y,O,Y,O,O,O,O,O,O,O,O,O,O,O,O,O,O] rfl rfl (take_ofW HT_.out HW_.out (by kernel_rfl)) (fun _ _ _ h => h) (Or.inl ⟨by rfl, ?_⟩) hHeld ?_ ?_
 rotate_left
 ·rintro w' ⟨s0, s1⟩
  go_simp
  with_reducible rfl
 rotate_left
 ·simp only [PN]
  rfl
 refine pure_ (i := 4) (N := some 17) (v := ?_) (a' := ?_) #[Y,Y,Y,Y,Y,Y,O,O,O,O,O,O,O,O,O,O,O,O,O,O] rfl rfl (any_of HT_.out (by kernel_rfl)) (fun _ _ _ h => h) (Or.inl ⟨by rfl, ?_⟩) ?_ ?_
 rotate_left
 ·intro w'
  go_simp
  with_reducible rfl
 rotate_left
 ·simp only [PN]
  rfl
 refine take_ (i := 6) (N := some 19) (v := ?_) (a' := ?_) #[Y,Y,Y,Y,Y,Y,Y,O,O,O,O,O,O,O,O,O,O,O,O,O] rfl rfl (take_ofW HT_.out HW_.out (by kernel_rfl)) (fun _ _ _ h => h) (Or.inl ⟨by rfl, ?_⟩) hHeld ?_ ?_
 rotate_left
 ·rintro w' ⟨s0, s1⟩
  go_simp
  with_reducible rfl
 rotate_left
 ·simp only [PN]
  rfl
 refine one_ (i := 7) (N := some 20) #[Y,Y,Y,Y,Y,Y,Y,Y,O,O,O,O,O,O,O,O,O,O,O,O] rfl rfl (one_of HT_.out (by kernel_rfl)) (by decide) (fun K hK => ?_)
 refine goes_ Tryz.func20 (by kernel_rfl) rfl #[.slice A n c] (by rfl) rfl rfl (by (try simp only [List.map_toArray, List.map_cons, List.map_nil]); first | done | rfl) ?_
 with_reducible refine (HCK.out).mono ?_
 rintro e w5 ⟨rfl, hb5⟩
 refine ⟨_, rfl, ?_⟩
 have HB5 := Aside0.mk hb5
 have HC5 := Aside0.mk (And.intro ((hb5.cell (World.block_lt_of_cell? _ _ HC.out.1)).trans HC.out.1) ((hb5.cell (World.block_lt_of_cell? _ _ HC.out.2)).trans HC.out.2))
 have HY5 := Aside0.mk (show w5.heap[g5]? = some (.cells #[.int .i64 t, .slice A n c] 244 (0, 0)) from blk_below (show w4.drew.heap[g5]? = _ from HY.out) hb5)
 have hz5 := blk_below (show w4.drew.heap[g2]? = _ from HZ.out) hb5
 have HZ5 := Aside0.mk hz5
 have z0 : w5.cell? ⟨g2, 0, none⟩ = some (.int .i64 0) := (blk_cell hz5 0).trans rfl
 have z1 : w5.cell? ⟨g2, 1, none⟩ = some (.slice none 0 0) := (blk_cell hz5 1).trans rfl
 have z2 : w5.cell? ⟨g2, 2, none⟩ = some (.int .i64 0) := (blk_cell hz5 2).trans rfl
 have z3 : w5.cell? ⟨g2, 3, none⟩ = some (.int .i64 0) := (blk_cell hz5 3).trans rfl
 have z4 : w5.cell? ⟨g2, 4, none⟩ = some (.slice none 0 0) := (blk_cell hz5 4).trans rfl
 have f0 := blk_frozen hz5 0
 have f1 := blk_frozen hz5 1
 have f2 := blk_frozen hz5 2
 have f3 := blk_frozen hz5 3
 have f4 := blk_frozen hz5 4
 clear hb5 hz5
 refine hK.out _ _ ⟨HC5.out.1, HC5.out.2⟩ (fun hHeld => ?_)
 clear hK K
 refine norm_ (a' := ?_) ?_ ?_
 rotate_left
 ·show Act.put _ (some 20) _ = _
  simp only [PN]
  rfl
 refine pure_ (i := 8) (N := some 21) (v := ?_) (a' := ?_) #[Y,Y,Y,Y,Y,Y,Y,Y,Y,O,O,O,O,O,O,O,O,O,O,O] rfl rfl (any_of HT_.out (by kernel_rfl)) (fun _ _ _ h => h) (Or.inl ⟨by rfl, ?_⟩) ?_ ?_
 rotate_left
 ·intro w'
  go_simp
  with_reducible rfl
 rotate_left
 ·simp only [PN]
  rfl
 refine pure_ (i := 9) (N := some 22) (v := ?_) (a' := ?_) #[Y,Y,Y,Y,Y,Y,Y,Y,Y,Y,O,O,O,O,O,O,O,O,O,O] rfl rfl (any_of HT_.out (by kernel_rfl)) (fun _ _ _ h => h) (Or.inl ⟨by rfl, ?_⟩) ?_ ?_
 rotate_left
 ·intro w'
  go_simp
  with_reducible rfl
 rotate_left
 ·simp only [PN]
  rfl
 refine take_ (i := 10) (N := some 23) (v := ?_) (a' := ?_) #[Y,Y,Y,Y,Y,Y,Y,Y,Y,Y,Y,O,O,O,O,O,O,O,O,O] rfl rfl (take_ofW HT_.out HW_.out (by kernel_rfl)) (fun _ _ _ h => h) (Or.inl ⟨by rfl, ?_⟩) hHeld ?_ ?_
 rotate_left
 ·rintro w' ⟨s0, s1⟩
  go_simp
  with_reducible rfl
 rotate_left
 ·simp only [PN]
  rfl
 refine pure_ (i := 11) (N := some 24) (v := ?_) (a' := ?_) #[Y,Y,Y,Y,Y,Y,Y,Y,Y,Y,Y,Y,O,O,O,O,O,O,O,O] rfl rfl (any_of HT_.out (by kernel_rfl)) (fun _ _ _ h => h) (Or.inl ⟨by rfl, ?_⟩) ?_ ?_
 rotate_left
 ·intro w'
  go_simp
  with_reducible rfl
 rotate_left
 ·simp only [PN]
  rfl
 refine pure_ (i := 12) (N := some 25) (v := ?_) (a' := ?_) #[Y,Y,Y,Y,Y,Y,Y,Y,Y,Y,Y,Y,Y,O,O,O,O,O,O,O] rfl rfl (any_of HT_.out (by kernel_rfl)) (fun _ _ _ h => h) (Or.inl ⟨by rfl, ?_⟩) ?_ ?_
 rotate_left
 ·intro w'
  go_simp
  with_reducible rfl
 rotate_left
 ·simp only [PN]
  rfl
 refine pure_ (i := 13) (N := some 26) (v := ?_) (a' := ?_) #[Y,Y,Y,Y,Y,Y,Y,Y,Y,Y,Y,Y,Y,Y,O,O,O,O,O,O] rfl rfl (any_of HT_.out (by kernel_rfl)) (fun _ _ _ h => h) (Or.inl ⟨by rfl, ?_⟩) ?_ ?_
 rotate_left
 ·intro w'
  go_simp
  with_reducible rfl
 rotate_left
 ·simp only [PN]
  rfl
 refine pure_ (i := 14) (N := some 27) (v := ?_) (a' := ?_) #[Y,Y,Y,Y,Y,Y,Y,Y,Y,Y,Y,Y,Y,Y,Y,O,O,O,O,O] rfl rfl (any_of HT_.out (by kernel_rfl)) (fun _ _ _ h => h) (Or.inl ⟨by rfl, ?_⟩) ?_ ?_
 rotate_left
 ·intro w'
  go_simp
  with_reducible rfl
 rotate_left
 ·simp only [PN]
  rfl
 refine take_ (i := 15) (N := some 28) (v := ?_) (a' := ?_) #[Y,Y,Y,Y,Y,Y,Y,Y,Y,Y,Y,Y,Y,Y,Y,Y,O,O,O,O] rfl rfl (take_ofW HT_.out HW_.out (by kernel_rfl)) (fun _ _ _ h => h) (Or.inl ⟨by rfl, ?_⟩) hHeld ?_ ?_
 rotate_left
 ·rintro w' ⟨s0, s1⟩
  go_simp
  with_reducible rfl
 rotate_left
 ·simp only [PN]
  rfl
 refine pure_ (i := 16) (N := some 29) (v := ?_) (a' := ?_) #[Y,Y,Y,Y,Y,Y,Y,Y,Y,Y,Y,Y,Y,Y,Y,Y,Y,O,O,O] rfl rfl (any_of HT_.out (by kernel_rfl)) (fun _ _ _ h => h) (Or.inl ⟨by rfl, ?_⟩) ?_ ?_
 rotate_left
 ·intro w'
  go_simp
  with_reducible rfl
 rotate_left
 ·simp only [PN]
  rfl
 refine pure_ (i := 17) (N := some 30) (v := ?_) (a' := ?_) #[Y,Y,Y,Y,Y,Y,Y,Y,Y,Y,Y,Y,Y,Y,Y,Y,Y,Y,O,O] rfl rfl (any_of HT_.out (by kernel_rfl)) (fun _ _ _ h => h) (Or.inl ⟨by rfl, ?_⟩) ?_ ?_
 rotate_left
 ·intro w'
  go_simp
  with_reducible rfl
 rotate_left
 ·simp only [PN]
  rfl
 refine one_ (i := 18) (N := none) #[Y,Y,Y,Y,Y,Y,Y,Y,Y,Y,Y,Y,Y,Y,Y,Y,Y,Y,Y,O] rfl rfl (one_of HT_.out (by kernel_rfl)) (by decide) (fun K hK => ?_)
 refine skip_ (w1 := ?_) (by rfl) rfl ?_ ?_
 rotate_left
 ·go_simp
  rfl
 refine hK.out _ _ ⟨((blk_cell (blk_far (blk_far (blk_far (blk_far (blk_far HY5.out HNE.out _) HNE.out _) HNE.out _) HNE.out _) HNE.out _) 0).trans rfl), ((blk_cell (blk_far (blk_far (blk_far (blk_far (blk_far HY5.out HNE.out _) HNE.out _) HNE.out _) HNE.out _) HNE.out _) 1).trans rfl)⟩ (fun hHeld => ?_)
 clear hK K
 refine pure_ (i := 19) (N := some 3) (v := ?_) (a' := ?_) #[Y,Y,Y,Y,Y,Y,Y,Y,Y,Y,Y,Y,Y,Y,Y,Y,Y,Y,Y,Y] rfl rfl (any_of HT_.out (by kernel_rfl)) (fun _ _ _ h => h) (Or.inl ⟨by rfl, ?_⟩) ?_ ?_
 rotate_left
 ·intro w'
  go_simp
  with_reducible rfl
 rotate_left
 ·simp only [PN]
  rfl
 refine done_ (done_of HT_.out (by kernel_rfl)) ?_
 clear hHeld z0 z1 z2 z3 z4 f0 f1 f2 f3 f4
 have HBF := Aside0.mk (below_step HB2.out (below_go (below_drew (Below.refl w4.heap.size w4)) HB5.out))
 have hle : w.heap.size ≤ g2 := Nat.le_of_eq HG2.out
 have hput := blk_put (blk_put (blk_put (blk_put (blk_put HZ5.out 0 (.int .i64 1) rfl) 1 (.slice A n c) rfl) 2 (.int .i64 t) rfl) 3 (.int .i64 0) rfl) 4 (.slice none 0 0) rfl
 have HP := Aside0.mk hput
 have HQ := Aside0.mk (((((HBF.out.setCell (p := ⟨g2, 0, none⟩) hle (.int .i64 1)).setCell (p := ⟨g2, 1, none⟩) hle (.slice A n c)).setCell (p := ⟨g2, 2, none⟩) hle (.int .i64 t)).setCell (p := ⟨g2, 3, none⟩) hle (.int .i64 0)).setCell (p := ⟨g2, 4, none⟩) hle (.slice none 0 0))
 clear hle hput
 generalize ((((w5.setCell ⟨g2, 0, none⟩ (.int .i64 1)).setCell ⟨g2, 1, none⟩ (.slice A n c)).setCell ⟨g2, 2, none⟩ (.int .i64 t)).setCell ⟨g2, 3, none⟩ (.int .i64 0)).setCell ⟨g2, 4, none⟩ (.slice none 0 0) = w6 at HP HQ ⊢
 go_wp2
 refine bodyPost_ret (results_ct rfl _ _ g2 68 #[.int .i64 1, .slice A n c, .int .i64 t, .int .i64 0, .slice none 0 0] (0, 0) _ rfl HP.out Tryz.underlying68 rfl (by kernel_rfl)) rfl ?_
 exact ⟨rfl, HQ.out⟩
set_option maxRecDepth 100000 in
set_option maxHeartbeats 4000000 in
theorem event.Check_ask {w : World} {A : Option Addr} {n c : Nat} (t : Int) (h0 : 0 ≤ t) (h1 : t ≤ 1099511627776) {xs : List Nd} (hn : n = xs.length) (h : kNd.C w A xs.length xs) (hl : xs.length ≤ 6) (hk : NdOk 0 8 xs) (hs : ∀ x ∈ xs, x.2.length ≤ 1000) : Calls Tryz.prog 57 #[evV 1 (.slice A n c) t] w fun e w' => e = .returned (.bool true) ∧ Below w.heap.size w w' := by
 subst hn
 have HT := Aside0.mk (And.intro h0 h1)
 have HL := Aside0.mk (And.intro hl (And.intro hk hs))
 have ta := ta_askno
 have hbx := blk_new w (.cells #[.int .i64 1, .slice A xs.length c, .int .i64 t, .int .i64 0, .slice none 0 0] 68)
 have HBX := Aside0.mk hbx
 have HB0 := Aside0.mk (below_alloc (Below.refl w.heap.size w) (.cells #[.int .i64 1, .slice A xs.length c, .int .i64 t, .int .i64 0, .slice none 0 0] 68))
 have HX := Aside0.mk (Kd.C_below h HB0.out)
 clear h0 h1 h hl hk hs hbx
 go_enter Tryz.func57, Tryz.ntmps57
 go_wp2_with fail
 generalize w.alloc (.cells #[.int .i64 1, .slice A xs.length c, .int .i64 t, .int .i64 0, .slice none 0 0] 68) = w0 at HBX HB0 HX ⊢
 generalize hgx : w.heap.size = gx at HBX ⊢
 refine (of_ask.calls w0 _ A xs.length c rfl t).mono ?_
 rintro e w4 ⟨rfl, hb4⟩
 have HBX4 := Aside0.mk (blk_below HBX.out hb4)
 have HB4 := Aside0.mk (below_step HB0.out hb4)
 have HX4 := Aside0.mk (Kd.C_below HX.out hb4)
 clear hb4 HBX HB0 HX
 go_wp2_with fail
 have HBa := Aside0.mk (below_alloc (Below.refl w4.heap.size w4) (.cells #[] 184))
 have HX5 := Aside0.mk (Kd.C_below HX4.out HBa.out)
 refine (back_ask.calls t HT.out.1 HT.out.2 rfl HX5.out HL.out.1 HL.out.2.1).mono ?_
 rintro e w6 ⟨rfl, hb6⟩
 have hbx := blk_below (blk_below HBX4.out HBa.out) hb6
 have HBX6 := Aside0.mk hbx
 have HB6 := Aside0.mk (below_step HB4.out (below_step HBa.out hb6))
 have HX6 := Aside0.mk (Kd.C_below HX5.out hb6)
 have HB7 := Aside0.mk (below_alloc (Below.refl w6.heap.size w6) (.cells #[.int .i64 1, .slice A xs.length c, .int .i64 t, .int .i64 0, .slice none 0 0] 68))
 have hb7 := blk_below hbx HB7.out
 have y0 : (w6.alloc (.cells #[.int .i64 1, .slice A xs.length c, .int .i64 t, .int .i64 0, .slice none 0 0] 68)).cell? ⟨gx, 0, none⟩ = some (.int .i64 1) := (blk_cell hb7 0).trans rfl
 have y1 : (w6.alloc (.cells #[.int .i64 1, .slice A xs.length c, .int .i64 t, .int .i64 0, .slice none 0 0] 68)).cell? ⟨gx, 1, none⟩ = some (.slice A xs.length c) := (blk_cell hb7 1).trans rfl
 have y2 : (w6.alloc (.cells #[.int .i64 1, .slice A xs.length c, .int .i64 t, .int .i64 0, .slice none 0 0] 68)).cell? ⟨gx, 2, none⟩ = some (.int .i64 t) := (blk_cell hb7 2).trans rfl
 have y3 : (w6.alloc (.cells #[.int .i64 1, .slice A xs.length c, .int .i64 t, .int .i64 0, .slice none 0 0] 68)).cell? ⟨gx, 3, none⟩ = some (.int .i64 0) := (blk_cell hb7 3).trans rfl
 have y4 : (w6.alloc (.cells #[.int .i64 1, .slice A xs.length c, .int .i64 t, .int .i64 0, .slice none 0 0] 68)).cell? ⟨gx, 4, none⟩ = some (.slice none 0 0) := (blk_cell hb7 4).trans rfl
 have HX7 := Aside0.mk (Kd.C_below HX6.out HB7.out)
 clear hb6 hbx hb7 HBa HX5 HBX4
 go_wp2_with fail
 refine (event.Same.calls 1 t HX7.out HX7.out HL.out.1 HL.out.2.2).mono ?_
 rintro e w8 ⟨rfl, hb8⟩
 have HB8 := Aside0.mk (below_step HB6.out (below_step HB7.out hb8))
 clear hb8
 go_wp2
 go_ret
 exact ⟨rfl, HB8.out⟩
set_option maxRecDepth 100000 in
set_option maxHeartbeats 4000000 in
theorem event.Check_tick (w : World) : Calls Tryz.prog 57 #[evV 2 (.slice none 0 0) 0] w fun e w' => e = .returned (.bool true) ∧ Below w.heap.size w w' := by
 have ta := ta_yes
 have hbx := blk_new w (.cells #[.int .i64 2, .slice none 0 0, .int .i64 0, .int .i64 0, .slice none 0 0] 68)
 have HBX := Aside0.mk hbx
 have HB0 := Aside0.mk (below_alloc (Below.refl w.heap.size w) (.cells #[.int .i64 2, .slice none 0 0, .int .i64 0, .int .i64 0, .slice none 0 0] 68))
 clear hbx
 go_enter Tryz.func57, Tryz.ntmps57
 go_wp2_with fail
 generalize w.alloc (.cells #[.int .i64 2, .slice none 0 0, .int .i64 0, .int .i64 0, .slice none 0 0] 68) = w0 at HBX HB0 ⊢
 generalize hgx : w.heap.size = gx at HBX ⊢
 refine (of_tick.calls w0).mono ?_
 rintro e w4 ⟨rfl, hb4⟩
 have HBX4 := Aside0.mk (blk_below HBX.out hb4)
 have HB4 := Aside0.mk (below_step HB0.out hb4)
 have HBa := Aside0.mk (below_alloc (Below.refl w4.heap.size w4) (.cells #[] 184))
 have hb5 := blk_below HBX4.out HBa.out
 have HBX5 := Aside0.mk hb5
 have y0 : (w4.alloc (.cells #[] 184)).cell? ⟨gx, 0, none⟩ = some (.int .i64 2) := (blk_cell hb5 0).trans rfl
 have y1 : (w4.alloc (.cells #[] 184)).cell? ⟨gx, 1, none⟩ = some (.slice none 0 0) := (blk_cell hb5 1).trans rfl
 have y2 : (w4.alloc (.cells #[] 184)).cell? ⟨gx, 2, none⟩ = some (.int .i64 0) := (blk_cell hb5 2).trans rfl
 have y3 : (w4.alloc (.cells #[] 184)).cell? ⟨gx, 3, none⟩ = some (.int .i64 0) := (blk_cell hb5 3).trans rfl
 have y4 : (w4.alloc (.cells #[] 184)).cell? ⟨gx, 4, none⟩ = some (.slice none 0 0) := (blk_cell hb5 4).trans rfl
 clear hb4 hb5 HBX HB0
 go_wp2_with fail
 refine (event.Same.calls (xs := []) 2 0 (Kd.C_nil _ _) (Kd.C_nil _ _) (by simp) (by simp)).mono ?_
 rintro e w5 ⟨rfl, hb5⟩
 have HB5 := Aside0.mk (below_step HB4.out (below_step HBa.out hb5))
 have HBX6 := Aside0.mk (blk_below HBX5.out hb5)
 clear hb5 y0 y1 y2 y3 y4
 go_wp2_with fail
 refine (back_tick.calls w5).mono ?_
 rintro e w6 ⟨rfl, hb6⟩
 have hbx := blk_below HBX6.out hb6
 have HB6 := Aside0.mk (below_step HB5.out hb6)
 have HB7 := Aside0.mk (below_alloc (Below.refl w6.heap.size w6) (.cells #[.int .i64 2, .slice none 0 0, .int .i64 0, .int .i64 0, .slice none 0 0] 68))
 have hb7 := blk_below hbx HB7.out
 have y0 : (w6.alloc (.cells #[.int .i64 2, .slice none 0 0, .int .i64 0, .int .i64 0, .slice none 0 0] 68)).cell? ⟨gx, 0, none⟩ = some (.int .i64 2) := (blk_cell hb7 0).trans rfl
 have y1 : (w6.alloc (.cells #[.int .i64 2, .slice none 0 0, .int .i64 0, .int .i64 0, .slice none 0 0] 68)).cell? ⟨gx, 1, none⟩ = some (.slice none 0 0) := (blk_cell hb7 1).trans rfl
 have y2 : (w6.alloc (.cells #[.int .i64 2, .slice none 0 0, .int .i64 0, .int .i64 0, .slice none 0 0] 68)).cell? ⟨gx, 2, none⟩ = some (.int .i64 0) := (blk_cell hb7 2).trans rfl
 have y3 : (w6.alloc (.cells #[.int .i64 2, .slice none 0 0, .int .i64 0, .int .i64 0, .slice none 0 0] 68)).cell? ⟨gx, 3, none⟩ = some (.int .i64 0) := (blk_cell hb7 3).trans rfl
 have y4 : (w6.alloc (.cells #[.int .i64 2, .slice none 0 0, .int .i64 0, .int .i64 0, .slice none 0 0] 68)).cell? ⟨gx, 4, none⟩ = some (.slice none 0 0) := (blk_cell hb7 4).trans rfl
 clear hb6 hbx hb7
 go_wp2_with fail
 refine (event.Same.calls (xs := []) 2 0 (Kd.C_nil _ _) (Kd.C_nil _ _) (by simp) (by simp)).mono ?_
 rintro e w8 ⟨rfl, hb8⟩
 have HB8 := Aside0.mk (below_step HB6.out (below_step HB7.out hb8))
 clear hb8
 go_wp2
 go_ret
 exact ⟨rfl, HB8.out⟩
def ASK1.T1 : Bool × List (List Nat × List Nat) := (true, [([], []), ([0], [0]), ([1], [1]), ([2], [2]), ([], []), ([4], [4]), ([5], [5]), ([6], [6]), ([], []), ([8], [8]), ([3, 7, 9], [3, 7, 9]), ([10], [10]), ([11], [11]), ([11], [11]), ([11], [11]), ([12, 10, 0, 1, 2, 3, 4, 5, 6, 7, 8, 9, 10, 11, 12], [12]), ([13, 15, 0, 1, 2, 3, 4, 5, 6, 7, 8, 9, 10, 11, 12, 13, 15], [13]), ([14, 16, 0, 1, 2, 3, 4, 5, 6, 7, 8, 9, 10, 11, 12, 13, 14, 15, 16], [14])])
def ASK1.B1 : List Nat := [0, 1, 3, 7, 0, 16, 48, 112, 0, 256, 1023, 2047, 4095, 4095, 4095, 8191, 49151, 131071]
theorem ASK1.tab1 : rtab .any (opsOf Tryz.f59 1) = ASK1.T1 := by kernel_rfl
theorem ASK1.bits1 : waitsOk ASK1.T1.2 ASK1.B1 = true := by kernel_rfl
def ASK5.T5 : Bool × List (List Nat × List Nat) := (true, [([], []), ([], []), ([], []), ([2], [2]), ([3], [3]), ([4], [4]), ([], []), ([6], [6]), ([], []), ([8], [8]), ([9], [9]), ([10], [10]), ([11], [11]), ([], []), ([13], [13]), ([14], [14]), ([15], [15]), ([16], [16]), ([5, 7, 12, 17], [5, 7, 12, 17]), ([0], [0]), ([19], [19]), ([20, 1, 0, 1, 2, 3, 4, 5, 6, 7, 8, 9, 10, 11, 12, 13, 14, 15, 16, 17, 18], [1, 20]), ([21, 18, 18, 0, 1, 2, 3, 4, 5, 6, 7, 8, 9, 10, 11, 12, 13, 14, 15, 16, 17, 18], [18, 21])])
def ASK5.B5 : List Nat := [0, 0, 0, 4, 12, 28, 0, 64, 0, 256, 768, 1792, 3840, 0, 8192, 24576, 57344, 122880, 262140, 1, 524289, 2097151, 4194303]
theorem ASK5.tab5 : rtab .any (opsOf Tryz.f59 5) = ASK5.T5 := by kernel_rfl
theorem ASK5.bits5 : waitsOk ASK5.T5.2 ASK5.B5 = true := by kernel_rfl
theorem busy_upd (f : Nat → Int × Int) (n : Int) (i : Nat) (v : Int × Int) (j : Nat) (h : busy (updT f i v) n j = true) : j = i ∨ j ≠ i ∧ busy f n j = true := by
 by_cases e : j = i
 ·exact .inl e
 ·refine .inr ⟨e, ?_⟩
  unfold busy updT at h
  rw [if_neg e] at h
  exact h
def AR (f f' : Nat → Int × Int) (rows rows' : List (List Value)) (now ticks : Int) (gv t : Nat) : Prop := (free f t 0 = none ∧ f' = f ∧ rows' = rows ++ [told ((gv + 1 : Nat) : Int) 5 none 0]) ∨ ∃ i, free f t 0 = some i ∧ f' = updT f i (((gv + 1 : Nat) : Int), until_ now ticks) ∧ rows' = rows
section
variable {w0 : World} {N0 : Nat} {w w' : World} {gs gx gt gf mx : Nat} {Z : Nat → Prop} {P : PL} {xs : List Nd} {now gv : Nat} {f : Nat → Int × Int} {su : Nat → Value} {va : Value} {rows : List (List Value)} {b : Nat}
set_option maxRecDepth 100000 in
set_option maxHeartbeats 1000000 in
theorem service.ask.calls (h : SE w0 N0 w gs gx gt gf mx Z (fun j => busy f (P.t : Int) j = true) P xs now gv f su va rows b) (hN : N0 ≤ w.heap.size) (hW : Below w0.heap.size w0 w) (hNW : w0.heap.size ≤ N0) (hl : rows.length ≤ 1000) (hg : gv < 1000000) {A : Option Addr} {c : Nat} (hx : kNd.C w0 A xs.length xs) (hl6 : xs.length ≤ 6) (hk : NdOk 0 8 xs) (ticks : Int) : Calls Tryz.prog 59 #[.pointer (some ⟨gs, 0, none⟩), evV 1 (.slice A xs.length c) ticks] w fun e w' => e = .returned (.int .i64 0) ∧ (∃ f' su' va' rows', SE w0 N0 w' gs gx gt gf mx Z (fun j => busy f' (P.t : Int) j = true) P xs now (gv + 1) f' su' va' rows' b ∧ AR f f' rows rows' (now : Int) ticks gv P.t) ∧ Kf N0 ST (fun k => ¬ Z k) w w' := by
 have hba := below_alloc (Below.refl w.heap.size w) (.cells #[.int .i64 1, .slice A xs.length c, .int .i64 ticks, .int .i64 0, .slice none 0 0] 68)
 have HGB1 := Aside0.mk (blk_new w (.cells #[.int .i64 1, .slice A xs.length c, .int .i64 ticks, .int .i64 0, .slice none 0 0] 68))
 have HE1 := Aside0.mk (h.below hba)
 have HK1 := Aside0.mk (show Kf N0 ST (fun k => ¬ Z k) w _ from Kf.below hba)
 have HX := Aside0.mk hx
 have HLK := Aside0.mk (And.intro hl6 hk)
 have HNS := Aside0.mk hN
 have HWW := Aside0.mk (And.intro hW hNW)
 have HLG := Aside0.mk (And.intro hl hg)
 clear h hba hx hl6 hk hN hW hNW hl hg
 go_enter Tryz.func59, Tryz.ntmps59
 go_wp2
 generalize w.alloc (.cells #[.int .i64 1, .slice A xs.length c, .int .i64 ticks, .int .i64 0, .slice none 0 0] 68) = w1 at HGB1 HE1 HK1 ⊢
 generalize w.heap.size = gb at HGB1 ⊢
 have HE2 := Aside0.mk (HE1.out.below (below_drew (Below.refl w1.heap.size w1)))
 have HK2 := Aside0.mk (HK1.out.trans (Kf.below (below_drew (Below.refl w1.heap.size w1))))
 have HGB2 := Aside0.mk (show w1.drew.heap[gb]? = some (.cells #[.int .i64 1, .slice A xs.length c, .int .i64 ticks, .int .i64 0, .slice none 0 0] 68 (0, 0)) from HGB1.out)
 have HFI := Aside0.mk (show ∀ j, j < 8 → 0 ≤ (admitT f P.t (gv : Int) (now : Int) ticks j).1 ∧ (admitT f P.t (gv : Int) (now : Int) ticks j).1 ≤ ((gv + 1 : Nat) : Int) from fun j hj => by
  have := HE1.out.fi j hj
  cases hfr : free f P.t 0 with
  | none =>
   rw [show admitT f P.t (gv : Int) (now : Int) ticks = f by unfold admitT; rw [hfr]]
   omega
  | some i =>
   rw [show admitT f P.t (gv : Int) (now : Int) ticks = updT f i ((gv : Int) + 1, until_ (now : Int) ticks) by unfold admitT; rw [hfr]]
   unfold updT
   split
   ·refine ⟨?_, ?_⟩ <;> simp only [] <;> omega
   ·omega)
 obtain ⟨fv, hfv⟩ : ∃ fv, freeV f P.t = fv := ⟨_, rfl⟩
 obtain ⟨bv, hbv⟩ : ∃ bv, decide (0 ≤ fv) = bv := ⟨_, rfl⟩
 have HADM := Aside0.mk (show Calls Tryz.prog 100 #[.pointer (some ⟨gt, 0, none⟩), .int .i64 (now : Int), .int .i64 ticks] w1.drew (fun e w' => e = .returned (.tuple #[.int .i64 ((gv + 1 : Nat) : Int), .int .i64 fv, .bool bv]) ∧ TB w' gt (admitT f P.t (gv : Int) (now : Int) ticks) (P.t : Int) ((gv + 1 : Nat) : Int) ∧ w1.drew.grownBy w' (some gt)) from by
  have h1 := table.Admit.calls HE2.out.tb HE2.out.pt.1 HE2.out.pt.2 (by omega) (by have := HLG.out.2; omega) (now : Int) ticks
  rw [hfv, hbv] at h1
  exact h1)
 have HV := Aside0.mk (And.intro hfv hbv)
 obtain ⟨gw, hgw⟩ : ∃ gw, gv + 1 = gw := ⟨_, rfl⟩
 have HGW := Aside0.mk hgw
 rw [hgw] at HADM HFI
 clear hfv hbv hgw HGB1 HE1 HK1
 refine start_ (n := 18) (S := fun w' => w'.cell? ⟨gs, 9, none⟩ = some (.pointer (some ⟨gt, 0, none⟩)) ∧ w'.cell? ⟨gs, 7, none⟩ = some (.int .i64 (now : Int)) ∧ w'.cell? ⟨gb, 2, none⟩ = some (.int .i64 ticks)) (ds := []) #[O,O,O,O,O,O,O,O,O,O,O,O,O,O,O,O,O,O] (by kernel_rfl) rfl rfl ⟨((blk_cell HE2.out.blk 9).trans rfl), ((blk_cell HE2.out.blk 7).trans rfl), ((blk_cell HGB2.out 2).trans rfl)⟩ (fun hHeld => ?_)
 refine with_tabW ASK1.tab1 ASK1.bits1 (fun HT_ HW_ => ?_)
 refine pure_ (i := 0) (N := some 9) (v := ?_) (a' := ?_) #[Y,O,O,O,O,O,O,O,O,O,O,O,O,O,O,O,O,O] rfl rfl (any_of HT_.out (by kernel_rfl)) (fun _ _ _ h => h) (Or.inl ⟨by rfl, ?_⟩) ?_ ?_
 rotate_left
 ·intro w'
  go_simp
  with_reducible rfl
 rotate_left
 ·simp only [PN]
  rfl
 refine pure_ (i := 1) (N := some 10) (v := ?_) (a' := ?_) #[Y,Y,O,O,O,O,O,O,O,O,O,O,O,O,O,O,O,O] rfl rfl (any_of HT_.out (by kernel_rfl)) (fun _ _ _ h => h) (Or.inl ⟨by rfl, ?_⟩) ?_ ?_
 rotate_left
 ·intro w'
  go_simp
  with_reducible rfl
 rotate_left
 ·simp only [PN]
  rfl
 refine pure_ (i := 2) (N := some 11) (v := ?_) (a' := ?_) #[Y,Y,Y,O,O,O,O,O,O,O,O,O,O,O,O,O,O,O] rfl rfl (any_of HT_.out (by kernel_rfl)) (fun _ _ _ h => h) (Or.inl ⟨by rfl, ?_⟩) ?_ ?_
 rotate_left
 ·intro w'
  go_simp
  with_reducible rfl
 rotate_left
 ·simp only [PN]
  rfl
 refine pure_ (i := 4) (N := some 13) (v := ?_) (a' := ?_) #[Y,Y,Y,O,Y,O,O,O,O,O,O,O,O,O,O,O,O,O] rfl rfl (any_of HT_.out (by kernel_rfl)) (fun _ _ _ h => h) (Or.inl ⟨by rfl, ?_⟩) ?_ ?_
 rotate_left
 ·intro w'
  go_simp
  with_reducible rfl
 rotate_left
 ·simp only [PN]
  rfl
 refine pure_ (i := 5) (N := some 14) (v := ?_) (a' := ?_) #[Y,Y,Y,O,Y,Y,O,O,O,O,O,O,O,O,O,O,O,O] rfl rfl (any_of HT_.out (by kernel_rfl)) (fun _ _ _ h => h) (Or.inl ⟨by rfl, ?_⟩) ?_ ?_
 rotate_left
 ·intro w'
  go_simp
  with_reducible rfl
 rotate_left
 ·simp only [PN]
  rfl
 refine pure_ (i := 6) (N := some 15) (v := ?_) (a' := ?_) #[Y,Y,Y,O,Y,Y,Y,O,O,O,O,O,O,O,O,O,O,O] rfl rfl (any_of HT_.out (by kernel_rfl)) (fun _ _ _ h => h) (Or.inl ⟨by rfl, ?_⟩) ?_ ?_
 rotate_left
 ·intro w'
  go_simp
  with_reducible rfl
 rotate_left
 ·simp only [PN]
  rfl
 refine pure_ (i := 8) (N := some 17) (v := ?_) (a' := ?_) #[Y,Y,Y,O,Y,Y,Y,O,Y,O,O,O,O,O,O,O,O,O] rfl rfl (any_of HT_.out (by kernel_rfl)) (fun _ _ _ h => h) (Or.inl ⟨by rfl, ?_⟩) ?_ ?_
 rotate_left
 ·intro w'
  go_simp
  with_reducible rfl
 rotate_left
 ·simp only [PN]
  rfl
 refine take_ (i := 3) (N := some 12) (v := ?_) (a' := ?_) #[Y,Y,Y,Y,Y,Y,Y,O,Y,O,O,O,O,O,O,O,O,O] rfl rfl (take_ofW HT_.out HW_.out (by kernel_rfl)) (fun _ _ _ h => h) (Or.inl ⟨by rfl, ?_⟩) hHeld ?_ ?_
 rotate_left
 ·rintro w' ⟨s0, s1, s2⟩
  go_simp
  with_reducible rfl
 rotate_left
 ·simp only [PN]
  rfl
 refine take_ (i := 7) (N := some 16) (v := ?_) (a' := ?_) #[Y,Y,Y,Y,Y,Y,Y,Y,Y,O,O,O,O,O,O,O,O,O] rfl rfl (take_ofW HT_.out HW_.out (by kernel_rfl)) (fun _ _ _ h => h) (Or.inl ⟨by rfl, ?_⟩) hHeld ?_ ?_
 rotate_left
 ·rintro w' ⟨s0, s1, s2⟩
  go_simp
  with_reducible rfl
 rotate_left
 ·simp only [PN]
  rfl
 refine take_ (i := 9) (N := some 18) (v := ?_) (a' := ?_) #[Y,Y,Y,Y,Y,Y,Y,Y,Y,Y,O,O,O,O,O,O,O,O] rfl rfl (take_ofW HT_.out HW_.out (by kernel_rfl)) (fun _ _ _ h => h) (Or.inl ⟨by rfl, ?_⟩) hHeld ?_ ?_
 rotate_left
 ·rintro w' ⟨s0, s1, s2⟩
  go_simp
  with_reducible rfl
 rotate_left
 ·simp only [PN]
  rfl
 refine one_ (i := 10) (N := some 19) #[Y,Y,Y,Y,Y,Y,Y,Y,Y,Y,Y,O,O,O,O,O,O,O] rfl rfl (one_of HT_.out (by kernel_rfl)) (by decide) (fun K hK => ?_)
 refine goes_ Tryz.func100 (by kernel_rfl) rfl #[.pointer (some ⟨gt, 0, none⟩), .int .i64 (now : Int), .int .i64 ticks] (by rfl) rfl rfl (by (try simp only [List.map_toArray, List.map_cons, List.map_nil]); first | done | rfl) ?_
 refine (HADM.out).mono ?_
 rintro e w5 ⟨rfl, ht5, hg5⟩
 refine ⟨_, rfl, ?_⟩
 have HE5 := Aside0.mk (HE2.out.tbl ht5 hg5 HFI.out)
 have HK5 := Aside0.mk (HK2.out.trans (Kf.grown hg5 HE2.out.tb (by simp [ST]) HE2.out.low.2.2.2))
 have HGB5 := Aside0.mk (blk_grown HGB2.out hg5 (fun e => by injection e with e; exact blk_ne HGB2.out HE2.out.tb (by decide) e))
 clear ht5 hg5 HADM
 refine hK.out _ _ ⟨((blk_cell HE5.out.blk 9).trans rfl), ((blk_cell HE5.out.blk 7).trans rfl), ((blk_cell HGB5.out 2).trans rfl)⟩ (fun hHeld => ?_)
 clear hK K
 refine norm_ (a' := ?_) ?_ ?_
 rotate_left
 ·show Act.put _ (some 19) _ = _
  simp only [PN]
  rfl
 refine pure_ (i := 11) (N := some 8) (v := ?_) (a' := ?_) #[Y,Y,Y,Y,Y,Y,Y,Y,Y,Y,Y,Y,O,O,O,O,O,O] rfl rfl (any_of HT_.out (by kernel_rfl)) (fun _ _ _ h => h) (Or.inl ⟨by rfl, ?_⟩) ?_ ?_
 rotate_left
 ·intro w'
  go_simp
  with_reducible rfl
 rotate_left
 ·simp only [PN]
  rfl
 refine pure_ (i := 12) (N := some 20) (v := ?_) (a' := ?_) #[Y,Y,Y,Y,Y,Y,Y,Y,Y,Y,Y,Y,Y,O,O,O,O,O] rfl rfl (any_of HT_.out (by kernel_rfl)) (fun _ _ _ h => h) (Or.inl ⟨by rfl, ?_⟩) ?_ ?_
 rotate_left
 ·intro w'
  go_simp
  with_reducible rfl
 rotate_left
 ·simp only [PN]
  rfl
 refine pure_ (i := 13) (N := some 21) (v := ?_) (a' := ?_) #[Y,Y,Y,Y,Y,Y,Y,Y,Y,Y,Y,Y,Y,Y,O,O,O,O] rfl rfl (any_of HT_.out (by kernel_rfl)) (fun _ _ _ h => h) (Or.inl ⟨by rfl, ?_⟩) ?_ ?_
 rotate_left
 ·intro w'
  go_simp
  with_reducible rfl
 rotate_left
 ·simp only [PN]
  rfl
 refine pure_ (i := 14) (N := some 22) (v := ?_) (a' := ?_) #[Y,Y,Y,Y,Y,Y,Y,Y,Y,Y,Y,Y,Y,Y,Y,O,O,O] rfl rfl (any_of HT_.out (by kernel_rfl)) (fun _ _ _ h => h) (Or.inl ⟨by rfl, ?_⟩) ?_ ?_
 rotate_left
 ·intro w'
  go_simp
  with_reducible rfl
 rotate_left
 ·simp only [PN]
  rfl
 refine pure_ (i := 15) (N := some 5) (v := ?_) (a' := ?_) #[Y,Y,Y,Y,Y,Y,Y,Y,Y,Y,Y,Y,Y,Y,Y,Y,O,O] rfl rfl (any_of HT_.out (by kernel_rfl)) (fun _ _ _ h => h) (Or.inl ⟨by rfl, ?_⟩) ?_ ?_
 rotate_left
 ·intro w'
  go_simp
  with_reducible rfl
 rotate_left
 ·simp only [PN]
  rfl
 refine pure_ (i := 16) (N := some 6) (v := ?_) (a' := ?_) #[Y,Y,Y,Y,Y,Y,Y,Y,Y,Y,Y,Y,Y,Y,Y,Y,Y,O] rfl rfl (any_of HT_.out (by kernel_rfl)) (fun _ _ _ h => h) (Or.inl ⟨by rfl, ?_⟩) ?_ ?_
 rotate_left
 ·intro w'
  go_simp
  with_reducible rfl
 rotate_left
 ·simp only [PN]
  rfl
 refine pure_ (i := 17) (N := some 7) (v := ?_) (a' := ?_) #[Y,Y,Y,Y,Y,Y,Y,Y,Y,Y,Y,Y,Y,Y,Y,Y,Y,Y] rfl rfl (any_of HT_.out (by kernel_rfl)) (fun _ _ _ h => h) (Or.inl ⟨by rfl, ?_⟩) ?_ ?_
 rotate_left
 ·intro w'
  go_simp
  with_reducible rfl
 rotate_left
 ·simp only [PN]
  rfl
 refine done_ (done_of HT_.out (by kernel_rfl)) ?_
 clear hHeld HE2 HK2 HGB2
 cases hfr : free f P.t 0 with
 | none =>
  have e1 : fv = -1 := by rw [← HV.out.1]; unfold freeV; rw [hfr]
  have e2 : bv = false := by rw [← HV.out.2, e1]; rfl
  have e3 : admitT f P.t (gv : Int) (now : Int) ticks = f := by unfold admitT; rw [hfr]
  have HFR := Aside0.mk hfr
  rw [e3] at HE5
  subst e1
  subst e2
  clear hfr e3 HV
  have HTL := Aside0.mk (service.tell.calls HE5.out (Nat.le_trans HNS.out HK5.out.size) HLG.out.1 (gw : Int) 5 none 0 (by omega) (by have := HGW.out; have := HLG.out.2; omega) (by omega))
  go_wp2_with fail
  refine HTL.out.mono ?_
  rintro e w6 ⟨rfl, ⟨va6, he6⟩, hk6⟩
  have HE6 := Aside0.mk he6
  have HK6 := Aside0.mk (HK5.out.trans hk6)
  clear he6 hk6 HTL HE5 HK5
  go_wp2
  go_ret
  exact ⟨rfl, ⟨f, su, va6, _, by rw [HGW.out]; exact HE6.out, .inl ⟨HFR.out, rfl, by rw [HGW.out]⟩⟩, HK6.out⟩
 | some i =>
  have e1 : fv = (i : Int) := by rw [← HV.out.1]; unfold freeV; rw [hfr]
  have e2 : bv = true := by rw [← HV.out.2, e1]; exact decide_eq_true (by omega)
  have e3 : admitT f P.t (gv : Int) (now : Int) ticks = updT f i ((gv : Int) + 1, until_ (now : Int) ticks) := by unfold admitT; rw [hfr]
  have HFR := Aside0.mk hfr
  have HI := Aside0.mk (show i < 8 by have := free_lt f P.t 0 i hfr; have := HE5.out.pt; omega)
  rw [e3, show (gv : Int) + 1 = (gw : Int) by have := HGW.out; omega] at HE5
  subst e1
  subst e2
  have u0 : (0 : Int) ≤ (i : Int) := by omega
  have u1 : (i : Int) < 8 := by have := HI.out; omega
  clear hfr e3 HV
  go_wp2
  have HE6 := Aside0.mk (HE5.out.below (below_drew (Below.refl w5.heap.size w5)))
  have HK6 := Aside0.mk (HK5.out.trans (Kf.below (below_drew (Below.refl w5.heap.size w5))))
  have HGB6 := Aside0.mk (show w5.drew.heap[gb]? = some (.cells #[.int .i64 1, .slice A xs.length c, .int .i64 ticks, .int .i64 0, .slice none 0 0] 68 (0, 0)) from HGB5.out)
  have hbW : Below w0.heap.size w0 w5.drew := HWW.out.1.trans ((HK6.out.toBelow HNS.out).mono HWW.out.2)
  clear HE5 HK5 HGB5
  refine start_ (n := 23) (S := fun w' => w'.cell? ⟨gs, 8, none⟩ = some (.pointer (some ⟨gx, 0, none⟩)) ∧ w'.cell? ⟨gb, 1, none⟩ = some (.slice A xs.length c) ∧ w'.cell? ⟨gs, 5, none⟩ = some (.int .i64 P.rs) ∧ w'.cell? ⟨gs, 6, none⟩ = some (.int .i64 P.kp)) (ds := [22]) #[O,O,O,O,O,O,O,O,O,O,O,O,O,O,O,O,O,O,O,O,O,O,O] (by kernel_rfl) rfl rfl ⟨((blk_cell HE6.out.blk 8).trans rfl), ((blk_cell HGB6.out 1).trans rfl), ((blk_cell HE6.out.blk 5).trans rfl), ((blk_cell HE6.out.blk 6).trans rfl)⟩ (fun hHeld => ?_)
  refine with_tabW ASK5.tab5 ASK5.bits5 (fun HT_ HW_ => ?_)
  refine pure_ (i := 0) (N := some 29) (v := ?_) (a' := ?_) #[Y,O,O,O,O,O,O,O,O,O,O,O,O,O,O,O,O,O,O,O,O,O,O] rfl rfl (any_of HT_.out (by kernel_rfl)) (fun _ _ _ h => h) (Or.inl ⟨by rfl, ?_⟩) ?_ ?_
  rotate_left
  ·intro w'
   go_simp
   with_reducible rfl
  rotate_left
  ·simp only [PN]
   rfl
  refine pure_ (i := 1) (N := some 30) (v := ?_) (a' := ?_) #[Y,Y,O,O,O,O,O,O,O,O,O,O,O,O,O,O,O,O,O,O,O,O,O] rfl rfl (any_of HT_.out (by kernel_rfl)) (fun _ _ _ h => h) (Or.inl ⟨by rfl, ?_⟩) ?_ ?_
  rotate_left
  ·intro w'
   go_simp
   with_reducible rfl
  rotate_left
  ·simp only [PN]
   rfl
  refine pure_ (i := 2) (N := some 31) (v := ?_) (a' := ?_) #[Y,Y,Y,O,O,O,O,O,O,O,O,O,O,O,O,O,O,O,O,O,O,O,O] rfl rfl (any_of HT_.out (by kernel_rfl)) (fun _ _ _ h => h) (Or.inl ⟨by rfl, ?_⟩) ?_ ?_
  rotate_left
  ·intro w'
   go_simp
   with_reducible rfl
  rotate_left
  ·simp only [PN]
   rfl
  refine pure_ (i := 3) (N := some 32) (v := ?_) (a' := ?_) #[Y,Y,Y,Y,O,O,O,O,O,O,O,O,O,O,O,O,O,O,O,O,O,O,O] rfl rfl (any_of HT_.out (by kernel_rfl)) (fun _ _ _ h => h) (Or.inl ⟨by rfl, ?_⟩) ?_ ?_
  rotate_left
  ·intro w'
   go_simp
   with_reducible rfl
  rotate_left
  ·simp only [PN]
   rfl
  refine pure_ (i := 4) (N := some 33) (v := ?_) (a' := ?_) #[Y,Y,Y,Y,Y,O,O,O,O,O,O,O,O,O,O,O,O,O,O,O,O,O,O] rfl rfl (any_of HT_.out (by kernel_rfl)) (fun _ _ _ h => h) (Or.inl ⟨by rfl, ?_⟩) ?_ ?_
  rotate_left
  ·intro w'
   go_simp
   with_reducible rfl
  rotate_left
  ·simp only [PN]
   rfl
  refine pure_ (i := 6) (N := some 35) (v := ?_) (a' := ?_) #[Y,Y,Y,Y,Y,O,Y,O,O,O,O,O,O,O,O,O,O,O,O,O,O,O,O] rfl rfl (any_of HT_.out (by kernel_rfl)) (fun _ _ _ h => h) (Or.inl ⟨by rfl, ?_⟩) ?_ ?_
  rotate_left
  ·intro w'
   go_simp
   with_reducible rfl
  rotate_left
  ·simp only [PN]
   rfl
  refine pure_ (i := 8) (N := some 37) (v := ?_) (a' := ?_) #[Y,Y,Y,Y,Y,O,Y,O,Y,O,O,O,O,O,O,O,O,O,O,O,O,O,O] rfl rfl (any_of HT_.out (by kernel_rfl)) (fun _ _ _ h => h) (Or.inl ⟨by rfl, ?_⟩) ?_ ?_
  rotate_left
  ·intro w'
   go_simp
   with_reducible rfl
  rotate_left
  ·simp only [PN]
   rfl
  refine pure_ (i := 9) (N := some 38) (v := ?_) (a' := ?_) #[Y,Y,Y,Y,Y,O,Y,O,Y,Y,O,O,O,O,O,O,O,O,O,O,O,O,O] rfl rfl (any_of HT_.out (by kernel_rfl)) (fun _ _ _ h => h) (Or.inl ⟨by rfl, ?_⟩) ?_ ?_
  rotate_left
  ·intro w'
   go_simp
   with_reducible rfl
  rotate_left
  ·simp only [PN]
   rfl
  refine pure_ (i := 10) (N := some 39) (v := ?_) (a' := ?_) #[Y,Y,Y,Y,Y,O,Y,O,Y,Y,Y,O,O,O,O,O,O,O,O,O,O,O,O] rfl rfl (any_of HT_.out (by kernel_rfl)) (fun _ _ _ h => h) (Or.inl ⟨by rfl, ?_⟩) ?_ ?_
  rotate_left
  ·intro w'
   go_simp
   with_reducible rfl
  rotate_left
  ·simp only [PN]
   rfl
  refine pure_ (i := 11) (N := some 40) (v := ?_) (a' := ?_) #[Y,Y,Y,Y,Y,O,Y,O,Y,Y,Y,Y,O,O,O,O,O,O,O,O,O,O,O] rfl rfl (any_of HT_.out (by kernel_rfl)) (fun _ _ _ h => h) (Or.inl ⟨by rfl, ?_⟩) ?_ ?_
  rotate_left
  ·intro w'
   go_simp
   with_reducible rfl
  rotate_left
  ·simp only [PN]
   rfl
  refine pure_ (i := 13) (N := some 42) (v := ?_) (a' := ?_) #[Y,Y,Y,Y,Y,O,Y,O,Y,Y,Y,Y,O,Y,O,O,O,O,O,O,O,O,O] rfl rfl (any_of HT_.out (by kernel_rfl)) (fun _ _ _ h => h) (Or.inl ⟨by rfl, ?_⟩) ?_ ?_
  rotate_left
  ·intro w'
   go_simp
   with_reducible rfl
  rotate_left
  ·simp only [PN]
   rfl
  refine pure_ (i := 14) (N := some 43) (v := ?_) (a' := ?_) #[Y,Y,Y,Y,Y,O,Y,O,Y,Y,Y,Y,O,Y,Y,O,O,O,O,O,O,O,O] rfl rfl (any_of HT_.out (by kernel_rfl)) (fun _ _ _ h => h) (Or.inl ⟨by rfl, ?_⟩) ?_ ?_
  rotate_left
  ·intro w'
   go_simp
   with_reducible rfl
  rotate_left
  ·simp only [PN]
   rfl
  refine pure_ (i := 15) (N := some 44) (v := ?_) (a' := ?_) #[Y,Y,Y,Y,Y,O,Y,O,Y,Y,Y,Y,O,Y,Y,Y,O,O,O,O,O,O,O] rfl rfl (any_of HT_.out (by kernel_rfl)) (fun _ _ _ h => h) (Or.inl ⟨by rfl, ?_⟩) ?_ ?_
  rotate_left
  ·intro w'
   go_simp
   with_reducible rfl
  rotate_left
  ·simp only [PN]
   rfl
  refine pure_ (i := 16) (N := some 45) (v := ?_) (a' := ?_) #[Y,Y,Y,Y,Y,O,Y,O,Y,Y,Y,Y,O,Y,Y,Y,Y,O,O,O,O,O,O] rfl rfl (any_of HT_.out (by kernel_rfl)) (fun _ _ _ h => h) (Or.inl ⟨by rfl, ?_⟩) ?_ ?_
  rotate_left
  ·intro w'
   go_simp
   with_reducible rfl
  rotate_left
  ·simp only [PN]
   rfl
  refine pure_ (i := 19) (N := some 48) (v := ?_) (a' := ?_) #[Y,Y,Y,Y,Y,O,Y,O,Y,Y,Y,Y,O,Y,Y,Y,Y,O,O,Y,O,O,O] rfl rfl (any_of HT_.out (by kernel_rfl)) (fun _ _ _ h => h) (Or.inl ⟨by rfl, ?_⟩) ?_ ?_
  rotate_left
  ·intro w'
   go_simp
   with_reducible rfl
  rotate_left
  ·simp only [PN]
   rfl
  refine pure_ (i := 20) (N := some 49) (v := ?_) (a' := ?_) #[Y,Y,Y,Y,Y,O,Y,O,Y,Y,Y,Y,O,Y,Y,Y,Y,O,O,Y,Y,O,O] rfl rfl (any_of HT_.out (by kernel_rfl)) (fun _ _ _ h => h) (Or.inl ⟨by rfl, ?_⟩) ?_ ?_
  rotate_left
  ·intro w'
   go_simp
   with_reducible rfl
  rotate_left
  ·simp only [PN]
   rfl
  refine take_ (i := 5) (N := some 34) (v := ?_) (a' := ?_) #[Y,Y,Y,Y,Y,Y,Y,O,Y,Y,Y,Y,O,Y,Y,Y,Y,O,O,Y,Y,O,O] rfl rfl (take_ofW HT_.out HW_.out (by kernel_rfl)) (fun _ _ _ h => h) (Or.inl ⟨by rfl, ?_⟩) hHeld ?_ ?_
  rotate_left
  ·rintro w' ⟨s0, s1, s2, s3⟩
   go_simp
   with_reducible rfl
  rotate_left
  ·simp only [PN]
   rfl
  refine take_ (i := 7) (N := some 36) (v := ?_) (a' := ?_) #[Y,Y,Y,Y,Y,Y,Y,Y,Y,Y,Y,Y,O,Y,Y,Y,Y,O,O,Y,Y,O,O] rfl rfl (take_ofW HT_.out HW_.out (by kernel_rfl)) (fun _ _ _ h => h) (Or.inl ⟨by rfl, ?_⟩) hHeld ?_ ?_
  rotate_left
  ·rintro w' ⟨s0, s1, s2, s3⟩
   go_simp
   with_reducible rfl
  rotate_left
  ·simp only [PN]
   rfl
  refine take_ (i := 12) (N := some 41) (v := ?_) (a' := ?_) #[Y,Y,Y,Y,Y,Y,Y,Y,Y,Y,Y,Y,Y,Y,Y,Y,Y,O,O,Y,Y,O,O] rfl rfl (take_ofW HT_.out HW_.out (by kernel_rfl)) (fun _ _ _ h => h) (Or.inl ⟨by rfl, ?_⟩) hHeld ?_ ?_
  rotate_left
  ·rintro w' ⟨s0, s1, s2, s3⟩
   go_simp
   with_reducible rfl
  rotate_left
  ·simp only [PN]
   rfl
  refine take_ (i := 17) (N := some 46) (v := ?_) (a' := ?_) #[Y,Y,Y,Y,Y,Y,Y,Y,Y,Y,Y,Y,Y,Y,Y,Y,Y,Y,O,Y,Y,O,O] rfl rfl (take_ofW HT_.out HW_.out (by kernel_rfl)) (fun _ _ _ h => h) (Or.inl ⟨by rfl, ?_⟩) hHeld ?_ ?_
  rotate_left
  ·rintro w' ⟨s0, s1, s2, s3⟩
   go_simp
   with_reducible rfl
  rotate_left
  ·simp only [PN]
   rfl
  refine one_ (i := 18) (N := some 47) #[Y,Y,Y,Y,Y,Y,Y,Y,Y,Y,Y,Y,Y,Y,Y,Y,Y,Y,Y,Y,Y,O,O] rfl rfl (one_of HT_.out (by kernel_rfl)) (by decide) (fun K hK => ?_)
  refine goes_ Tryz.func102 (by kernel_rfl) rfl #[.pointer (some ⟨gx, 0, none⟩), .slice A xs.length c, .int .i64 P.rs, .int .i64 P.kp] (by rfl) rfl rfl (by (try simp only [List.map_toArray, List.map_cons, List.map_nil]); first | done | rfl) ?_
  refine (suit.New.calls HX.out hbW HLK.out.1 HLK.out.2 P.rs P.kp).mono ?_
  rintro e w7 ⟨gu, rfl, hs7, hb7⟩
  refine ⟨_, rfl, ?_⟩
  have HE7 := Aside0.mk (HE6.out.below hb7)
  have HK7 := Aside0.mk (HK6.out.trans (Kf.below hb7))
  have HGB7 := Aside0.mk (blk_below HGB6.out hb7)
  have HS7 := Aside0.mk (hs7.lower (Nat.le_trans HNS.out HK6.out.size))
  have cs := HE7.out.suit i HI.out
  have fs := blk_frozen HE7.out.blk (11 + i)
  clear hs7 hb7 hbW
  refine hK.out _ _ ⟨((blk_cell HE7.out.blk 8).trans rfl), ((blk_cell HGB7.out 1).trans rfl), ((blk_cell HE7.out.blk 5).trans rfl), ((blk_cell HE7.out.blk 6).trans rfl)⟩ (fun hHeld => ?_)
  clear hK K
  refine norm_ (a' := ?_) ?_ ?_
  rotate_left
  ·show Act.put _ (some 47) _ = _
   simp only [PN]
   rfl
  refine pure_ (i := 21) (N := some 50) (v := ?_) (a' := ?_) #[Y,Y,Y,Y,Y,Y,Y,Y,Y,Y,Y,Y,Y,Y,Y,Y,Y,Y,Y,Y,Y,Y,O] rfl rfl (any_of HT_.out (by kernel_rfl)) (fun _ _ _ h => h) (Or.inl ⟨by rfl, ?_⟩) ?_ ?_
  rotate_left
  ·intro w'
   go_simp
   with_reducible rfl
  rotate_left
  ·simp only [PN]
   rfl
  refine last_ (i := 22) (N := none) #[Y,Y,Y,Y,Y,Y,Y,Y,Y,Y,Y,Y,Y,Y,Y,Y,Y,Y,Y,Y,Y,Y,Y] rfl rfl (one_of HT_.out (by kernel_rfl)) (by decide) (fun K hK => ?_)
  refine skip_ (w1 := ?_) (by rfl) rfl ?_ ?_
  rotate_left
  ·go_simp
   rfl
  refine hK.out _ _ ?_
  clear hK K
  refine done_ (done_of HT_.out (by kernel_rfl)) ?_
  clear hHeld cs fs
  have HF := Aside0.mk (HE7.out.suits i HI.out (.pointer (some ⟨gu, 0, none⟩)) (U' := fun j => busy (updT f i ((gw : Int), until_ (now : Int) ticks)) (P.t : Int) j = true) (fun j hj hu => by
   rcases busy_upd _ _ _ _ _ hu with h | h
   ·exact .inl ⟨h, gu, rfl, HS7.out⟩
   ·exact .inr h))
  go_wp2
  go_ret
  exact ⟨rfl, ⟨_, _, _, rows, by rw [HGW.out]; exact HF.out.1, .inr ⟨i, HFR.out, by rw [HGW.out], rfl⟩⟩, HK7.out.trans HF.out.2⟩
end
theorem held_small (n : Int) (h0 : 0 ≤ n) (h1 : n ≤ 1000000) : held n = n := by
 unfold held mx mn
 repeat' split
 all_goals omega
theorem C_blk {w w' : World} {A : Option Addr} {n : Nat} {xs : List Int} (h : (Kd.int .i64).C w A n xs) (he : ∀ ad, A = some ad → w'.heap[ad.block]? = w.heap[ad.block]?) : (Kd.int .i64).C w' A n xs := by
 refine ⟨h.1, h.2.1, fun hp => ?_⟩
 obtain ⟨ad, e, hc⟩ := h.2.2 hp
 refine ⟨ad, e, fun j p hj => ?_⟩
 obtain ⟨cs, h1, h2, h3⟩ := hc j p hj
 refine ⟨cs, h1, h2, fun i u hu => ?_⟩
 have h4 := h3 i u hu
 have hb : (ad.add (j * (Kd.int .i64).sz + i)).block = ad.block := by unfold Addr.add; split <;> rfl
 unfold World.cell? at h4 ⊢
 rw [hb] at h4 ⊢
 rw [he ad e]
 exact h4
theorem taken_nodup (f : Nat → Int × Int) (n : Int) (i : Nat) : (taken f n i).Nodup := by
 induction i with
 | zero => exact List.nodup_nil
 | succ i ih =>
  unfold taken
  rw [List.nodup_append]
  refine ⟨ih, by split <;> simp, fun x hx y hy => ?_⟩
  obtain ⟨k, rfl, hk, _⟩ := (taken_mem f n i x).1 hx
  split at hy
  ·rw [List.mem_singleton.1 hy]; omega
  ·cases hy
theorem nodup_take {l : List Int} (h : l.Nodup) (i : Nat) (hi : i < l.length) : l[i] ∉ l.take i := fun hm => by
 obtain ⟨j, hj, e⟩ := List.getElem_of_mem hm
 rw [List.getElem_take] at e
 simp at hj
 exact List.pairwise_iff_getElem.1 h j i (by omega) hi (by omega) e
def TR (f f' : Nat → Int × Int) (rows rows' : List (List Value)) (now t : Nat) : Prop := ∃ ys : List Int, ys.Perm ((taken f (t : Int) t).filter (fun x => !stay f (now : Int) x)) ∧ (∀ k : Nat, k < 8 → f' k = if (k : Int) ∈ ys then (0, 0) else f k) ∧ rows'.flatMap tk = rows.flatMap tk ++ List.replicate ys.length 4 ∧ rows'.length = rows.length + ys.length
theorem busy_eq {f f' : Nat → Int × Int} {n : Int} {k : Nat} (h : f' k = f k) : busy f' n k = busy f n k := by unfold busy; rw [h]
theorem busy_zero {f : Nat → Int × Int} {n : Int} {k : Nat} (h : f k = (0, 0)) : busy f n k = false := by unfold busy; rw [h]; simp
def TCK2.T2 : Bool × List (List Nat × List Nat) := (true, [([], []), ([0], [0]), ([1], [1]), ([2], [2]), ([], []), ([4], [4]), ([5], [5]), ([6], [6]), ([3, 7], [3, 7]), ([8], [8]), ([], [])])
def TCK2.B2 : List Nat := [0, 1, 3, 7, 0, 16, 48, 112, 255, 511, 0]
theorem TCK2.tab2 : rtab .any (opsOf Tryz.f60 2) = TCK2.T2 := by kernel_rfl
theorem TCK2.bits2 : waitsOk TCK2.T2.2 TCK2.B2 = true := by kernel_rfl
def TCK7.T7 : Bool × List (List Nat × List Nat) := (true, [([], []), ([0], [0]), ([1], [1]), ([2], [2]), ([], []), ([4], [4]), ([5], [5]), ([6], [6]), ([3, 7], [3, 7])])
def TCK7.B7 : List Nat := [0, 1, 3, 7, 0, 16, 48, 112, 255]
theorem TCK7.tab7 : rtab .any (opsOf Tryz.f60 7) = TCK7.T7 := by kernel_rfl
theorem TCK7.bits7 : waitsOk TCK7.T7.2 TCK7.B7 = true := by kernel_rfl
section
variable {w0 : World} {N0 : Nat} {w w' : World} {gs gx gt gf mx : Nat} {Z U : Nat → Prop} {P : PL} {xs : List Nd} {now gv : Nat} {f : Nat → Int × Int} {su : Nat → Value} {va : Value} {rows : List (List Value)} {b : Nat}
theorem SE.mU {U' : Nat → Prop} (h : SE w0 N0 w gs gx gt gf mx Z U P xs now gv f su va rows b) (hu : ∀ i, i < 8 → U' i → U i) : SE w0 N0 w gs gx gt gf mx Z U' P xs now gv f su va rows b := { h with us := fun i hi h1 => h.us i hi (hu i hi h1) }
set_option maxRecDepth 100000 in
set_option maxHeartbeats 1000000 in
theorem service.tick.calls (h : SE w0 N0 w gs gx gt gf mx Z (fun j => busy f (P.t : Int) j = true) P xs now gv f su va rows b) (hN : N0 ≤ w.heap.size) (hl : rows.length ≤ 900) (hg : gv ≤ 1000000) (hn : now < 1000000) : Calls Tryz.prog 60 #[.pointer (some ⟨gs, 0, none⟩), evV 2 (.slice none 0 0) 0] w fun e w' => e = .returned (.int .i64 0) ∧ (∃ f' su' va' rows', SE w0 N0 w' gs gx gt gf mx Z (fun j => busy f' (P.t : Int) j = true) P xs (now + 1) gv f' su' va' rows' b ∧ TR f f' rows rows' (now + 1) P.t) ∧ Kf N0 ST (fun k => ¬ Z k) w w' := by
 obtain ⟨nw, hnw⟩ : ∃ nw, now + 1 = nw := ⟨_, rfl⟩
 have hba := below_alloc (below_alloc (Below.refl w.heap.size w) (.cells #[.int .i64 2, .slice none 0 0, .int .i64 0, .int .i64 0, .slice none 0 0] 68)) (.cells #[.int .i64 (now : Int), .int .i64 1] 3)
 have e1 : (w.alloc (.cells #[.int .i64 2, .slice none 0 0, .int .i64 0, .int .i64 0, .slice none 0 0] 68)).heap.size = w.heap.size + 1 := by simp
 have hrow := blk_new (w.alloc (.cells #[.int .i64 2, .slice none 0 0, .int .i64 0, .int .i64 0, .slice none 0 0] 68)) (.cells #[.int .i64 (now : Int), .int .i64 1] 3)
 rw [e1] at hrow
 have HC1 := Aside0.mk (show (Kd.int .i64).C ((w.alloc (.cells #[.int .i64 2, .slice none 0 0, .int .i64 0, .int .i64 0, .slice none 0 0] 68)).alloc (.cells #[.int .i64 (now : Int), .int .i64 1] 3)) (some ⟨w.heap.size + 1, 0, none⟩) 2 [(now : Int), 1] from by
  refine Kd.C_of_reads (d := (0 : Int)) (h1 := fun _ => rfl) ⟨rfl, by simp, fun _ => ⟨_, rfl, fun j hj => ?_⟩⟩
  match j, hj with
  | 0, _ => exact (blk_cell hrow 0).trans rfl
  | 1, _ => exact (blk_cell hrow 1).trans rfl)
 have HE0 := Aside0.mk (h.below (below_alloc (Below.refl w.heap.size w) (.cells #[.int .i64 2, .slice none 0 0, .int .i64 0, .int .i64 0, .slice none 0 0] 68)))
 have HE1 := Aside0.mk (h.below hba)
 have HK1 := Aside0.mk (show Kf N0 ST (fun k => ¬ Z k) w _ from Kf.below hba)
 have HL := Aside0.mk (And.intro hN (And.intro hl (And.intro hg (And.intro hn hnw))))
 have HH := Aside0.mk (show held (held (now : Int) + held 1) = (nw : Int) from by
  rw [held_small (now : Int) (by omega) (by omega), held_small 1 (by omega) (by omega), held_small _ (by omega) (by omega)]
  omega)
 clear h hba e1 hrow hN hl hg hn hnw
 go_enter Tryz.func60, Tryz.ntmps60
 have c7 : (w.alloc (.cells #[.int .i64 2, .slice none 0 0, .int .i64 0, .int .i64 0, .slice none 0 0] 68)).cell? ⟨gs, 7, none⟩ = some (.int .i64 (now : Int)) := (blk_cell HE0.out.blk 7).trans rfl
 go_wp2_with fail
 generalize (w.alloc (.cells #[.int .i64 2, .slice none 0 0, .int .i64 0, .int .i64 0, .slice none 0 0] 68)).alloc (.cells #[.int .i64 (now : Int), .int .i64 1] 3) = w1 at HC1 HE1 HK1 ⊢
 refine (add2.calls (now : Int) 1 HC1.out).mono ?_
 rintro e w2 ⟨rfl, hb2⟩
 rw [HH.out]
 have HE2 := Aside0.mk (HE1.out.below hb2)
 have HK2 := Aside0.mk (HK1.out.trans (Kf.below hb2))
 clear hb2 HE0 HE1 HK1 HC1 c7
 have c7 : w2.cell? ⟨gs, 7, none⟩ = some (.int .i64 (now : Int)) := (blk_cell HE2.out.blk 7).trans rfl
 have f7 := blk_frozen HE2.out.blk 7
 go_wp2
 have HE3 := Aside0.mk (HE2.out.svc (now' := nw) (su' := su) (U' := fun j => busy f (P.t : Int) j = true) (grown_set w2 gs 7 (.int .i64 (nw : Int))) (blk_put HE2.out.blk 7 _ rfl) (fun i hi hu => HE2.out.us i hi hu))
 have HK3 := Aside0.mk (HK2.out.trans (Kf.grown (grown_set w2 gs 7 (.int .i64 (nw : Int))) HE2.out.blk (by simp [ST]) HE2.out.low.1))
 clear c7 f7 HE2 HK2
 generalize w2.setCell ⟨gs, 7, none⟩ (.int .i64 (nw : Int)) = w3 at HE3 HK3 ⊢
 have HE4 := Aside0.mk (HE3.out.below (below_drew (Below.refl w3.heap.size w3)))
 have HK4 := Aside0.mk (HK3.out.trans (Kf.below (below_drew (Below.refl w3.heap.size w3))))
 clear HE3 HK3
 refine start_ (n := 11) (S := fun w' => w'.cell? ⟨gs, 9, none⟩ = some (.pointer (some ⟨gt, 0, none⟩)) ∧ w'.cell? ⟨gs, 7, none⟩ = some (.int .i64 (nw : Int))) (ds := []) #[O,O,O,O,O,O,O,O,O,O,O] (by kernel_rfl) rfl rfl ⟨((blk_cell HE4.out.blk 9).trans rfl), ((blk_cell HE4.out.blk 7).trans rfl)⟩ (fun hHeld => ?_)
 refine with_tabW TCK2.tab2 TCK2.bits2 (fun HT_ HW_ => ?_)
 refine pure_ (i := 0) (N := some 16) (v := ?_) (a' := ?_) #[Y,O,O,O,O,O,O,O,O,O,O] rfl rfl (any_of HT_.out (by kernel_rfl)) (fun _ _ _ h => h) (Or.inl ⟨by rfl, ?_⟩) ?_ ?_
 rotate_left
 ·intro w'
  go_simp
  with_reducible rfl
 rotate_left
 ·simp only [PN]
  rfl
 refine pure_ (i := 1) (N := some 17) (v := ?_) (a' := ?_) #[Y,Y,O,O,O,O,O,O,O,O,O] rfl rfl (any_of HT_.out (by kernel_rfl)) (fun _ _ _ h => h) (Or.inl ⟨by rfl, ?_⟩) ?_ ?_
 rotate_left
 ·intro w'
  go_simp
  with_reducible rfl
 rotate_left
 ·simp only [PN]
  rfl
 refine pure_ (i := 2) (N := some 18) (v := ?_) (a' := ?_) #[Y,Y,Y,O,O,O,O,O,O,O,O] rfl rfl (any_of HT_.out (by kernel_rfl)) (fun _ _ _ h => h) (Or.inl ⟨by rfl, ?_⟩) ?_ ?_
 rotate_left
 ·intro w'
  go_simp
  with_reducible rfl
 rotate_left
 ·simp only [PN]
  rfl
 refine pure_ (i := 4) (N := some 20) (v := ?_) (a' := ?_) #[Y,Y,Y,O,Y,O,O,O,O,O,O] rfl rfl (any_of HT_.out (by kernel_rfl)) (fun _ _ _ h => h) (Or.inl ⟨by rfl, ?_⟩) ?_ ?_
 rotate_left
 ·intro w'
  go_simp
  with_reducible rfl
 rotate_left
 ·simp only [PN]
  rfl
 refine pure_ (i := 5) (N := some 21) (v := ?_) (a' := ?_) #[Y,Y,Y,O,Y,Y,O,O,O,O,O] rfl rfl (any_of HT_.out (by kernel_rfl)) (fun _ _ _ h => h) (Or.inl ⟨by rfl, ?_⟩) ?_ ?_
 rotate_left
 ·intro w'
  go_simp
  with_reducible rfl
 rotate_left
 ·simp only [PN]
  rfl
 refine pure_ (i := 6) (N := some 22) (v := ?_) (a' := ?_) #[Y,Y,Y,O,Y,Y,Y,O,O,O,O] rfl rfl (any_of HT_.out (by kernel_rfl)) (fun _ _ _ h => h) (Or.inl ⟨by rfl, ?_⟩) ?_ ?_
 rotate_left
 ·intro w'
  go_simp
  with_reducible rfl
 rotate_left
 ·simp only [PN]
  rfl
 refine pure_ (i := 10) (N := some 26) (v := ?_) (a' := ?_) #[Y,Y,Y,O,Y,Y,Y,O,O,O,Y] rfl rfl (any_of HT_.out (by kernel_rfl)) (fun _ _ _ h => h) (Or.inl ⟨by rfl, ?_⟩) ?_ ?_
 rotate_left
 ·intro w'
  go_simp
  with_reducible rfl
 rotate_left
 ·simp only [PN]
  rfl
 refine take_ (i := 3) (N := some 19) (v := ?_) (a' := ?_) #[Y,Y,Y,Y,Y,Y,Y,O,O,O,Y] rfl rfl (take_ofW HT_.out HW_.out (by kernel_rfl)) (fun _ _ _ h => h) (Or.inl ⟨by rfl, ?_⟩) hHeld ?_ ?_
 rotate_left
 ·rintro w' ⟨s0, s1⟩
  go_simp
  with_reducible rfl
 rotate_left
 ·simp only [PN]
  rfl
 refine take_ (i := 7) (N := some 23) (v := ?_) (a' := ?_) #[Y,Y,Y,Y,Y,Y,Y,Y,O,O,Y] rfl rfl (take_ofW HT_.out HW_.out (by kernel_rfl)) (fun _ _ _ h => h) (Or.inl ⟨by rfl, ?_⟩) hHeld ?_ ?_
 rotate_left
 ·rintro w' ⟨s0, s1⟩
  go_simp
  with_reducible rfl
 rotate_left
 ·simp only [PN]
  rfl
 refine one_ (i := 8) (N := some 24) #[Y,Y,Y,Y,Y,Y,Y,Y,Y,O,Y] rfl rfl (one_of HT_.out (by kernel_rfl)) (by decide) (fun K hK => ?_)
 refine goes_ Tryz.func104 (by kernel_rfl) rfl #[.pointer (some ⟨gt, 0, none⟩), .int .i64 (nw : Int)] (by rfl) rfl rfl (by (try simp only [List.map_toArray, List.map_cons, List.map_nil]); first | done | rfl) ?_
 refine (table.Due.calls HE4.out.tb (by have := HE4.out.pt; omega) (by have := HE4.out.pt; omega) (nw : Int)).mono ?_
 rintro e w5 ⟨Ay, cy, ys, rfl, hly, hpy, hcy, hty, hb5⟩
 refine ⟨_, rfl, ?_⟩
 have HE5 := Aside0.mk (HE4.out.below hb5)
 have HK5 := Aside0.mk (HK4.out.trans (Kf.below hb5))
 have HY := Aside0.mk (And.intro hpy (And.intro hcy hty))
 clear hly hpy hcy hty hb5
 refine hK.out _ _ ⟨((blk_cell HE5.out.blk 9).trans rfl), ((blk_cell HE5.out.blk 7).trans rfl)⟩ (fun hHeld => ?_)
 clear hK K
 refine norm_ (a' := ?_) ?_ ?_
 rotate_left
 ·show Act.put _ (some 24) _ = _
  simp only [PN]
  rfl
 refine pure_ (i := 9) (N := some 25) (v := ?_) (a' := ?_) #[Y,Y,Y,Y,Y,Y,Y,Y,Y,Y,Y] rfl rfl (any_of HT_.out (by kernel_rfl)) (fun _ _ _ h => h) (Or.inl ⟨by rfl, ?_⟩) ?_ ?_
 rotate_left
 ·intro w'
  go_simp
  with_reducible rfl
 rotate_left
 ·simp only [PN]
  rfl
 refine done_ (done_of HT_.out (by kernel_rfl)) ?_
 clear hHeld HE4 HK4
 have HYN := Aside0.mk (show ys.Nodup ∧ ∀ y ∈ ys, ∃ k : Nat, y = (k : Int) ∧ k < 8 ∧ busy f (P.t : Int) k = true from ⟨HY.out.1.nodup_iff.2 ((taken_nodup f _ _).filter _), fun y hy => by
  have h1 := HY.out.1.mem_iff.1 hy
  obtain ⟨h2, _⟩ := List.mem_filter.1 h1
  obtain ⟨k, e, hk, hb⟩ := (taken_mem f _ _ y).1 h2
  exact ⟨k, e, by have := HE5.out.pt; simp at hk; omega, hb⟩⟩)
 have HYL := Aside0.mk (show ys.length ≤ 8 from by
  have h1 := HY.out.1.length_eq
  have h2 := List.length_filter_le (fun x => !stay f (nw : Int) x) (taken f (P.t : Int) (P.t : Int).toNat)
  have h3 := taken_length f (P.t : Int) (P.t : Int).toNat
  have := HE5.out.pt
  simp at *
  omega)
 go_wp2
 go_loopw [26] (fun iv wr => ∃ (i : Nat) (f2 : Nat → Int × Int) (su2 : Nat → Value) (va2 : Value) (rows2 : List (List Value)), iv = .int .i64 (i : Int) ∧ i ≤ ys.length ∧ Aside0 (SE w0 N0 wr gs gx gt gf mx Z (fun j => busy f2 (P.t : Int) j = true) P xs nw gv f2 su2 va2 rows2 b) ∧ Aside0 (Kf N0 ST (fun k => ¬ Z k) w wr) ∧ Aside0 ((∀ k : Nat, k < 8 → f2 k = if (k : Int) ∈ ys.take i then (0, 0) else f k) ∧ rows2.flatMap tk = rows.flatMap tk ++ List.replicate i 4 ∧ rows2.length = rows.length + i) ∧ Aside0 ((Kd.int .i64).C wr Ay ys.length ys ∧ ∀ ad, Ay = some ad → ∃ cells, wr.heap[ad.block]? = some (.cells cells 3 (0, 0)))) (fun iv _ => ((ys.length : Int) - intOf iv).toNat)
 case atStart => exact ⟨0, f, su, va, rows, rfl, by omega, HE5, HK5, ⟨fun k hk => by simp, by simp, by omega⟩, ⟨HY.out.2⟩⟩
 case round =>
  clear HE5 HK5
  obtain ⟨i, f2, su2, va2, rows2, rfl, hi, HE, HK, HF, HC⟩ := hrel
  have hl8 := HYL.out
  by_cases hlt : i < ys.length
  ·have q0 : decide ((i : Int) < (ys.length : Int)) = true := decide_eq_true (by omega)
   have u0 : (0 : Int) ≤ (i : Int) := by omega
   have u1 : (i : Int) < (ys.length : Int) := by omega
   have a9 : wrap64 ((i : Int) + 1) = (i : Int) + 1 := wrap_id (by omega) (by omega)
   have HLT := Aside0.mk hlt
   obtain ⟨ad, ea, hx⟩ := Kd.at_int HC.out.1 (i : Int) u0 u1
   subst ea
   obtain ⟨k, ek, hk8, hbk⟩ := HYN.out.2 ys[i] (List.getElem_mem hlt)
   rw [show rd ys (i : Int) = (k : Int) from by rw [← ek]; unfold rd; rw [Int.toNat_natCast]; simp [List.getD_eq_getElem?_getD, hlt], Int.toNat_natCast] at hx
   have hnt : (k : Int) ∉ ys.take i := by rw [← ek]; exact nodup_take HYN.out.1 i hlt
   have hfk : f2 k = f k := by rw [HF.out.1 k hk8, if_neg hnt]
   have htk : ys.take (i + 1) = ys.take i ++ [(k : Int)] := by rw [List.take_add_one, List.getElem?_eq_getElem hlt, ek]; rfl
   have HLV := Aside0.mk (service.leave.calls HE.out (Nat.le_trans HL.out.1 HK.out.size) (by have := HF.out.2.2; have := HL.out.2.1; omega) HL.out.2.2.1 k hk8 (by rw [busy_eq hfk]; exact hbk) 4 none 0 (by omega))
   have HQ := Aside0.mk (And.intro hk8 htk)
   clear hnt hfk htk hbk ek
   go_wp2_with fail
   refine HLV.out.mono ?_
   rintro e w6 ⟨rfl, ⟨su3, va3, he3⟩, hk3⟩
   have HE3 := Aside0.mk (he3.mU (U' := fun j => busy (updT f2 k (0, 0)) (P.t : Int) j = true) (fun j hj hu => by
    rcases busy_upd _ _ _ _ _ hu with h | h
    ·subst h
     rw [busy_zero (by unfold updT; rw [if_pos rfl])] at hu
     cases hu
    ·exact ⟨h.2, h.1⟩))
   have HK3 := Aside0.mk (HK.out.trans hk3)
   have HF3 := Aside0.mk (show (∀ k' : Nat, k' < 8 → updT f2 k (0, 0) k' = if (k' : Int) ∈ ys.take (i + 1) then (0, 0) else f k') ∧ (rows2 ++ [told (f2 k).1 4 none 0]).flatMap tk = rows.flatMap tk ++ List.replicate (i + 1) 4 ∧ (rows2 ++ [told (f2 k).1 4 none 0]).length = rows.length + (i + 1) from by
    refine ⟨fun k' hk' => ?_, ?_, by have := HF.out.2.2; simp; omega⟩
    ·rw [HQ.out.2]
     unfold updT
     by_cases e : k' = k
     ·subst e
      simp
     ·rw [if_neg e, HF.out.1 k' hk']
      have : (k' : Int) ≠ (k : Int) := by omega
      simp [this]
    ·rw [List.flatMap_append, HF.out.2.1, List.replicate_succ', List.append_assoc]
     rfl)
   have HC3 := Aside0.mk (show (Kd.int .i64).C w6 (some ad) ys.length ys ∧ ∀ ad', some ad = some ad' → ∃ cells, w6.heap[ad'.block]? = some (.cells cells 3 (0, 0)) from ⟨C_blk HC.out.1 (fun ad' e => by
    obtain ⟨cells, hc⟩ := HC.out.2 ad' e
    exact hk3.keep _ _ _ hc (by decide)), fun ad' e => by
    obtain ⟨cells, hc⟩ := HC.out.2 ad' e
    exact ⟨cells, hk3.blk hc (by decide)⟩⟩)
   clear he3 hk3 HE HK HF HC HLV hx
   have hlt := HLT.out
   go_wp2
   go_roundw
   case rel => exact ⟨i + 1, _, su3, va3, _, by go_num, hlt, HE3, HK3, HF3, HC3⟩
   case measure => first | (rw [a9]; exact meas _ _ hlt) | exact meas _ _ hlt
  ·have q0 : decide ((i : Int) < (ys.length : Int)) = false := decide_eq_false (by omega)
   have HI := Aside0.mk (show i = ys.length by omega)
   have HE7 := Aside0.mk (HE.out.below (below_drew (Below.refl wr.heap.size wr)))
   have HK7 := Aside0.mk (HK.out.trans (Kf.below (below_drew (Below.refl wr.heap.size wr))))
   go_wp2
   refine start_ (n := 9) (S := fun w' => w'.cell? ⟨gs, 10, none⟩ = some (.pointer (some ⟨gf, 0, none⟩)) ∧ w'.cell? ⟨gs, 7, none⟩ = some (.int .i64 (nw : Int))) (ds := []) #[O,O,O,O,O,O,O,O,O] (by kernel_rfl) rfl rfl ⟨((blk_cell HE7.out.blk 10).trans rfl), ((blk_cell HE7.out.blk 7).trans rfl)⟩ (fun hHeld => ?_)
   refine with_tabW TCK7.tab7 TCK7.bits7 (fun HT_ HW_ => ?_)
   refine pure_ (i := 0) (N := some 35) (v := ?_) (a' := ?_) #[Y,O,O,O,O,O,O,O,O] rfl rfl (any_of HT_.out (by kernel_rfl)) (fun _ _ _ h => h) (Or.inl ⟨by rfl, ?_⟩) ?_ ?_
   rotate_left
   ·intro w'
    go_simp
    with_reducible rfl
   rotate_left
   ·simp only [PN]
    rfl
   refine pure_ (i := 1) (N := some 36) (v := ?_) (a' := ?_) #[Y,Y,O,O,O,O,O,O,O] rfl rfl (any_of HT_.out (by kernel_rfl)) (fun _ _ _ h => h) (Or.inl ⟨by rfl, ?_⟩) ?_ ?_
   rotate_left
   ·intro w'
    go_simp
    with_reducible rfl
   rotate_left
   ·simp only [PN]
    rfl
   refine pure_ (i := 2) (N := some 37) (v := ?_) (a' := ?_) #[Y,Y,Y,O,O,O,O,O,O] rfl rfl (any_of HT_.out (by kernel_rfl)) (fun _ _ _ h => h) (Or.inl ⟨by rfl, ?_⟩) ?_ ?_
   rotate_left
   ·intro w'
    go_simp
    with_reducible rfl
   rotate_left
   ·simp only [PN]
    rfl
   refine pure_ (i := 4) (N := some 39) (v := ?_) (a' := ?_) #[Y,Y,Y,O,Y,O,O,O,O] rfl rfl (any_of HT_.out (by kernel_rfl)) (fun _ _ _ h => h) (Or.inl ⟨by rfl, ?_⟩) ?_ ?_
   rotate_left
   ·intro w'
    go_simp
    with_reducible rfl
   rotate_left
   ·simp only [PN]
    rfl
   refine pure_ (i := 5) (N := some 40) (v := ?_) (a' := ?_) #[Y,Y,Y,O,Y,Y,O,O,O] rfl rfl (any_of HT_.out (by kernel_rfl)) (fun _ _ _ h => h) (Or.inl ⟨by rfl, ?_⟩) ?_ ?_
   rotate_left
   ·intro w'
    go_simp
    with_reducible rfl
   rotate_left
   ·simp only [PN]
    rfl
   refine pure_ (i := 6) (N := some 41) (v := ?_) (a' := ?_) #[Y,Y,Y,O,Y,Y,Y,O,O] rfl rfl (any_of HT_.out (by kernel_rfl)) (fun _ _ _ h => h) (Or.inl ⟨by rfl, ?_⟩) ?_ ?_
   rotate_left
   ·intro w'
    go_simp
    with_reducible rfl
   rotate_left
   ·simp only [PN]
    rfl
   refine take_ (i := 3) (N := some 38) (v := ?_) (a' := ?_) #[Y,Y,Y,Y,Y,Y,Y,O,O] rfl rfl (take_ofW HT_.out HW_.out (by kernel_rfl)) (fun _ _ _ h => h) (Or.inl ⟨by rfl, ?_⟩) hHeld ?_ ?_
   rotate_left
   ·rintro w' ⟨s0, s1⟩
    go_simp
    with_reducible rfl
   rotate_left
   ·simp only [PN]
    rfl
   refine take_ (i := 7) (N := some 42) (v := ?_) (a' := ?_) #[Y,Y,Y,Y,Y,Y,Y,Y,O] rfl rfl (take_ofW HT_.out HW_.out (by kernel_rfl)) (fun _ _ _ h => h) (Or.inl ⟨by rfl, ?_⟩) hHeld ?_ ?_
   rotate_left
   ·rintro w' ⟨s0, s1⟩
    go_simp
    with_reducible rfl
   rotate_left
   ·simp only [PN]
    rfl
   refine one_ (i := 8) (N := some 43) #[Y,Y,Y,Y,Y,Y,Y,Y,Y] rfl rfl (one_of HT_.out (by kernel_rfl)) (by decide) (fun K hK => ?_)
   refine goes_ Tryz.func106 (by kernel_rfl) rfl #[.pointer (some ⟨gf, 0, none⟩), .int .i64 (nw : Int)] (by rfl) rfl rfl (by (try simp only [List.map_toArray, List.map_cons, List.map_nil]); first | done | rfl) ?_
   refine (Tick.z HE7.out.fz (nw : Int)).mono ?_
   rintro e w9 ⟨⟨t9, rfl⟩, rfl⟩
   refine ⟨_, rfl, ?_⟩
   refine hK.out _ _ ⟨((blk_cell HE7.out.blk 10).trans rfl), ((blk_cell HE7.out.blk 7).trans rfl)⟩ (fun hHeld => ?_)
   clear hK K
   refine norm_ (a' := ?_) ?_ ?_
   rotate_left
   ·show Act.put _ (some 43) _ = _
    simp only [PN]
    rfl
   refine done_ (done_of HT_.out (by kernel_rfl)) ?_
   clear hHeld
   have hpt := HE7.out.pt
   go_wp2
   go_ret
   refine ⟨rfl, ⟨f2, su2, va2, rows2, by rw [HL.out.2.2.2.2]; exact HE7.out, ys, ?_, ?_, ?_, ?_⟩, HK7.out⟩
   ·rw [HL.out.2.2.2.2]
    have := HY.out.1
    simpa using this
   ·intro k hk
    rw [HF.out.1 k hk, HI.out, List.take_length]
   ·rw [HF.out.2.1, HI.out]
   ·rw [HF.out.2.2, HI.out]
end
def ONS3.T3 : Bool × List (List Nat × List Nat) := (true, [([], []), ([], []), ([0], [0]), ([2], [2]), ([3, 1], [1, 3]), ([4], [4]), ([], []), ([6], [6]), ([7], [7]), ([8], [8]), ([9], [9]), ([5, 10], [5, 10]), ([11], [11]), ([12], [12]), ([12], [12]), ([12], [12]), ([], []), ([16, 13, 11, 0, 1, 2, 3, 4, 5, 6, 7, 8, 9, 10, 11, 12, 13, 16], [13, 16]), ([14, 17, 0, 1, 2, 3, 4, 5, 6, 7, 8, 9, 10, 11, 12, 13, 14, 16, 17], [14]), ([15, 18, 0, 1, 2, 3, 4, 5, 6, 7, 8, 9, 10, 11, 12, 13, 14, 15, 16, 17, 18], [15])])
def ONS3.B3 : List Nat := [0, 0, 1, 5, 15, 31, 0, 64, 192, 448, 960, 2047, 4095, 8191, 8191, 8191, 0, 81919, 229375, 524287]
theorem ONS3.tab3 : rtab .any (opsOf Tryz.f63 3) = ONS3.T3 := by kernel_rfl
theorem ONS3.bits3 : waitsOk ONS3.T3.2 ONS3.B3 = true := by kernel_rfl
def ONS15.T15 : Bool × List (List Nat × List Nat) := (true, [([], []), ([], []), ([1], [1]), ([2], [2]), ([3], [3]), ([], []), ([5], [5]), ([], []), ([7], [7]), ([6, 8], [6, 8]), ([9], [9]), ([4, 10], [4, 10]), ([0, 0, 1, 2, 3, 4, 5, 6, 7, 8, 9, 10, 11], [0]), ([12, 0, 1, 2, 3, 4, 5, 6, 7, 8, 9, 10, 11], [12]), ([13, 11, 11, 0, 1, 2, 3, 4, 5, 6, 7, 8, 9, 10, 11], [11, 13])])
def ONS15.B15 : List Nat := [0, 0, 2, 6, 14, 0, 32, 0, 128, 480, 992, 2046, 4095, 8191, 16383]
theorem ONS15.tab15 : rtab .any (opsOf Tryz.f63 15) = ONS15.T15 := by kernel_rfl
theorem ONS15.bits15 : waitsOk ONS15.T15.2 ONS15.B15 = true := by kernel_rfl
theorem at_Iss {w : World} {A : Option Addr} {n : Nat} {xs : List (Int × ByteArray)} (h : kIss.C w A n xs) (i : Nat) (hi : i < n) : ∃ ad, A = some ad ∧ w.cell? (ad.add (i * 2)) = some (.int .i64 (xs.getD i (0, ⟨#[]⟩)).1) ∧ w.cell? ⟨(ad.add (i * 2)).block, (ad.add (i * 2)).off + 1, none⟩ = some (.string (xs.getD i (0, ⟨#[]⟩)).2) := by
 obtain ⟨ad, c, e, _, hK, hc0⟩ := Kd.C_get h (0, ⟨#[]⟩) (i : Int) (by omega) (by omega)
 have hc : ∀ j u, c[j]? = some u → w.cell? (ad.add (i * 2 + j)) = some u := hc0
 obtain ⟨_, _, rfl, rfl, rfl⟩ := hK
 exact ⟨ad, e, hc 0 _ rfl, by rw [← add_field _ _ 1 (by omega)]; exact hc 1 _ rfl⟩
section
variable {w0 : World} {N0 : Nat} {w w' : World} {gs gx gt gf mx : Nat} {Z U : Nat → Prop} {P : PL} {xs : List Nd} {now gv : Nat} {f : Nat → Int × Int} {su : Nat → Value} {va : Value} {rows : List (List Value)} {b : Nat}
theorem SE.mb {b' : Nat} (h : SE w0 N0 w gs gx gt gf mx Z U P xs now gv f su va rows b) (hb : b ≤ b') : SE w0 N0 w gs gx gt gf mx Z U P xs now gv f su va rows b' := { h with fz := h.fz.mono (fun _ h => h) hb }
theorem SE.mZ {Z' : Nat → Prop} (h : SE w0 N0 w gs gx gt gf mx Z U P xs now gv f su va rows b) (hz : ∀ k, Z' k → Z k) : SE w0 N0 w gs gx gt gf mx Z' U P xs now gv f su va rows b := { h with fz := h.fz.mono (fun k hk => hk.elim .inl (fun h => .inr (hz k h))) (Nat.le_refl _), nz := fun h1 => h.nz (hz _ h1) }
def OnR (w0 : World) (N0 : Nat) (w : World) (gs gx gt gf mx : Nat) (Z : Nat → Prop) (P : PL) (xs : List Nd) (now gv : Nat) (f : Nat → Int × Int) (su : Nat → Value) (va : Value) (rows : List (List Value)) (b : Nat) (wr : World) : Prop := SE w0 N0 wr gs gx gt gf mx Z (fun j => busy f (P.t : Int) j = true) P xs now gv f su va rows b ∧ Kf N0 ST (fun k => ¬ Z k) w wr
set_option maxRecDepth 100000 in
set_option maxHeartbeats 1000000 in
theorem service.on.lacks {x : Nd} {r : List Nd} (h : SE w0 N0 w gs gx gt gf mx Z (fun j => busy f (P.t : Int) j = true) P (x :: r) now gv f su va rows b) (hN : N0 ≤ w.heap.size) (hW : Below w0.heap.size w0 w) (hNW : w0.heap.size ≤ N0) (hl6 : (x :: r).length ≤ 6) (hk : NdOk 0 8 (x :: r)) (hb : b ≤ 70000) (hlr : rows.length ≤ 900) : Calls Tryz.prog 63 #[.pointer (some ⟨gs, 0, none⟩)] w fun e w' => e = .returned (.tuple #[]) ∧ (∃ va' rows', SE w0 N0 w' gs gx gt gf mx Z (fun j => busy f (P.t : Int) j = true) P (x :: r) now gv f su va' rows' (b + 64) ∧ rows'.flatMap tk = rows.flatMap tk ∧ rows'.length ≤ rows.length + 8) ∧ Kf N0 ST (fun k => ¬ Z k) w w' := by
 have H := Aside0.mk h
 have HLO0 := Aside0.mk hN
 have HWW := Aside0.mk (And.intro hW hNW)
 have HLK := Aside0.mk (And.intro hl6 hk)
 have HBB := Aside0.mk (And.intro hb hlr)
 have c9 : w.cell? ⟨gs, 9, none⟩ = some (.pointer (some ⟨gt, 0, none⟩)) := (blk_cell h.blk 9).trans rfl
 clear h hN hW hNW hl6 hk hb hlr
 go_enter Tryz.func63, Tryz.ntmps63
 go_wp2_with fail
 refine (table.Slots.calls H.out.tb (by have := H.out.pt; omega) (by have := H.out.pt; omega)).mono ?_
 rintro e w1 ⟨vy, ys, rfl, hpy, _, hry, hb1⟩
 obtain ⟨Ay, cy, rfl⟩ := Kd.R_slice hry
 have HE1 := Aside0.mk (H.out.below hb1)
 have HK1 := Aside0.mk (show Kf N0 ST (fun k => ¬ Z k) w w1 from Kf.below hb1)
 have HRY := Aside0.mk hry
 have HY := Aside0.mk (show ys.length ≤ 8 ∧ ∀ y ∈ ys, ∃ k : Nat, y = (k : Int) ∧ k < 8 ∧ busy f (P.t : Int) k = true from ⟨by
  have h1 := hpy.length_eq
  have h3 := taken_length f (P.t : Int) (P.t : Int).toNat
  have := H.out.pt
  simp at *
  omega, fun y hy => by
  obtain ⟨k, e, hk, hb⟩ := (taken_mem f _ _ y).1 (hpy.mem_iff.1 hy)
  exact ⟨k, e, by have := H.out.pt; simp at hk; omega, hb⟩⟩)
 clear hpy hry hb1 c9 H
 go_wp2
 go_loopw [17] (fun iv wr => ∃ (i b2 : Nat), iv = .int .i64 (i : Int) ∧ i ≤ ys.length ∧ b2 ≤ b + 7 * i ∧ Aside0 (SE w0 N0 wr gs gx gt gf mx Z (fun j => busy f (P.t : Int) j = true) P (x :: r) now gv f su va rows b2) ∧ Aside0 (Kf N0 ST (fun k => ¬ Z k) w wr) ∧ Aside0 ((Kd.int .i64).R 3 wr w.heap.size (fun _ => True) (.slice Ay ys.length cy) ys)) (fun iv _ => ((ys.length : Int) - intOf iv).toNat)
 case atStart => exact ⟨0, b, rfl, by omega, by omega, HE1, HK1, HRY⟩
 case round =>
  clear HE1 HK1 HRY
  obtain ⟨i, b2, rfl, hi, hb2, HEr, HKr, HRY⟩ := hrel
  have hl8 := HY.out.1
  by_cases hlt : i < ys.length
  ·have q0 : decide ((i : Int) < (ys.length : Int)) = true := decide_eq_true (by omega)
   have u0 : (0 : Int) ≤ (i : Int) := by omega
   have u1 : (i : Int) < (ys.length : Int) := by omega
   have HA9 := Aside0.mk (show wrap64 ((i : Int) + 1) = (i : Int) + 1 from wrap_id (by omega) (by omega))
   have HLT := Aside0.mk (And.intro hlt (And.intro hb2 hl8))
   obtain ⟨ad, ea, hx⟩ := Kd.at_int (Kd.R_reads' HRY.out).2.2 (i : Int) u0 u1
   subst ea
   obtain ⟨k, ek, hk8, hbk⟩ := HY.out.2 ys[i] (List.getElem_mem hlt)
   rw [show rd ys (i : Int) = (k : Int) from by rw [← ek]; unfold rd; rw [Int.toNat_natCast]; simp [List.getD_eq_getElem?_getD, hlt], Int.toNat_natCast] at hx
   obtain ⟨gu, hsu, hsS⟩ := HEr.out.us k hk8 hbk
   have v0 : (0 : Int) ≤ (k : Int) := by omega
   have v1 : (k : Int) < 8 := by omega
   have HI := Aside0.mk hk8
   have HSU := Aside0.mk hsu
   have HS0 := Aside0.mk hsS
   clear hsu hsS hbk ek hi hlt hb2
   go_wp2
   generalize hw4 : wr = w4 at HEr HKr HRY HS0 ⊢
   have HE := Aside0.mk (HEr.out.below (below_drew (Below.refl w4.heap.size w4)))
   have HK4 := Aside0.mk (HKr.out.trans (Kf.below (below_drew (Below.refl w4.heap.size w4))))
   have HS := Aside0.mk (HS0.out.kf (N0 := 0) (Ts := []) (X := fun _ => False) (Kf.below (below_drew (Below.refl w4.heap.size w4))) (by decide) (by decide))
   have HRY4 := Aside0.mk (Kd.R_below HRY.out (below_drew (Below.refl w4.heap.size w4)))
   have HLO := Aside0.mk (show N0 ≤ w4.drew.heap.size from Nat.le_trans HLO0.out HK4.out.size)
   have HKS := Aside0.mk (show Kf N0 [256] (fun _ => False) w4.drew w4.drew from Kf.refl)
   replace HWW := Aside0.mk (show Below w0.heap.size w0 w4.drew ∧ w0.heap.size ≤ N0 from ⟨HWW.out.1.trans ((HK4.out.toBelow HLO0.out).mono HWW.out.2), HWW.out.2⟩)
   have HFZ := Aside0.mk HE.out.fz
   clear HEr HKr HRY HS0 hx hw4
   refine start_ (n := 20) (S := fun w' => w'.cell? ⟨gs, 11 + k, none⟩ = some (.pointer (some ⟨gu, 0, none⟩)) ∧ w'.cell? ⟨gs, 4, none⟩ = some (.bool P.ah)) (ds := [17]) #[O,O,O,O,O,O,O,O,O,O,O,O,O,O,O,O,O,O,O,O] (by kernel_rfl) rfl rfl ⟨((HE.out.suit k HI.out).trans (congrArg some HSU.out)), ((blk_cell HE.out.blk 4).trans rfl)⟩ (fun hHeld => ?_)
   refine with_tabW ONS3.tab3 ONS3.bits3 (fun HT_ HW_ => ?_)
   refine pure_ (i := 0) (N := some 22) (v := ?_) (a' := ?_) #[Y,O,O,O,O,O,O,O,O,O,O,O,O,O,O,O,O,O,O,O] rfl rfl (any_of HT_.out (by kernel_rfl)) (fun _ _ _ h => h) (Or.inl ⟨by rfl, ?_⟩) ?_ ?_
   rotate_left
   ·intro w'
    go_simp
    with_reducible rfl
   rotate_left
   ·simp only [PN]
    rfl
   refine pure_ (i := 1) (N := some 23) (v := ?_) (a' := ?_) #[Y,Y,O,O,O,O,O,O,O,O,O,O,O,O,O,O,O,O,O,O] rfl rfl (any_of HT_.out (by kernel_rfl)) (fun _ _ _ h => h) (Or.inl ⟨by rfl, ?_⟩) ?_ ?_
   rotate_left
   ·intro w'
    go_simp
    with_reducible rfl
   rotate_left
   ·simp only [PN]
    rfl
   refine pure_ (i := 2) (N := some 24) (v := ?_) (a' := ?_) #[Y,Y,Y,O,O,O,O,O,O,O,O,O,O,O,O,O,O,O,O,O] rfl rfl (any_of HT_.out (by kernel_rfl)) (fun _ _ _ h => h) (Or.inl ⟨by rfl, ?_⟩) ?_ ?_
   rotate_left
   ·intro w'
    go_simp
    with_reducible rfl
   rotate_left
   ·simp only [PN]
    rfl
   refine pure_ (i := 3) (N := some 25) (v := ?_) (a' := ?_) #[Y,Y,Y,Y,O,O,O,O,O,O,O,O,O,O,O,O,O,O,O,O] rfl rfl (any_of HT_.out (by kernel_rfl)) (fun _ _ _ h => h) (Or.inl ⟨by rfl, ?_⟩) ?_ ?_
   rotate_left
   ·intro w'
    go_simp
    with_reducible rfl
   rotate_left
   ·simp only [PN]
    rfl
   refine pure_ (i := 4) (N := some 26) (v := ?_) (a' := ?_) #[Y,Y,Y,Y,Y,O,O,O,O,O,O,O,O,O,O,O,O,O,O,O] rfl rfl (any_of HT_.out (by kernel_rfl)) (fun _ _ _ h => h) (Or.inl ⟨by rfl, ?_⟩) ?_ ?_
   rotate_left
   ·intro w'
    go_simp
    with_reducible rfl
   rotate_left
   ·simp only [PN]
    rfl
   refine pure_ (i := 6) (N := some 28) (v := ?_) (a' := ?_) #[Y,Y,Y,Y,Y,O,Y,O,O,O,O,O,O,O,O,O,O,O,O,O] rfl rfl (any_of HT_.out (by kernel_rfl)) (fun _ _ _ h => h) (Or.inl ⟨by rfl, ?_⟩) ?_ ?_
   rotate_left
   ·intro w'
    go_simp
    with_reducible rfl
   rotate_left
   ·simp only [PN]
    rfl
   refine pure_ (i := 7) (N := some 29) (v := ?_) (a' := ?_) #[Y,Y,Y,Y,Y,O,Y,Y,O,O,O,O,O,O,O,O,O,O,O,O] rfl rfl (any_of HT_.out (by kernel_rfl)) (fun _ _ _ h => h) (Or.inl ⟨by rfl, ?_⟩) ?_ ?_
   rotate_left
   ·intro w'
    go_simp
    with_reducible rfl
   rotate_left
   ·simp only [PN]
    rfl
   refine pure_ (i := 8) (N := some 30) (v := ?_) (a' := ?_) #[Y,Y,Y,Y,Y,O,Y,Y,Y,O,O,O,O,O,O,O,O,O,O,O] rfl rfl (any_of HT_.out (by kernel_rfl)) (fun _ _ _ h => h) (Or.inl ⟨by rfl, ?_⟩) ?_ ?_
   rotate_left
   ·intro w'
    go_simp
    with_reducible rfl
   rotate_left
   ·simp only [PN]
    rfl
   refine pure_ (i := 9) (N := some 31) (v := ?_) (a' := ?_) #[Y,Y,Y,Y,Y,O,Y,Y,Y,Y,O,O,O,O,O,O,O,O,O,O] rfl rfl (any_of HT_.out (by kernel_rfl)) (fun _ _ _ h => h) (Or.inl ⟨by rfl, ?_⟩) ?_ ?_
   rotate_left
   ·intro w'
    go_simp
    with_reducible rfl
   rotate_left
   ·simp only [PN]
    rfl
   refine take_ (i := 5) (N := some 27) (v := ?_) (a' := ?_) #[Y,Y,Y,Y,Y,Y,Y,Y,Y,Y,O,O,O,O,O,O,O,O,O,O] rfl rfl (take_ofW HT_.out HW_.out (by kernel_rfl)) (fun _ _ _ h => h) (Or.inl ⟨by rfl, ?_⟩) hHeld ?_ ?_
   rotate_left
   ·rintro w' ⟨s0, s1⟩
    go_simp
    with_reducible rfl
   rotate_left
   ·simp only [PN]
    rfl
   refine take_ (i := 10) (N := some 32) (v := ?_) (a' := ?_) #[Y,Y,Y,Y,Y,Y,Y,Y,Y,Y,Y,O,O,O,O,O,O,O,O,O] rfl rfl (take_ofW HT_.out HW_.out (by kernel_rfl)) (fun _ _ _ h => h) (Or.inl ⟨by rfl, ?_⟩) hHeld ?_ ?_
   rotate_left
   ·rintro w' ⟨s0, s1⟩
    go_simp
    with_reducible rfl
   rotate_left
   ·simp only [PN]
    rfl
   refine join_ (σ := Nat × Value) 3 #[Y,Y,Y,Y,Y,Y,Y,Y,Y,Y,Y,Y,Y,Y,Y,Y,Y,O,O,O] (fun s => [(33, .tuple #[.agg #[.int .i64 0, .slice none 0 0, .slice none 0 0], .bool false, s.2]), (21, .tuple #[.agg #[.int .i64 0, .slice none 0 0, .slice none 0 0], .bool false, s.2]), (34, .agg #[.int .i64 0, .slice none 0 0, .slice none 0 0]), (35, .bool false), (36, s.2), (4, .pointer (some ⟨s.1, 0, none⟩))]) (fun s w' => w'.cell? ⟨gs, 11 + k, none⟩ = some (.pointer (some ⟨gu, 0, none⟩)) ∧ w'.cell? ⟨gs, 4, none⟩ = some (.bool P.ah) ∧ SE w0 N0 w' gs gx gt gf mx Z (fun j => busy f (P.t : Int) j = true) P (x :: r) now gv f su va rows b2 ∧ SU w0 N0 w' gu gx (x :: r) ∧ Kf N0 [256] (fun _ => False) w4.drew w' ∧ w'.heap[s.1]? = some (.cells #[.int .i64 0, .slice none 0 0, .slice none 0 0] 49 (0, 0)) ∧ N0 ≤ s.1 ∧ ∃ ns, Kd.string.R 9 w' w4.drew.heap.size (fun _ => True) s.2 ns ∧ ns.length ≤ 7 ∧ Sm ns) ?_ ?_
   rotate_left
   ·intro hCont
    refine two_ (i := 11) (j := 16) (Ni := some 33) (Nj := some 4) #[Y,Y,Y,Y,Y,Y,Y,Y,Y,Y,Y,Y,O,O,O,O,O,O,O,O] #[Y,Y,Y,Y,Y,Y,Y,Y,Y,Y,Y,O,O,O,O,O,Y,O,O,O] rfl rfl rfl rfl (two_of HT_.out (by kernel_rfl)) (by decide) (by decide) (fun K hK => ?_) (fun K hK => ?_)
    ·skip
     refine goes_ Tryz.func110 (by kernel_rfl) rfl #[.pointer (some ⟨gu, 0, none⟩), .bool P.ah] (by rfl) rfl rfl (by (try simp only [List.map_toArray, List.map_cons, List.map_nil]); first | done | rfl) ?_
     refine (suit.Step.lacks HS.out (HWW.out.1.trans ((HKS.out.toBelow HLO.out).mono HWW.out.2)) HWW.out.2 HE.out.ix HLK.out.1 HLK.out.2 P.ah).mono ?_
     rintro e w5 ⟨v5, ys5, rfl, hr5, hl5, hs5, hsu5, hg5⟩
     refine ⟨_, rfl, ?_⟩
     have hgb_ := HS.out
     replace HKS := Aside0.mk (HKS.out.trans (by obtain ⟨h0_, _, _, _, _, _, h1_, _⟩ := hgb_; exact Kf.grown hg5 h1_ (by simp) h0_))
     replace HE := Aside0.mk (HE.out.sut HS.out hsu5 hg5)
     replace HS := Aside0.mk hsu5
     have HYN := Aside0.mk (And.intro (Kd.R_lower hr5 (Nat.le_refl _)) (And.intro hl5 hs5))
     clear hr5 hl5 hs5 hsu5 hg5 hgb_
     refine hK.out _ _ ⟨((HE.out.suit k HI.out).trans (congrArg some HSU.out)), ((blk_cell HE.out.blk 4).trans rfl)⟩ (fun hHeld => ?_)
     clear hK K
     refine norm_ (a' := ?_) ?_ ?_
     rotate_left
     ·show Act.put _ (some 33) _ = _
      simp only [PN]
      rfl
     refine pure_ (i := 12) (N := some 21) (v := ?_) (a' := ?_) #[Y,Y,Y,Y,Y,Y,Y,Y,Y,Y,Y,Y,Y,O,O,O,O,O,O,O] rfl rfl (any_of HT_.out (by kernel_rfl)) (fun _ _ _ h => h) (Or.inl ⟨by rfl, ?_⟩) ?_ ?_
     rotate_left
     ·intro w'
      go_simp
      with_reducible rfl
     rotate_left
     ·simp only [PN]
      rfl
     refine pure_ (i := 13) (N := some 34) (v := ?_) (a' := ?_) #[Y,Y,Y,Y,Y,Y,Y,Y,Y,Y,Y,Y,Y,Y,O,O,O,O,O,O] rfl rfl (any_of HT_.out (by kernel_rfl)) (fun _ _ _ h => h) (Or.inl ⟨by rfl, ?_⟩) ?_ ?_
     rotate_left
     ·intro w'
      go_simp
      with_reducible rfl
     rotate_left
     ·simp only [PN]
      rfl
     refine pure_ (i := 14) (N := some 35) (v := ?_) (a' := ?_) #[Y,Y,Y,Y,Y,Y,Y,Y,Y,Y,Y,Y,Y,Y,Y,O,O,O,O,O] rfl rfl (any_of HT_.out (by kernel_rfl)) (fun _ _ _ h => h) (Or.inl ⟨by rfl, ?_⟩) ?_ ?_
     rotate_left
     ·intro w'
      go_simp
      with_reducible rfl
     rotate_left
     ·simp only [PN]
      rfl
     refine pure_ (i := 15) (N := some 36) (v := ?_) (a' := ?_) #[Y,Y,Y,Y,Y,Y,Y,Y,Y,Y,Y,Y,Y,Y,Y,Y,O,O,O,O] rfl rfl (any_of HT_.out (by kernel_rfl)) (fun _ _ _ h => h) (Or.inl ⟨by rfl, ?_⟩) ?_ ?_
     rotate_left
     ·intro w'
      go_simp
      with_reducible rfl
     rotate_left
     ·simp only [PN]
      rfl
     refine one_ (i := 16) (N := some 4) #[Y,Y,Y,Y,Y,Y,Y,Y,Y,Y,Y,Y,Y,Y,Y,Y,Y,O,O,O] rfl rfl (one_of HT_.out (by kernel_rfl)) (by decide) (fun K hK => ?_)
     have HLP := Aside0.mk (show N0 ≤ w5.heap.size from Nat.le_trans HLO.out HKS.out.size)
     have hba_ := below_alloc (Below.refl w5.heap.size w5) (.cells #[.int .i64 0, .slice none 0 0, .slice none 0 0] 49)
     replace HE := Aside0.mk (HE.out.below hba_)
     replace HS := Aside0.mk (HS.out.kf (N0 := 0) (Ts := []) (X := fun _ => False) (Kf.below hba_) (by decide) (by decide))
     replace HKS := Aside0.mk (HKS.out.trans (Kf.below hba_))
     replace HYN := Aside0.mk (And.intro (Kd.R_below HYN.out.1 hba_) HYN.out.2)
     have HP := Aside0.mk (blk_new w5 (.cells #[.int .i64 0, .slice none 0 0, .slice none 0 0] 49))
     clear hba_
     refine value_ (w1 := ?_) (v := ?_) (by rfl) rfl ?_ ?_
     rotate_left 2
     ·go_simp
      constructor
      ·rfl
      ·rfl
     refine hK.out _ _ ⟨((HE.out.suit k HI.out).trans (congrArg some HSU.out)), ((blk_cell HE.out.blk 4).trans rfl)⟩ (fun hHeld => ?_)
     clear hK K
     refine norm_ (a' := ?_) ?_ ?_
     rotate_left
     ·show Act.put _ (some 4) _ = _
      simp only [PN]
      rfl
     exact norm_ (by simp only [putAll, PN]) (hCont (w5.heap.size, v5) _ ⟨((HE.out.suit k HI.out).trans (congrArg some HSU.out)), ((blk_cell HE.out.blk 4).trans rfl), HE.out, HS.out, HKS.out, HP.out, HLP.out, ys5, HYN.out.1, HYN.out.2.1, HYN.out.2.2⟩)
    ·skip
     have HLP := Aside0.mk (show N0 ≤ w4.drew.heap.size from Nat.le_trans HLO.out HKS.out.size)
     have hba_ := below_alloc (Below.refl w4.drew.heap.size w4.drew) (.cells #[.int .i64 0, .slice none 0 0, .slice none 0 0] 49)
     replace HE := Aside0.mk (HE.out.below hba_)
     replace HS := Aside0.mk (HS.out.kf (N0 := 0) (Ts := []) (X := fun _ => False) (Kf.below hba_) (by decide) (by decide))
     replace HKS := Aside0.mk (HKS.out.trans (Kf.below hba_))
     have HP := Aside0.mk (blk_new w4.drew (.cells #[.int .i64 0, .slice none 0 0, .slice none 0 0] 49))
     clear hba_
     refine value_ (w1 := ?_) (v := ?_) (by rfl) rfl ?_ ?_
     rotate_left 2
     ·go_simp
      constructor
      ·rfl
      ·rfl
     refine hK.out _ _ ⟨((HE.out.suit k HI.out).trans (congrArg some HSU.out)), ((blk_cell HE.out.blk 4).trans rfl)⟩ (fun hHeld => ?_)
     clear hK K
     refine norm_ (a' := ?_) ?_ ?_
     rotate_left
     ·show Act.put _ (some 4) _ = _
      simp only [PN]
      rfl
     refine one_ (i := 11) (N := some 33) #[Y,Y,Y,Y,Y,Y,Y,Y,Y,Y,Y,Y,O,O,O,O,Y,O,O,O] rfl rfl (one_of HT_.out (by kernel_rfl)) (by decide) (fun K hK => ?_)
     refine goes_ Tryz.func110 (by kernel_rfl) rfl #[.pointer (some ⟨gu, 0, none⟩), .bool P.ah] (by rfl) rfl rfl (by (try simp only [List.map_toArray, List.map_cons, List.map_nil]); first | done | rfl) ?_
     refine (suit.Step.lacks HS.out (HWW.out.1.trans ((HKS.out.toBelow HLO.out).mono HWW.out.2)) HWW.out.2 HE.out.ix HLK.out.1 HLK.out.2 P.ah).mono ?_
     rintro e w5 ⟨v5, ys5, rfl, hr5, hl5, hs5, hsu5, hg5⟩
     refine ⟨_, rfl, ?_⟩
     have hgb_ := HS.out
     replace HKS := Aside0.mk (HKS.out.trans (by obtain ⟨h0_, _, _, _, _, _, h1_, _⟩ := hgb_; exact Kf.grown hg5 h1_ (by simp) h0_))
     replace HE := Aside0.mk (HE.out.sut HS.out hsu5 hg5)
     replace HS := Aside0.mk hsu5
     have HYN := Aside0.mk (And.intro (Kd.R_lower hr5 (by have := (below_alloc (Below.refl w4.drew.heap.size w4.drew) (.cells #[.int .i64 0, .slice none 0 0, .slice none 0 0] 49)).size; exact this)) (And.intro hl5 hs5))
     replace HP := Aside0.mk (blk_grown HP.out hg5 (fun e => by obtain ⟨_, _, _, _, _, _, h1_, _⟩ := hgb_; injection e with e; exact blk_ne HP.out h1_ (by decide) e))
     clear hr5 hl5 hs5 hsu5 hg5 hgb_
     refine hK.out _ _ ⟨((HE.out.suit k HI.out).trans (congrArg some HSU.out)), ((blk_cell HE.out.blk 4).trans rfl)⟩ (fun hHeld => ?_)
     clear hK K
     refine norm_ (a' := ?_) ?_ ?_
     rotate_left
     ·show Act.put _ (some 33) _ = _
      simp only [PN]
      rfl
     refine pure_ (i := 12) (N := some 21) (v := ?_) (a' := ?_) #[Y,Y,Y,Y,Y,Y,Y,Y,Y,Y,Y,Y,Y,O,O,O,Y,O,O,O] rfl rfl (any_of HT_.out (by kernel_rfl)) (fun _ _ _ h => h) (Or.inl ⟨by rfl, ?_⟩) ?_ ?_
     rotate_left
     ·intro w'
      go_simp
      with_reducible rfl
     rotate_left
     ·simp only [PN]
      rfl
     refine pure_ (i := 13) (N := some 34) (v := ?_) (a' := ?_) #[Y,Y,Y,Y,Y,Y,Y,Y,Y,Y,Y,Y,Y,Y,O,O,Y,O,O,O] rfl rfl (any_of HT_.out (by kernel_rfl)) (fun _ _ _ h => h) (Or.inl ⟨by rfl, ?_⟩) ?_ ?_
     rotate_left
     ·intro w'
      go_simp
      with_reducible rfl
     rotate_left
     ·simp only [PN]
      rfl
     refine pure_ (i := 14) (N := some 35) (v := ?_) (a' := ?_) #[Y,Y,Y,Y,Y,Y,Y,Y,Y,Y,Y,Y,Y,Y,Y,O,Y,O,O,O] rfl rfl (any_of HT_.out (by kernel_rfl)) (fun _ _ _ h => h) (Or.inl ⟨by rfl, ?_⟩) ?_ ?_
     rotate_left
     ·intro w'
      go_simp
      with_reducible rfl
     rotate_left
     ·simp only [PN]
      rfl
     refine pure_ (i := 15) (N := some 36) (v := ?_) (a' := ?_) #[Y,Y,Y,Y,Y,Y,Y,Y,Y,Y,Y,Y,Y,Y,Y,Y,Y,O,O,O] rfl rfl (any_of HT_.out (by kernel_rfl)) (fun _ _ _ h => h) (Or.inl ⟨by rfl, ?_⟩) ?_ ?_
     rotate_left
     ·intro w'
      go_simp
      with_reducible rfl
     rotate_left
     ·simp only [PN]
      rfl
     exact norm_ (by simp only [putAll, PN]) (hCont (w4.heap.size, v5) _ ⟨((HE.out.suit k HI.out).trans (congrArg some HSU.out)), ((blk_cell HE.out.blk 4).trans rfl), HE.out, HS.out, HKS.out, HP.out, HLP.out, ys5, HYN.out.1, HYN.out.2.1, HYN.out.2.2⟩)
   rintro ⟨p1, v7⟩ w7 ⟨hk0, hk1, he7, hs7, hks7, hp7, hlp7, ns, hr7, hl7, hsm7⟩
   have hHeld : w7.cell? ⟨gs, 11 + k, none⟩ = some (.pointer (some ⟨gu, 0, none⟩)) ∧ w7.cell? ⟨gs, 4, none⟩ = some (.bool P.ah) := ⟨hk0, hk1⟩
   dsimp only at hp7 hlp7 hr7
   dsimp only
   have HE7 := Aside0.mk he7
   have HKS7 := Aside0.mk hks7
   have HP7 := Aside0.mk hp7
   have HLP7 := Aside0.mk hlp7
   have HY7 := Aside0.mk (And.intro hr7 (And.intro hl7 hsm7))
   obtain ⟨An, cn, rfl⟩ := Kd.R_slice hr7
   have k0 : w7.cell? ⟨p1, 0, none⟩ = some (.int .i64 0) := (blk_cell hp7 0).trans rfl
   have k1 : w7.cell? ⟨p1, 1, none⟩ = some (.slice none 0 0) := (blk_cell hp7 1).trans rfl
   have k2 : w7.cell? ⟨p1, 2, none⟩ = some (.slice none 0 0) := (blk_cell hp7 2).trans rfl
   have f0 := blk_frozen hp7 0
   have f1 := blk_frozen hp7 1
   have f2 := blk_frozen hp7 2
   clear hk0 hk1 he7 hs7 hks7 hp7 hlp7 hr7 hl7 hsm7
   refine norm_ (a' := ?_) ?_ ?_
   rotate_left
   ·simp only [putAll, PN]
    rfl
   refine last_ (i := 17) (N := none) #[Y,Y,Y,Y,Y,Y,Y,Y,Y,Y,Y,Y,Y,Y,Y,Y,Y,Y,O,O] rfl rfl (one_of HT_.out (by kernel_rfl)) (by decide) (fun K hK => ?_)
   refine skip_ (w1 := ?_) (by rfl) rfl ?_ ?_
   rotate_left
   ·go_simp
    rfl
   refine hK.out _ _ ?_
   clear hK K
   refine pure_ (i := 18) (N := some 5) (v := ?_) (a' := ?_) #[Y,Y,Y,Y,Y,Y,Y,Y,Y,Y,Y,Y,Y,Y,Y,Y,Y,Y,Y,O] rfl rfl (any_of HT_.out (by kernel_rfl)) (fun _ _ _ h => h) (Or.inl ⟨by rfl, ?_⟩) ?_ ?_
   rotate_left
   ·intro w'
    go_simp
    with_reducible rfl
   rotate_left
   ·simp only [PN]
    rfl
   refine pure_ (i := 19) (N := some 6) (v := ?_) (a' := ?_) #[Y,Y,Y,Y,Y,Y,Y,Y,Y,Y,Y,Y,Y,Y,Y,Y,Y,Y,Y,Y] rfl rfl (any_of HT_.out (by kernel_rfl)) (fun _ _ _ h => h) (Or.inl ⟨by rfl, ?_⟩) ?_ ?_
   rotate_left
   ·intro w'
    go_simp
    with_reducible rfl
   rotate_left
   ·simp only [PN]
    rfl
   refine done_ (done_of HT_.out (by kernel_rfl)) ?_
   clear hHeld k0 k1 k2 f0 f1 f2
   have g8 := ((grown_set w7 p1 0 (.int .i64 0)).trans_row (grown_set _ p1 1 (.slice none 0 0))).trans_row (grown_set _ p1 2 (.slice none 0 0))
   have hk8 : Kf N0 [49] (fun _ => False) w7 _ := Kf.grown g8 HP7.out (by simp) HLP7.out
   have hks8 : Kf N0 [256, 49] (fun _ => False) w4.drew _ := (HKS7.out.mono (fun t ht => by simp at ht; simp [ht]) (fun _ h => h)).trans (hk8.mono (fun t ht => by simp at ht; simp [ht]) (fun _ h => h))
   have HE8 := Aside0.mk (HE7.out.kf hk8 (by decide) (fun _ h => h.elim))
   have HY8 := Aside0.mk (R_kf HY7.out.1 hk8 (by decide))
   have HKS8 := Aside0.mk hks8
   clear g8 hk8 hks8 HE7 HKS7 HP7 HLP7
   generalize ((w7.setCell ⟨p1, 0, none⟩ (.int .i64 0)).setCell ⟨p1, 1, none⟩ (.slice none 0 0)).setCell ⟨p1, 2, none⟩ (.slice none 0 0) = w8 at HE8 HY8 HKS8 ⊢
   have HK8 := Aside0.mk (HK4.out.trans (HKS8.out.toST (by decide) (fun _ h => h.elim)))
   have HRY8 := Aside0.mk (R_kf HRY4.out HKS8.out (by decide))
   have HMX := Aside0.mk HE.out.im.lt
   have HEz := Aside0.mk (show SE w0 N0 w8 gs gx gt gf mx (fun k => Z k ∨ w4.drew.heap.size ≤ k ∧ k < w8.heap.size) (fun j => busy f (P.t : Int) j = true) P (x :: r) now gv f su va rows b2 from
    { HE8.out with
     fz := (HFZ.out.grow HKS8.out (by decide) (fun _ h => h.elim)).mono (fun k hk => by
      rcases hk with h | h | h
      ·exact .inl (.inl h)
      ·exact .inl (.inr h)
      ·exact .inr h) (Nat.le_refl _)
     nz := fun h => by
      rcases h with h | h
      ·exact HE8.out.nz h
      ·have := HMX.out; omega })
   have HNM := Aside0.mk (Kd.R_mono (Kd.R_bound HY8.out) (ok' := fun k => w4.drew.heap.size ≤ k ∧ k < w8.heap.size) (fun k hk => ⟨hk.2.1, hk.2.2.1⟩))
   clear HE8 HY8 HKS8 HFZ HE HK4 HRY4 HS HKS
   generalize w4.drew.heap.size = lo at HEz HNM ⊢
   generalize w8.heap.size = hi at HEz HNM ⊢
   go_wp2
   go_loopw [44] (fun jv wr => ∃ (j b3 : Nat), jv = .int .i64 (j : Int) ∧ j ≤ ns.length ∧ b3 ≤ b2 + j ∧ Aside0 (SE w0 N0 wr gs gx gt gf mx (fun k => Z k ∨ lo ≤ k ∧ k < hi) (fun j => busy f (P.t : Int) j = true) P (x :: r) now gv f su va rows b3) ∧ Aside0 (Kf N0 ST (fun k => ¬ Z k) w wr) ∧ Aside0 (Kd.string.R 9 wr lo (fun k => lo ≤ k ∧ k < hi) (.slice An ns.length cn) ns) ∧ Aside0 ((Kd.int .i64).R 3 wr w.heap.size (fun _ => True) (.slice (some ad) ys.length cy) ys)) (fun jv _ => ((ns.length : Int) - intOf jv).toNat)
   case atStart => exact ⟨0, b2, rfl, by omega, by omega, HEz, HK8, HNM, HRY8⟩
   case round =>
    clear HEz HK8 HNM HRY8
    obtain ⟨j, b3, rfl, hj, hb3, HEw, HKw, HNM, HRYw⟩ := hrel
    have hn7 := HY7.out.2.1
    by_cases hjl : j < ns.length
    ·have q1 : decide ((j : Int) < (ns.length : Int)) = true := decide_eq_true (by omega)
     have u2 : (0 : Int) ≤ (j : Int) := by omega
     have u3 : (j : Int) < (ns.length : Int) := by omega
     have b9 : wrap64 ((j : Int) + 1) = (j : Int) + 1 := wrap_id (by omega) (by omega)
     obtain ⟨an, en, hx⟩ := Kd.at_string (Kd.R_reads' HNM.out).2.2 (j : Int) u2 u3
     subst en
     rw [strAt ns j hjl, Int.toNat_natCast] at hx
     have HM := Aside0.mk (HY7.out.2.2 _ (List.getElem_mem hjl))
     generalize ns[j] = y at hx HM
     have c10 : wr.cell? ⟨gs, 10, none⟩ = some (.pointer (some ⟨gf, 0, none⟩)) := (blk_cell HEw.out.blk 10).trans rfl
     have HJ := Aside0.mk (And.intro hjl hb3)
     clear hj hb3
     go_wp2_with fail
     refine (Want.zz HEw.out.fz (by have := HJ.out; have := HLT.out; have := HBB.out; omega) k (by have := HI.out; omega) y HM.out).mono ?_
     rintro e w9 ⟨⟨t9, rfl⟩, hf9, hk9, hz9⟩
     have HE9 := Aside0.mk (HEw.out.fch hf9 hk9)
     have HK9 := Aside0.mk (HKw.out.trans (hk9.mono (fun t ht => by simp only [FT, ST, List.mem_cons, List.not_mem_nil, or_false] at ht ⊢; omega) (fun k hk hz => hk (.inr (.inl hz)))))
     have HNM9 := Aside0.mk (Kd.R_step HNM.out (fun k hk _ => hz9 k (.inr (.inr hk))))
     have HRY9 := Aside0.mk (R_kf HRYw.out hk9 (by decide))
     clear hf9 hk9 hz9 HEw HKw HNM HRYw hx c10
     have hjl := HJ.out.1
     go_wp2
     go_roundw
     case rel => exact ⟨j + 1, b3 + 1, by go_num, hjl, by have := HJ.out.2; omega, HE9, HK9, HNM9, HRY9⟩
     case measure => first | (rw [b9]; exact meas _ _ hjl) | exact meas _ _ hjl
    ·have q1 : decide ((j : Int) < (ns.length : Int)) = false := decide_eq_false (by omega)
     have HEo := Aside0.mk (HEw.out.mZ (Z' := Z) (fun k h => .inl h))
     have HB3 := Aside0.mk (show b3 ≤ b + 7 * (i + 1) by have := HLT.out; omega)
     have a9 := HA9.out
     have hlt := HLT.out.1
     clear HEw hb3
     go_wp2
     go_roundw
     case rel => exact ⟨i + 1, b3, by go_num, hlt, HB3.out, HEo, HKw, HRYw⟩
     case measure => first | (rw [a9]; exact meas _ _ hlt) | exact meas _ _ hlt
  ·have q0 : decide ((i : Int) < (ys.length : Int)) = false := decide_eq_false (by omega)
   have HE := Aside0.mk (HEr.out.mb (b' := b + 56) (by omega))
   have c10 : wr.cell? ⟨gs, 10, none⟩ = some (.pointer (some ⟨gf, 0, none⟩)) := (blk_cell HEr.out.blk 10).trans rfl
   clear HEr HRY hb2 hi
   go_wp2_with fail
   refine (Issues.z HE.out.fz (by have := HBB.out; omega)).mono ?_
   rintro e w2 ⟨Ai, ci, is, rfl, hli, hri, hf2, hk2⟩
   have HE2 := Aside0.mk (HE.out.fch hf2 hk2)
   have HK2 := Aside0.mk (HKr.out.trans (hk2.mono (fun t ht => by simp only [FT, ST, List.mem_cons, List.not_mem_nil, or_false] at ht ⊢; omega) (fun k hk hz => hk (.inr hz))))
   have HRI := Aside0.mk hri
   have HLI := Aside0.mk hli
   clear hf2 hk2 hri hli HE HKr c10
   generalize wr.heap.size = lo at HRI ⊢
   go_wp2
   go_loopw [63] (fun jv wr => ∃ (j : Nat) (va2 : Value) (rows2 : List (List Value)), jv = .int .i64 (j : Int) ∧ j ≤ is.length ∧ Aside0 (rows2.flatMap tk = rows.flatMap tk ∧ rows2.length = rows.length + j) ∧ Aside0 (SE w0 N0 wr gs gx gt gf mx Z (fun j => busy f (P.t : Int) j = true) P (x :: r) now gv f su va2 rows2 (b + 64)) ∧ Aside0 (Kf N0 ST (fun k => ¬ Z k) w wr) ∧ Aside0 (kIss.R 206 wr lo (fun _ => True) (.slice Ai is.length ci) is)) (fun jv _ => ((is.length : Int) - intOf jv).toNat)
   case atStart => exact ⟨0, va, rows, rfl, by omega, ⟨rfl, by omega⟩, HE2, HK2, HRI⟩
   case round =>
    clear HE2 HK2 HRI
    obtain ⟨j, va2, rows2, rfl, hj, HF, HE0, HK0, HRI⟩ := hrel
    have hl8 := HLI.out
    by_cases hjl : j < is.length
    ·have q1 : decide ((j : Int) < (is.length : Int)) = true := decide_eq_true (by omega)
     have u2 : (0 : Int) ≤ (j : Int) := by omega
     have u3 : (j : Int) < (is.length : Int) := by omega
     have HA9 := Aside0.mk (show wrap64 ((j : Int) + 1) = (j : Int) + 1 from wrap_id (by omega) (by omega))
     obtain ⟨ai, ei, x0, x1⟩ := at_Iss (Kd.R_reads' HRI.out).2.2 j hjl
     subst ei
     generalize is.getD j (0, ⟨#[]⟩) = z at x0 x1
     obtain ⟨Av, cv, rfl⟩ := Kd.R_slice HE0.out.ra
     have hba := below_alloc (Below.refl wr.heap.size wr) (.cells #[.int .i64 z.1, .string z.2] 206)
     have HGB0 := Aside0.mk (blk_new wr (.cells #[.int .i64 z.1, .string z.2] 206))
     have HE4 := Aside0.mk (HE0.out.below hba)
     have HK4 := Aside0.mk (HK0.out.trans (Kf.below hba))
     have HRI4 := Aside0.mk (Kd.R_below HRI.out hba)
     have HLN := Aside0.mk (show rows2.length ≤ 1000 by have := HF.out.2; have := HBB.out.2; omega)
     have HJ := Aside0.mk hjl
     clear hba HE0 HK0 HRI hj
     go_wp2
     generalize wr.alloc (.cells #[.int .i64 z.1, .string z.2] 206) = w4 at HGB0 HE4 HK4 HRI4 ⊢
     generalize wr.heap.size = gb at HGB0 ⊢
     have HGB := Aside0.mk (show w4.drew.heap[gb]? = _ from HGB0.out)
     have HE := Aside0.mk (HE4.out.below (below_drew (Below.refl w4.heap.size w4)))
     have HK := Aside0.mk (HK4.out.trans (Kf.below (below_drew (Below.refl w4.heap.size w4))))
     have HRI5 := Aside0.mk (Kd.R_below HRI4.out (below_drew (Below.refl w4.heap.size w4)))
     have HW := Aside0.mk (show N0 ≤ w4.drew.heap.size from Nat.le_trans HLO0.out HK.out.size)
     clear HGB0 HE4 HK4 HRI4 x0 x1
     refine start_ (n := 15) (S := fun w' => w'.cell? ⟨gs, 19, none⟩ = some (.slice Av rows2.length cv) ∧ w'.cell? ⟨gb, 0, none⟩ = some (.int .i64 z.1) ∧ w'.cell? ⟨gb, 1, none⟩ = some (.string z.2)) (ds := [11, 14]) #[O,O,O,O,O,O,O,O,O,O,O,O,O,O,O] (by kernel_rfl) rfl rfl ⟨((blk_cell HE.out.blk 19).trans rfl), ((blk_cell HGB.out 0).trans rfl), ((blk_cell HGB.out 1).trans rfl)⟩ (fun hHeld => ?_)
     refine with_tabW ONS15.tab15 ONS15.bits15 (fun HT_ HW_ => ?_)
     refine pure_ (i := 0) (N := some 67) (v := ?_) (a' := ?_) #[Y,O,O,O,O,O,O,O,O,O,O,O,O,O,O] rfl rfl (any_of HT_.out (by kernel_rfl)) (fun _ _ _ h => h) (Or.inl ⟨by rfl, ?_⟩) ?_ ?_
     rotate_left
     ·intro w'
      go_simp
      with_reducible rfl
     rotate_left
     ·simp only [PN]
      rfl
     refine pure_ (i := 1) (N := some 68) (v := ?_) (a' := ?_) #[Y,Y,O,O,O,O,O,O,O,O,O,O,O,O,O] rfl rfl (any_of HT_.out (by kernel_rfl)) (fun _ _ _ h => h) (Or.inl ⟨by rfl, ?_⟩) ?_ ?_
     rotate_left
     ·intro w'
      go_simp
      with_reducible rfl
     rotate_left
     ·simp only [PN]
      rfl
     refine pure_ (i := 2) (N := some 69) (v := ?_) (a' := ?_) #[Y,Y,Y,O,O,O,O,O,O,O,O,O,O,O,O] rfl rfl (any_of HT_.out (by kernel_rfl)) (fun _ _ _ h => h) (Or.inl ⟨by rfl, ?_⟩) ?_ ?_
     rotate_left
     ·intro w'
      go_simp
      with_reducible rfl
     rotate_left
     ·simp only [PN]
      rfl
     refine pure_ (i := 3) (N := some 70) (v := ?_) (a' := ?_) #[Y,Y,Y,Y,O,O,O,O,O,O,O,O,O,O,O] rfl rfl (any_of HT_.out (by kernel_rfl)) (fun _ _ _ h => h) (Or.inl ⟨by rfl, ?_⟩) ?_ ?_
     rotate_left
     ·intro w'
      go_simp
      with_reducible rfl
     rotate_left
     ·simp only [PN]
      rfl
     refine pure_ (i := 5) (N := some 72) (v := ?_) (a' := ?_) #[Y,Y,Y,Y,O,Y,O,O,O,O,O,O,O,O,O] rfl rfl (any_of HT_.out (by kernel_rfl)) (fun _ _ _ h => h) (Or.inl ⟨by rfl, ?_⟩) ?_ ?_
     rotate_left
     ·intro w'
      go_simp
      with_reducible rfl
     rotate_left
     ·simp only [PN]
      rfl
     refine pure_ (i := 7) (N := some 74) (v := ?_) (a' := ?_) #[Y,Y,Y,Y,O,Y,O,Y,O,O,O,O,O,O,O] rfl rfl (any_of HT_.out (by kernel_rfl)) (fun _ _ _ h => h) (Or.inl ⟨by rfl, ?_⟩) ?_ ?_
     rotate_left
     ·intro w'
      go_simp
      with_reducible rfl
     rotate_left
     ·simp only [PN]
      rfl
     refine take_ (i := 4) (N := some 71) (v := ?_) (a' := ?_) #[Y,Y,Y,Y,Y,Y,O,Y,O,O,O,O,O,O,O] rfl rfl (take_ofW HT_.out HW_.out (by kernel_rfl)) (fun _ _ _ h => h) (Or.inl ⟨by rfl, ?_⟩) hHeld ?_ ?_
     rotate_left
     ·rintro w' ⟨s0, s1, s2⟩
      go_simp
      with_reducible rfl
     rotate_left
     ·simp only [PN]
      rfl
     refine take_ (i := 6) (N := some 73) (v := ?_) (a' := ?_) #[Y,Y,Y,Y,Y,Y,Y,Y,O,O,O,O,O,O,O] rfl rfl (take_ofW HT_.out HW_.out (by kernel_rfl)) (fun _ _ _ h => h) (Or.inl ⟨by rfl, ?_⟩) hHeld ?_ ?_
     rotate_left
     ·rintro w' ⟨s0, s1, s2⟩
      go_simp
      with_reducible rfl
     rotate_left
     ·simp only [PN]
      rfl
     refine take_ (i := 8) (N := some 75) (v := ?_) (a' := ?_) #[Y,Y,Y,Y,Y,Y,Y,Y,Y,O,O,O,O,O,O] rfl rfl (take_ofW HT_.out HW_.out (by kernel_rfl)) (fun _ _ _ h => h) (Or.inl ⟨by rfl, ?_⟩) hHeld ?_ ?_
     rotate_left
     ·rintro w' ⟨s0, s1, s2⟩
      go_simp
      with_reducible rfl
     rotate_left
     ·simp only [PN]
      rfl
     refine pure_ (i := 9) (N := some 76) (v := ?_) (a' := ?_) #[Y,Y,Y,Y,Y,Y,Y,Y,Y,Y,O,O,O,O,O] rfl rfl (any_of HT_.out (by kernel_rfl)) (fun _ _ _ h => h) (Or.inl ⟨by rfl, ?_⟩) ?_ ?_
     rotate_left
     ·intro w'
      go_simp
      with_reducible rfl
     rotate_left
     ·simp only [PN]
      rfl
     refine one_ (i := 10) (N := some 77) #[Y,Y,Y,Y,Y,Y,Y,Y,Y,Y,Y,O,O,O,O] rfl rfl (one_of HT_.out (by kernel_rfl)) (by decide) (fun K hK => ?_)
     have hba_ := below_alloc (Below.refl w4.drew.heap.size w4.drew) (.cells #[.int .i64 1, .int .i64 z.1, .string z.2, .int .i64 0, .int .i64 0, .slice none 0 0, .slice none 0 0] 131)
     have HE6 := Aside0.mk (HE.out.below hba_)
     have HGB6 := Aside0.mk (blk_below HGB.out hba_)
     clear hba_
     refine value_ (w1 := ?_) (v := ?_) (by rfl) rfl ?_ ?_
     rotate_left 2
     ·go_simp
      constructor
      ·rfl
      ·rfl
     refine hK.out _ _ ⟨((blk_cell HE6.out.blk 19).trans rfl), ((blk_cell HGB6.out 0).trans rfl), ((blk_cell HGB6.out 1).trans rfl)⟩ (fun hHeld => ?_)
     clear hK K
     refine norm_ (a' := ?_) ?_ ?_
     rotate_left
     ·show Act.put _ (some 77) _ = _
      simp only [PN]
      rfl
     refine last_ (i := 11) (N := some 78) #[Y,Y,Y,Y,Y,Y,Y,Y,Y,Y,Y,Y,O,O,O] rfl rfl (one_of HT_.out (by kernel_rfl)) (by decide) (fun K hK => ?_)
     refine Kd.R_append_step (Kd.raw 7) (w0 := w4.drew) (N0) (by rfl) (.tmp 71) (.tmp 77) 77 131 (.agg #[.int .i64 0, .int .i64 0, .string ⟨#[]⟩, .int .i64 0, .int .i64 0, .slice none 0 0, .slice none 0 0]) 96 rfl Tryz.underlying77 infoAct rfl (by decide) (by omega) (.slice Av rows2.length cv) (rows2) ([.int .i64 1, .int .i64 z.1, .string z.2, .int .i64 0, .int .i64 0, .slice none 0 0, .slice none 0 0]) [.int .i64 1, .int .i64 z.1, .string z.2, .int .i64 0, .int .i64 0, .slice none 0 0, .slice none 0 0] (fun _ => True) (fun _ => False) rfl rfl ⟨rfl, rfl, by intro u hu; simp only [List.mem_cons, List.not_mem_nil, or_false] at hu; rcases hu with rfl | rfl | rfl | rfl | rfl | rfl | rfl <;> rfl⟩ (fun _ hk => hk.elim) (fun _ _ => trivial) HE.out.ra (Below.refl N0 w4.drew) HW.out (by have := HLN.out; omega) ?_
     intro v9 w9 hr9 hb9 hg9 hat9
     obtain ⟨A9, c9, rfl⟩ := Kd.R_slice hr9
     have HR9 := Aside0.mk hr9
     have HG9 := Aside0.mk hg9
     have hb9c := blk_grown HE.out.blk hg9 (Kd.R_ne HE.out.ra HE.out.blk (by decide))
     have f19 := blk_frozen hb9c 19
     have k19 : w9.cell? ⟨gs, 19, none⟩ = some (.slice Av rows2.length cv) := (blk_cell hb9c 19).trans rfl
     clear hr9 hb9 hg9 hat9 hb9c
     refine hK.out _ _ ?_
     clear hK K
     refine norm_ (a' := ?_) ?_ ?_
     rotate_left
     ·show Act.put _ (some 78) _ = _
      simp only [PN]
      rfl
     refine pure_ (i := 12) (N := some 79) (v := ?_) (a' := ?_) #[Y,Y,Y,Y,Y,Y,Y,Y,Y,Y,Y,Y,Y,O,O] rfl rfl (any_of HT_.out (by kernel_rfl)) (fun _ _ _ h => h) (Or.inl ⟨by rfl, ?_⟩) ?_ ?_
     rotate_left
     ·intro w'
      go_simp
      with_reducible rfl
     rotate_left
     ·simp only [PN]
      rfl
     refine pure_ (i := 13) (N := some 80) (v := ?_) (a' := ?_) #[Y,Y,Y,Y,Y,Y,Y,Y,Y,Y,Y,Y,Y,Y,O] rfl rfl (any_of HT_.out (by kernel_rfl)) (fun _ _ _ h => h) (Or.inl ⟨by rfl, ?_⟩) ?_ ?_
     rotate_left
     ·intro w'
      go_simp
      with_reducible rfl
     rotate_left
     ·simp only [PN]
      rfl
     refine last_ (i := 14) (N := none) #[Y,Y,Y,Y,Y,Y,Y,Y,Y,Y,Y,Y,Y,Y,Y] rfl rfl (one_of HT_.out (by kernel_rfl)) (by decide) (fun K hK => ?_)
     refine skip_ (w1 := ?_) (by rfl) rfl ?_ ?_
     rotate_left
     ·go_simp
      rfl
     refine hK.out _ _ ?_
     clear hK K
     refine done_ (done_of HT_.out (by kernel_rfl)) ?_
     clear hHeld f19 k19
     have hrl : (rows2 ++ [[Value.int .i64 1, .int .i64 z.1, .string z.2, .int .i64 0, .int .i64 0, .slice none 0 0, .slice none 0 0]]).length = rows2.length + 1 := by simp
     rw [hrl] at HR9
     have HEF := Aside0.mk (HE.out.act HR9.out HG9.out (fun r hr => by
      rcases List.mem_append.1 hr with h | h
      ·exact HE.out.ok r h
      ·rw [List.mem_singleton.1 h]
       exact .inr ⟨z.1, z.2, rfl⟩))
     have HKA := Aside0.mk (fun v => HE.out.actKf (va' := v) HG9.out)
     have HF2 := Aside0.mk (show (rows2 ++ [[Value.int .i64 1, .int .i64 z.1, .string z.2, .int .i64 0, .int .i64 0, .slice none 0 0, .slice none 0 0]]).flatMap tk = rows.flatMap tk ∧ (rows2 ++ [[Value.int .i64 1, .int .i64 z.1, .string z.2, .int .i64 0, .int .i64 0, .slice none 0 0, .slice none 0 0]]).length = rows.length + (j + 1) from ⟨by rw [List.flatMap_append, HF.out.1]; simp [tk], by rw [hrl, HF.out.2]; omega⟩)
     have a9 := HA9.out
     have hjl := HJ.out
     clear hrl
     go_wp2
     go_roundw
     case rel => exact ⟨j + 1, _, _, by go_num, hjl, HF2, HEF, ⟨HK.out.trans (HKA.out _)⟩, ⟨R_kf HRI5.out (HKA.out _) (by decide)⟩⟩
     case measure => first | (rw [a9]; exact meas _ _ hjl) | exact meas _ _ hjl
    ·have q1 : decide ((j : Int) < (is.length : Int)) = false := decide_eq_false (by omega)
     have HFF := Aside0.mk (show rows2.length ≤ rows.length + 8 by have := HF.out.2; omega)
     go_wp2
     go_end0
     exact ⟨rfl, ⟨va2, rows2, HE0.out, HF.out.1, HFF.out⟩, HK0.out⟩
end
end Go.Proofs.YtceffpgcbihckaaGreat.Top
