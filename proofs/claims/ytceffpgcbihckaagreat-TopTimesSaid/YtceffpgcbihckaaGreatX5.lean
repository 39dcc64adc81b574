/- The walk of TopTimes, part 5. No condition but what each theorem names. -/
import Derived.Test.YtceffpgcbihckaaGreatX4
set_option linter.unusedVariables false
set_option linter.unusedSimpArgs false
namespace Go.Proofs.YtceffpgcbihckaaGreat.Top
open Go.RowKit Go.Proofs.YtceffpgcbihckaaGreatW.PrintWords Go.Proofs.YtceffpgcbihckaaGreatW.PrintLast Go.Proofs.YtceffpgcbihckaaGreatW.PrintMore Go.Proofs.YtceffpgcbihckaaGreat.Base
section
variable {w0 : World} {N0 : Nat} {w w' : World} {gs gx gt gf mx : Nat} {Z U : Nat → Prop} {P : PL} {xs : List Nd} {now gv : Nat} {f : Nat → Int × Int} {su : Nat → Value} {va : Value} {rows : List (List Value)} {b : Nat}
theorem SE.kfU {Ts : List Nat} (h : SE w0 N0 w gs gx gt gf mx Z U P xs now gv f su va rows b) (hk : Kf N0 Ts (fun _ => False) w w') (hu : ∀ i, i < 8 → ¬ U i) (ht : ∀ t ∈ [108, 162, 131, 173, 229, 235, 232, 324, 9, 157], t ∉ Ts) : SE w0 N0 w' gs gx gt gf mx Z U P xs now gv f su va rows b :=
 { h with
  blk := hk.blk h.blk (ht _ (by simp))
  ib := hk.blk h.ib (ht _ (by simp))
  im := h.im.kf hk (fun e => e)
  tb := hk.blk h.tb (ht _ (by simp))
  fz := h.fz.kf hk (fun t h1 => ht t (by simp only [FT, List.mem_cons, List.not_mem_nil, or_false] at h1 ⊢; omega)) (fun k hk => hk.elim)
  us := fun i hi h1 => absurd h1 (hu i hi)
  ra := R_kf h.ra hk (fun q hq => by
   rcases List.mem_cons.1 hq with rfl | hq
   ·exact ht _ (by simp)
   ·cases hq) }
def ONN15.T15 : Bool × List (List Nat × List Nat) := (true, [([], []), ([], []), ([1], [1]), ([2], [2]), ([3], [3]), ([], []), ([5], [5]), ([], []), ([7], [7]), ([6, 8], [6, 8]), ([9], [9]), ([4, 10], [4, 10]), ([0, 0, 1, 2, 3, 4, 5, 6, 7, 8, 9, 10, 11], [0]), ([12, 0, 1, 2, 3, 4, 5, 6, 7, 8, 9, 10, 11], [12]), ([13, 11, 11, 0, 1, 2, 3, 4, 5, 6, 7, 8, 9, 10, 11], [11, 13])])
def ONN15.B15 : List Nat := [0, 0, 2, 6, 14, 0, 32, 0, 128, 480, 992, 2046, 4095, 8191, 16383]
theorem ONN15.tab15 : rtab .any (opsOf Tryz.f63 15) = ONN15.T15 := by kernel_rfl
theorem ONN15.bits15 : waitsOk ONN15.T15.2 ONN15.B15 = true := by kernel_rfl
def ONN3.T3 : Bool × List (List Nat × List Nat) := (true, [([], []), ([], []), ([0], [0]), ([2], [2]), ([3, 1], [1, 3]), ([4], [4]), ([], []), ([6], [6]), ([7], [7]), ([8], [8]), ([9], [9]), ([5, 10], [5, 10]), ([11], [11]), ([12], [12]), ([12], [12]), ([12], [12]), ([], []), ([16, 13, 11, 0, 1, 2, 3, 4, 5, 6, 7, 8, 9, 10, 11, 12, 13, 16], [13, 16]), ([14, 17, 0, 1, 2, 3, 4, 5, 6, 7, 8, 9, 10, 11, 12, 13, 14, 16, 17], [14]), ([15, 18, 0, 1, 2, 3, 4, 5, 6, 7, 8, 9, 10, 11, 12, 13, 14, 15, 16, 17, 18], [15])])
def ONN3.B3 : List Nat := [0, 0, 1, 5, 15, 31, 0, 64, 192, 448, 960, 2047, 4095, 8191, 8191, 8191, 0, 81919, 229375, 524287]
theorem ONN3.tab3 : rtab .any (opsOf Tryz.f63 3) = ONN3.T3 := by kernel_rfl
theorem ONN3.bits3 : waitsOk ONN3.T3.2 ONN3.B3 = true := by kernel_rfl
set_option maxRecDepth 100000 in
set_option maxHeartbeats 1000000 in
theorem service.on.nil (h : SE w0 N0 w gs gx gt gf mx Z (fun j => busy f (P.t : Int) j = true) P [] now gv f su va rows b) (hN : N0 ≤ w.heap.size) (ht1 : (taken f (P.t : Int) P.t).length ≤ 1) (hb : b ≤ 70000) (hlr : rows.length ≤ 900) (hgv : gv ≤ 1000000) : Calls Tryz.prog 63 #[.pointer (some ⟨gs, 0, none⟩)] w fun e w' => e = .returned (.tuple #[]) ∧ (∃ f' su' va' rows', SE w0 N0 w' gs gx gt gf mx Z (fun j => busy f' (P.t : Int) j = true) P [] now gv f' su' va' rows' (b + 8) ∧ (∀ k, k < 8 → busy f' (P.t : Int) k = false) ∧ rows'.flatMap tk = rows.flatMap tk ++ List.replicate (taken f (P.t : Int) P.t).length 1 ∧ rows'.length ≤ rows.length + 9) ∧ Kf N0 ST (fun k => ¬ Z k) w w' := by
 have H := Aside0.mk h
 have HLO0 := Aside0.mk hN
 have HBB := Aside0.mk (And.intro hb (And.intro hlr hgv))
 have HT1 := Aside0.mk ht1
 have c9 : w.cell? ⟨gs, 9, none⟩ = some (.pointer (some ⟨gt, 0, none⟩)) := (blk_cell h.blk 9).trans rfl
 clear h hN hb hlr ht1 hgv
 go_enter Tryz.func63, Tryz.ntmps63
 go_wp2_with fail
 refine (table.Slots.calls H.out.tb (by have := H.out.pt; omega) (by have := H.out.pt; omega)).mono ?_
 rintro e w1 ⟨vy, ys, rfl, hpy, _, hry, hb1⟩
 obtain ⟨Ay, cy, rfl⟩ := Kd.R_slice hry
 have HE1 := Aside0.mk (H.out.below hb1)
 have HK1 := Aside0.mk (show Kf N0 ST (fun k => ¬ Z k) w w1 from Kf.below hb1)
 have HRY := Aside0.mk hry
 have HPY := Aside0.mk (show ys.Perm (taken f (P.t : Int) P.t) from by simpa using hpy)
 have HY := Aside0.mk (show ys.length = (taken f (P.t : Int) P.t).length ∧ ys.length ≤ 1 ∧ (∀ y ∈ ys, ∃ k : Nat, y = (k : Int) ∧ k < 8 ∧ busy f (P.t : Int) k = true) ∧ ∀ k : Nat, k < 8 → busy f (P.t : Int) k = true → (k : Int) ∈ ys from ⟨HPY.out.length_eq, by rw [HPY.out.length_eq]; exact HT1.out, fun y hy => by
  obtain ⟨k, e, hk, hb⟩ := (taken_mem f _ _ y).1 (HPY.out.mem_iff.1 hy)
  exact ⟨k, e, by have := H.out.pt; omega, hb⟩, fun k hk hb => HPY.out.mem_iff.2 ((taken_mem f _ _ _).2 ⟨k, rfl, by unfold busy at hb; simp at hb; omega, hb⟩)⟩)
 clear hpy hry hb1 c9 H HPY
 go_wp2
 go_loopw [17] (fun iv wr => ∃ (i : Nat) (f2 : Nat → Int × Int) (su2 : Nat → Value) (va3 : Value) (rows3 : List (List Value)), iv = .int .i64 (i : Int) ∧ i ≤ ys.length ∧ Aside0 (SE w0 N0 wr gs gx gt gf mx Z (fun j => busy f2 (P.t : Int) j = true) P [] now gv f2 su2 va3 rows3 b) ∧ Aside0 (Kf N0 ST (fun k => ¬ Z k) w wr) ∧ Aside0 ((i = 0 → f2 = f ∧ su2 = su ∧ va3 = va ∧ rows3 = rows) ∧ (i = 1 → (∀ k, k < 8 → busy f2 (P.t : Int) k = false) ∧ rows3.flatMap tk = rows.flatMap tk ++ [1] ∧ rows3.length ≤ rows.length + 1)) ∧ Aside0 ((Kd.int .i64).R 3 wr w.heap.size (fun _ => True) (.slice Ay ys.length cy) ys)) (fun iv _ => ((ys.length : Int) - intOf iv).toNat)
 case atStart => exact ⟨0, f, su, va, rows, rfl, by omega, HE1, HK1, ⟨fun _ => ⟨rfl, rfl, rfl, rfl⟩, fun h => absurd h (by decide)⟩, HRY⟩
 case round =>
  clear HE1 HK1 HRY
  obtain ⟨i, f2, su2, va3, rows3, rfl, hi, HEr, HKr, HF3, HRY⟩ := hrel
  have hl8 := HY.out.2.1
  by_cases hlt : i < ys.length
  ·have q0 : decide ((i : Int) < (ys.length : Int)) = true := decide_eq_true (by omega)
   have hi0 : i = 0 := by omega
   obtain ⟨e1, e2, e3, e4⟩ := HF3.out.1 hi0
   subst e1
   subst e2
   subst e3
   subst e4
   have u0 : (0 : Int) ≤ (i : Int) := by omega
   have u1 : (i : Int) < (ys.length : Int) := by omega
   have HA9 := Aside0.mk (show wrap64 ((i : Int) + 1) = (i : Int) + 1 from wrap_id (by omega) (by omega))
   have HLT := Aside0.mk (And.intro hlt (And.intro hi0 hl8))
   obtain ⟨ad, ea, hx⟩ := Kd.at_int (Kd.R_reads' HRY.out).2.2 (i : Int) u0 u1
   subst ea
   obtain ⟨k, ek, hk8, hbk⟩ := HY.out.2.2.1 ys[i] (List.getElem_mem hlt)
   have HKY := Aside0.mk (show ∀ j : Nat, j < 8 → busy f2 (P.t : Int) j = true → j = k from fun j hj hbj => by
    have h1 := HY.out.2.2.2 j hj hbj
    obtain ⟨n, hn, e⟩ := List.getElem_of_mem h1
    have : n = i := by omega
    subst this
    rw [ek] at e
    omega)
   rw [show rd ys (i : Int) = (k : Int) from by rw [← ek]; unfold rd; rw [Int.toNat_natCast]; simp [List.getD_eq_getElem?_getD, hlt], Int.toNat_natCast] at hx
   obtain ⟨gu, hsu, hsS⟩ := HEr.out.us k hk8 hbk
   have v0 : (0 : Int) ≤ (k : Int) := by omega
   have v1 : (k : Int) < 8 := by omega
   have HI := Aside0.mk hk8
   have HBK := Aside0.mk hbk
   have HSU := Aside0.mk hsu
   have HS0 := Aside0.mk hsS
   clear hsu hsS hbk ek hi hlt HF3 hi0
   go_wp2
   generalize hw4 : wr = w4 at HEr HKr HRY HS0 ⊢
   have HE := Aside0.mk (HEr.out.below (below_drew (Below.refl w4.heap.size w4)))
   have HK4 := Aside0.mk (HKr.out.trans (Kf.below (below_drew (Below.refl w4.heap.size w4))))
   have HS := Aside0.mk (HS0.out.kf (N0 := 0) (Ts := []) (X := fun _ => False) (Kf.below (below_drew (Below.refl w4.heap.size w4))) (by decide) (by decide))
   have HRY4 := Aside0.mk (Kd.R_below HRY.out (below_drew (Below.refl w4.heap.size w4)))
   have HLO := Aside0.mk (show N0 ≤ w4.drew.heap.size from Nat.le_trans HLO0.out HK4.out.size)
   have HKS := Aside0.mk (show Kf N0 [256, 306] (fun _ => False) w4.drew w4.drew from Kf.refl)
   clear HEr HKr HRY HS0 hx hw4
   refine start_ (n := 20) (S := fun w' => w'.cell? ⟨gs, 11 + k, none⟩ = some (.pointer (some ⟨gu, 0, none⟩)) ∧ w'.cell? ⟨gs, 4, none⟩ = some (.bool P.ah)) (ds := [17]) #[O,O,O,O,O,O,O,O,O,O,O,O,O,O,O,O,O,O,O,O] (by kernel_rfl) rfl rfl ⟨((HE.out.suit k HI.out).trans (congrArg some HSU.out)), ((blk_cell HE.out.blk 4).trans rfl)⟩ (fun hHeld => ?_)
   refine with_tabW ONN3.tab3 ONN3.bits3 (fun HT_ HW_ => ?_)
   refine pure_ (i := 0) (N := some 22) (v := ?_) (a' := ?_) #[Y,O,O,O,O,O,O,O,O,O,O,O,O,O,O,O,O,O,O,O] rfl rfl (any_of HT_.out (by kernel_rfl)) (fun _ _ _ h => h) (Or.inl ⟨by rfl, ?_⟩) ?_ ?_
   rotate_left
   ·intro w'
    go_simp
    with_reducible rfl
   rotate_left
   ·simp only [PN]
    rfl
   refine pure_ (i := 1) (N := some 23) (v := ?_) (a' := ?_) #[Y,Y,O,O,O,O,O,O,O,O,O,O,O,O,O,O,O,O,O,O] rfl rfl (any_of HT_.out (by kernel_rfl)) (fun _ _ _ h => h) (Or.inl ⟨by rfl, ?_⟩) ?_ ?_
   rotate_left
   ·intro w'
    go_simp
    with_reducible rfl
   rotate_left
   ·simp only [PN]
    rfl
   refine pure_ (i := 2) (N := some 24) (v := ?_) (a' := ?_) #[Y,Y,Y,O,O,O,O,O,O,O,O,O,O,O,O,O,O,O,O,O] rfl rfl (any_of HT_.out (by kernel_rfl)) (fun _ _ _ h => h) (Or.inl ⟨by rfl, ?_⟩) ?_ ?_
   rotate_left
   ·intro w'
    go_simp
    with_reducible rfl
   rotate_left
   ·simp only [PN]
    rfl
   refine pure_ (i := 3) (N := some 25) (v := ?_) (a' := ?_) #[Y,Y,Y,Y,O,O,O,O,O,O,O,O,O,O,O,O,O,O,O,O] rfl rfl (any_of HT_.out (by kernel_rfl)) (fun _ _ _ h => h) (Or.inl ⟨by rfl, ?_⟩) ?_ ?_
   rotate_left
   ·intro w'
    go_simp
    with_reducible rfl
   rotate_left
   ·simp only [PN]
    rfl
   refine pure_ (i := 4) (N := some 26) (v := ?_) (a' := ?_) #[Y,Y,Y,Y,Y,O,O,O,O,O,O,O,O,O,O,O,O,O,O,O] rfl rfl (any_of HT_.out (by kernel_rfl)) (fun _ _ _ h => h) (Or.inl ⟨by rfl, ?_⟩) ?_ ?_
   rotate_left
   ·intro w'
    go_simp
    with_reducible rfl
   rotate_left
   ·simp only [PN]
    rfl
   refine pure_ (i := 6) (N := some 28) (v := ?_) (a' := ?_) #[Y,Y,Y,Y,Y,O,Y,O,O,O,O,O,O,O,O,O,O,O,O,O] rfl rfl (any_of HT_.out (by kernel_rfl)) (fun _ _ _ h => h) (Or.inl ⟨by rfl, ?_⟩) ?_ ?_
   rotate_left
   ·intro w'
    go_simp
    with_reducible rfl
   rotate_left
   ·simp only [PN]
    rfl
   refine pure_ (i := 7) (N := some 29) (v := ?_) (a' := ?_) #[Y,Y,Y,Y,Y,O,Y,Y,O,O,O,O,O,O,O,O,O,O,O,O] rfl rfl (any_of HT_.out (by kernel_rfl)) (fun _ _ _ h => h) (Or.inl ⟨by rfl, ?_⟩) ?_ ?_
   rotate_left
   ·intro w'
    go_simp
    with_reducible rfl
   rotate_left
   ·simp only [PN]
    rfl
   refine pure_ (i := 8) (N := some 30) (v := ?_) (a' := ?_) #[Y,Y,Y,Y,Y,O,Y,Y,Y,O,O,O,O,O,O,O,O,O,O,O] rfl rfl (any_of HT_.out (by kernel_rfl)) (fun _ _ _ h => h) (Or.inl ⟨by rfl, ?_⟩) ?_ ?_
   rotate_left
   ·intro w'
    go_simp
    with_reducible rfl
   rotate_left
   ·simp only [PN]
    rfl
   refine pure_ (i := 9) (N := some 31) (v := ?_) (a' := ?_) #[Y,Y,Y,Y,Y,O,Y,Y,Y,Y,O,O,O,O,O,O,O,O,O,O] rfl rfl (any_of HT_.out (by kernel_rfl)) (fun _ _ _ h => h) (Or.inl ⟨by rfl, ?_⟩) ?_ ?_
   rotate_left
   ·intro w'
    go_simp
    with_reducible rfl
   rotate_left
   ·simp only [PN]
    rfl
   refine take_ (i := 5) (N := some 27) (v := ?_) (a' := ?_) #[Y,Y,Y,Y,Y,Y,Y,Y,Y,Y,O,O,O,O,O,O,O,O,O,O] rfl rfl (take_ofW HT_.out HW_.out (by kernel_rfl)) (fun _ _ _ h => h) (Or.inl ⟨by rfl, ?_⟩) hHeld ?_ ?_
   rotate_left
   ·rintro w' ⟨s0, s1⟩
    go_simp
    with_reducible rfl
   rotate_left
   ·simp only [PN]
    rfl
   refine take_ (i := 10) (N := some 32) (v := ?_) (a' := ?_) #[Y,Y,Y,Y,Y,Y,Y,Y,Y,Y,Y,O,O,O,O,O,O,O,O,O] rfl rfl (take_ofW HT_.out HW_.out (by kernel_rfl)) (fun _ _ _ h => h) (Or.inl ⟨by rfl, ?_⟩) hHeld ?_ ?_
   rotate_left
   ·rintro w' ⟨s0, s1⟩
    go_simp
    with_reducible rfl
   rotate_left
   ·simp only [PN]
    rfl
   refine join_ (σ := Nat × (Option Addr × Nat)) 3 #[Y,Y,Y,Y,Y,Y,Y,Y,Y,Y,Y,Y,Y,Y,Y,Y,Y,O,O,O] (fun s => [(33, .tuple #[.agg #[.int .i64 1, .slice s.2.1 0 s.2.2, .slice none 0 0], .bool true, .slice none 0 0]), (21, .tuple #[.agg #[.int .i64 1, .slice s.2.1 0 s.2.2, .slice none 0 0], .bool true, .slice none 0 0]), (34, .agg #[.int .i64 1, .slice s.2.1 0 s.2.2, .slice none 0 0]), (35, .bool true), (36, .slice none 0 0), (4, .pointer (some ⟨s.1, 0, none⟩))]) (fun s w' => w'.cell? ⟨gs, 11 + k, none⟩ = some (.pointer (some ⟨gu, 0, none⟩)) ∧ w'.cell? ⟨gs, 4, none⟩ = some (.bool P.ah) ∧ SE w0 N0 w' gs gx gt gf mx Z (fun _ => False) P [] now gv f2 su2 va3 rows3 b ∧ Kf N0 [256, 306] (fun _ => False) w4.drew w' ∧ w'.heap[s.1]? = some (.cells #[.int .i64 0, .slice none 0 0, .slice none 0 0] 49 (0, 0)) ∧ N0 ≤ s.1) ?_ ?_
   rotate_left
   ·intro hCont
    refine two_ (i := 11) (j := 16) (Ni := some 33) (Nj := some 4) #[Y,Y,Y,Y,Y,Y,Y,Y,Y,Y,Y,Y,O,O,O,O,O,O,O,O] #[Y,Y,Y,Y,Y,Y,Y,Y,Y,Y,Y,O,O,O,O,O,Y,O,O,O] rfl rfl rfl rfl (two_of HT_.out (by kernel_rfl)) (by decide) (by decide) (fun K hK => ?_) (fun K hK => ?_)
    ·skip
     refine goes_ Tryz.func110 (by kernel_rfl) rfl #[.pointer (some ⟨gu, 0, none⟩), .bool P.ah] (by rfl) rfl rfl (by (try simp only [List.map_toArray, List.map_cons, List.map_nil]); first | done | rfl) ?_
     refine (suit.Step.nil HS.out HE.out.ix P.ah).mono ?_
     rintro e w5 ⟨⟨A5, c5, rfl⟩, hk5⟩
     refine ⟨_, rfl, ?_⟩
     replace HKS := Aside0.mk (HKS.out.trans hk5)
     replace HE := Aside0.mk ((HE.out.mU (U' := fun _ => False) (fun _ _ h => h.elim)).kfU hk5 (fun _ _ h => h) (by decide))
     clear hk5
     refine hK.out _ _ ⟨((HE.out.suit k HI.out).trans (congrArg some HSU.out)), ((blk_cell HE.out.blk 4).trans rfl)⟩ (fun hHeld => ?_)
     clear hK K
     refine norm_ (a' := ?_) ?_ ?_
     rotate_left
     ·show Act.put _ (some 33) _ = _
      simp only [PN]
      rfl
     refine pure_ (i := 12) (N := some 21) (v := ?_) (a' := ?_) #[Y,Y,Y,Y,Y,Y,Y,Y,Y,Y,Y,Y,Y,O,O,O,O,O,O,O] rfl rfl (any_of HT_.out (by kernel_rfl)) (fun _ _ _ h => h) (Or.inl ⟨by rfl, ?_⟩) ?_ ?_
     rotate_left
     ·intro w'
      go_simp
      with_reducible rfl
     rotate_left
     ·simp only [PN]
      rfl
     refine pure_ (i := 13) (N := some 34) (v := ?_) (a' := ?_) #[Y,Y,Y,Y,Y,Y,Y,Y,Y,Y,Y,Y,Y,Y,O,O,O,O,O,O] rfl rfl (any_of HT_.out (by kernel_rfl)) (fun _ _ _ h => h) (Or.inl ⟨by rfl, ?_⟩) ?_ ?_
     rotate_left
     ·intro w'
      go_simp
      with_reducible rfl
     rotate_left
     ·simp only [PN]
      rfl
     refine pure_ (i := 14) (N := some 35) (v := ?_) (a' := ?_) #[Y,Y,Y,Y,Y,Y,Y,Y,Y,Y,Y,Y,Y,Y,Y,O,O,O,O,O] rfl rfl (any_of HT_.out (by kernel_rfl)) (fun _ _ _ h => h) (Or.inl ⟨by rfl, ?_⟩) ?_ ?_
     rotate_left
     ·intro w'
      go_simp
      with_reducible rfl
     rotate_left
     ·simp only [PN]
      rfl
     refine pure_ (i := 15) (N := some 36) (v := ?_) (a' := ?_) #[Y,Y,Y,Y,Y,Y,Y,Y,Y,Y,Y,Y,Y,Y,Y,Y,O,O,O,O] rfl rfl (any_of HT_.out (by kernel_rfl)) (fun _ _ _ h => h) (Or.inl ⟨by rfl, ?_⟩) ?_ ?_
     rotate_left
     ·intro w'
      go_simp
      with_reducible rfl
     rotate_left
     ·simp only [PN]
      rfl
     refine one_ (i := 16) (N := some 4) #[Y,Y,Y,Y,Y,Y,Y,Y,Y,Y,Y,Y,Y,Y,Y,Y,Y,O,O,O] rfl rfl (one_of HT_.out (by kernel_rfl)) (by decide) (fun K hK => ?_)
     have HLP := Aside0.mk (show N0 ≤ w5.heap.size from Nat.le_trans HLO.out HKS.out.size)
     have hba_ := below_alloc (Below.refl w5.heap.size w5) (.cells #[.int .i64 0, .slice none 0 0, .slice none 0 0] 49)
     replace HE := Aside0.mk (HE.out.below hba_)
     replace HKS := Aside0.mk (HKS.out.trans (Kf.below hba_))
     have HP := Aside0.mk (blk_new w5 (.cells #[.int .i64 0, .slice none 0 0, .slice none 0 0] 49))
     clear hba_
     refine value_ (w1 := ?_) (v := ?_) (by rfl) rfl ?_ ?_
     rotate_left 2
     ·go_simp
      constructor
      ·rfl
      ·rfl
     refine hK.out _ _ ⟨((HE.out.suit k HI.out).trans (congrArg some HSU.out)), ((blk_cell HE.out.blk 4).trans rfl)⟩ (fun hHeld => ?_)
     clear hK K
     refine norm_ (a' := ?_) ?_ ?_
     rotate_left
     ·show Act.put _ (some 4) _ = _
      simp only [PN]
      rfl
     exact norm_ (by simp only [putAll, PN]) (hCont (w5.heap.size, (A5, c5)) _ ⟨((HE.out.suit k HI.out).trans (congrArg some HSU.out)), ((blk_cell HE.out.blk 4).trans rfl), HE.out, HKS.out, HP.out, HLP.out⟩)
    ·skip
     have HLP := Aside0.mk (show N0 ≤ w4.drew.heap.size from Nat.le_trans HLO.out HKS.out.size)
     have hba_ := below_alloc (Below.refl w4.drew.heap.size w4.drew) (.cells #[.int .i64 0, .slice none 0 0, .slice none 0 0] 49)
     replace HE := Aside0.mk (HE.out.below hba_)
     replace HS := Aside0.mk (HS.out.kf (N0 := 0) (Ts := []) (X := fun _ => False) (Kf.below hba_) (by decide) (by decide))
     replace HKS := Aside0.mk (HKS.out.trans (Kf.below hba_))
     have HP := Aside0.mk (blk_new w4.drew (.cells #[.int .i64 0, .slice none 0 0, .slice none 0 0] 49))
     clear hba_
     refine value_ (w1 := ?_) (v := ?_) (by rfl) rfl ?_ ?_
     rotate_left 2
     ·go_simp
      constructor
      ·rfl
      ·rfl
     refine hK.out _ _ ⟨((HE.out.suit k HI.out).trans (congrArg some HSU.out)), ((blk_cell HE.out.blk 4).trans rfl)⟩ (fun hHeld => ?_)
     clear hK K
     refine norm_ (a' := ?_) ?_ ?_
     rotate_left
     ·show Act.put _ (some 4) _ = _
      simp only [PN]
      rfl
     refine one_ (i := 11) (N := some 33) #[Y,Y,Y,Y,Y,Y,Y,Y,Y,Y,Y,Y,O,O,O,O,Y,O,O,O] rfl rfl (one_of HT_.out (by kernel_rfl)) (by decide) (fun K hK => ?_)
     refine goes_ Tryz.func110 (by kernel_rfl) rfl #[.pointer (some ⟨gu, 0, none⟩), .bool P.ah] (by rfl) rfl rfl (by (try simp only [List.map_toArray, List.map_cons, List.map_nil]); first | done | rfl) ?_
     refine (suit.Step.nil HS.out HE.out.ix P.ah).mono ?_
     rintro e w5 ⟨⟨A5, c5, rfl⟩, hk5⟩
     refine ⟨_, rfl, ?_⟩
     replace HP := Aside0.mk (hk5.blk HP.out (by decide))
     replace HKS := Aside0.mk (HKS.out.trans hk5)
     replace HE := Aside0.mk ((HE.out.mU (U' := fun _ => False) (fun _ _ h => h.elim)).kfU hk5 (fun _ _ h => h) (by decide))
     clear hk5
     refine hK.out _ _ ⟨((HE.out.suit k HI.out).trans (congrArg some HSU.out)), ((blk_cell HE.out.blk 4).trans rfl)⟩ (fun hHeld => ?_)
     clear hK K
     refine norm_ (a' := ?_) ?_ ?_
     rotate_left
     ·show Act.put _ (some 33) _ = _
      simp only [PN]
      rfl
     refine pure_ (i := 12) (N := some 21) (v := ?_) (a' := ?_) #[Y,Y,Y,Y,Y,Y,Y,Y,Y,Y,Y,Y,Y,O,O,O,Y,O,O,O] rfl rfl (any_of HT_.out (by kernel_rfl)) (fun _ _ _ h => h) (Or.inl ⟨by rfl, ?_⟩) ?_ ?_
     rotate_left
     ·intro w'
      go_simp
      with_reducible rfl
     rotate_left
     ·simp only [PN]
      rfl
     refine pure_ (i := 13) (N := some 34) (v := ?_) (a' := ?_) #[Y,Y,Y,Y,Y,Y,Y,Y,Y,Y,Y,Y,Y,Y,O,O,Y,O,O,O] rfl rfl (any_of HT_.out (by kernel_rfl)) (fun _ _ _ h => h) (Or.inl ⟨by rfl, ?_⟩) ?_ ?_
     rotate_left
     ·intro w'
      go_simp
      with_reducible rfl
     rotate_left
     ·simp only [PN]
      rfl
     refine pure_ (i := 14) (N := some 35) (v := ?_) (a' := ?_) #[Y,Y,Y,Y,Y,Y,Y,Y,Y,Y,Y,Y,Y,Y,Y,O,Y,O,O,O] rfl rfl (any_of HT_.out (by kernel_rfl)) (fun _ _ _ h => h) (Or.inl ⟨by rfl, ?_⟩) ?_ ?_
     rotate_left
     ·intro w'
      go_simp
      with_reducible rfl
     rotate_left
     ·simp only [PN]
      rfl
     refine pure_ (i := 15) (N := some 36) (v := ?_) (a' := ?_) #[Y,Y,Y,Y,Y,Y,Y,Y,Y,Y,Y,Y,Y,Y,Y,Y,Y,O,O,O] rfl rfl (any_of HT_.out (by kernel_rfl)) (fun _ _ _ h => h) (Or.inl ⟨by rfl, ?_⟩) ?_ ?_
     rotate_left
     ·intro w'
      go_simp
      with_reducible rfl
     rotate_left
     ·simp only [PN]
      rfl
     exact norm_ (by simp only [putAll, PN]) (hCont (w4.heap.size, (A5, c5)) _ ⟨((HE.out.suit k HI.out).trans (congrArg some HSU.out)), ((blk_cell HE.out.blk 4).trans rfl), HE.out, HKS.out, HP.out, HLP.out⟩)
   rintro ⟨p1, A7, c7⟩ w7 ⟨hk0, hk1, he7, hks7, hp7, hlp7⟩
   have hHeld : w7.cell? ⟨gs, 11 + k, none⟩ = some (.pointer (some ⟨gu, 0, none⟩)) ∧ w7.cell? ⟨gs, 4, none⟩ = some (.bool P.ah) := ⟨hk0, hk1⟩
   dsimp only at hp7 hlp7
   dsimp only
   have HE7 := Aside0.mk he7
   have HKS7 := Aside0.mk hks7
   have HP7 := Aside0.mk hp7
   have HLP7 := Aside0.mk hlp7
   have k0 : w7.cell? ⟨p1, 0, none⟩ = some (.int .i64 0) := (blk_cell hp7 0).trans rfl
   have k1 : w7.cell? ⟨p1, 1, none⟩ = some (.slice none 0 0) := (blk_cell hp7 1).trans rfl
   have k2 : w7.cell? ⟨p1, 2, none⟩ = some (.slice none 0 0) := (blk_cell hp7 2).trans rfl
   have fz0 := blk_frozen hp7 0
   have fz1 := blk_frozen hp7 1
   have fz2 := blk_frozen hp7 2
   clear hk0 hk1 he7 hks7 hp7 hlp7
   refine norm_ (a' := ?_) ?_ ?_
   rotate_left
   ·simp only [putAll, PN]
    rfl
   refine last_ (i := 17) (N := none) #[Y,Y,Y,Y,Y,Y,Y,Y,Y,Y,Y,Y,Y,Y,Y,Y,Y,Y,O,O] rfl rfl (one_of HT_.out (by kernel_rfl)) (by decide) (fun K hK => ?_)
   refine skip_ (w1 := ?_) (by rfl) rfl ?_ ?_
   rotate_left
   ·go_simp
    rfl
   refine hK.out _ _ ?_
   clear hK K
   refine pure_ (i := 18) (N := some 5) (v := ?_) (a' := ?_) #[Y,Y,Y,Y,Y,Y,Y,Y,Y,Y,Y,Y,Y,Y,Y,Y,Y,Y,Y,O] rfl rfl (any_of HT_.out (by kernel_rfl)) (fun _ _ _ h => h) (Or.inl ⟨by rfl, ?_⟩) ?_ ?_
   rotate_left
   ·intro w'
    go_simp
    with_reducible rfl
   rotate_left
   ·simp only [PN]
    rfl
   refine pure_ (i := 19) (N := some 6) (v := ?_) (a' := ?_) #[Y,Y,Y,Y,Y,Y,Y,Y,Y,Y,Y,Y,Y,Y,Y,Y,Y,Y,Y,Y] rfl rfl (any_of HT_.out (by kernel_rfl)) (fun _ _ _ h => h) (Or.inl ⟨by rfl, ?_⟩) ?_ ?_
   rotate_left
   ·intro w'
    go_simp
    with_reducible rfl
   rotate_left
   ·simp only [PN]
    rfl
   refine done_ (done_of HT_.out (by kernel_rfl)) ?_
   clear hHeld k0 k1 k2 fz0 fz1 fz2
   have g8 := ((grown_set w7 p1 0 (.int .i64 1)).trans_row (grown_set _ p1 1 (.slice A7 0 c7))).trans_row (grown_set _ p1 2 (.slice none 0 0))
   have hk8 : Kf N0 [49] (fun _ => False) w7 _ := Kf.grown g8 HP7.out (by simp) HLP7.out
   have HE8 := Aside0.mk (HE7.out.kf hk8 (by decide) (fun _ h => h.elim))
   have HP8 := Aside0.mk (blk_put (blk_put (blk_put HP7.out 0 (.int .i64 1) rfl) 1 (.slice A7 0 c7) rfl) 2 (.slice none 0 0) rfl)
   have HKS8 := Aside0.mk (show Kf N0 [256, 306, 49] (fun _ => False) w4.drew _ from (HKS7.out.mono (fun t ht => by simp at ht; rcases ht with rfl | rfl <;> simp) (fun _ h => h)).trans (hk8.mono (fun t ht => by simp at ht; simp [ht]) (fun _ h => h)))
   clear g8 hk8 HE7 HKS7 HP7 HLP7
   generalize ((w7.setCell ⟨p1, 0, none⟩ (.int .i64 1)).setCell ⟨p1, 1, none⟩ (.slice A7 0 c7)).setCell ⟨p1, 2, none⟩ (.slice none 0 0) = w8 at HE8 HP8 HKS8 ⊢
   have HK8 := Aside0.mk (HK4.out.trans (HKS8.out.toST (by decide) (fun _ h => h.elim)))
   have HRY8 := Aside0.mk (R_kf HRY4.out HKS8.out (by decide))
   have x0 : w8.cell? ⟨p1, 0, none⟩ = some (.int .i64 1) := (blk_cell HP8.out 0).trans rfl
   have x1 : w8.cell? ⟨p1, 1, none⟩ = some (.slice A7 0 c7) := (blk_cell HP8.out 1).trans rfl
   have x2 : w8.cell? ⟨p1, 2, none⟩ = some (.slice none 0 0) := (blk_cell HP8.out 2).trans rfl
   have HLV := Aside0.mk (service.leave.calls HE8.out (Nat.le_trans HLO0.out HK8.out.size) (by have := HBB.out; omega) HBB.out.2.2 k HI.out HBK.out 1 A7 c7 (by omega))
   clear HE8 HKS8 HE HK4 HRY4 HS HKS HP8
   go_wp2_with fail
   refine HLV.out.mono ?_
   rintro e w9 ⟨rfl, ⟨su9, va9, he9⟩, hk9⟩
   have HNB := Aside0.mk (show ∀ j, j < 8 → busy (updT f2 k (0, 0)) (P.t : Int) j = false from fun j hj => by
    cases hbj : busy (updT f2 k (0, 0)) (P.t : Int) j with
    | false => rfl
    | true =>
     rcases busy_upd _ _ _ _ _ hbj with h | h
     ·subst h
      rw [busy_zero (by unfold updT; rw [if_pos rfl])] at hbj
      cases hbj
     ·exact absurd (HKY.out j hj h.2) h.1)
   have HE9 := Aside0.mk (he9.mU (U' := fun j => busy (updT f2 k (0, 0)) (P.t : Int) j = true) (fun j hj hu => by rw [HNB.out j hj] at hu; cases hu))
   have HK9 := Aside0.mk (HK8.out.trans hk9)
   have HRY9 := Aside0.mk (R_kf HRY8.out hk9 (by decide))
   have a9 := HA9.out
   have hlt := HLT.out.1
   clear he9 hk9 HLV HK8 HRY8 x0 x1 x2
   go_wp2
   go_roundw
   case rel => exact ⟨i + 1, _, su9, va9, _, by go_num, hlt, HE9, HK9, ⟨fun h => absurd h (by omega), fun _ => ⟨HNB.out, by rw [List.flatMap_append]; rfl, by simp⟩⟩, HRY9⟩
   case measure => first | (rw [a9]; exact meas _ _ hlt) | exact meas _ _ hlt
  ·have q0 : decide ((i : Int) < (ys.length : Int)) = false := decide_eq_false (by omega)
   have HE := HEr
   have HR3 := Aside0.mk (show rows3.length ≤ rows.length + 1 ∧ rows.length ≤ 900 from ⟨by
    rcases (show i = 0 ∨ i = 1 by omega) with h | h
    ·rw [(HF3.out.1 h).2.2.2]; omega
    ·exact (HF3.out.2 h).2.2, HBB.out.2.1⟩)
   have HNB := Aside0.mk (show (∀ k, k < 8 → busy f2 (P.t : Int) k = false) ∧ rows3.flatMap tk = rows.flatMap tk ++ List.replicate (taken f (P.t : Int) P.t).length 1 from by
    rw [← HY.out.1]
    rcases (show i = 0 ∨ i = 1 by omega) with h | h
    ·have hys : ys = [] := List.eq_nil_of_length_eq_zero (by omega)
     obtain ⟨e1, _, _, e4⟩ := HF3.out.1 h
     rw [e1, e4, hys]
     refine ⟨fun k hk => ?_, by simp⟩
     cases hbk : busy f (P.t : Int) k with
     | false => rfl
     | true =>
      have := HY.out.2.2.2 k hk hbk
      rw [hys] at this
      cases this
    ·have h1 : ys.length = 1 := by omega
     rw [h1]
     exact ⟨(HF3.out.2 h).1, (HF3.out.2 h).2.1⟩)
   have c10 : wr.cell? ⟨gs, 10, none⟩ = some (.pointer (some ⟨gf, 0, none⟩)) := (blk_cell HEr.out.blk 10).trans rfl
   clear HEr HRY hi HF3
   go_wp2_with fail
   refine (Issues.z HE.out.fz (by have := HBB.out.1; omega)).mono ?_
   rintro e w2 ⟨Ai, ci, is, rfl, hli, hri, hf2, hk2⟩
   have HE2 := Aside0.mk (HE.out.fch hf2 hk2)
   have HK2 := Aside0.mk (HKr.out.trans (hk2.mono (fun t ht => by simp only [FT, ST, List.mem_cons, List.not_mem_nil, or_false] at ht ⊢; omega) (fun k hk hz => hk (.inr hz))))
   have HRI := Aside0.mk hri
   have HLI := Aside0.mk hli
   clear hf2 hk2 hri hli HE HKr c10
   generalize wr.heap.size = lo at HRI ⊢
   go_wp2
   go_loopw [63] (fun jv wr => ∃ (j : Nat) (va2 : Value) (rows2 : List (List Value)), jv = .int .i64 (j : Int) ∧ j ≤ is.length ∧ Aside0 (rows2.flatMap tk = rows3.flatMap tk ∧ rows2.length = rows3.length + j) ∧ Aside0 (SE w0 N0 wr gs gx gt gf mx Z (fun j => busy f2 (P.t : Int) j = true) P [] now gv f2 su2 va2 rows2 (b + 8)) ∧ Aside0 (Kf N0 ST (fun k => ¬ Z k) w wr) ∧ Aside0 (kIss.R 206 wr lo (fun _ => True) (.slice Ai is.length ci) is)) (fun jv _ => ((is.length : Int) - intOf jv).toNat)
   case atStart => exact ⟨0, va3, rows3, rfl, by omega, ⟨rfl, by omega⟩, HE2, HK2, HRI⟩
   case round =>
    clear HE2 HK2 HRI
    obtain ⟨j, va2, rows2, rfl, hj, HF, HE0, HK0, HRI⟩ := hrel
    have hl8 := HLI.out
    by_cases hjl : j < is.length
    ·have q1 : decide ((j : Int) < (is.length : Int)) = true := decide_eq_true (by omega)
     have u2 : (0 : Int) ≤ (j : Int) := by omega
     have u3 : (j : Int) < (is.length : Int) := by omega
     have HA9 := Aside0.mk (show wrap64 ((j : Int) + 1) = (j : Int) + 1 from wrap_id (by omega) (by omega))
     obtain ⟨ai, ei, x0, x1⟩ := at_Iss (Kd.R_reads' HRI.out).2.2 j hjl
     subst ei
     generalize is.getD j (0, ⟨#[]⟩) = z at x0 x1
     obtain ⟨Av, cv, rfl⟩ := Kd.R_slice HE0.out.ra
     have hba := below_alloc (Below.refl wr.heap.size wr) (.cells #[.int .i64 z.1, .string z.2] 206)
     have HGB0 := Aside0.mk (blk_new wr (.cells #[.int .i64 z.1, .string z.2] 206))
     have HE4 := Aside0.mk (HE0.out.below hba)
     have HK4 := Aside0.mk (HK0.out.trans (Kf.below hba))
     have HRI4 := Aside0.mk (Kd.R_below HRI.out hba)
     have HLN := Aside0.mk (show rows2.length ≤ 1000 by have := HF.out.2; have := HR3.out; omega)
     have HJ := Aside0.mk hjl
     clear hba HE0 HK0 HRI hj
     go_wp2
     generalize wr.alloc (.cells #[.int .i64 z.1, .string z.2] 206) = w4 at HGB0 HE4 HK4 HRI4 ⊢
     generalize wr.heap.size = gb at HGB0 ⊢
     have HGB := Aside0.mk (show w4.drew.heap[gb]? = _ from HGB0.out)
     have HE := Aside0.mk (HE4.out.below (below_drew (Below.refl w4.heap.size w4)))
     have HK := Aside0.mk (HK4.out.trans (Kf.below (below_drew (Below.refl w4.heap.size w4))))
     have HRI5 := Aside0.mk (Kd.R_below HRI4.out (below_drew (Below.refl w4.heap.size w4)))
     have HW := Aside0.mk (show N0 ≤ w4.drew.heap.size from Nat.le_trans HLO0.out HK.out.size)
     clear HGB0 HE4 HK4 HRI4 x0 x1
     refine start_ (n := 15) (S := fun w' => w'.cell? ⟨gs, 19, none⟩ = some (.slice Av rows2.length cv) ∧ w'.cell? ⟨gb, 0, none⟩ = some (.int .i64 z.1) ∧ w'.cell? ⟨gb, 1, none⟩ = some (.string z.2)) (ds := [11, 14]) #[O,O,O,O,O,O,O,O,O,O,O,O,O,O,O] (by kernel_rfl) rfl rfl ⟨((blk_cell HE.out.blk 19).trans rfl), ((blk_cell HGB.out 0).trans rfl), ((blk_cell HGB.out 1).trans rfl)⟩ (fun hHeld => ?_)
     refine with_tabW ONN15.tab15 ONN15.bits15 (fun HT_ HW_ => ?_)
     refine pure_ (i := 0) (N := some 67) (v := ?_) (a' := ?_) #[Y,O,O,O,O,O,O,O,O,O,O,O,O,O,O] rfl rfl (any_of HT_.out (by kernel_rfl)) (fun _ _ _ h => h) (Or.inl ⟨by rfl, ?_⟩) ?_ ?_
     rotate_left
     ·intro w'
      go_simp
      with_reducible rfl
     rotate_left
     ·simp only [PN]
      rfl
     refine pure_ (i := 1) (N := some 68) (v := ?_) (a' := ?_) #[Y,Y,O,O,O,O,O,O,O,O,O,O,O,O,O] rfl rfl (any_of HT_.out (by kernel_rfl)) (fun _ _ _ h => h) (Or.inl ⟨by rfl, ?_⟩) ?_ ?_
     rotate_left
     ·intro w'
      go_simp
      with_reducible rfl
     rotate_left
     ·simp only [PN]
      rfl
     refine pure_ (i := 2) (N := some 69) (v := ?_) (a' := ?_) #[Y,Y,Y,O,O,O,O,O,O,O,O,O,O,O,O] rfl rfl (any_of HT_.out (by kernel_rfl)) (fun _ _ _ h => h) (Or.inl ⟨by rfl, ?_⟩) ?_ ?_
     rotate_left
     ·intro w'
      go_simp
      with_reducible rfl
     rotate_left
     ·simp only [PN]
      rfl
     refine pure_ (i := 3) (N := some 70) (v := ?_) (a' := ?_) #[Y,Y,Y,Y,O,O,O,O,O,O,O,O,O,O,O] rfl rfl (any_of HT_.out (by kernel_rfl)) (fun _ _ _ h => h) (Or.inl ⟨by rfl, ?_⟩) ?_ ?_
     rotate_left
     ·intro w'
      go_simp
      with_reducible rfl
     rotate_left
     ·simp only [PN]
      rfl
     refine pure_ (i := 5) (N := some 72) (v := ?_) (a' := ?_) #[Y,Y,Y,Y,O,Y,O,O,O,O,O,O,O,O,O] rfl rfl (any_of HT_.out (by kernel_rfl)) (fun _ _ _ h => h) (Or.inl ⟨by rfl, ?_⟩) ?_ ?_
     rotate_left
     ·intro w'
      go_simp
      with_reducible rfl
     rotate_left
     ·simp only [PN]
      rfl
     refine pure_ (i := 7) (N := some 74) (v := ?_) (a' := ?_) #[Y,Y,Y,Y,O,Y,O,Y,O,O,O,O,O,O,O] rfl rfl (any_of HT_.out (by kernel_rfl)) (fun _ _ _ h => h) (Or.inl ⟨by rfl, ?_⟩) ?_ ?_
     rotate_left
     ·intro w'
      go_simp
      with_reducible rfl
     rotate_left
     ·simp only [PN]
      rfl
     refine take_ (i := 4) (N := some 71) (v := ?_) (a' := ?_) #[Y,Y,Y,Y,Y,Y,O,Y,O,O,O,O,O,O,O] rfl rfl (take_ofW HT_.out HW_.out (by kernel_rfl)) (fun _ _ _ h => h) (Or.inl ⟨by rfl, ?_⟩) hHeld ?_ ?_
     rotate_left
     ·rintro w' ⟨s0, s1, s2⟩
      go_simp
      with_reducible rfl
     rotate_left
     ·simp only [PN]
      rfl
     refine take_ (i := 6) (N := some 73) (v := ?_) (a' := ?_) #[Y,Y,Y,Y,Y,Y,Y,Y,O,O,O,O,O,O,O] rfl rfl (take_ofW HT_.out HW_.out (by kernel_rfl)) (fun _ _ _ h => h) (Or.inl ⟨by rfl, ?_⟩) hHeld ?_ ?_
     rotate_left
     ·rintro w' ⟨s0, s1, s2⟩
      go_simp
      with_reducible rfl
     rotate_left
     ·simp only [PN]
      rfl
     refine take_ (i := 8) (N := some 75) (v := ?_) (a' := ?_) #[Y,Y,Y,Y,Y,Y,Y,Y,Y,O,O,O,O,O,O] rfl rfl (take_ofW HT_.out HW_.out (by kernel_rfl)) (fun _ _ _ h => h) (Or.inl ⟨by rfl, ?_⟩) hHeld ?_ ?_
     rotate_left
     ·rintro w' ⟨s0, s1, s2⟩
      go_simp
      with_reducible rfl
     rotate_left
     ·simp only [PN]
      rfl
     refine pure_ (i := 9) (N := some 76) (v := ?_) (a' := ?_) #[Y,Y,Y,Y,Y,Y,Y,Y,Y,Y,O,O,O,O,O] rfl rfl (any_of HT_.out (by kernel_rfl)) (fun _ _ _ h => h) (Or.inl ⟨by rfl, ?_⟩) ?_ ?_
     rotate_left
     ·intro w'
      go_simp
      with_reducible rfl
     rotate_left
     ·simp only [PN]
      rfl
     refine one_ (i := 10) (N := some 77) #[Y,Y,Y,Y,Y,Y,Y,Y,Y,Y,Y,O,O,O,O] rfl rfl (one_of HT_.out (by kernel_rfl)) (by decide) (fun K hK => ?_)
     have hba_ := below_alloc (Below.refl w4.drew.heap.size w4.drew) (.cells #[.int .i64 1, .int .i64 z.1, .string z.2, .int .i64 0, .int .i64 0, .slice none 0 0, .slice none 0 0] 131)
     have HE6 := Aside0.mk (HE.out.below hba_)
     have HGB6 := Aside0.mk (blk_below HGB.out hba_)
     clear hba_
     refine value_ (w1 := ?_) (v := ?_) (by rfl) rfl ?_ ?_
     rotate_left 2
     ·go_simp
      constructor
      ·rfl
      ·rfl
     refine hK.out _ _ ⟨((blk_cell HE6.out.blk 19).trans rfl), ((blk_cell HGB6.out 0).trans rfl), ((blk_cell HGB6.out 1).trans rfl)⟩ (fun hHeld => ?_)
     clear hK K
     refine norm_ (a' := ?_) ?_ ?_
     rotate_left
     ·show Act.put _ (some 77) _ = _
      simp only [PN]
      rfl
     refine last_ (i := 11) (N := some 78) #[Y,Y,Y,Y,Y,Y,Y,Y,Y,Y,Y,Y,O,O,O] rfl rfl (one_of HT_.out (by kernel_rfl)) (by decide) (fun K hK => ?_)
     refine Kd.R_append_step (Kd.raw 7) (w0 := w4.drew) (N0) (by rfl) (.tmp 71) (.tmp 77) 77 131 (.agg #[.int .i64 0, .int .i64 0, .string ⟨#[]⟩, .int .i64 0, .int .i64 0, .slice none 0 0, .slice none 0 0]) 96 rfl Tryz.underlying77 infoAct rfl (by decide) (by omega) (.slice Av rows2.length cv) (rows2) ([.int .i64 1, .int .i64 z.1, .string z.2, .int .i64 0, .int .i64 0, .slice none 0 0, .slice none 0 0]) [.int .i64 1, .int .i64 z.1, .string z.2, .int .i64 0, .int .i64 0, .slice none 0 0, .slice none 0 0] (fun _ => True) (fun _ => False) rfl rfl ⟨rfl, rfl, by intro u hu; simp only [List.mem_cons, List.not_mem_nil, or_false] at hu; rcases hu with rfl | rfl | rfl | rfl | rfl | rfl | rfl <;> rfl⟩ (fun _ hk => hk.elim) (fun _ _ => trivial) HE.out.ra (Below.refl N0 w4.drew) HW.out (by have := HLN.out; omega) ?_
     intro v9 w9 hr9 hb9 hg9 hat9
     obtain ⟨A9, c9, rfl⟩ := Kd.R_slice hr9
     have HR9 := Aside0.mk hr9
     have HG9 := Aside0.mk hg9
     have hb9c := blk_grown HE.out.blk hg9 (Kd.R_ne HE.out.ra HE.out.blk (by decide))
     have f19 := blk_frozen hb9c 19
     have k19 : w9.cell? ⟨gs, 19, none⟩ = some (.slice Av rows2.length cv) := (blk_cell hb9c 19).trans rfl
     clear hr9 hb9 hg9 hat9 hb9c
     refine hK.out _ _ ?_
     clear hK K
     refine norm_ (a' := ?_) ?_ ?_
     rotate_left
     ·show Act.put _ (some 78) _ = _
      simp only [PN]
      rfl
     refine pure_ (i := 12) (N := some 79) (v := ?_) (a' := ?_) #[Y,Y,Y,Y,Y,Y,Y,Y,Y,Y,Y,Y,Y,O,O] rfl rfl (any_of HT_.out (by kernel_rfl)) (fun _ _ _ h => h) (Or.inl ⟨by rfl, ?_⟩) ?_ ?_
     rotate_left
     ·intro w'
      go_simp
      with_reducible rfl
     rotate_left
     ·simp only [PN]
      rfl
     refine pure_ (i := 13) (N := some 80) (v := ?_) (a' := ?_) #[Y,Y,Y,Y,Y,Y,Y,Y,Y,Y,Y,Y,Y,Y,O] rfl rfl (any_of HT_.out (by kernel_rfl)) (fun _ _ _ h => h) (Or.inl ⟨by rfl, ?_⟩) ?_ ?_
     rotate_left
     ·intro w'
      go_simp
      with_reducible rfl
     rotate_left
     ·simp only [PN]
      rfl
     refine last_ (i := 14) (N := none) #[Y,Y,Y,Y,Y,Y,Y,Y,Y,Y,Y,Y,Y,Y,Y] rfl rfl (one_of HT_.out (by kernel_rfl)) (by decide) (fun K hK => ?_)
     refine skip_ (w1 := ?_) (by rfl) rfl ?_ ?_
     rotate_left
     ·go_simp
      rfl
     refine hK.out _ _ ?_
     clear hK K
     refine done_ (done_of HT_.out (by kernel_rfl)) ?_
     clear hHeld f19 k19
     have hrl : (rows2 ++ [[Value.int .i64 1, .int .i64 z.1, .string z.2, .int .i64 0, .int .i64 0, .slice none 0 0, .slice none 0 0]]).length = rows2.length + 1 := by simp
     rw [hrl] at HR9
     have HEF := Aside0.mk (HE.out.act HR9.out HG9.out (fun r hr => by
      rcases List.mem_append.1 hr with h | h
      ·exact HE.out.ok r h
      ·rw [List.mem_singleton.1 h]
       exact .inr ⟨z.1, z.2, rfl⟩))
     have HKA := Aside0.mk (fun v => HE.out.actKf (va' := v) HG9.out)
     have HF2 := Aside0.mk (show (rows2 ++ [[Value.int .i64 1, .int .i64 z.1, .string z.2, .int .i64 0, .int .i64 0, .slice none 0 0, .slice none 0 0]]).flatMap tk = rows3.flatMap tk ∧ (rows2 ++ [[Value.int .i64 1, .int .i64 z.1, .string z.2, .int .i64 0, .int .i64 0, .slice none 0 0, .slice none 0 0]]).length = rows3.length + (j + 1) from ⟨by rw [List.flatMap_append, HF.out.1]; simp [tk], by rw [hrl, HF.out.2]; omega⟩)
     have a9 := HA9.out
     have hjl := HJ.out
     clear hrl
     go_wp2
     go_roundw
     case rel => exact ⟨j + 1, _, _, by go_num, hjl, HF2, HEF, ⟨HK.out.trans (HKA.out _)⟩, ⟨R_kf HRI5.out (HKA.out _) (by decide)⟩⟩
     case measure => first | (rw [a9]; exact meas _ _ hjl) | exact meas _ _ hjl
    ·have q1 : decide ((j : Int) < (is.length : Int)) = false := decide_eq_false (by omega)
     have HFF := Aside0.mk (show rows2.length ≤ rows.length + 9 by have := HF.out.2; have := HR3.out; omega)
     go_wp2
     go_end0
     exact ⟨rfl, ⟨f2, su2, va2, rows2, HE0.out, HNB.out.1, by rw [HF.out.1]; exact HNB.out.2, HFF.out⟩, HK0.out⟩
end
theorem do1.calls {w : World} {a0 a2 gs : Nat} {A : Option Addr} {n c : Nat} {cs : Array Value} {t0 t2 : Nat} (h0 : w.heap[a0]? = some (.cells #[.pointer (some ⟨gs, 0, none⟩)] t0 (0, 0))) (hg : w.heap[gs]? = some (.cells cs 108 (0, 0))) (hc : cs[19]? = some (.slice A n c)) (h2 : w.heap[a2]? = some (.cells #[.slice none 0 0] t2 (0, 0))) (hne : ¬ a2 = gs) (h02 : ¬ a2 = a0) (u : FrameMode) : CallsD Tryz.prog 58 #[.pointer (some ⟨a0, 0, none⟩), .pointer (some ⟨a2, 0, none⟩)] u w fun e u' w' => u' = u ∧ (e = .returned (.tuple #[]) ∧ w' = ((w.setCell ⟨a2, 0, none⟩ (.slice A n c)).setCell ⟨gs, 19, none⟩ (.slice none 0 0)).drew) := by
 have k0 : w.cell? ⟨a0, 0, none⟩ = some (.pointer (some ⟨gs, 0, none⟩)) := (blk_cell h0 0).trans rfl
 have k1 : w.cell? ⟨gs, 19, none⟩ = some (.slice A n c) := (blk_cell hg 19).trans hc
 have k2 : w.cell? ⟨a2, 0, none⟩ = some (.slice none 0 0) := (blk_cell h2 0).trans rfl
 have f1 := blk_frozen hg 19
 have f2 := blk_frozen h2 0
 have hne2 : ¬ gs = a2 := fun e => hne e.symm
 clear h0 hg hc h2
 go_enter_d Tryz.func58, Tryz.ntmps58
 go_wp2
 go_region
 go_wp2
 go_end0
 exact ⟨rfl, rfl⟩
theorem map4 (T E : TypeId) (hT : Tryz.prog.underlying T = some (.map 3 E)) (w : World) (f1 f2 f3 f4 : Value) : ∃ w1 w2 w3 w4, ((Instr.mapUpdate T (.map (some w.heap.size)) (.int .i64 1) f1).run Tryz.prog (w.alloc (.map #[] 0)) = .ok () w1 ∧ (Instr.mapUpdate T (.map (some w.heap.size)) (.int .i64 2) f2).run Tryz.prog w1 = .ok () w2 ∧ (Instr.mapUpdate T (.map (some w.heap.size)) (.int .i64 3) f3).run Tryz.prog w2 = .ok () w3 ∧ (Instr.mapUpdate T (.map (some w.heap.size)) (.int .i64 4) f4).run Tryz.prog w3 = .ok () w4) ∧ (Below w.heap.size w (w.alloc (.map #[] 0)) ∧ Below w.heap.size w w1 ∧ Below w.heap.size w w2 ∧ Below w.heap.size w w3 ∧ Below w.heap.size w w4) ∧ ∃ s pl, MV 3 w4 w.heap.size s pl ∧ pl (.int .i64 1) = some f1 ∧ pl (.int .i64 2) = some f2 := by
 have kk : ∀ a : Int, WideAt.IsKeyLit (.int .i64 a) := fun a => by simp [WideAt.IsKeyLit]
 have b0 := below_alloc (Below.refl w.heap.size w) (.map #[] 0)
 obtain ⟨w1, r1, m1, g1⟩ := (MV.new 3 w).put lawI hT (by omega) (keyI (a := 1) (by omega) (by omega)) (kk _) f1
 have b1 := below_go b0 (below_of_grown g1 (Nat.le_refl _) b0.size)
 obtain ⟨w2, r2, m2, g2⟩ := m1.put lawI hT (by split <;> omega) (keyI (a := 2) (by omega) (by omega)) (kk _) f2
 have b2 := below_go b1 (below_of_grown g2 (Nat.le_refl _) b1.size)
 obtain ⟨w3, r3, m3, g3⟩ := m2.put lawI hT (by split <;> split <;> omega) (keyI (a := 3) (by omega) (by omega)) (kk _) f3
 have b3 := below_go b2 (below_of_grown g3 (Nat.le_refl _) b2.size)
 obtain ⟨w4, r4, m4, g4⟩ := m3.put lawI hT (by split <;> split <;> split <;> omega) (keyI (a := 4) (by omega) (by omega)) (kk _) f4
 exact ⟨w1, w2, w3, w4, ⟨r1, r2, r3, r4⟩, ⟨b0, b1, b2, b3, below_go b3 (below_of_grown g4 (Nat.le_refl _) b3.size)⟩, _, _, m4, by simp [updM], by simp [updM]⟩
theorem zeroFE (w : World) : (zeroValue 128).run Tryz.prog w = .ok .nilFunc w := by kernel_rfl
section
variable {w0 : World} {N0 : Nat} {w w' : World} {gs gx gt gf mx : Nat} {Z U : Nat → Prop} {P : PL} {xs : List Nd} {now gv : Nat} {f : Nat → Int × Int} {su : Nat → Value} {va : Value} {rows : List (List Value)} {b : Nat}
theorem SE.clear (h : SE w0 N0 w gs gx gt gf mx Z U P xs now gv f su va rows b) : SE w0 N0 (w.setCell ⟨gs, 19, none⟩ (.slice none 0 0)) gs gx gt gf mx Z U P xs now gv f su (.slice none 0 0) [] b :=
 have hk : Kf N0 [108] (fun _ => False) w (w.setCell ⟨gs, 19, none⟩ (.slice none 0 0)) := Kf.grown (grown_set w gs 19 _) h.blk (by simp) h.low.1
 { h with
  blk := blk_put h.blk 19 _ rfl
  ib := hk.blk h.ib (by decide)
  im := h.im.kf hk (fun e => e)
  tb := hk.blk h.tb (by decide)
  fz := h.fz.kf hk (by decide) (fun _ e => e.elim)
  us := fun i hi hu' => by
   obtain ⟨gu, h1, h2⟩ := h.us i hi hu'
   exact ⟨gu, h1, h2.kf hk (by decide) (by decide)⟩
  ra := Kd.R_nil _ _ _ _ _
  ok := fun _ h => by cases h }
set_option maxRecDepth 100000 in
set_option maxHeartbeats 1000000 in
theorem service.Do.gen {fid : FuncId} {fnc : Func} {kd t : Int} {A : Option Addr} {n c now' gv' b' : Nat} {Q1 : World → Prop} {R : (Nat → Int × Int) → List (List Value) → Prop} (h : SE w0 N0 w gs gx gt gf mx Z (fun j => busy f (P.t : Int) j = true) P xs now gv f su (.slice none 0 0) [] b) (hN : N0 ≤ w.heap.size) (hW : Below w0.heap.size w0 w) (hNW : w0.heap.size ≤ N0)
  (hf : Tryz.prog.funcs[fid]? = some fnc) (hname : (fnc.name == "runtime.NumGoroutine") = false) (hb : fnc.body.isSome = true) (hkf : kd = 1 ∧ fid = 59 ∨ kd = 2 ∧ fid = 60)
  (hck : ∀ W, Below w0.heap.size w0 W → Calls Tryz.prog 57 #[.agg #[.int .i64 kd, .slice A n c, .int .i64 t, .int .i64 0, .slice none 0 0]] W fun e w' => e = .returned (.bool true) ∧ Below W.heap.size W w')
  (hev : ∀ W, SE w0 N0 W gs gx gt gf mx Z (fun j => busy f (P.t : Int) j = true) P xs now gv f su (.slice none 0 0) [] b → N0 ≤ W.heap.size → Below w0.heap.size w0 W → Calls Tryz.prog fid #[.pointer (some ⟨gs, 0, none⟩), .agg #[.int .i64 kd, .slice A n c, .int .i64 t, .int .i64 0, .slice none 0 0]] W fun e w' => e = .returned (.int .i64 0) ∧ Q1 w' ∧ Kf N0 ST (fun k => ¬ Z k) W w')
  (hon : ∀ W, Q1 W → N0 ≤ W.heap.size → Below w0.heap.size w0 W → Calls Tryz.prog 63 #[.pointer (some ⟨gs, 0, none⟩)] W fun e w' => e = .returned (.tuple #[]) ∧ (∃ f' su' va' rows', SE w0 N0 w' gs gx gt gf mx Z (fun j => busy f' (P.t : Int) j = true) P xs now' gv' f' su' va' rows' b' ∧ R f' rows') ∧ Kf N0 ST (fun k => ¬ Z k) W w') :
  Calls Tryz.prog 23 #[.pointer (some ⟨gs, 0, none⟩), .agg #[.int .i64 kd, .slice A n c, .int .i64 t, .int .i64 0, .slice none 0 0]] w fun e w' => ∃ v f' su' rows', e = .returned (.tuple #[v, .int .i64 0]) ∧ (Kd.raw 7).R 131 w' N0 (fun _ => True) v rows' ∧ (∀ r ∈ rows', AOk r) ∧ SE w0 N0 w' gs gx gt gf mx Z (fun j => busy f' (P.t : Int) j = true) P xs now' gv' f' su' (.slice none 0 0) [] b' ∧ R f' rows' ∧ Kf N0 ST (fun k => ¬ Z k) w w' := by
 have hb1 := below_alloc (Below.refl w.heap.size w) (.cells #[.pointer (some ⟨gs, 0, none⟩)] 60)
 have ha1 := blk_new w (.cells #[.pointer (some ⟨gs, 0, none⟩)] 60)
 have e1 : (w.alloc (.cells #[.pointer (some ⟨gs, 0, none⟩)] 60)).heap.size = w.heap.size + 1 := by simp
 have hk1 : Kf N0 ST (fun k => ¬ Z k) w _ := Kf.below hb1
 have hmm := @run_makeMap Tryz.prog
 have hmf := makeFn
 have HF := Aside0.mk (And.intro hf (And.intro hname hb))
 have HCK := Aside0.mk hck
 have HEV := Aside0.mk hev
 have HON := Aside0.mk hon
 have HE3 := Aside0.mk (h.below (below_alloc (below_alloc hb1 (.cells #[.int .i64 kd, .slice A n c, .int .i64 t, .int .i64 0, .slice none 0 0] 68)) (.cells #[.slice none 0 0] 77)))
 have HK3 := Aside0.mk (show Kf N0 ST (fun k => ¬ Z k) w _ from Kf.below (below_alloc (below_alloc hb1 (.cells #[.int .i64 kd, .slice A n c, .int .i64 t, .int .i64 0, .slice none 0 0] 68)) (.cells #[.slice none 0 0] 77)))
 have HLO := Aside0.mk (And.intro hN (And.intro hW hNW))
 have HKF := Aside0.mk hkf
 have HA3 := Aside0.mk (show (((w.alloc (.cells #[.pointer (some ⟨gs, 0, none⟩)] 60)).alloc (.cells #[.int .i64 kd, .slice A n c, .int .i64 t, .int .i64 0, .slice none 0 0] 68)).alloc (.cells #[.slice none 0 0] 77)).heap[w.heap.size]? = some (.cells #[.pointer (some ⟨gs, 0, none⟩)] 60 (0, 0)) ∧ (((w.alloc (.cells #[.pointer (some ⟨gs, 0, none⟩)] 60)).alloc (.cells #[.int .i64 kd, .slice A n c, .int .i64 t, .int .i64 0, .slice none 0 0] 68)).alloc (.cells #[.slice none 0 0] 77)).heap[w.heap.size + 1]? = some (.cells #[.int .i64 kd, .slice A n c, .int .i64 t, .int .i64 0, .slice none 0 0] 68 (0, 0)) ∧ (((w.alloc (.cells #[.pointer (some ⟨gs, 0, none⟩)] 60)).alloc (.cells #[.int .i64 kd, .slice A n c, .int .i64 t, .int .i64 0, .slice none 0 0] 68)).alloc (.cells #[.slice none 0 0] 77)).heap[w.heap.size + 1 + 1]? = some (.cells #[.slice none 0 0] 77 (0, 0)) from by
  have h2 := blk_new (w.alloc (.cells #[.pointer (some ⟨gs, 0, none⟩)] 60)) (.cells #[.int .i64 kd, .slice A n c, .int .i64 t, .int .i64 0, .slice none 0 0] 68)
  rw [e1] at h2
  have b2 := below_alloc (Below.refl _ (w.alloc (.cells #[.pointer (some ⟨gs, 0, none⟩)] 60))) (.cells #[.int .i64 kd, .slice A n c, .int .i64 t, .int .i64 0, .slice none 0 0] 68)
  have b3 := below_alloc (Below.refl _ ((w.alloc (.cells #[.pointer (some ⟨gs, 0, none⟩)] 60)).alloc (.cells #[.int .i64 kd, .slice A n c, .int .i64 t, .int .i64 0, .slice none 0 0] 68))) (.cells #[.slice none 0 0] 77)
  have h3 := blk_new ((w.alloc (.cells #[.pointer (some ⟨gs, 0, none⟩)] 60)).alloc (.cells #[.int .i64 kd, .slice A n c, .int .i64 t, .int .i64 0, .slice none 0 0] 68)) (.cells #[.slice none 0 0] 77)
  rw [show ((w.alloc (.cells #[.pointer (some ⟨gs, 0, none⟩)] 60)).alloc (.cells #[.int .i64 kd, .slice A n c, .int .i64 t, .int .i64 0, .slice none 0 0] 68)).heap.size = w.heap.size + 1 + 1 by simp] at h3
  exact ⟨blk_below (blk_below ha1 b2) b3, blk_below h2 b3, h3⟩)
 have hlt := blk_lt h.blk
 clear h hN hW hNW hf hname hb hkf hck hev hon hb1 ha1 e1 hk1
 go_enter_defers Tryz.func23, Tryz.ntmps23
 go_wp2_with fail
 generalize ((w.alloc (.cells #[.pointer (some ⟨gs, 0, none⟩)] 60)).alloc (.cells #[.int .i64 kd, .slice A n c, .int .i64 t, .int .i64 0, .slice none 0 0] 68)).alloc (.cells #[.slice none 0 0] 77) = w3 at HE3 HK3 HA3 ⊢
 generalize ha2 : w.heap.size + 1 + 1 = a2 at HA3 ⊢
 generalize ha1 : w.heap.size + 1 = a1 at HA3 ⊢
 generalize ha0 : w.heap.size = a0 at HA3 ⊢
 have HNE := Aside0.mk (show ¬ a2 = gs ∧ ¬ a2 = a0 ∧ N0 ≤ a2 ∧ w.heap.size ≤ a2 from ⟨by omega, by omega, by have := HLO.out.1; omega, by omega⟩)
 clear ha2 ha1 ha0 hlt
 refine (HCK.out w3 (HLO.out.2.1.trans ((HK3.out.toBelow HLO.out.1).mono HLO.out.2.2))).mono ?_
 rintro e w4 ⟨rfl, hb4⟩
 obtain ⟨w5, w6, w7, w8, ⟨r5, r6, r7, r8⟩, ⟨b0, b5, b6, b7, b8⟩, s, pl, hm8, hp1, hp2⟩ := map4 129 _ Tryz.underlying129 w4 (.func (.func 59) #[.pointer (some ⟨gs, 0, none⟩)] #[]) (.func (.func 60) #[.pointer (some ⟨gs, 0, none⟩)] #[]) (.func (.func 61) #[.pointer (some ⟨gs, 0, none⟩)] #[]) (.func (.func 62) #[.pointer (some ⟨gs, 0, none⟩)] #[])
 have hA0 := blk_below HA3.out.1 hb4
 have x4 : (w4.alloc (.map #[] 0)).cell? ⟨a0, 0, none⟩ = some (.pointer (some ⟨gs, 0, none⟩)) := (blk_cell (blk_below hA0 b0) 0).trans rfl
 have x5 : w5.cell? ⟨a0, 0, none⟩ = some (.pointer (some ⟨gs, 0, none⟩)) := (blk_cell (blk_below hA0 b5) 0).trans rfl
 have x6 : w6.cell? ⟨a0, 0, none⟩ = some (.pointer (some ⟨gs, 0, none⟩)) := (blk_cell (blk_below hA0 b6) 0).trans rfl
 have x7 : w7.cell? ⟨a0, 0, none⟩ = some (.pointer (some ⟨gs, 0, none⟩)) := (blk_cell (blk_below hA0 b7) 0).trans rfl
 have hb38 := below_step hb4 b8
 have HA8 := Aside0.mk (And.intro (blk_below HA3.out.1 hb38) (And.intro (blk_below HA3.out.2.1 hb38) (blk_below HA3.out.2.2 hb38)))
 have HE8 := Aside0.mk (HE3.out.below hb38)
 have HK8 := Aside0.mk (HK3.out.trans (Kf.below hb38))
 have y0 : w8.cell? ⟨a1, 0, none⟩ = some (.int .i64 kd) := (blk_cell HA8.out.2.1 0).trans rfl
 have y1 : w8.cell? ⟨a1, 1, none⟩ = some (.slice A n c) := (blk_cell HA8.out.2.1 1).trans rfl
 have y2 : w8.cell? ⟨a1, 2, none⟩ = some (.int .i64 t) := (blk_cell HA8.out.2.1 2).trans rfl
 have y3 : w8.cell? ⟨a1, 3, none⟩ = some (.int .i64 0) := (blk_cell HA8.out.2.1 3).trans rfl
 have y4 : w8.cell? ⟨a1, 4, none⟩ = some (.slice none 0 0) := (blk_cell HA8.out.2.1 4).trans rfl
 have hl : (Instr.lookup 129 (.map (some w4.heap.size)) (.int .i64 kd) false).run Tryz.prog w8 = .ok (.func (.func fid) #[.pointer (some ⟨gs, 0, none⟩)] #[]) w8 := by
  rcases HKF.out with ⟨rfl, rfl⟩ | ⟨rfl, rfl⟩
  ·have h1 := hm8.look1 lawI Tryz.underlying129 zeroFE (keyI (a := 1) (by omega) (by omega)) (by simp [WideAt.IsKeyLit])
   rw [hp1] at h1
   exact h1
  ·have h1 := hm8.look1 lawI Tryz.underlying129 zeroFE (keyI (a := 2) (by omega) (by omega)) (by simp [WideAt.IsKeyLit])
   rw [hp2] at h1
   exact h1
 clear hb4 b0 b5 b6 b7 b8 hb38 hm8 hp1 hp2 hA0 HA3 HE3 HK3
 go_wp2_with fail
 refine goesU_ HF.out.1 HF.out.2.1 HF.out.2.2 _ ?_
 refine (HEV.out w8 HE8.out (Nat.le_trans HLO.out.1 HK8.out.size) (HLO.out.2.1.trans ((HK8.out.toBelow HLO.out.1).mono HLO.out.2.2))).mono ?_
 rintro e w9 ⟨rfl, hq9, hk9⟩
 refine ⟨_, rfl, ?_⟩
 have HK9 := Aside0.mk (HK8.out.trans hk9)
 have HA9 := Aside0.mk (And.intro (hk9.blk HA8.out.1 (by decide)) (hk9.blk HA8.out.2.2 (by decide)))
 have HON9 := Aside0.mk (HON.out w9 hq9 (Nat.le_trans HLO.out.1 HK9.out.size) (HLO.out.2.1.trans ((HK9.out.toBelow HLO.out.1).mono HLO.out.2.2)))
 have x9 : w9.cell? ⟨a0, 0, none⟩ = some (.pointer (some ⟨gs, 0, none⟩)) := (blk_cell HA9.out.1 0).trans rfl
 clear hq9 hk9 HE8 HK8 HA8 x4 x5 x6 x7 y0 y1 y2 y3 y4 hl r5 r6 r7 r8 HEV HON HCK
 go_wp2_with fail
 refine HON9.out.mono ?_
 rintro e w10 ⟨rfl, ⟨f', su', va', rows', he10, hR⟩, hk10⟩
 obtain ⟨Av, cv, rfl⟩ := Kd.R_slice he10.ra
 have HE10 := Aside0.mk he10
 have HR := Aside0.mk hR
 have HK10 := Aside0.mk (HK9.out.trans hk10)
 have hA0 := hk10.blk HA9.out.1 (by decide)
 have hA2 := hk10.blk HA9.out.2 (by decide)
 have k2 : w10.cell? ⟨a2, 0, none⟩ = some (.slice none 0 0) := (blk_cell hA2 0).trans rfl
 have f2 := blk_frozen hA2 0
 have g11 := grown_set w10 a2 0 (.slice none 0 0)
 have hk11 : Kf N0 [77] (fun _ => False) w10 (w10.setCell ⟨a2, 0, none⟩ (.slice none 0 0)) := Kf.grown g11 hA2 (by simp) HNE.out.2.2.1
 have HE11 := Aside0.mk (HE10.out.kf hk11 (by decide) (fun _ h => h.elim))
 have HA11 := Aside0.mk (show (w10.setCell ⟨a2, 0, none⟩ (.slice none 0 0)).heap[a0]? = some (.cells #[.pointer (some ⟨gs, 0, none⟩)] 60 (0, 0)) ∧ (w10.setCell ⟨a2, 0, none⟩ (.slice none 0 0)).heap[a2]? = some (.cells #[.slice none 0 0] 77 (0, 0)) from ⟨hk11.blk hA0 (by decide), blk_put hA2 0 _ rfl⟩)
 have HK11 := Aside0.mk (HK10.out.new g11 HNE.out.2.2.2)
 clear he10 hR hk10 hA0 hA2 g11 hk11 HE10 HK10 HK9 HA9 x9 HON9
 go_wp2
 clear k2 f2
 generalize w10.setCell ⟨a2, 0, none⟩ (.slice none 0 0) = w11 at HE11 HA11 HK11 ⊢
 refine leaves_cons (f := 58) (args := #[.pointer (some ⟨a0, 0, none⟩), .pointer (some ⟨a2, 0, none⟩)]) (by simp) (by simp [go_sem]) ?_
 refine (do1.calls HA11.out.1 HE11.out.blk rfl HA11.out.2 HNE.out.1 HNE.out.2.1 .returning).mono ?_
 rintro e u' w12 ⟨rfl, rfl, rfl⟩
 have g12 := grown_set w11 a2 0 (.slice Av rows'.length cv)
 have hk12 : Kf N0 [77] (fun _ => False) w11 (w11.setCell ⟨a2, 0, none⟩ (.slice Av rows'.length cv)) := Kf.grown g12 HA11.out.2 (by simp) HNE.out.2.2.1
 have hE12 := HE11.out.kf hk12 (by decide) (fun _ h => h.elim)
 have hk13 : Kf N0 [108] (fun _ => False) (w11.setCell ⟨a2, 0, none⟩ (.slice Av rows'.length cv)) ((w11.setCell ⟨a2, 0, none⟩ (.slice Av rows'.length cv)).setCell ⟨gs, 19, none⟩ (.slice none 0 0)) := Kf.grown (grown_set _ gs 19 _) hE12.blk (by simp) hE12.low.1
 have hdr := below_drew (Below.refl ((w11.setCell ⟨a2, 0, none⟩ (.slice Av rows'.length cv)).setCell ⟨gs, 19, none⟩ (.slice none 0 0)).heap.size ((w11.setCell ⟨a2, 0, none⟩ (.slice Av rows'.length cv)).setCell ⟨gs, 19, none⟩ (.slice none 0 0)))
 have hE13 := hE12.clear.below hdr
 have hR13 := Kd.R_below (R_kf hE12.ra hk13 (by decide)) hdr
 have hK13 := ((HK11.out.new g12 HNE.out.2.2.2).trans (hk13.toST (Z := Z) (by decide) (fun _ h => h.elim))).trans (Kf.below hdr)
 have c2 : ((w11.setCell ⟨a2, 0, none⟩ (.slice Av rows'.length cv)).setCell ⟨gs, 19, none⟩ (.slice none 0 0)).drew.cell? ⟨a2, 0, none⟩ = some (.slice Av rows'.length cv) := (blk_cell (blk_below (hk13.blk (blk_put HA11.out.2 0 _ rfl) (by decide)) hdr) 0).trans rfl
 generalize ((w11.setCell ⟨a2, 0, none⟩ (.slice Av rows'.length cv)).setCell ⟨gs, 19, none⟩ (.slice none 0 0)).drew = w13 at hE13 hR13 hK13 c2 ⊢
 refine ⟨.tuple #[.slice Av rows'.length cv, .int .i64 0], ?_, _, f', su', rows', rfl, hR13, hE12.ok, hE13, HR.out, hK13⟩
 simp [results, Tryz.results23, go_sem, c2]
end
structure INV (xs : List Nd) (t now gv E : Nat) (f : Nat → Int × Int) (n : Nat) : Prop where
 cnt : n + (taken f (t : Int) t).length = gv
 en : ∀ k, k < 8 → busy f (t : Int) k = true → (now : Int) < (f k).2 ∧ (f k).2 ≤ (E : Int)
 nl : xs = [] → ∀ k, k < 8 → busy f (t : Int) k = false
def KO (xs : List Nd) (l : List Int) : Prop := ∀ k ∈ l, (k = 4 ∨ k = 5 ∨ xs = []) ∧ (xs = [] → k = 1)
theorem taken_upd (f : Nat → Int × Int) (n : Int) (i : Nat) (v : Int × Int) (hi : (i : Int) < n) (hb : busy f n i = false) (hv : v.1 ≠ 0) : ∀ k, (taken (updT f i v) n k).length = (taken f n k).length + (if i < k then 1 else 0) := by
 have hu : busy (updT f i v) n i = true := by unfold busy updT; simp [hi, hv]
 intro k
 induction k with
 | zero => rfl
 | succ k ih =>
  unfold taken
  rw [List.length_append, List.length_append, ih]
  by_cases e : k = i
  ·subst e
   rw [hu, hb]
   simp
  ·have h2 : busy (updT f i v) n k = busy f n k := busy_eq (by unfold updT; rw [if_neg e])
   rw [h2]
   by_cases h3 : i < k
   ·have h4 : i < k + 1 := by omega
    simp only [h3, h4, if_true]; omega
   ·have h4 : ¬ i < k + 1 := by omega
    simp only [h3, h4, if_false, Nat.add_zero]
theorem taken_zero (f : Nat → Int × Int) (n : Int) : ∀ k, (∀ j, j < k → busy f n j = false) → taken f n k = [] := by
 intro k
 induction k with
 | zero => intro _; rfl
 | succ k ih =>
  intro h
  unfold taken
  rw [ih (fun j hj => h j (by omega)), h k (by omega)]
  rfl
theorem free_spec (f : Nat → Int × Int) (d : Nat) : ∀ i k, free f d i = some k → f k = (0, 0) := by
 induction d with
 | zero => intro i k h; cases h
 | succ d ih =>
  intro i k h
  rw [free_succ] at h
  by_cases hz : (f i).1 = 0 ∧ (f i).2 = 0
  ·rw [if_pos hz] at h
   injection h with h
   subst h
   exact Prod.ext hz.1 hz.2
  ·rw [if_neg hz] at h
   exact ih _ _ h
theorem until_small (now ticks : Nat) (h1 : 1 ≤ ticks) (h2 : now + ticks ≤ 100000) : until_ (now : Int) (ticks : Int) = ((now + ticks : Nat) : Int) := by
 unfold until_
 rw [if_pos (by omega), held_small (now : Int) (by omega) (by omega), held_small (ticks : Int) (by omega) (by omega), held_small _ (by omega) (by omega)]
 omega
theorem INV.ask {xs : List Nd} {t now gv E E' n ticks : Nat} {f f' : Nat → Int × Int} {rows : List (List Value)} (h : INV xs t now gv E f n) (hx : xs ≠ []) (ht : 1 ≤ t ∧ t ≤ 8) (hE : now + ticks ≤ E') (hEE : E ≤ E') (htk : 1 ≤ ticks) (hbd : E' ≤ 100000) (har : AR f f' [] rows (now : Int) (ticks : Int) gv t) : INV xs t now (gv + 1) E' f' (n + (rows.flatMap tk).length) ∧ KO xs (rows.flatMap tk) := by
 rcases har with ⟨h1, h2, h3⟩ | ⟨i, h1, h2, h3⟩
 ·subst h2
  subst h3
  have e : ([] ++ [told ((gv + 1 : Nat) : Int) 5 none 0]).flatMap tk = [5] := rfl
  rw [e]
  exact ⟨⟨by have := h.cnt; simp; omega, fun k hk hb => by have := h.en k hk hb; omega, fun e => absurd e hx⟩, fun k hk => ⟨.inr (.inl (List.mem_singleton.1 hk)), fun e => absurd e hx⟩⟩
 ·subst h2
  subst h3
  have hz := free_spec f t 0 i h1
  have hlt := free_lt f t 0 i h1
  have hb : busy f (t : Int) i = false := busy_zero hz
  refine ⟨⟨?_, fun k hk hbk => ?_, fun e => absurd e hx⟩, fun k hk => by cases hk⟩
  ·rw [taken_upd f (t : Int) i _ (by omega) hb (by simp; omega) t, if_pos (by omega)]
   have := h.cnt
   simp
   omega
  ·rcases busy_upd _ _ _ _ _ hbk with e | ⟨e, hb2⟩
   ·subst e
    unfold updT
    rw [if_pos rfl, until_small now ticks htk (by omega)]
    simp only []
    omega
   ·have := h.en k hk hb2
    unfold updT
    rw [if_neg e]
    omega
theorem INV.askN {t now gv E n ticks : Nat} {f f1 : Nat → Int × Int} {rows : List (List Value)} (h : INV [] t now gv E f n) (ht : 1 ≤ t ∧ t ≤ 8) (har : AR f f1 [] rows (now : Int) (ticks : Int) gv t) : (taken f1 (t : Int) t).length = 1 ∧ rows.flatMap tk = [] ∧ n = gv := by
 have h0 := taken_zero f (t : Int) t (fun j hj => h.nl rfl j (by omega))
 have hc := h.cnt
 rw [h0] at hc
 rcases har with ⟨h1, h2, h3⟩ | ⟨i, h1, h2, h3⟩
 ·exfalso
  have hb := h.nl rfl 0 (by omega)
  unfold busy at hb
  have hz : (f 0).1 = 0 ∧ (f 0).2 = 0 := by
   simp at hb
   exact hb (by omega)
  obtain ⟨d, rfl⟩ : ∃ d, t = d + 1 := ⟨t - 1, by omega⟩
  rw [free_succ, if_pos hz] at h1
  cases h1
 ·subst h2
  subst h3
  have hlt := free_lt f t 0 i h1
  refine ⟨?_, rfl, by simpa using hc⟩
  rw [taken_upd f (t : Int) i _ (by omega) (h.nl rfl i (by omega)) (by simp; omega) t, if_pos (by omega), h0]
  rfl
theorem filter_split {α : Type} (p : α → Bool) (l : List α) : (l.filter p).length + (l.filter (fun x => !p x)).length = l.length := by
 induction l with
 | nil => rfl
 | cons x l ih =>
  cases hp : p x
  ·rw [List.filter_cons_of_neg (by simp [hp]), List.filter_cons_of_pos (by simp [hp])]
   simp only [List.length_cons]
   omega
  ·rw [List.filter_cons_of_pos hp, List.filter_cons_of_neg (by simp [hp])]
   simp only [List.length_cons]
   omega
theorem taken_filter (f f' : Nat → Int × Int) (n : Int) (p : Int → Bool) (h : ∀ k, k < 8 → busy f' n k = (busy f n k && p (k : Int))) : ∀ k, k ≤ 8 → taken f' n k = (taken f n k).filter p := by
 intro k
 induction k with
 | zero => intro _; rfl
 | succ k ih =>
  intro hk
  unfold taken
  rw [List.filter_append, ih (by omega), h k (by omega)]
  cases busy f n k <;> cases hp : p (k : Int) <;> simp [hp]
theorem INV.tick {xs : List Nd} {t now gv E n : Nat} {f f1 : Nat → Int × Int} {rows : List (List Value)} (h : INV xs t now gv E f n) (ht : 1 ≤ t ∧ t ≤ 8) (hbd : E ≤ 100000 ∧ now < 100000) (htr : TR f f1 [] rows (now + 1) t) : INV xs t (now + 1) gv E f1 (n + (rows.flatMap tk).length) ∧ KO xs (rows.flatMap tk) ∧ (rows.flatMap tk ≠ [] → now + 1 ≤ E) := by
 obtain ⟨ys, h1, h2, h3, h4⟩ := htr
 have e3 : rows.flatMap tk = List.replicate ys.length 4 := by rw [h3]; rfl
 have hst : ∀ k : Nat, k < 8 → busy f (t : Int) k = true → (stay f ((now + 1 : Nat) : Int) (k : Int) = true ↔ ((now + 1 : Nat) : Int) < (f k).2) := fun k hk hb => by
  have h5 := h.en k hk hb
  unfold stay
  rw [Int.toNat_natCast, held_small (f k).2 (by omega) (by omega), held_small _ (by omega) (by omega)]
  have : ((f k).2 == 0) = false := beq_eq_false_iff_ne.2 (by omega)
  rw [this]
  simp
 have hmem : ∀ k : Nat, k < 8 → ((k : Int) ∈ ys ↔ busy f (t : Int) k = true ∧ stay f ((now + 1 : Nat) : Int) (k : Int) = false) := fun k hk => by
  rw [h1.mem_iff, List.mem_filter, taken_mem]
  constructor
  ·rintro ⟨⟨j, e, hj, hb⟩, hs⟩
   have : j = k := by omega
   subst this
   exact ⟨hb, by simpa using hs⟩
  ·rintro ⟨hb, hs⟩
   refine ⟨⟨k, rfl, ?_, hb⟩, show (!stay f ((now + 1 : Nat) : Int) (k : Int)) = true from by rw [hs]; rfl⟩
   unfold busy at hb
   simp at hb
   omega
 have hbz : ∀ k, k < 8 → busy f1 (t : Int) k = (busy f (t : Int) k && stay f ((now + 1 : Nat) : Int) (k : Int)) := fun k hk => by
  by_cases hm : (k : Int) ∈ ys
  ·have := (hmem k hk).1 hm
   rw [busy_zero (by rw [h2 k hk, if_pos hm]), this.2]
   simp
  ·rw [busy_eq (f := f) (by rw [h2 k hk, if_neg hm])]
   cases hb : busy f (t : Int) k with
   | false => rfl
   | true =>
    cases hs : stay f ((now + 1 : Nat) : Int) (k : Int) with
    | true => rfl
    | false => exact absurd ((hmem k hk).2 ⟨hb, hs⟩) hm
 have htf := taken_filter f f1 (t : Int) (stay f ((now + 1 : Nat) : Int)) hbz t ht.2
 have hsp := filter_split (stay f ((now + 1 : Nat) : Int)) (taken f (t : Int) t)
 have hyl := h1.length_eq
 refine ⟨⟨?_, fun k hk hb => ?_, fun e k hk => ?_⟩, fun k hk => ?_, fun hne => ?_⟩
 ·rw [htf, e3, List.length_replicate]
  have := h.cnt
  omega
 ·rw [hbz k hk] at hb
  simp only [Bool.and_eq_true] at hb
  have h6 := (hst k hk hb.1).1 hb.2
  have h7 := h.en k hk hb.1
  have hm : (k : Int) ∉ ys := fun hm => by rw [((hmem k hk).1 hm).2] at hb; exact absurd hb.2 (by decide)
  rw [h2 k hk, if_neg hm]
  omega
 ·rw [hbz k hk, h.nl e k hk]
  rfl
 ·rw [e3] at hk
  refine ⟨.inl (List.eq_of_mem_replicate hk), fun e => ?_⟩
  have h8 := taken_zero f (t : Int) t (fun j hj => h.nl e j (by omega))
  rw [h8] at hyl
  rw [show ys.length = 0 from hyl] at hk
  cases hk
 ·rw [e3] at hne
  cases ys with
  | nil => exact absurd rfl hne
  | cons y l =>
   have hy := h1.mem_iff.1 (List.mem_cons_self (a := y) (l := l))
   obtain ⟨hy1, hy2⟩ := List.mem_filter.1 hy
   obtain ⟨k, rfl, hk, hb⟩ := (taken_mem f _ _ _).1 hy1
   have h5 := h.en k (by omega) hb
   have h6 := hst k (by omega) hb
   have h7 : ¬ ((now + 1 : Nat) : Int) < (f k).2 := fun e => by rw [h6.2 e] at hy2; exact absurd hy2 (by decide)
   omega
theorem INV.start (xs : List Nd) (t : Nat) : INV xs t 0 0 0 (fun _ => (0, 0)) 0 :=
 ⟨by rw [taken_zero _ _ _ (fun j _ => busy_zero rfl)]; rfl, fun k _ hb => by rw [busy_zero (f := fun _ => ((0 : Int), (0 : Int))) rfl] at hb; exact absurd hb (by decide), fun _ k _ => busy_zero rfl⟩
def GO (xs : List Nd) (t now gv E n : Nat) (f : Nat → Int × Int) (rows : List (List Value)) : Prop := INV xs t now gv E f (n + (rows.flatMap tk).length) ∧ KO xs (rows.flatMap tk) ∧ (rows.flatMap tk ≠ [] → now ≤ E)
theorem GO.cong {xs : List Nd} {t now gv E n : Nat} {f : Nat → Int × Int} {r r' : List (List Value)} (h : GO xs t now gv E n f r) (e : r'.flatMap tk = r.flatMap tk) : GO xs t now gv E n f r' := by unfold GO at h ⊢; rw [e]; exact h
theorem INV.free {t now gv E n : Nat} {f f1 : Nat → Int × Int} (h : INV [] t now gv E f n) (h1 : ∀ k, k < 8 → busy f1 (t : Int) k = false) (ht : t ≤ 8) : INV [] t now gv E f1 gv := ⟨by rw [taken_zero f1 _ _ (fun j hj => h1 j (by omega))]; rfl, fun k hk hb => by rw [h1 k hk] at hb; exact absurd hb (by decide), fun _ => h1⟩
section
variable {w0 : World} {N0 : Nat} {w w' : World} {gs gx gt gf mx : Nat} {Z U : Nat → Prop} {P : PL} {xs : List Nd} {now gv : Nat} {f : Nat → Int × Int} {su : Nat → Value} {va : Value} {rows : List (List Value)} {b E n : Nat}
def Out (w0 : World) (N0 : Nat) (w' : World) (gs gx gt gf mx : Nat) (Z : Nat → Prop) (P : PL) (xs : List Nd) (now gv b E n : Nat) (w : World) (e : Ending) : Prop := ∃ v f' su' rows', e = .returned (.tuple #[v, .int .i64 0]) ∧ (Kd.raw 7).R 131 w' N0 (fun _ => True) v rows' ∧ (∀ r ∈ rows', AOk r) ∧ SE w0 N0 w' gs gx gt gf mx Z (fun j => busy f' (P.t : Int) j = true) P xs now gv f' su' (.slice none 0 0) [] b ∧ (GO xs P.t now gv E n f' rows' ∧ rows'.length ≤ 20) ∧ Kf N0 ST (fun k => ¬ Z k) w w'
theorem service.Do.ask (h : SE w0 N0 w gs gx gt gf mx Z (fun j => busy f (P.t : Int) j = true) P xs now gv f su (.slice none 0 0) [] b) (hN : N0 ≤ w.heap.size) (hW : Below w0.heap.size w0 w) (hNW : w0.heap.size ≤ N0) (hI : INV xs P.t now gv E f n) {A : Option Addr} {c ticks E' : Nat} (hx : kNd.C w0 A xs.length xs) (hl6 : xs.length ≤ 6) (hk : NdOk 0 8 xs) (hs : ∀ x ∈ xs, x.2.length ≤ 1000) (hb : b ≤ 60000) (hgv : gv ≤ 1000) (hE : now + ticks ≤ E') (hEE : E ≤ E') (htk : xs ≠ [] → 1 ≤ ticks) (hbd : E' ≤ 100000) : Calls Tryz.prog 23 #[.pointer (some ⟨gs, 0, none⟩), .agg #[.int .i64 1, .slice A xs.length c, .int .i64 (ticks : Int), .int .i64 0, .slice none 0 0]] w fun e w' => Out w0 N0 w' gs gx gt gf mx Z P xs now (gv + 1) (b + 120) E' n w e := by
 have hpt := h.pt
 have ck : ∀ W, Below w0.heap.size w0 W → Calls Tryz.prog 57 #[evV 1 (.slice A xs.length c) (ticks : Int)] W fun e w' => e = .returned (.bool true) ∧ Below W.heap.size W w' := fun W hW2 => event.Check_ask (ticks : Int) (by omega) (by omega) rfl (Kd.C_below hx hW2) hl6 hk hs
 have cask : ∀ W, SE w0 N0 W gs gx gt gf mx Z (fun j => busy f (P.t : Int) j = true) P xs now gv f su (.slice none 0 0) [] b → N0 ≤ W.heap.size → Below w0.heap.size w0 W → Calls Tryz.prog 59 #[.pointer (some ⟨gs, 0, none⟩), evV 1 (.slice A xs.length c) (ticks : Int)] W fun e w' => e = .returned (.int .i64 0) ∧ (∃ f' su' va' rows', SE w0 N0 w' gs gx gt gf mx Z (fun j => busy f' (P.t : Int) j = true) P xs now (gv + 1) f' su' va' rows' b ∧ AR f f' [] rows' (now : Int) (ticks : Int) gv P.t) ∧ Kf N0 ST (fun k => ¬ Z k) W w' := fun W hS hN2 hW2 => service.ask.calls hS hN2 hW2 hNW (by simp) (by omega) hx hl6 hk (ticks : Int)
 cases xs with
 | nil =>
  refine (service.Do.gen (now' := now) (gv' := gv + 1) (b' := b + 120) (R := fun f' rows' => GO [] P.t now (gv + 1) E' n f' rows' ∧ rows'.length ≤ 20) h hN hW hNW Tryz.func59 rfl rfl (.inl ⟨rfl, rfl⟩) ck cask ?_).mono ?_
  ·rintro W ⟨f1, su1, va1, rows1, hS, har⟩ hN2 hW2
   obtain ⟨t1, t2, t3⟩ := hI.askN hpt har
   have hrl : rows1.length ≤ 1 := by rcases har with ⟨_, _, e⟩ | ⟨i, _, _, e⟩ <;> rw [e] <;> simp
   refine (service.on.nil hS hN2 (by omega) (by omega) (by omega) (by omega)).mono ?_
   rintro e w' ⟨rfl, ⟨f', su', va', rows', hS', hz, hf, hl⟩, hk'⟩
   refine ⟨rfl, ⟨f', su', va', rows', hS'.mb (by omega), ?_⟩, hk'⟩
   refine ⟨⟨?_, fun k hk => ⟨.inr (.inr rfl), fun _ => by rw [hf, t2, t1] at hk; simpa using hk⟩, fun _ => by omega⟩, by omega⟩
   rw [hf, t2, t1]
   have : n + ([] ++ List.replicate 1 (1 : Int)).length = gv + 1 := by simp [t3]
   rw [this]
   exact ⟨by rw [taken_zero f' _ _ (fun j hj => hz j (by omega))]; rfl, fun k hk hb => by rw [hz k hk] at hb; exact absurd hb (by decide), fun _ => hz⟩
  ·rintro e w' ⟨v, f', su', rows', h1, h2, h3, h4, h5, h6⟩
   exact ⟨v, f', su', rows', h1, h2, h3, h4, h5, h6⟩
 | cons x r =>
  refine (service.Do.gen (now' := now) (gv' := gv + 1) (b' := b + 120) (R := fun f' rows' => GO (x :: r) P.t now (gv + 1) E' n f' rows' ∧ rows'.length ≤ 20) h hN hW hNW Tryz.func59 rfl rfl (.inl ⟨rfl, rfl⟩) ck cask ?_).mono ?_
  ·rintro W ⟨f1, su1, va1, rows1, hS, har⟩ hN2 hW2
   have hI2 := hI.ask (by simp) hpt hE hEE (htk (by simp)) hbd har
   have hrl : rows1.length ≤ 1 := by rcases har with ⟨_, _, e⟩ | ⟨i, _, _, e⟩ <;> rw [e] <;> simp
   refine (service.on.lacks hS hN2 hW2 hNW hl6 hk (by omega) (by omega)).mono ?_
   rintro e w' ⟨rfl, ⟨va', rows', hS', hf, hl⟩, hk'⟩
   exact ⟨rfl, ⟨f1, su1, va', rows', hS'.mb (by omega), GO.cong ⟨hI2.1, hI2.2, fun _ => by omega⟩ hf, by omega⟩, hk'⟩
  ·rintro e w' ⟨v, f', su', rows', h1, h2, h3, h4, h5, h6⟩
   exact ⟨v, f', su', rows', h1, h2, h3, h4, h5, h6⟩
theorem service.Do.tick (h : SE w0 N0 w gs gx gt gf mx Z (fun j => busy f (P.t : Int) j = true) P xs now gv f su (.slice none 0 0) [] b) (hN : N0 ≤ w.heap.size) (hW : Below w0.heap.size w0 w) (hNW : w0.heap.size ≤ N0) (hI : INV xs P.t now gv E f n) (hl6 : xs.length ≤ 6) (hk : NdOk 0 8 xs) (hb : b ≤ 60000) (hgv : gv ≤ 1000) (hnow : now < 1000) (hbd : E ≤ 100000) : Calls Tryz.prog 23 #[.pointer (some ⟨gs, 0, none⟩), .agg #[.int .i64 2, .slice none 0 0, .int .i64 0, .int .i64 0, .slice none 0 0]] w fun e w' => Out w0 N0 w' gs gx gt gf mx Z P xs (now + 1) gv (b + 120) E n w e := by
 have hpt := h.pt
 have ck : ∀ W, Below w0.heap.size w0 W → Calls Tryz.prog 57 #[evV 2 (.slice none 0 0) 0] W fun e w' => e = .returned (.bool true) ∧ Below W.heap.size W w' := fun W _ => event.Check_tick W
 have ct : ∀ W, SE w0 N0 W gs gx gt gf mx Z (fun j => busy f (P.t : Int) j = true) P xs now gv f su (.slice none 0 0) [] b → N0 ≤ W.heap.size → Below w0.heap.size w0 W → Calls Tryz.prog 60 #[.pointer (some ⟨gs, 0, none⟩), evV 2 (.slice none 0 0) 0] W fun e w' => e = .returned (.int .i64 0) ∧ (∃ f' su' va' rows', SE w0 N0 w' gs gx gt gf mx Z (fun j => busy f' (P.t : Int) j = true) P xs (now + 1) gv f' su' va' rows' b ∧ TR f f' [] rows' (now + 1) P.t) ∧ Kf N0 ST (fun k => ¬ Z k) W w' := fun W hS hN2 hW2 => service.tick.calls hS hN2 (by simp) (by omega) (by omega)
 have hrl : ∀ f1 rows1, TR f f1 [] rows1 (now + 1) P.t → rows1.length ≤ 8 := fun f1 rows1 htr => by
  obtain ⟨ys, h1, h2, h3, h4⟩ := htr
  have h5 := h1.length_eq
  have h6 := List.length_filter_le (fun x => !stay f ((now + 1 : Nat) : Int) x) (taken f (P.t : Int) P.t)
  have h7 := taken_length f (P.t : Int) P.t
  simp only [List.length_nil] at h4
  omega
 cases xs with
 | nil =>
  refine (service.Do.gen (now' := now + 1) (gv' := gv) (b' := b + 120) (R := fun f' rows' => GO [] P.t (now + 1) gv E n f' rows' ∧ rows'.length ≤ 20) h hN hW hNW Tryz.func60 rfl rfl (.inr ⟨rfl, rfl⟩) ck ct ?_).mono ?_
  ·rintro W ⟨f1, su1, va1, rows1, hS, htr⟩ hN2 hW2
   obtain ⟨t1, t2, t3⟩ := hI.tick hpt ⟨hbd, by omega⟩ htr
   have hr := hrl _ _ htr
   have t0 := taken_zero f1 (P.t : Int) P.t (fun j hj => t1.nl rfl j (by omega))
   refine (service.on.nil hS hN2 (by rw [t0]; simp) (by omega) (by omega) (by omega)).mono ?_
   rintro e w' ⟨rfl, ⟨f', su', va', rows', hS', hz, hf, hl⟩, hk'⟩
   rw [t0] at hf
   have hf2 : rows'.flatMap tk = rows1.flatMap tk := by rw [hf]; simp
   refine ⟨rfl, ⟨f', su', va', rows', hS'.mb (by omega), GO.cong (r := rows1) ⟨?_, t2, t3⟩ hf2, by omega⟩, hk'⟩
   have hc := t1.cnt
   rw [t0] at hc
   have hc2 : n + (rows1.flatMap tk).length = gv := by simpa using hc
   rw [hc2]
   exact t1.free hz hpt.2
  ·rintro e w' ⟨v, f', su', rows', h1, h2, h3, h4, h5, h6⟩
   exact ⟨v, f', su', rows', h1, h2, h3, h4, h5, h6⟩
 | cons x r =>
  refine (service.Do.gen (now' := now + 1) (gv' := gv) (b' := b + 120) (R := fun f' rows' => GO (x :: r) P.t (now + 1) gv E n f' rows' ∧ rows'.length ≤ 20) h hN hW hNW Tryz.func60 rfl rfl (.inr ⟨rfl, rfl⟩) ck ct ?_).mono ?_
  ·rintro W ⟨f1, su1, va1, rows1, hS, htr⟩ hN2 hW2
   have hI2 := hI.tick hpt ⟨hbd, by omega⟩ htr
   have hr := hrl _ _ htr
   refine (service.on.lacks hS hN2 hW2 hNW hl6 hk (by omega) (by omega)).mono ?_
   rintro e w' ⟨rfl, ⟨va', rows', hS', hf, hl⟩, hk'⟩
   exact ⟨rfl, ⟨f1, su1, va', rows', hS'.mb (by omega), GO.cong hI2 hf, by omega⟩, hk'⟩
  ·rintro e w' ⟨v, f', su', rows', h1, h2, h3, h4, h5, h6⟩
   exact ⟨v, f', su', rows', h1, h2, h3, h4, h5, h6⟩
end
def EnOk (lo hi : Nat) : List En → Prop
 | [] => True
 | x :: r => ∃ j, lo ≤ j ∧ j < hi ∧ x.1 = nm j ∧ EnOk (j + 1) hi r
theorem EnOk_mono {hi hi' : Nat} (h : hi ≤ hi') : ∀ (xs : List En) (lo : Nat), EnOk lo hi xs → EnOk lo hi' xs
 | [], _, _ => trivial
 | x :: r, lo, ⟨j, h1, h2, h3, h6⟩ => ⟨j, h1, by omega, h3, EnOk_mono h r _ h6⟩
theorem EnOk_snoc {j hi : Nat} (hj : j < hi) (x : En) (hx : x.1 = nm j) : ∀ (xs : List En) (lo : Nat), lo ≤ j → EnOk lo j xs → EnOk lo hi (xs ++ [x])
 | [], lo, hl, _ => ⟨j, hl, hj, hx, trivial⟩
 | y :: r, lo, hl, ⟨k, a1, a2, a3, a6⟩ => ⟨k, a1, by omega, a3, EnOk_snoc hj x hx r _ (by omega) a6⟩
theorem EnOk_at : ∀ (xs : List En) (lo : Nat), EnOk lo 8 xs → ∀ k, k < xs.length → ∃ j, j < 8 ∧ (xs.getD k zEn).1 = nm j
 | [], _, _, k, hk => absurd hk (by simp)
 | x :: r, lo, ⟨j, h1, h2, h3, h6⟩, 0, _ => ⟨j, h2, h3⟩
 | x :: r, lo, ⟨j, h1, h2, h3, h6⟩, k + 1, hk => by
  have := EnOk_at r (j + 1) h6 k (by simp at hk; omega)
  simpa using this
def dok (xs : List En) : Bool := xs.all (fun x => decide (x.2.length ≤ 8192))
set_option maxRecDepth 100000 in
set_option maxHeartbeats 8000000 in
theorem depot.Check.calls {w : World} {A : Option Addr} {c : Nat} {xs : List En} (h : kEn.C w A xs.length xs) (hl : xs.length ≤ 24) (hk : EnOk 0 8 xs) : Calls Tryz.prog 39 #[.slice A xs.length c] w fun e w' => e = .returned (.bool (dok xs)) ∧ Below w.heap.size w w' := by
 have H := Aside0.mk h
 have HL := Aside0.mk hl
 have HK := Aside0.mk hk
 clear h hl hk
 go_enter Tryz.func39, Tryz.ntmps39
 go_wp2
 go_loopw [3, 8] (fun ev iv wr => ∃ (i lo : Nat) (la : ByteArray), iv = .int .i64 (i : Int) ∧ ev = .string la ∧ i ≤ xs.length ∧ Aside0 (EnOk lo 8 (xs.drop i) ∧ dok (xs.take i) = true) ∧ Aside0 (la = ⟨#[]⟩ ∨ ∃ j, j < lo ∧ la = nm j) ∧ Aside0 (Below w.heap.size w wr)) (fun _ iv _ => ((xs.length : Int) - intOf iv).toNat)
 case atStart => exact ⟨0, 0, _, rfl, rfl, by omega, ⟨HK.out, rfl⟩, ⟨.inl rfl⟩, ⟨Below.refl _ _⟩⟩
 case round =>
  obtain ⟨i, lo, la, rfl, rfl, hi, HZ, HLA, HB⟩ := hrel
  have hll := HL.out
  by_cases hlt : i < xs.length
  ·have q0 : decide ((i : Int) < (xs.length : Int)) = true := decide_eq_true (by omega)
   have u0 : (0 : Int) ≤ (i : Int) := by omega
   have u1 : (i : Int) < (xs.length : Int) := by omega
   have HA9 := Aside0.mk (show wrap64 ((i : Int) + 1) = (i : Int) + 1 from wrap_id (by omega) (by omega))
   obtain ⟨ad, A1, c1, rfl, k0, k1, hlc, hcs⟩ := at_En (Kd.C_below H.out HB.out) i hlt
   have hd := HZ.out.1
   rw [drop_at xs zEn i hlt] at hd
   have HT := Aside0.mk (show dok (xs.take (i + 1)) = decide ((xs.getD i zEn).2.length ≤ 8192) ∧ (dok xs = true → decide ((xs.getD i zEn).2.length ≤ 8192) = true) from ⟨by
    have h1 := HZ.out.2
    unfold dok at h1 ⊢
    rw [take_at xs zEn i hlt, List.all_append, h1]
    simp, fun hd => by
    unfold dok at hd
    rw [List.all_eq_true] at hd
    exact hd _ (getD_mem xs zEn i hlt)⟩)
   generalize xs.getD i zEn = x at k0 k1 hd HT
   obtain ⟨j, h1, h2, h3, h6⟩ := hd
   have HN := Aside0.mk h6
   have HX := Aside0.mk (And.intro h1 (And.intro h2 h3))
   clear h1 h2 h3 h6 hcs hlc HZ
   have hbx := blk_new wr (.cells #[.string x.1, .slice A1 x.2.length c1] 59)
   have HBX := Aside0.mk hbx
   have HB2 := Aside0.mk (below_alloc HB.out (.cells #[.string x.1, .slice A1 x.2.length c1] 59))
   clear hbx HB
   go_wp2_with fail
   generalize wr.alloc (.cells #[.string x.1, .slice A1 x.2.length c1] 59) = w4 at HBX HB2 ⊢
   generalize wr.heap.size = gx at HBX ⊢
   refine (Label.Fit.any x.1 w4).mono ?_
   rintro e w5 ⟨rfl, hb5⟩
   rw [show PlainRune.fit x.1 = true by rw [HX.out.2.2]; exact fit_nm j HX.out.2.1]
   have hbx := blk_below HBX.out hb5
   have HB5 := Aside0.mk (below_step HB2.out hb5)
   have b0 : w5.cell? ⟨gx, 0, none⟩ = some (.string x.1) := (blk_cell hbx 0).trans rfl
   have b1 : w5.cell? ⟨gx, 1, none⟩ = some (.slice A1 x.2.length c1) := (blk_cell hbx 1).trans rfl
   clear hbx hb5 HBX HB2
   obtain ⟨t0, t1, t2⟩ := (show Op.bytesLess x.1.toList la.toList = false ∧ (x.1.toList == la.toList) = false ∧ ¬ x.1.toList = la.toList by rw [HX.out.2.2]; exact nm_after j lo la HX.out.1 HX.out.2.1 HLA.out)
   by_cases hz : x.2.length ≤ 8192
   ·have z0 : decide (8192 < (x.2.length : Int)) = false := decide_eq_false (by omega)
    have z1 : decide (8192 < x.2.length) = false := decide_eq_false (by omega)
    have HT1 := Aside0.mk (show dok (xs.take (i + 1)) = true by rw [HT.out.1]; exact decide_eq_true hz)
    have a9 := HA9.out
    go_wp2
    go_roundw
    case rel => exact ⟨i + 1, j + 1, x.1, by go_num, rfl, hlt, ⟨HN.out, HT1.out⟩, ⟨.inr ⟨j, Nat.lt_succ_self _, HX.out.2.2⟩⟩, HB5⟩
    case measure => first | (rw [a9]; exact meas _ _ hlt) | exact meas _ _ hlt
   ·have z0 : decide (8192 < (x.2.length : Int)) = true := decide_eq_true (by omega)
    have z1 : decide (8192 < x.2.length) = true := decide_eq_true (by omega)
    have HF := Aside0.mk (show dok xs = false from by
     cases hd : dok xs with
     | false => rfl
     | true => exact absurd (of_decide_eq_true (HT.out.2 hd)) hz)
    go_wp2
    go_ret
    exact ⟨by rw [HF.out]; rfl, HB5.out⟩
  ·have q0 : decide ((i : Int) < (xs.length : Int)) = false := decide_eq_false (by omega)
   have q1 : decide ((xs.length : Int) ≤ 24) = true := decide_eq_true (by omega)
   have hix : i = xs.length := by omega
   have HF := Aside0.mk (show dok xs = true from by have h := HZ.out.2; rw [hix, List.take_length] at h; exact h)
   go_wp2
   go_ret
   exact ⟨by rw [HF.out]; first | rfl | (simp; omega), HB.out⟩
def MnOk (lo hi : Nat) : List Mn → Prop
 | [] => True
 | x :: r => ∃ j, lo ≤ j ∧ j < hi ∧ x.1 = nm j ∧ RlOk x.2 ∧ x.2.length ≤ 8 ∧ MnOk (j + 1) hi r
theorem MnOk_mono {hi hi' : Nat} (h : hi ≤ hi') : ∀ (xs : List Mn) (lo : Nat), MnOk lo hi xs → MnOk lo hi' xs
 | [], _, _ => trivial
 | x :: r, lo, ⟨j, h1, h2, h3, h4, h5, h6⟩ => ⟨j, h1, by omega, h3, h4, h5, MnOk_mono h r _ h6⟩
theorem MnOk_snoc {j hi : Nat} (hj : j < hi) (x : Mn) (hx : x.1 = nm j) (h1 : RlOk x.2) (h2 : x.2.length ≤ 8) : ∀ (xs : List Mn) (lo : Nat), lo ≤ j → MnOk lo j xs → MnOk lo hi (xs ++ [x])
 | [], lo, hl, _ => ⟨j, hl, hj, hx, h1, h2, trivial⟩
 | y :: r, lo, hl, ⟨k, a1, a2, a3, a4, a5, a6⟩ => ⟨k, a1, by omega, a3, a4, a5, MnOk_snoc hj x hx h1 h2 r _ (by omega) a6⟩
theorem EnOk_lo {lo lo' hi : Nat} (h : lo' ≤ lo) : ∀ (xs : List En), EnOk lo hi xs → EnOk lo' hi xs
 | [], _ => trivial
 | x :: r, ⟨j, h1, h2, h3, h6⟩ => ⟨j, by omega, h2, h3, h6⟩
def DOF7.T7 : Bool × List (List Nat × List Nat) := (true, [([], []), ([], []), ([1], [1]), ([], []), ([3], [3]), ([2, 4], [2, 4]), ([5], [5]), ([0, 6, 4], [0, 6]), ([7, 7, 0, 1, 2, 3, 4, 5, 6, 7], [0, 7])])
def DOF7.B7 : List Nat := [0, 0, 2, 0, 8, 30, 62, 127, 255]
theorem DOF7.tab7 : rtab .any (opsOf Tryz.f32 7) = DOF7.T7 := by kernel_rfl
theorem DOF7.bits7 : waitsOk DOF7.T7.2 DOF7.B7 = true := by kernel_rfl
set_option maxRecDepth 100000 in
set_option maxHeartbeats 8000000 in
theorem depot.Of.calls {w : World} {A : Option Addr} {c : Nat} {xs : List Mn} (h : kMn.C w A xs.length xs) (hl : xs.length ≤ 8) (hk : MnOk 0 8 xs) : Calls Tryz.prog 32 #[.slice A xs.length c] w fun e w' => ∃ v es b, e = .returned (.tuple #[v, .bool b]) ∧ kEn.R 59 w' w.heap.size (fun _ => True) v es ∧ EnOk 0 8 es ∧ dok es = true ∧ es.length ≤ 24 ∧ Below w.heap.size w w' := by
 have H := Aside0.mk h
 have HL := Aside0.mk hl
 have HK := Aside0.mk hk
 clear h hl hk
 go_enter Tryz.func32, Tryz.ntmps32
 go_wp2
 go_loopw [4, 9] (fun ov iv wr => ∃ (i lo : Nat) (zs : List En), iv = .int .i64 (i : Int) ∧ i ≤ xs.length ∧ zs.length = i ∧ Aside0 (kEn.R 59 wr w.heap.size (fun _ => True) ov zs) ∧ Aside0 (MnOk lo 8 (xs.drop i) ∧ EnOk 0 lo zs ∧ lo ≤ 8) ∧ Aside0 (Below w.heap.size w wr)) (fun _ iv _ => ((xs.length : Int) - intOf iv).toNat)
 case atStart => exact ⟨0, 0, [], rfl, by omega, rfl, ⟨Kd.R_nil _ _ _ _ _⟩, ⟨HK.out, trivial, by omega⟩, ⟨Below.refl _ _⟩⟩
 case round =>
  obtain ⟨i, lo, zs, rfl, hi, hzi, HR, HZ, HB⟩ := hrel
  obtain ⟨A3, c3, rfl⟩ := Kd.R_slice HR.out
  have hll := HL.out
  by_cases hlt : i < xs.length
  ·have q0 : decide ((i : Int) < (xs.length : Int)) = true := decide_eq_true (by omega)
   have u0 : (0 : Int) ≤ (i : Int) := by omega
   have u1 : (i : Int) < (xs.length : Int) := by omega
   have HA9 := Aside0.mk (show wrap64 ((i : Int) + 1) = (i : Int) + 1 from wrap_id (by omega) (by omega))
   obtain ⟨ad, A1, c1, rfl, k0, k1, hlc, hcs⟩ := at_Mn (Kd.C_below H.out HB.out) i hlt
   have hd := HZ.out.1
   rw [drop_at xs zMn i hlt] at hd
   generalize xs.getD i zMn = x at k0 k1 hd hlc hcs
   obtain ⟨j, h1, h2, h3, h4, h5, h6⟩ := hd
   have HN := Aside0.mk (And.intro h6 (EnOk_mono h1 _ _ HZ.out.2.1))
   have HX := Aside0.mk (And.intro h2 (And.intro h3 (And.intro h4 h5)))
   have HZL := Aside0.mk (show zs.length ≤ 8 by omega)
   have HZI := Aside0.mk hzi
   have hbx := blk_new wr (.cells #[.string x.1, .slice A1 x.2.length c1] 91)
   have HBX := Aside0.mk hbx
   have HBa := Aside0.mk (below_alloc (Below.refl wr.heap.size wr) (.cells #[.string x.1, .slice A1 x.2.length c1] 91))
   have HB2 := Aside0.mk (below_step HB.out HBa.out)
   have HS := Aside0.mk (Kd.C_below hcs HBa.out)
   have HR2 := Aside0.mk (Kd.R_below HR.out HBa.out)
   clear h1 h2 h3 h4 h5 h6 hcs hlc HZ hbx HB HR hzi HBa
   go_wp2_with fail
   generalize wr.alloc (.cells #[.string x.1, .slice A1 x.2.length c1] 91) = w0 at HBX HB2 HS HR2 ⊢
   generalize wr.heap.size = gx at HBX ⊢
   refine (show Calls Tryz.prog 81 #[.agg #[.string x.1, .slice A1 x.2.length c1]] w0 _ from by rw [HX.out.2.1]; exact mani.Check.calls j HX.out.1 HS.out HX.out.2.2.2 HX.out.2.2.1).mono ?_
   rintro e w1 ⟨rfl, hb1⟩
   have HB1 := Aside0.mk (show Below w.heap.size w w1.drew from below_drew (below_step HB2.out hb1))
   have HBX1 := Aside0.mk (show w1.heap[gx]? = _ from blk_below HBX.out hb1)
   have HC := Aside0.mk (show w1.drew.cell? ⟨gx, 0, none⟩ = some (.string x.1) ∧ w1.drew.cell? ⟨gx, 1, none⟩ = some (.slice A1 x.2.length c1) from ⟨show w1.cell? _ = _ from (blk_cell HBX1.out 0).trans rfl, show w1.cell? _ = _ from (blk_cell HBX1.out 1).trans rfl⟩)
   have HSx := Aside0.mk (show kRl.C w1.drew A1 x.2.length x.2 from Kd.C_below HS.out (below_drew hb1))
   have HRx := Aside0.mk (show kEn.R 59 w1.drew w.heap.size (fun _ => True) (.slice A3 zs.length c3) zs from Kd.R_drewN (Kd.R_below HR2.out hb1) 1)
   have HA3 := Aside0.mk (show ∀ k, some k = (Value.slice A3 zs.length c3).ownBlock → k < w1.drew.heap.size from fun k hk => by
    obtain ⟨inner, ho⟩ := Kd.R_own HRx.out
    exact own_lt ho k hk.symm)
   have HW1 := Aside0.mk HB1.out.size
   clear HBX HB2 hb1 HS HR2
   have HS := HSx
   have HR := HRx
   clear HSx HRx
   go_upto_region 7 with fail
   refine start_ (n := 9) (S := fun w' => w'.cell? ⟨gx, 0, none⟩ = some (.string x.1) ∧ w'.cell? ⟨gx, 1, none⟩ = some (.slice A1 x.2.length c1)) (ds := []) #[O,O,O,O,O,O,O,O,O] (by kernel_rfl) rfl rfl ⟨HC.out.1, HC.out.2⟩ (fun hHeld => ?_)
   refine with_tabW DOF7.tab7 DOF7.bits7 (fun HT_ HW_ => ?_)
   refine pure_ (i := 0) (N := some 16) (v := ?_) (a' := ?_) #[Y,O,O,O,O,O,O,O,O] rfl rfl (any_of HT_.out (by kernel_rfl)) (fun _ _ _ h => h) (Or.inl ⟨by rfl, ?_⟩) ?_ ?_
   rotate_left
   ·intro w'
    go_simp
    with_reducible rfl
   rotate_left
   ·simp only [PN]
    rfl
   refine pure_ (i := 1) (N := some 17) (v := ?_) (a' := ?_) #[Y,Y,O,O,O,O,O,O,O] rfl rfl (any_of HT_.out (by kernel_rfl)) (fun _ _ _ h => h) (Or.inl ⟨by rfl, ?_⟩) ?_ ?_
   rotate_left
   ·intro w'
    go_simp
    with_reducible rfl
   rotate_left
   ·simp only [PN]
    rfl
   refine take_ (i := 2) (N := some 18) (v := ?_) (a' := ?_) #[Y,Y,Y,O,O,O,O,O,O] rfl rfl (take_ofW HT_.out HW_.out (by kernel_rfl)) (fun _ _ _ h => h) (Or.inl ⟨by rfl, ?_⟩) hHeld ?_ ?_
   rotate_left
   ·rintro w' ⟨s0, s1⟩
    go_simp
    with_reducible rfl
   rotate_left
   ·simp only [PN]
    rfl
   refine take_ (i := 3) (N := some 19) (v := ?_) (a' := ?_) #[Y,Y,Y,Y,O,O,O,O,O] rfl rfl (take_ofW HT_.out HW_.out (by kernel_rfl)) (fun _ _ _ h => h) (Or.inl ⟨by rfl, ?_⟩) hHeld ?_ ?_
   rotate_left
   ·rintro w' ⟨s0, s1⟩
    go_simp
    with_reducible rfl
   rotate_left
   ·simp only [PN]
    rfl
   refine one_ (i := 4) (N := some 20) #[Y,Y,Y,Y,Y,O,O,O,O] rfl rfl (one_of HT_.out (by kernel_rfl)) (by decide) (fun K hK => ?_)
   refine goes_ Tryz.func82 (by kernel_rfl) rfl #[.agg #[.string x.1, .slice A1 x.2.length c1]] (by rfl) rfl rfl (by (try simp only [List.map_toArray, List.map_cons, List.map_nil]); first | done | rfl) ?_
   refine ((show Calls Tryz.prog 82 #[.agg #[.string x.1, .slice A1 x.2.length c1]] _ _ from by rw [HX.out.2.1]; exact wire.Put.calls j HX.out.1 HS.out HX.out.2.2.2 HX.out.2.2.1)).mono ?_
   rintro e w5 ⟨v5, ys, rfl, hr5, hl5, hb5⟩
   refine ⟨_, rfl, ?_⟩
   obtain ⟨A5, c5, rfl⟩ := Kd.R_slice hr5
   have HR5 := Aside0.mk (Kd.R_below HR.out hb5)
   have HY5 := Aside0.mk (show kB.R 5 w5 w.heap.size (fun k => some k ≠ (Value.slice A3 zs.length c3).ownBlock) (.slice A5 ys.length c5) ys from Kd.R_lower (Kd.R_mono (Kd.R_bound hr5) (fun k hk e => by have h1 := HA3.out k e; have h2 : w1.drew.heap.size ≤ k := hk.2.1; exact absurd h1 (Nat.not_lt.2 h2))) HW1.out)
   have HB5 := Aside0.mk (below_step HB1.out hb5)
   have HBX5 := Aside0.mk (show w5.heap[gx]? = some (.cells #[.string x.1, .slice A1 x.2.length c1] 91 (0, 0)) from blk_below (show w1.drew.heap[gx]? = _ from HBX1.out) hb5)
   have HC5 := Aside0.mk (And.intro ((hb5.cell (World.block_lt_of_cell? _ _ HC.out.1)).trans HC.out.1) ((hb5.cell (World.block_lt_of_cell? _ _ HC.out.2)).trans HC.out.2))
   clear hr5 hl5 hb5
   refine hK.out _ _ ⟨HC5.out.1, HC5.out.2⟩ (fun hHeld => ?_)
   clear hK K
   refine norm_ (a' := ?_) ?_ ?_
   rotate_left
   ·show Act.put _ (some 20) _ = _
    simp only [PN]
    rfl
   refine pure_ (i := 5) (N := some 21) (v := ?_) (a' := ?_) #[Y,Y,Y,Y,Y,Y,O,O,O] rfl rfl (any_of HT_.out (by kernel_rfl)) (fun _ _ _ h => h) (Or.inl ⟨by rfl, ?_⟩) ?_ ?_
   rotate_left
   ·intro w'
    go_simp
    with_reducible rfl
   rotate_left
   ·simp only [PN]
    rfl
   refine one_ (i := 6) (N := some 22) #[Y,Y,Y,Y,Y,Y,Y,O,O] rfl rfl (one_of HT_.out (by kernel_rfl)) (by decide) (fun K hK => ?_)
   have HBA := Aside0.mk (below_alloc (Below.refl w5.heap.size w5) (.cells #[.string x.1, .slice A5 ys.length c5] 59))
   refine value_ (w1 := ?_) (v := ?_) (by rfl) rfl ?_ ?_
   rotate_left 2
   ·go_simp
    constructor
    ·rfl
    ·rfl
   refine hK.out _ _ ⟨((HBA.out.cell (World.block_lt_of_cell? _ _ HC5.out.1)).trans HC5.out.1), ((HBA.out.cell (World.block_lt_of_cell? _ _ HC5.out.2)).trans HC5.out.2)⟩ (fun hHeld => ?_)
   clear hK K
   refine norm_ (a' := ?_) ?_ ?_
   rotate_left
   ·show Act.put _ (some 22) _ = _
    simp only [PN]
    rfl
   refine one_ (i := 7) (N := some 23) #[Y,Y,Y,Y,Y,Y,Y,Y,O] rfl rfl (one_of HT_.out (by kernel_rfl)) (by decide) (fun K hK => ?_)
   refine Kd.R_append_step kEn (w0 := w) (w.heap.size) (by rfl) (.tmp 16) (.tmp 22) 28 59 (.agg #[.string ⟨#[]⟩, .slice none 0 0]) 40 rfl Tryz.underlying28 infoEn rfl (by decide) (by omega) (.slice A3 zs.length c3) (zs) ((x.1, ys)) [.string x.1, .slice A5 ys.length c5] (fun _ => True) (fun k => some k ≠ (Value.slice A3 zs.length c3).ownBlock) rfl rfl (kEn_mkM _ HY5.out) (fun _ hk => ⟨trivial, hk⟩) (fun _ _ => trivial) HR5.out HB5.out HB5.out.size (by have h := HZL.out; omega) ?_
   intro v9 w9 hr9 hb9 hg9 hat9
   have n0_ := Aside0.mk hr9
   have n1_ := Aside0.mk hb9
   have n2_ := Aside0.mk hg9
   have hbx9 := blk_grown HBX5.out hg9 (Kd.R_ne HR5.out HBX5.out (by decide))
   have HC9 := Aside0.mk (show w9.cell? ⟨gx, 0, none⟩ = some (.string x.1) ∧ w9.cell? ⟨gx, 1, none⟩ = some (.slice A1 x.2.length c1) from ⟨(blk_cell hbx9 0).trans rfl, (blk_cell hbx9 1).trans rfl⟩)
   clear hbx9
   clear hr9 hb9 hg9 hat9
   refine hK.out _ _ ⟨HC9.out.1, HC9.out.2⟩ (fun hHeld => ?_)
   clear hK K
   refine norm_ (a' := ?_) ?_ ?_
   rotate_left
   ·show Act.put _ (some 23) _ = _
    simp only [PN]
    rfl
   refine pure_ (i := 8) (N := some 4) (v := ?_) (a' := ?_) #[Y,Y,Y,Y,Y,Y,Y,Y,Y] rfl rfl (any_of HT_.out (by kernel_rfl)) (fun _ _ _ h => h) (Or.inl ⟨by rfl, ?_⟩) ?_ ?_
   rotate_left
   ·intro w'
    go_simp
    with_reducible rfl
   rotate_left
   ·simp only [PN]
    rfl
   refine done_ (done_of HT_.out (by kernel_rfl)) ?_
   clear hHeld
   have HE := Aside0.mk (EnOk_snoc (j := j) (hi := j + 1) (Nat.lt_succ_self _) (x.1, ys) HX.out.2.1 zs 0 (Nat.zero_le _) HN.out.2)
   have HJ8 := Aside0.mk (show j + 1 ≤ 8 from HX.out.1)
   have HZ9 := Aside0.mk (show (zs ++ [(x.1, ys)]).length = i + 1 by rw [List.length_append, HZI.out]; rfl)
   have a9 := HA9.out
   go_wp2
   go_roundw
   case rel => exact ⟨i + 1, j + 1, zs ++ [(x.1, ys)], by go_num, hlt, HZ9.out, n0_, ⟨HN.out.1, HE.out, HJ8.out⟩, n1_⟩
   case measure => first | (rw [a9]; exact meas _ _ hlt) | exact meas _ _ hlt
  ·have q0 : decide ((i : Int) < (xs.length : Int)) = false := decide_eq_false (by omega)
   have HE := Aside0.mk (EnOk_mono HZ.out.2.2 _ _ HZ.out.2.1)
   have HZL := Aside0.mk (show zs.length ≤ 24 by omega)
   clear hzi
   go_wp2_with fail
   refine (depot.Check.calls (Kd.R_reads' HR.out).2.2 HZL.out HE.out).mono ?_
   rintro e w5 ⟨rfl, hb5⟩
   have HR5 := Aside0.mk (Kd.R_below HR.out hb5)
   have HB5 := Aside0.mk (below_step HB.out hb5)
   clear hb5 HR HB
   cases hd : dok zs with
   | false =>
    go_wp2
    go_ret2
    exact ⟨.slice none 0 0, [], false, rfl, Kd.R_nil _ _ _ _ _, trivial, rfl, by simp, HB5.out⟩
   | true =>
    have HD := Aside0.mk hd
    clear hd
    go_wp2
    go_ret2
    exact ⟨.slice A3 zs.length c3, zs, true, rfl, HR5.out, HE.out, HD.out, HZL.out, HB5.out⟩
theorem lot.Needs.calls {w : World} {g : Nat} {n : Int} (hb : LB w g n) (m : Nat) (r : Int) (hm0 : 1 ≤ m) (hm : m ≤ 8) (h1 : 1 ≤ r) (h2 : r ≤ 8) : Calls Tryz.prog 15 #[.pointer (some ⟨g, 0, none⟩), .int .i64 (m : Int), .int .i64 r] w fun e w' => ∃ v xs, e = .returned v ∧ kNd.R 117 w' w.heap.size (fun _ => True) v xs ∧ NdOk 0 8 xs ∧ xs.length ≤ 6 ∧ (∃ n', LB w' g n') ∧ w.grownBy w' (some g) := by
 have HB := Aside0.mk hb
 have HN := Aside0.mk (And.intro hm0 (And.intro hm (And.intro h1 h2)))
 clear hb hm0 hm h1 h2
 go_enter Tryz.func15, Tryz.ntmps15
 go_wp2_with fail
 refine (lot.held.calls (m : Int) r (by have := HN.out; omega) (by have := HN.out; omega) HN.out.2.2.1 HN.out.2.2.2 w).mono ?_
 rintro e w1 ⟨rfl, rfl⟩
 go_wp2_with fail
 refine (lot.needs.calls HB.out m r 3 HN.out.2.1 HN.out.2.2.1 HN.out.2.2.2 (by omega) (by omega)).mono ?_
 rintro e w2 ⟨v, xs, rfl, h3⟩
 have HE := Aside0.mk h3
 clear h3
 go_wp2
 go_ret
 exact ⟨v, xs, rfl, HE.out⟩
theorem RlOk_snoc {xs : List Rl} (h : RlOk xs) (x : Rl) (h1 : x.1 = ((xs.length : Int) + 1) * 1000000) (h2 : NdOk 0 8 x.2) (h3 : x.2.length ≤ 6) : RlOk (xs ++ [x]) := by
 intro k hk
 rw [List.length_append, List.length_singleton] at hk
 by_cases e : k < xs.length
 ·have e3 : (xs ++ [x]).getD k zRl = xs.getD k zRl := by simp [List.getD_eq_getElem?_getD, List.getElem?_append, e]
  rw [e3]
  exact h k e
 ·have e2 : k = xs.length := by omega
  subst e2
  have e3 : (xs ++ [x]).getD xs.length zRl = x := by simp [List.getD_eq_getElem?_getD]
  rw [e3]
  exact ⟨h1, h2, h3⟩
def DEP12.T12 : Bool × List (List Nat × List Nat) := (true, [([], []), ([0], [0]), ([], []), ([2], [2]), ([3], [3]), ([], []), ([], []), ([], []), ([5, 6, 7], [5, 6, 7]), ([4, 8], [4, 8]), ([9], [9]), ([1, 10, 8], [1, 10]), ([0, 1, 2, 3, 4, 5, 6, 7, 8, 9, 10, 11], []), ([12, 11, 11, 0, 1, 2, 3, 4, 5, 6, 7, 8, 9, 10, 11], [11, 12])])
def DEP12.B12 : List Nat := [0, 1, 0, 4, 12, 0, 0, 0, 224, 508, 1020, 2047, 4095, 8191]
theorem DEP12.tab12 : rtab .any (opsOf Tryz.f14 12) = DEP12.T12 := by kernel_rfl
theorem DEP12.bits12 : waitsOk DEP12.T12.2 DEP12.B12 = true := by kernel_rfl
set_option maxRecDepth 100000 in
set_option maxHeartbeats 8000000 in
theorem lot.Depot.calls {w : World} {g : Nat} {n : Int} (hb : LB w g n) (m : Nat) (r : Int) (hm0 : 1 ≤ m) (hm : m ≤ 8) (h1 : 1 ≤ r) (h2 : r ≤ 4) : Calls Tryz.prog 14 #[.pointer (some ⟨g, 0, none⟩), .int .i64 (m : Int), .int .i64 r] w fun e w' => ∃ v es, e = .returned v ∧ kEn.R 59 w' w.heap.size (fun _ => True) v es ∧ EnOk 0 8 es ∧ dok es = true ∧ es.length ≤ 24 ∧ (∃ n', LB w' g n') ∧ w.grownBy w' (some g) := by
 have HLB := Aside0.mk hb
 have HGL := Aside0.mk (blk_lt hb)
 have HN := Aside0.mk (And.intro hm0 (And.intro hm (And.intro h1 (show r ≤ 8 by omega))))
 have HR4 := Aside0.mk h2
 have ar : wrap64 (r + 1) = r + 1 := wrap_id (by omega) (by omega)
 clear hb hm0 hm h1 h2
 go_enter Tryz.func14, Tryz.ntmps14
 go_wp2_with fail
 refine (lot.held.calls (m : Int) r (by have := HN.out; omega) (by have := HN.out; omega) HN.out.2.2.1 HN.out.2.2.2 w).mono ?_
 rintro e w1 ⟨rfl, rfl⟩
 go_wp2
 go_loopw [9, 24] (fun ov iv wr => ∃ (i : Nat) (zs : List Mn), iv = .int .i64 (i : Int) ∧ i ≤ m ∧ Aside0 (kMn.R 91 wr w1.heap.size (fun k => k ≠ g) ov zs) ∧ Aside0 (MnOk 0 i zs ∧ zs.length = i) ∧ Aside0 (∃ n', LB wr g n') ∧ Aside0 (w1.grownBy wr (some g))) (fun _ iv _ => ((m : Int) - intOf iv).toNat)
 case atStart => exact ⟨0, [], rfl, by omega, ⟨Kd.R_nil _ _ _ _ _⟩, ⟨trivial, rfl⟩, ⟨_, HLB.out⟩, ⟨grown_of_below (Below.refl _ _) _⟩⟩
 case round =>
  clear HLB
  obtain ⟨i, zs, rfl, hi, HR, HX, HLB, HG⟩ := hrel
  obtain ⟨A3, c3, rfl⟩ := Kd.R_slice HR.out
  have hmm := HN.out.2.1
  by_cases hlt : i < m
  ·have q0 : decide ((i : Int) < (m : Int)) = true := decide_eq_true (by omega)
   have b0 : (0 : Int) ≤ (i : Int) := by omega
   have b1 : (i : Int) + 1 ≤ 26 := by omega
   have b2 : (i : Int) ≤ (i : Int) + 1 := by omega
   have a9 : wrap64 ((i : Int) + 1) = (i : Int) + 1 := wrap_id (by omega) (by omega)
   have HA9 := Aside0.mk a9
   obtain ⟨n', hn'⟩ := HLB.out
   have HBxa := Aside0.mk (below_alloc (Below.refl wr.heap.size wr) (.cells #[.string (nm i), .slice none 0 0] 91))
   have HLB2 := Aside0.mk (hn'.below HBxa.out)
   have HG2 := Aside0.mk (HG.out.trans_row (grown_of_below HBxa.out _))
   have HR2 := Aside0.mk (Kd.R_below (Kd.R_mono (Kd.R_bound HR.out) (ok' := fun k => k ≠ g ∧ k < wr.heap.size) (fun k hk => ⟨hk.1, hk.2.2.1⟩)) HBxa.out)
   have HBX := Aside0.mk (blk_new wr (.cells #[.string (nm i), .slice none 0 0] 91))
   have HXG := Aside0.mk (show wr.heap.size ≠ g from fun e => by have := blk_lt hn'; omega)
   have HGS := Aside0.mk HG.out.size
   clear hn' HLB HR HG HBxa a9
   go_wp2_with fail
   simp only [show ({ data := #[97, 98, 99, 100, 101, 102, 103, 104, 105, 106, 107, 108, 109, 110, 111, 112, 113, 114, 115, 116, 117, 118, 119, 120, 121, 122] } : ByteArray).extract i (i + 1) = nm i from rfl]
   generalize wr.alloc (.cells #[.string (nm i), .slice none 0 0] 91) = w2 at HBX HLB2 HG2 HR2 ⊢
   generalize wr.heap.size = gx at HBX HXG HGS HR2 ⊢
   refine (lot.Draw.calls HLB2.out (r + 1) (by have := HN.out; omega) (by have := HN.out; omega)).mono ?_
   rintro e w4 ⟨d, rfl, hd0, hd1, ⟨n4, hn4⟩, hg4⟩
   obtain ⟨dn, rfl⟩ : ∃ dn : Nat, d = (dn : Int) := ⟨d.toNat, by omega⟩
   have HDN := Aside0.mk (show dn ≤ 4 by have := HR4.out; omega)
   have HBX4 := Aside0.mk (blk_grown HBX.out hg4 (fun e => by injection e with e; exact HXG.out e))
   have HLB4 := Aside0.mk hn4
   have HG4 := Aside0.mk (HG2.out.trans_row hg4)
   have HRM4 := Aside0.mk (Kd.R_grown HR2.out hg4 (fun k hk e => by injection e with e; exact hk.1 e))
   clear hd0 hd1 hn4 hg4 HBX HLB2 HG2 HR2
   go_wp2
   go_loopw [36] (fun jv wr => ∃ (j : Nat) (rs : List Rl) (vR : Value), jv = .int .i64 (j : Int) ∧ j ≤ dn ∧ Aside0 (wr.heap[gx]? = some (.cells #[.string (nm i), vR] 91 (0, 0))) ∧ Aside0 (kRl.R 95 wr w1.heap.size (fun k => k ≠ g ∧ gx < k) vR rs) ∧ Aside0 (RlOk rs ∧ rs.length = j) ∧ Aside0 (kMn.R 91 wr w1.heap.size (fun k => k ≠ g ∧ k < gx) (.slice A3 zs.length c3) zs) ∧ Aside0 (∃ n', LB wr g n') ∧ Aside0 (w1.grownBy wr (some g))) (fun jv _ => ((dn : Int) - intOf jv).toNat)
   case atStart => exact ⟨0, [], _, rfl, by omega, HBX4, ⟨Kd.R_nil _ _ _ _ _⟩, ⟨fun k hk => absurd hk (by simp), rfl⟩, HRM4, ⟨_, HLB4.out⟩, HG4⟩
   case round =>
    clear HBX4 HLB4 HG4 HRM4
    obtain ⟨j, rs, vR, rfl, hj, HBX, HRS, HRO, HRM, HLB, HG⟩ := hrel
    obtain ⟨A6, c6, rfl⟩ := Kd.R_slice HRS.out
    have hdn := HDN.out
    by_cases hjd : j < dn
    ·have q0 : decide ((j : Int) < (dn : Int)) = true := decide_eq_true (by omega)
     have HA8 := Aside0.mk (show wrap64 ((j : Int) + 1) = (j : Int) + 1 from wrap_id (by omega) (by omega))
     have HV := Aside0.mk (show (wrap64 (wrap64 ((j : Int) + 1) * 1000000)) = ((j : Int) + 1) * 1000000 by rw [HA8.out]; exact wrap_id (by omega) (by omega))
     obtain ⟨n', hn'⟩ := HLB.out
     have HRL := Aside0.mk (show rs.length ≤ 10 by have := HRO.out.2; omega)
     go_wp2
     have HLB2 := Aside0.mk (show LB wr.drew g n' from hn')
     have HG2 := Aside0.mk (show w1.grownBy wr.drew (some g) from HG.out.drew_)
     have HGL2 := Aside0.mk (show g < wr.drew.heap.size from blk_lt hn')
     have HGX2 := Aside0.mk (show gx < wr.drew.heap.size from blk_lt HBX.out)
     have HA6 := Aside0.mk (show ∀ k, some k = (Value.slice A6 rs.length c6).ownBlock → k < wr.drew.heap.size from fun k hk => by
      obtain ⟨inner, ho⟩ := Kd.R_own HRS.out
      exact own_lt ho k hk.symm)
     have HW2 := Aside0.mk (show w1.heap.size ≤ wr.drew.heap.size from HG2.out.size)
     have HC := Aside0.mk (show wr.drew.cell? ⟨gx, 1, none⟩ = some (.slice A6 rs.length c6) from show wr.cell? _ = _ from (blk_cell HBX.out 1).trans rfl)
     have HRSd := Aside0.mk (show kRl.R 95 wr.drew w1.heap.size (fun k => k ≠ g ∧ gx < k) (.slice A6 rs.length c6) rs from Kd.R_drewN HRS.out 1)
     have HRMd := Aside0.mk (show kMn.R 91 wr.drew w1.heap.size (fun k => k ≠ g ∧ k < gx) (.slice A3 zs.length c3) zs from Kd.R_drewN HRM.out 1)
     clear HRS HRM hn' HLB HG
     have HRS := HRSd
     have HRM := HRMd
     clear HRSd HRMd
     refine start_ (n := 14) (S := fun w' => w'.cell? ⟨gx, 1, none⟩ = some (.slice A6 rs.length c6)) (ds := [13]) #[O,O,O,O,O,O,O,O,O,O,O,O,O,O] (by kernel_rfl) rfl rfl (HC.out) (fun hHeld => ?_)
     refine with_tabW DEP12.tab12 DEP12.bits12 (fun HT_ HW_ => ?_)
     refine pure_ (i := 0) (N := some 39) (v := ?_) (a' := ?_) #[Y,O,O,O,O,O,O,O,O,O,O,O,O,O] rfl rfl (any_of HT_.out (by kernel_rfl)) (fun _ _ _ h => h) (Or.inl ⟨by rfl, ?_⟩) ?_ ?_
     rotate_left
     ·intro w'
      go_simp
      with_reducible rfl
     rotate_left
     ·simp only [PN]
      rfl
     refine pure_ (i := 2) (N := some 41) (v := ?_) (a' := ?_) #[Y,O,Y,O,O,O,O,O,O,O,O,O,O,O] rfl rfl (any_of HT_.out (by kernel_rfl)) (fun _ _ _ h => h) (Or.inl ⟨by rfl, ?_⟩) ?_ ?_
     rotate_left
     ·intro w'
      go_simp
      with_reducible rfl
     rotate_left
     ·simp only [PN]
      rfl
     refine pure_ (i := 3) (N := some 42) (v := ?_) (a' := ?_) #[Y,O,Y,Y,O,O,O,O,O,O,O,O,O,O] rfl rfl (any_of HT_.out (by kernel_rfl)) (fun _ _ _ h => h) (Or.inl ⟨by rfl, ?_⟩) ?_ ?_
     rotate_left
     ·intro w'
      go_simp
      with_reducible rfl
     rotate_left
     ·simp only [PN]
      rfl
     refine pure_ (i := 4) (N := some 43) (v := ?_) (a' := ?_) #[Y,O,Y,Y,Y,O,O,O,O,O,O,O,O,O] rfl rfl (any_of HT_.out (by kernel_rfl)) (fun _ _ _ h => h) (Or.inl ⟨by rfl, ?_⟩) ?_ ?_
     rotate_left
     ·intro w'
      go_simp
      with_reducible rfl
     rotate_left
     ·simp only [PN]
      rfl
     refine pure_ (i := 5) (N := some 44) (v := ?_) (a' := ?_) #[Y,O,Y,Y,Y,Y,O,O,O,O,O,O,O,O] rfl rfl (any_of HT_.out (by kernel_rfl)) (fun _ _ _ h => h) (Or.inl ⟨by rfl, ?_⟩) ?_ ?_
     rotate_left
     ·intro w'
      go_simp
      with_reducible rfl
     rotate_left
     ·simp only [PN]
      rfl
     refine pure_ (i := 6) (N := some 45) (v := ?_) (a' := ?_) #[Y,O,Y,Y,Y,Y,Y,O,O,O,O,O,O,O] rfl rfl (any_of HT_.out (by kernel_rfl)) (fun _ _ _ h => h) (Or.inl ⟨by rfl, ?_⟩) ?_ ?_
     rotate_left
     ·intro w'
      go_simp
      with_reducible rfl
     rotate_left
     ·simp only [PN]
      rfl
     refine pure_ (i := 7) (N := some 46) (v := ?_) (a' := ?_) #[Y,O,Y,Y,Y,Y,Y,Y,O,O,O,O,O,O] rfl rfl (any_of HT_.out (by kernel_rfl)) (fun _ _ _ h => h) (Or.inl ⟨by rfl, ?_⟩) ?_ ?_
     rotate_left
     ·intro w'
      go_simp
      with_reducible rfl
     rotate_left
     ·simp only [PN]
      rfl
     refine take_ (i := 1) (N := some 40) (v := ?_) (a' := ?_) #[Y,Y,Y,Y,Y,Y,Y,Y,O,O,O,O,O,O] rfl rfl (take_ofW HT_.out HW_.out (by kernel_rfl)) (fun _ _ _ h => h) (Or.inl ⟨by rfl, ?_⟩) hHeld ?_ ?_
     rotate_left
     ·intro w' s0
      go_simp
      with_reducible rfl
     rotate_left
     ·simp only [PN]
      rfl
     refine one_ (i := 8) (N := some 47) #[Y,Y,Y,Y,Y,Y,Y,Y,Y,O,O,O,O,O] rfl rfl (one_of HT_.out (by kernel_rfl)) (by decide) (fun K hK => ?_)
     refine goes_ Tryz.func31 (by kernel_rfl) rfl #[.pointer (some ⟨g, 0, none⟩), .int .i64 (m : Int), .int .i64 r, .int .i64 4] (by rfl) rfl rfl (by (try simp only [List.map_toArray, List.map_cons, List.map_nil]); first | done | rfl) ?_
     refine (lot.needs.calls HLB2.out m r 4 HN.out.2.1 HN.out.2.2.1 HN.out.2.2.2 (by omega) (by omega)).mono ?_
     rintro e w5 ⟨v5, nds, rfl, hrn, hno, hnl, ⟨n5, hn5⟩, hg5⟩
     refine ⟨_, rfl, ?_⟩
     obtain ⟨A5, c5, rfl⟩ := Kd.R_slice hrn
     have HY5 := Aside0.mk (show kNd.R 117 w5 w1.heap.size (fun k => (k ≠ g ∧ gx < k) ∧ some k ≠ (Value.slice A6 rs.length c6).ownBlock) (.slice A5 nds.length c5) nds from Kd.R_lower (Kd.R_mono (Kd.R_bound hrn) (fun k hk => by have h2 : wr.drew.heap.size ≤ k := hk.2.1; exact ⟨⟨fun e => absurd HGL2.out (by rw [e] at h2; exact Nat.not_lt.2 h2), Nat.lt_of_lt_of_le HGX2.out h2⟩, fun e => absurd (HA6.out k e) (Nat.not_lt.2 h2)⟩)) HW2.out)
     have HNO := Aside0.mk (And.intro hno hnl)
     have HLB5 := Aside0.mk hn5
     have HG5 := Aside0.mk (HG2.out.trans_row hg5)
     have HR5 := Aside0.mk (Kd.R_grown HRS.out hg5 (fun k hk e => by injection e with e; exact hk.1 e))
     have HM5 := Aside0.mk (Kd.R_grown HRM.out hg5 (fun k hk e => by injection e with e; exact hk.1 e))
     have HBX5 := Aside0.mk (show w5.heap[gx]? = some (.cells #[.string (nm i), .slice A6 rs.length c6] 91 (0, 0)) from blk_grown (show wr.drew.heap[gx]? = _ from HBX.out) hg5 (fun e => by injection e with e; exact HXG.out e))
     have HC5 := Aside0.mk (show w5.cell? ⟨gx, 1, none⟩ = some (.slice A6 rs.length c6) from (blk_cell HBX5.out 1).trans rfl)
     have HW5 := Aside0.mk (Nat.le_trans HW2.out hg5.size)
     have HD5 := Aside0.mk hg5.size
     clear hrn hno hnl hn5 hg5
     refine hK.out _ _ (HC5.out) (fun hHeld => ?_)
     clear hK K
     refine norm_ (a' := ?_) ?_ ?_
     rotate_left
     ·show Act.put _ (some 47) _ = _
      simp only [PN]
      rfl
     refine pure_ (i := 9) (N := some 48) (v := ?_) (a' := ?_) #[Y,Y,Y,Y,Y,Y,Y,Y,Y,Y,O,O,O,O] rfl rfl (any_of HT_.out (by kernel_rfl)) (fun _ _ _ h => h) (Or.inl ⟨by rfl, ?_⟩) ?_ ?_
     rotate_left
     ·intro w'
      go_simp
      with_reducible rfl
     rotate_left
     ·simp only [PN]
      rfl
     refine one_ (i := 10) (N := some 49) #[Y,Y,Y,Y,Y,Y,Y,Y,Y,Y,Y,O,O,O] rfl rfl (one_of HT_.out (by kernel_rfl)) (by decide) (fun K hK => ?_)
     have HBA := Aside0.mk (below_alloc (Below.refl w5.heap.size w5) (.cells #[.int .i64 (wrap64 (wrap64 ((j : Int) + 1) * 1000000)), .slice A5 nds.length c5] 95))
     refine value_ (w1 := ?_) (v := ?_) (by rfl) rfl ?_ ?_
     rotate_left 2
     ·go_simp
      constructor
      ·rfl
      ·rfl
     refine hK.out _ _ (((HBA.out.cell (World.block_lt_of_cell? _ _ HC5.out)).trans HC5.out)) (fun hHeld => ?_)
     clear hK K
     refine norm_ (a' := ?_) ?_ ?_
     rotate_left
     ·show Act.put _ (some 49) _ = _
      simp only [PN]
      rfl
     refine one_ (i := 11) (N := some 50) #[Y,Y,Y,Y,Y,Y,Y,Y,Y,Y,Y,Y,O,O] rfl rfl (one_of HT_.out (by kernel_rfl)) (by decide) (fun K hK => ?_)
     refine Kd.R_append_step kRl (w0 := w5) (w1.heap.size) (by rfl) (.tmp 40) (.tmp 49) 89 95 (.agg #[.int .i64 0, .slice none 0 0]) 32 rfl Tryz.underlying89 infoRl rfl (by decide) (by omega) (.slice A6 rs.length c6) (rs) (((wrap64 (wrap64 ((j : Int) + 1) * 1000000)), nds)) [.int .i64 (wrap64 (wrap64 ((j : Int) + 1) * 1000000)), .slice A5 nds.length c5] (fun k => k ≠ g ∧ gx < k) (fun k => (k ≠ g ∧ gx < k) ∧ some k ≠ (Value.slice A6 rs.length c6).ownBlock) rfl rfl (kRl_mkM _ HY5.out) (fun _ hk => hk) (fun k hk => ⟨fun e => absurd HGL2.out (Nat.not_lt.2 (e ▸ Nat.le_trans HD5.out hk)), Nat.lt_of_lt_of_le HGX2.out (Nat.le_trans HD5.out hk)⟩) HR5.out (Below.refl w1.heap.size w5) HW5.out (by have h := HRL.out; omega) ?_
     intro v9 w9 hr9 hb9 hg9 hat9
     obtain ⟨A9, c9, rfl⟩ := Kd.R_slice hr9
     have n0_ := Aside0.mk hr9
     have n1_ := Aside0.mk (show LB w9 g n5 from blk_grown HLB5.out hg9 (Kd.R_ne HR5.out HLB5.out (by decide)))
     have n2_ := Aside0.mk (show w1.grownBy w9 (some g) from HG5.out.far_ hg9 (fun kk hkk => Kd.R_base HR5.out kk hkk))
     have n3_ := Aside0.mk (show w9.heap[gx]? = some (.cells #[.string (nm i), .slice A6 rs.length c6] 91 (0, 0)) from blk_grown HBX5.out hg9 (Kd.R_ne HR5.out HBX5.out (by decide)))
     have n4_ := Aside0.mk (Kd.R_grown HM5.out hg9 (fun k hk e => absurd (HR5.out.1 k e.symm).2 (Nat.not_lt.2 (Nat.le_of_lt hk.2))))
     have HC9 := Aside0.mk (show w9.cell? ⟨gx, 1, none⟩ = some (.slice A6 rs.length c6) from (blk_cell n3_.out 1).trans rfl)
     have hf9 := blk_frozen n3_.out 1
     have hc9 := HC9.out
     clear hr9 hb9 hg9 hat9
     refine hK.out _ _ (HC9.out) (fun hHeld => ?_)
     clear hK K
     refine norm_ (a' := ?_) ?_ ?_
     rotate_left
     ·show Act.put _ (some 50) _ = _
      simp only [PN]
      rfl
     refine pure_ (i := 12) (N := some 51) (v := ?_) (a' := ?_) #[Y,Y,Y,Y,Y,Y,Y,Y,Y,Y,Y,Y,Y,O] rfl rfl (any_of HT_.out (by kernel_rfl)) (fun _ _ _ h => h) (Or.inl ⟨by rfl, ?_⟩) ?_ ?_
     rotate_left
     ·intro w'
      go_simp
      with_reducible rfl
     rotate_left
     ·simp only [PN]
      rfl
     refine last_ (i := 13) (N := none) #[Y,Y,Y,Y,Y,Y,Y,Y,Y,Y,Y,Y,Y,Y] rfl rfl (one_of HT_.out (by kernel_rfl)) (by decide) (fun K hK => ?_)
     refine skip_ (w1 := ?_) (by rfl) rfl ?_ ?_
     rotate_left
     ·go_simp
      rfl
     refine hK.out _ _ ?_
     clear hK K
     refine done_ (done_of HT_.out (by kernel_rfl)) ?_
     obtain ⟨qs, hqs⟩ : ∃ qs, rs ++ [((wrap64 (wrap64 ((j : Int) + 1) * 1000000)), nds)] = qs := ⟨_, rfl⟩
     have HQ := Aside0.mk (show RlOk qs ∧ qs.length = j + 1 from by
      rw [← hqs]
      exact ⟨RlOk_snoc HRO.out.1 _ (by rw [HRO.out.2]; exact HV.out) HNO.out.1 HNO.out.2, by rw [List.length_append, HRO.out.2]; rfl⟩)
     have hql : rs.length + 1 = qs.length := by rw [← hqs]; simp
     rw [hqs] at n0_
     simp only [hqs, List.length_append, List.length_singleton, hql]
     clear hqs hql
     have HB9 := Aside0.mk (show (w9.setCell ⟨gx, 1, none⟩ (.slice A9 qs.length c9)).heap[gx]? = some (.cells #[.string (nm i), .slice A9 qs.length c9] 91 (0, 0)) from blk_put n3_.out 1 _ rfl)
     have HR9 := Aside0.mk (Kd.R_far (p := ⟨gx, 1, none⟩) n0_.out (fun k hk => Nat.ne_of_gt hk.2) (.slice A9 qs.length c9))
     have HM9 := Aside0.mk (Kd.R_far (p := ⟨gx, 1, none⟩) n4_.out (fun k hk => Nat.ne_of_lt hk.2) (.slice A9 qs.length c9))
     have HL9 := Aside0.mk (show LB (w9.setCell ⟨gx, 1, none⟩ (.slice A9 qs.length c9)) g n5 from blk_far n1_.out (p := ⟨gx, 1, none⟩) (fun e => HXG.out e.symm) _)
     have HG9 := Aside0.mk (n2_.out.far_ (grown_set w9 gx 1 (.slice A9 qs.length c9)) (fun q hq => by injection hq with hq; rw [← hq]; exact HGS.out))
     clear n0_ n1_ n2_ n3_ n4_ HC9 hf9 hc9 hHeld
     have a8 := HA8.out
     go_wp2
     go_roundw
     case rel => exact ⟨j + 1, qs, .slice A9 qs.length c9, by go_num, hjd, HB9, HR9, HQ, HM9, ⟨_, HL9.out⟩, HG9⟩
     case measure => first | (rw [a8]; exact meas _ _ hjd) | exact meas _ _ hjd
    ·have q0 : decide ((j : Int) < (dn : Int)) = false := decide_eq_false (by omega)
     obtain ⟨n', hn'⟩ := HLB.out
     have HLB2 := Aside0.mk hn'
     have HMA := Aside0.mk (Kd.R_mono HRM.out (ok' := fun k => k ≠ g) (fun k hk => hk.1))
     have HW9 := Aside0.mk HG.out.size
     have HZL := Aside0.mk (show zs.length ≤ 10 by have := HX.out.2; omega)
     have HRL := Aside0.mk (show rs.length ≤ 8 by have := HRO.out.2; omega)
     have x0 : wr.cell? ⟨gx, 0, none⟩ = some (.string (nm i)) := (blk_cell HBX.out 0).trans rfl
     have x1 : wr.cell? ⟨gx, 1, none⟩ = some (.slice A6 rs.length c6) := (blk_cell HBX.out 1).trans rfl
     clear hn' HLB
     go_upto_region 14 with fail
     go_wp2_with (first | ((with_reducible refine gate_builtin (b := .append) (xs := #[.tmp 53, .tmp 55]) rfl ?_); at_builtin; refine Kd.R_append kMn (w0 := wr) (w1.heap.size) rfl (.tmp 53) (.tmp 55) 88 91 (.agg #[.string ⟨#[]⟩, .slice none 0 0]) 40 rfl Tryz.underlying88 infoMn rfl (by decide) (by omega) (.slice A3 zs.length c3) (zs) ((nm i, rs)) [.string (nm i), .slice A6 rs.length c6] (fun k => k ≠ g) (fun k => k ≠ g ∧ gx < k) rfl rfl (kMn_mkM _ HRS.out) (fun k hk => ⟨hk.1, fun e => absurd (HRM.out.1 k e.symm).2 (Nat.not_lt.2 (Nat.le_of_lt hk.2))⟩) (fun k hk e => by have h1 := HGL.out; have h2 := HW9.out; omega) HMA.out (Below.refl w1.heap.size wr) HW9.out (by have h := HZL.out; omega) ?_; intro v9 w9 hr9 hb9 hg9 hat9; have n0_ := Aside0.mk hr9; have n1_ := Aside0.mk (show LB w9 g n' from blk_grown HLB2.out hg9 (Kd.R_ne HMA.out HLB2.out (by decide))); have n2_ := Aside0.mk (show w1.grownBy w9 (some g) from HG.out.far_ hg9 (fun kk hkk => Kd.R_base HMA.out kk hkk)); clear hr9 hb9 hg9 hat9))
     have HMO := Aside0.mk (show MnOk 0 (i + 1) (zs ++ [(nm i, rs)]) ∧ (zs ++ [(nm i, rs)]).length = i + 1 from ⟨MnOk_snoc (Nat.lt_succ_self _) (nm i, rs) rfl HRO.out.1 HRL.out zs 0 (Nat.zero_le _) HX.out.1, by rw [List.length_append, HX.out.2]; rfl⟩)
     have a9 := HA9.out
     go_wp2
     go_roundw
     case rel => exact ⟨i + 1, zs ++ [(nm i, rs)], by go_num, hlt, n0_, HMO, ⟨_, n1_.out⟩, n2_⟩
     case measure => first | (rw [a9]; exact meas _ _ hlt) | exact meas _ _ hlt
  ·have q0 : decide ((i : Int) < (m : Int)) = false := decide_eq_false (by omega)
   have HZL := Aside0.mk (show zs.length ≤ 8 by have := HX.out.2; omega)
   have HMO := Aside0.mk (MnOk_mono (show i ≤ 8 by omega) _ _ HX.out.1)
   obtain ⟨n', hn'⟩ := HLB.out
   have HLB2 := Aside0.mk hn'
   clear hn'
   go_wp2_with fail
   refine (depot.Of.calls (Kd.R_reads' HR.out).2.2 HZL.out HMO.out).mono ?_
   rintro e w5 ⟨v, es, b, rfl, hr5, he5, hd5, hl5, hb5⟩
   have HE := Aside0.mk (show kEn.R 59 w5 w1.heap.size (fun _ => True) v es ∧ EnOk 0 8 es ∧ dok es = true ∧ es.length ≤ 24 ∧ (∃ n', LB w5 g n') ∧ w1.grownBy w5 (some g) from ⟨Kd.R_lower hr5 HG.out.size, he5, hd5, hl5, ⟨n', HLB2.out.below hb5⟩, HG.out.trans_row (grown_of_below hb5 _)⟩)
   clear hr5 he5 hd5 hl5 hb5 HR
   go_wp2
   go_ret
   exact ⟨v, es, rfl, HE.out⟩
def PlanOk (t m b c : Int) : Prop := 1 ≤ t ∧ t ≤ 8 ∧ 1 ≤ m ∧ m ≤ 8 ∧ 0 ≤ b ∧ b ≤ 1099511627776 ∧ 0 ≤ c ∧ c ≤ 1099511627776
instance (t m b c : Int) : Decidable (PlanOk t m b c) := by unfold PlanOk; infer_instance
abbrev plan (t m b c : Int) (ah : Bool) (rs kp : Int) : Value := .agg #[.int .i64 t, .int .i64 m, .int .i64 b, .int .i64 c, .bool ah, .int .i64 rs, .int .i64 kp]
set_option maxHeartbeats 4000000 in
theorem ref44.Check.calls (t m b c : Int) (ah : Bool) (rs kp : Int) (w : World) : Calls Tryz.prog 5 #[plan t m b c ah rs kp] w fun e w' => e = .returned (.bool (decide (PlanOk t m b c))) ∧ Below w.heap.size w w' := by
 go_enter Tryz.func5, Tryz.ntmps5
 by_cases h0 : 1 ≤ t
 ·have q0 : decide (1 ≤ t) = true := decide_eq_true h0
  by_cases h1 : t ≤ 8
  ·have q1 : decide (t ≤ 8) = true := decide_eq_true h1
   by_cases h2 : 1 ≤ m
   ·have q2 : decide (1 ≤ m) = true := decide_eq_true h2
    by_cases h3 : m ≤ 8
    ·have q3 : decide (m ≤ 8) = true := decide_eq_true h3
     by_cases h4 : 0 ≤ b
     ·have q4 : decide (0 ≤ b) = true := decide_eq_true h4
      by_cases h5 : b ≤ 1099511627776
      ·have q5 : decide (b ≤ 1099511627776) = true := decide_eq_true h5
       by_cases h6 : 0 ≤ c
       ·have q6 : decide (0 ≤ c) = true := decide_eq_true h6
        by_cases h7 : c ≤ 1099511627776
        ·have q7 : decide (c ≤ 1099511627776) = true := decide_eq_true h7
         have HP := Aside0.mk (show PlanOk t m b c from ⟨h0, h1, h2, h3, h4, h5, h6, h7⟩)
         clear h0 h1 h2 h3 h4 h5 h6 h7
         go_wp2
         go_ret
         exact ⟨by rw [decide_eq_true HP.out]; rfl, below_alloc (Below.refl _ _) _⟩
        ·have q7 : decide (c ≤ 1099511627776) = false := decide_eq_false h7
         have HF := Aside0.mk (show decide (PlanOk t m b c) = false from decide_eq_false (fun h => h7 h.2.2.2.2.2.2.2))
         go_wp2
         go_ret
         exact ⟨by rw [HF.out]; rfl, below_alloc (Below.refl _ _) _⟩
       ·have q6 : decide (0 ≤ c) = false := decide_eq_false h6
        have HF := Aside0.mk (show decide (PlanOk t m b c) = false from decide_eq_false (fun h => h6 h.2.2.2.2.2.2.1))
        go_wp2
        go_ret
        exact ⟨by rw [HF.out]; rfl, below_alloc (Below.refl _ _) _⟩
      ·have q5 : decide (b ≤ 1099511627776) = false := decide_eq_false h5
       have HF := Aside0.mk (show decide (PlanOk t m b c) = false from decide_eq_false (fun h => h5 h.2.2.2.2.2.1))
       go_wp2
       go_ret
       exact ⟨by rw [HF.out]; rfl, below_alloc (Below.refl _ _) _⟩
     ·have q4 : decide (0 ≤ b) = false := decide_eq_false h4
      have HF := Aside0.mk (show decide (PlanOk t m b c) = false from decide_eq_false (fun h => h4 h.2.2.2.2.1))
      go_wp2
      go_ret
      exact ⟨by rw [HF.out]; rfl, below_alloc (Below.refl _ _) _⟩
    ·have q3 : decide (m ≤ 8) = false := decide_eq_false h3
     have HF := Aside0.mk (show decide (PlanOk t m b c) = false from decide_eq_false (fun h => h3 h.2.2.2.1))
     go_wp2
     go_ret
     exact ⟨by rw [HF.out]; rfl, below_alloc (Below.refl _ _) _⟩
   ·have q2 : decide (1 ≤ m) = false := decide_eq_false h2
    have HF := Aside0.mk (show decide (PlanOk t m b c) = false from decide_eq_false (fun h => h2 h.2.2.1))
    go_wp2
    go_ret
    exact ⟨by rw [HF.out]; rfl, below_alloc (Below.refl _ _) _⟩
  ·have q1 : decide (t ≤ 8) = false := decide_eq_false h1
   have HF := Aside0.mk (show decide (PlanOk t m b c) = false from decide_eq_false (fun h => h1 h.2.1))
   go_wp2
   go_ret
   exact ⟨by rw [HF.out]; rfl, below_alloc (Below.refl _ _) _⟩
 ·have q0 : decide (1 ≤ t) = false := decide_eq_false h0
  have HF := Aside0.mk (show decide (PlanOk t m b c) = false from decide_eq_false (fun h => h0 h.1))
  go_wp2
  go_ret
  exact ⟨by rw [HF.out]; rfl, below_alloc (Below.refl _ _) _⟩
theorem svcCheck1.calls (n l u : Int) (h1 : l ≤ n) (h2 : n ≤ u) (w : World) : Calls Tryz.prog 84 #[.int .i64 n, .int .i64 l, .int .i64 u] w fun e w' => e = .returned (.bool true) ∧ w' = w := by
 have q0 : decide (l ≤ n) = true := decide_eq_true h1
 have q1 : decide (n ≤ u) = true := decide_eq_true h2
 clear h1 h2
 go_enter Tryz.func84, Tryz.ntmps84
 go_wp2
 go_ret
 exact ⟨rfl, rfl⟩
set_option maxHeartbeats 4000000 in
theorem service.Check.calls {t m b c : Int} (h : PlanOk t m b c) (ah : Bool) (rs kp : Int) (w : World) : Calls Tryz.prog 35 #[plan t m b c ah rs kp] w fun e w' => e = .returned (.bool true) ∧ Below w.heap.size w w' := by
 have HP := Aside0.mk h
 clear h
 go_enter Tryz.func35, Tryz.ntmps35
 go_wp2_with fail
 refine (svcCheck1.calls _ _ _ HP.out.1 HP.out.2.1 _).mono ?_
 rintro e w4 ⟨rfl, rfl⟩
 go_wp2_with fail
 refine (svcCheck1.calls _ _ _ HP.out.2.2.1 HP.out.2.2.2.1 _).mono ?_
 rintro e w4 ⟨rfl, rfl⟩
 go_wp2_with fail
 refine (svcCheck1.calls _ _ _ HP.out.2.2.2.2.1 HP.out.2.2.2.2.2.1 _).mono ?_
 rintro e w4 ⟨rfl, rfl⟩
 go_wp2_with fail
 refine (svcCheck1.calls _ _ _ HP.out.2.2.2.2.2.2.1 HP.out.2.2.2.2.2.2.2 _).mono ?_
 rintro e w4 ⟨rfl, rfl⟩
 go_wp2
 go_ret
 exact ⟨rfl, below_alloc (Below.refl _ _) _⟩
set_option maxRecDepth 100000 in
set_option maxHeartbeats 4000000 in
theorem topDepot.calls (seed n r : Int) (hn0 : 0 ≤ n) (hn1 : n ≤ 255) (hr0 : 0 ≤ r) (hr1 : r ≤ 255) (w : World) : Calls Tryz.prog 4 #[.agg #[.int .u64 seed, .int .u8 n, .int .u8 r]] w fun e w' => ∃ v es u xs, e = .returned (.tuple #[v, u]) ∧ kEn.R 59 w' w.heap.size (fun _ => True) v es ∧ EnOk 0 8 es ∧ dok es = true ∧ es.length ≤ 24 ∧ kNd.R 117 w' w.heap.size (fun _ => True) u xs ∧ NdOk 0 8 xs ∧ xs.length ≤ 6 ∧ Below w.heap.size w w' := by
 have HBX := Aside0.mk (blk_new w (.cells #[.int .u64 seed, .int .u8 n, .int .u8 r] 24))
 have HB0 := Aside0.mk (below_alloc (Below.refl w.heap.size w) (.cells #[.int .u64 seed, .int .u8 n, .int .u8 r] 24))
 have e1 : n.tmod 6 = n % 6 := Int.tmod_eq_emod_of_nonneg hn0
 have e2 : r.tmod 4 = r % 4 := Int.tmod_eq_emod_of_nonneg hr0
 obtain ⟨m, hm⟩ : ∃ m : Nat, 1 + n % 6 = (m : Int) := ⟨(1 + n % 6).toNat, by omega⟩
 obtain ⟨s, hs⟩ : ∃ s : Nat, 1 + r % 4 = (s : Int) := ⟨(1 + r % 4).toNat, by omega⟩
 have HM := Aside0.mk (show 1 ≤ m ∧ m ≤ 8 ∧ (1 : Int) ≤ (s : Int) ∧ (s : Int) ≤ 4 by omega)
 have a1 : wrap64 (1 + n % 6) = (m : Int) := by rw [hm]; exact wrap_id (by omega) (by omega)
 have a2 : wrap64 (1 + r % 4) = (s : Int) := by rw [hs]; exact wrap_id (by omega) (by omega)
 have w1 : wrap64 (n % 6) = n % 6 := wrap_id (by omega) (by omega)
 have w2 : wrap64 (r % 4) = r % 4 := wrap_id (by omega) (by omega)
 clear hn0 hn1 hr0 hr1
 go_enter Tryz.func4, Tryz.ntmps4
 go_wp2_with fail
 generalize w.alloc (.cells #[.int .u64 seed, .int .u8 n, .int .u8 r] 24) = w3 at HBX HB0 ⊢
 generalize hgx : w.heap.size = gx at HBX ⊢
 refine (lot.New.calls seed w3).mono ?_
 rintro e w4 ⟨rfl, ⟨n4, hn4⟩, hb4⟩
 have hbx := blk_below HBX.out hb4
 have c1 : w4.cell? ⟨gx, 1, none⟩ = some (.int .u8 n) := (blk_cell hbx 1).trans rfl
 have c2 : w4.cell? ⟨gx, 2, none⟩ = some (.int .u8 r) := (blk_cell hbx 2).trans rfl
 have HLB4 := Aside0.mk hn4
 have HB4 := Aside0.mk (below_step HB0.out hb4)
 have HGL := Aside0.mk (show w.heap.size ≤ w3.heap.size from HB0.out.size)
 clear hbx hb4 hn4 HB0 HBX
 generalize w3.heap.size = g at HLB4 HGL ⊢
 go_wp2
 go_quiet (fail)
 go_wp2_with fail
 have HLN := Aside0.mk (show LB (w4.drewN nq) g n4 from HLB4.out)
 have HBN := Aside0.mk (pw_below_drewN HB4.out nq)
 clear c1 c2 HLB4 HB4
 generalize w4.drewN nq = w5 at HLN HBN ⊢
 refine (lot.Depot.calls HLN.out m s HM.out.1 HM.out.2.1 HM.out.2.2.1 HM.out.2.2.2).mono ?_
 rintro e w6 ⟨v, es, rfl, hr6, he6, hd6, hl6, ⟨n6, hn6⟩, hg6⟩
 have HLB6 := Aside0.mk hn6
 have HG6 := Aside0.mk (blk_lt HLN.out)
 have HB6 := Aside0.mk (pw_below_grown HBN.out _ HBN.out.size hg6 (fun k hk => by injection hk with hk; rw [← hk]; exact HGL.out))
 have HR6 := Aside0.mk (Kd.R_lower (Kd.R_mono (Kd.R_bound hr6) (ok' := fun k => k ≠ g) (fun k hk e => by have h1 : w5.heap.size ≤ k := hk.2.1; have h2 := HG6.out; omega)) HBN.out.size)
 have HE6 := Aside0.mk (And.intro he6 (And.intro hd6 hl6))
 clear hr6 he6 hd6 hl6 hn6 hg6 HLN HBN
 go_wp2_with fail
 refine (lot.Needs.calls HLB6.out m s HM.out.1 HM.out.2.1 HM.out.2.2.1 (by have := HM.out.2.2.2; omega)).mono ?_
 rintro e w7 ⟨u, xs, rfl, hr7, hn7, hl7, hq7, hg7⟩
 have HB7 := Aside0.mk (pw_below_grown HB6.out _ HB6.out.size hg7 (fun k hk => by injection hk with hk; rw [← hk]; exact HGL.out))
 have HR7 := Aside0.mk (Kd.R_mono (Kd.R_grown HR6.out hg7 (fun k hk e => by injection e with e; exact hk e)) (ok' := fun _ => True) (fun _ _ => trivial))
 have HN7 := Aside0.mk (And.intro (Kd.R_lower hr7 HB6.out.size) (And.intro hn7 hl7))
 clear hr7 hn7 hl7 hq7 hg7 HR6 HB6
 go_wp2
 go_ret2
 exact ⟨v, es, u, xs, rfl, HR7.out, HE6.out.1, HE6.out.2.1, HE6.out.2.2, HN7.out.1, HN7.out.2.1, HN7.out.2.2, HB7.out⟩
theorem index.New.m (w : World) : Calls Tryz.prog 36 #[] w fun e w' => ∃ g m, e = .returned (.pointer (some ⟨g, 0, none⟩)) ∧ w.heap.size ≤ g ∧ w.heap.size ≤ m ∧ w'.heap[g]? = some (.cells #[.map (some m)] 157 (0, 0)) ∧ MV 9 w' m 0 (fun _ => none) ∧ Below w.heap.size w w' := by
 have hmm := @run_makeMap Tryz.prog
 go_enter Tryz.func36, Tryz.ntmps36
 go_wp2
 go_ret
 have h1 := MV.new 9 w
 have hb1 := below_alloc (Below.refl w.heap.size w) (.map #[] 0)
 have hb2 := below_alloc (Below.refl _ (w.alloc (.map #[] 0))) (.cells #[.map (some w.heap.size)] 157)
 have hs : (w.alloc (.map #[] 0)).heap.size = w.heap.size + 1 := by simp
 have hn := blk_new (w.alloc (.map #[] 0)) (.cells #[.map (some w.heap.size)] 157)
 rw [hs] at hn
 exact ⟨_, w.heap.size, rfl, by omega, by omega, hn, h1.below hb2, below_step hb1 hb2⟩
def SNW3.T3 : Bool × List (List Nat × List Nat) := (true, [([], []), ([], []), ([], []), ([2], [2]), ([3, 1], [3]), ([], []), ([5], [5]), ([], []), ([7], [7]), ([], []), ([9], [9]), ([6, 8, 10, 4], [6, 8, 10]), ([0, 1, 4, 11], [0, 1, 4, 11]), ([12], [12]), ([13, 11, 0, 1, 2, 3, 4, 5, 6, 7, 8, 9, 10, 11, 12, 13], [13])])
def SNW3.B3 : List Nat := [0, 0, 0, 4, 14, 0, 32, 0, 128, 0, 512, 2046, 4095, 8191, 16383]
theorem SNW3.tab3 : rtab .any (opsOf Tryz.f17 3) = SNW3.T3 := by kernel_rfl
theorem SNW3.bits3 : waitsOk SNW3.T3.2 SNW3.B3 = true := by kernel_rfl
set_option maxRecDepth 100000 in
set_option maxHeartbeats 2000000 in
theorem service.New.calls {w0 w : World} {N0 : Nat} {P : PL} (hp : PlanOk (P.t : Int) (P.m : Int) P.b P.c) (hN : N0 ≤ w.heap.size) (xs : List Nd) : Calls Tryz.prog 17 #[plan (P.t : Int) (P.m : Int) P.b P.c P.ah P.rs P.kp] w fun e w' => ∃ gs gx gt gf mx, e = .returned (.pointer (some ⟨gs, 0, none⟩)) ∧ SE w0 N0 w' gs gx gt gf mx (fun _ => False) (fun j => busy (fun _ => (0, 0)) (P.t : Int) j = true) P xs 0 0 (fun _ => (0, 0)) (fun _ => .pointer none) (.slice none 0 0) [] 0 ∧ Below w.heap.size w w' ∧ w.heap.size ≤ gs := by
 have HP := Aside0.mk hp
 have hN_ := hN
 have HGP1 := Aside0.mk (blk_new w (.cells #[.int .i64 (P.t : Int), .int .i64 (P.m : Int), .int .i64 P.b, .int .i64 P.c, .bool P.ah, .int .i64 P.rs, .int .i64 P.kp] 26))
 have HB1 := Aside0.mk (below_alloc (Below.refl w.heap.size w) (.cells #[.int .i64 (P.t : Int), .int .i64 (P.m : Int), .int .i64 P.b, .int .i64 P.c, .bool P.ah, .int .i64 P.rs, .int .i64 P.kp] 26))
 clear hp hN
 go_enter Tryz.func17, Tryz.ntmps17
 go_wp2_with fail
 generalize w.alloc (.cells #[.int .i64 (P.t : Int), .int .i64 (P.m : Int), .int .i64 P.b, .int .i64 P.c, .bool P.ah, .int .i64 P.rs, .int .i64 P.kp] 26) = w1 at HGP1 HB1 ⊢
 generalize hgp : w.heap.size = gp at HGP1 ⊢
 refine (service.Check.calls HP.out P.ah P.rs P.kp w1).mono ?_
 rintro e w3 ⟨rfl, hb3⟩
 have HGP3 := Aside0.mk (blk_below HGP1.out hb3)
 have HB3' := Aside0.mk (below_step HB1.out hb3)
 have HGP := Aside0.mk (show w3.drew.heap[gp]? = some (.cells #[.int .i64 (P.t : Int), .int .i64 (P.m : Int), .int .i64 P.b, .int .i64 P.c, .bool P.ah, .int .i64 P.rs, .int .i64 P.kp] 26 (0, 0)) from HGP3.out)
 have HB3 := Aside0.mk (below_drew HB3'.out)
 have HN3 := Aside0.mk (show N0 ≤ w3.drew.heap.size from Nat.le_trans hN_ HB3.out.size)
 have HWG := Aside0.mk hgp
 clear hgp hb3 HB1 HGP1 HGP3 HB3'
 go_wp2
 refine start_ (n := 15) (S := fun w' => w'.cell? ⟨gp, 0, none⟩ = some (.int .i64 (P.t : Int)) ∧ w'.cell? ⟨gp, 1, none⟩ = some (.int .i64 (P.m : Int)) ∧ w'.cell? ⟨gp, 2, none⟩ = some (.int .i64 P.b) ∧ w'.cell? ⟨gp, 3, none⟩ = some (.int .i64 P.c) ∧ w'.cell? ⟨gp, 4, none⟩ = some (.bool P.ah) ∧ w'.cell? ⟨gp, 5, none⟩ = some (.int .i64 P.rs) ∧ w'.cell? ⟨gp, 6, none⟩ = some (.int .i64 P.kp)) (ds := []) #[O,O,O,O,O,O,O,O,O,O,O,O,O,O,O] (by kernel_rfl) rfl rfl ⟨((blk_cell HGP.out 0).trans rfl), ((blk_cell HGP.out 1).trans rfl), ((blk_cell HGP.out 2).trans rfl), ((blk_cell HGP.out 3).trans rfl), ((blk_cell HGP.out 4).trans rfl), ((blk_cell HGP.out 5).trans rfl), ((blk_cell HGP.out 6).trans rfl)⟩ (fun hHeld => ?_)
 refine with_tabW SNW3.tab3 SNW3.bits3 (fun HT_ HW_ => ?_)
 refine pure_ (i := 2) (N := some 8) (v := ?_) (a' := ?_) #[O,O,Y,O,O,O,O,O,O,O,O,O,O,O,O] rfl rfl (any_of HT_.out (by kernel_rfl)) (fun _ _ _ h => h) (Or.inl ⟨by rfl, ?_⟩) ?_ ?_
 rotate_left
 ·intro w'
  go_simp
  with_reducible rfl
 rotate_left
 ·simp only [PN]
  rfl
 refine pure_ (i := 5) (N := some 11) (v := ?_) (a' := ?_) #[O,O,Y,O,O,Y,O,O,O,O,O,O,O,O,O] rfl rfl (any_of HT_.out (by kernel_rfl)) (fun _ _ _ h => h) (Or.inl ⟨by rfl, ?_⟩) ?_ ?_
 rotate_left
 ·intro w'
  go_simp
  with_reducible rfl
 rotate_left
 ·simp only [PN]
  rfl
 refine pure_ (i := 7) (N := some 13) (v := ?_) (a' := ?_) #[O,O,Y,O,O,Y,O,Y,O,O,O,O,O,O,O] rfl rfl (any_of HT_.out (by kernel_rfl)) (fun _ _ _ h => h) (Or.inl ⟨by rfl, ?_⟩) ?_ ?_
 rotate_left
 ·intro w'
  go_simp
  with_reducible rfl
 rotate_left
 ·simp only [PN]
  rfl
 refine pure_ (i := 9) (N := some 15) (v := ?_) (a' := ?_) #[O,O,Y,O,O,Y,O,Y,O,Y,O,O,O,O,O] rfl rfl (any_of HT_.out (by kernel_rfl)) (fun _ _ _ h => h) (Or.inl ⟨by rfl, ?_⟩) ?_ ?_
 rotate_left
 ·intro w'
  go_simp
  with_reducible rfl
 rotate_left
 ·simp only [PN]
  rfl
 refine take_ (i := 0) (N := some 6) (v := ?_) (a' := ?_) #[Y,O,Y,O,O,Y,O,Y,O,Y,O,O,O,O,O] rfl rfl (take_ofW HT_.out HW_.out (by kernel_rfl)) (fun _ _ _ h => h) (Or.inl ⟨by rfl, ?_⟩) hHeld ?_ ?_
 rotate_left
 ·rintro w' ⟨s0, s1, s2, s3, s4, s5, s6⟩
  go_simp
  with_reducible rfl
 rotate_left
 ·simp only [PN]
  rfl
 refine take_ (i := 3) (N := some 9) (v := ?_) (a' := ?_) #[Y,O,Y,Y,O,Y,O,Y,O,Y,O,O,O,O,O] rfl rfl (take_ofW HT_.out HW_.out (by kernel_rfl)) (fun _ _ _ h => h) (Or.inl ⟨by rfl, ?_⟩) hHeld ?_ ?_
 rotate_left
 ·rintro w' ⟨s0, s1, s2, s3, s4, s5, s6⟩
  go_simp
  with_reducible rfl
 rotate_left
 ·simp only [PN]
  rfl
 refine take_ (i := 6) (N := some 12) (v := ?_) (a' := ?_) #[Y,O,Y,Y,O,Y,Y,Y,O,Y,O,O,O,O,O] rfl rfl (take_ofW HT_.out HW_.out (by kernel_rfl)) (fun _ _ _ h => h) (Or.inl ⟨by rfl, ?_⟩) hHeld ?_ ?_
 rotate_left
 ·rintro w' ⟨s0, s1, s2, s3, s4, s5, s6⟩
  go_simp
  with_reducible rfl
 rotate_left
 ·simp only [PN]
  rfl
 refine take_ (i := 8) (N := some 14) (v := ?_) (a' := ?_) #[Y,O,Y,Y,O,Y,Y,Y,Y,Y,O,O,O,O,O] rfl rfl (take_ofW HT_.out HW_.out (by kernel_rfl)) (fun _ _ _ h => h) (Or.inl ⟨by rfl, ?_⟩) hHeld ?_ ?_
 rotate_left
 ·rintro w' ⟨s0, s1, s2, s3, s4, s5, s6⟩
  go_simp
  with_reducible rfl
 rotate_left
 ·simp only [PN]
  rfl
 refine take_ (i := 10) (N := some 16) (v := ?_) (a' := ?_) #[Y,O,Y,Y,O,Y,Y,Y,Y,Y,Y,O,O,O,O] rfl rfl (take_ofW HT_.out HW_.out (by kernel_rfl)) (fun _ _ _ h => h) (Or.inl ⟨by rfl, ?_⟩) hHeld ?_ ?_
 rotate_left
 ·rintro w' ⟨s0, s1, s2, s3, s4, s5, s6⟩
  go_simp
  with_reducible rfl
 rotate_left
 ·simp only [PN]
  rfl
 refine one_ (i := 1) (N := some 7) #[Y,Y,Y,Y,O,Y,Y,Y,Y,Y,Y,O,O,O,O] rfl rfl (one_of HT_.out (by kernel_rfl)) (by decide) (fun K hK => ?_)
 refine goes_ Tryz.func36 (by kernel_rfl) rfl #[] (by rfl) rfl rfl (by (try simp only [List.map_toArray, List.map_cons, List.map_nil]); first | done | rfl) ?_
 refine (index.New.m w3.drew).mono ?_
 rintro e w5 ⟨gx, mx, rfl, hx5, hm5, hi5, hv5, hb5⟩
 refine ⟨_, rfl, ?_⟩
 have HGP5 := Aside0.mk (blk_below HGP.out hb5)
 have HLX := Aside0.mk (And.intro (Nat.le_trans HN3.out hx5) (Nat.le_trans HN3.out hm5))
 have HI5 := Aside0.mk (And.intro hi5 hv5)
 have HB5 := Aside0.mk (below_step HB3.out hb5)
 clear hx5 hm5 hi5 hv5 hb5
 refine hK.out _ _ ⟨((blk_cell HGP5.out 0).trans rfl), ((blk_cell HGP5.out 1).trans rfl), ((blk_cell HGP5.out 2).trans rfl), ((blk_cell HGP5.out 3).trans rfl), ((blk_cell HGP5.out 4).trans rfl), ((blk_cell HGP5.out 5).trans rfl), ((blk_cell HGP5.out 6).trans rfl)⟩ (fun hHeld => ?_)
 clear hK K
 refine norm_ (a' := ?_) ?_ ?_
 rotate_left
 ·show Act.put _ (some 7) _ = _
  simp only [PN]
  rfl
 refine one_ (i := 4) (N := some 10) #[Y,Y,Y,Y,Y,Y,Y,Y,Y,Y,Y,O,O,O,O] rfl rfl (one_of HT_.out (by kernel_rfl)) (by decide) (fun K hK => ?_)
 refine goes_ Tryz.func37 (by kernel_rfl) rfl #[.int .i64 (P.t : Int)] (by rfl) rfl rfl (by (try simp only [List.map_toArray, List.map_cons, List.map_nil]); first | done | rfl) ?_
 refine (table.New.calls (P.t : Int) HP.out.1 HP.out.2.1 w5).mono ?_
 rintro e w6 ⟨rfl, ht6, hb6⟩
 refine ⟨_, rfl, ?_⟩
 have HGP6 := Aside0.mk (blk_below HGP5.out hb6)
 have HI6 := Aside0.mk (And.intro (blk_below HI5.out.1 hb6) (HI5.out.2.below hb6))
 have HT6 := Aside0.mk ht6
 have HTL := Aside0.mk (show N0 ≤ w5.heap.size from Nat.le_trans hN_ HB5.out.size)
 have HB6 := Aside0.mk (below_step HB5.out hb6)
 clear ht6 hb6
 generalize w5.heap.size = gt at HT6 HTL ⊢
 refine hK.out _ _ ⟨((blk_cell HGP6.out 0).trans rfl), ((blk_cell HGP6.out 1).trans rfl), ((blk_cell HGP6.out 2).trans rfl), ((blk_cell HGP6.out 3).trans rfl), ((blk_cell HGP6.out 4).trans rfl), ((blk_cell HGP6.out 5).trans rfl), ((blk_cell HGP6.out 6).trans rfl)⟩ (fun hHeld => ?_)
 clear hK K
 refine norm_ (a' := ?_) ?_ ?_
 rotate_left
 ·show Act.put _ (some 10) _ = _
  simp only [PN]
  rfl
 refine one_ (i := 11) (N := some 17) #[Y,Y,Y,Y,Y,Y,Y,Y,Y,Y,Y,Y,O,O,O] rfl rfl (one_of HT_.out (by kernel_rfl)) (by decide) (fun K hK => ?_)
 refine goes_ Tryz.func38 (by kernel_rfl) rfl #[.int .i64 (P.m : Int), .int .i64 P.b, .int .i64 P.c] (by rfl) rfl rfl (by (try simp only [List.map_toArray, List.map_cons, List.map_nil]); first | done | rfl) ?_
 refine (fetch.New.z (N0 := N0) P.m P.b P.c (by have := HP.out; unfold PlanOk at this; omega) (by have := HP.out; unfold PlanOk at this; omega) HP.out.2.2.2.2.1 HP.out.2.2.2.2.2.1 HP.out.2.2.2.2.2.2.1 HP.out.2.2.2.2.2.2.2 w6 (fun k => k = mx ∨ False) (fun k hk => by rcases hk with rfl | hk; exact HI6.out.2.lt; exact hk.elim) (Nat.le_trans hN_ HB6.out.size)).mono ?_
 rintro e w7 ⟨gf, rfl, hf7, hb7⟩
 refine ⟨_, rfl, ?_⟩
 have HGP7 := Aside0.mk (blk_below HGP6.out hb7)
 have HI7 := Aside0.mk (And.intro (blk_below HI6.out.1 hb7) (HI6.out.2.below hb7))
 have HT7 := Aside0.mk (HT6.out.below hb7)
 have HF7 := Aside0.mk hf7
 have HB7 := Aside0.mk (below_step HB6.out hb7)
 clear hf7 hb7
 refine hK.out _ _ ⟨((blk_cell HGP7.out 0).trans rfl), ((blk_cell HGP7.out 1).trans rfl), ((blk_cell HGP7.out 2).trans rfl), ((blk_cell HGP7.out 3).trans rfl), ((blk_cell HGP7.out 4).trans rfl), ((blk_cell HGP7.out 5).trans rfl), ((blk_cell HGP7.out 6).trans rfl)⟩ (fun hHeld => ?_)
 clear hK K
 refine norm_ (a' := ?_) ?_ ?_
 rotate_left
 ·show Act.put _ (some 17) _ = _
  simp only [PN]
  rfl
 refine pure_ (i := 12) (N := some 18) (v := ?_) (a' := ?_) #[Y,Y,Y,Y,Y,Y,Y,Y,Y,Y,Y,Y,Y,O,O] rfl rfl (any_of HT_.out (by kernel_rfl)) (fun _ _ _ h => h) (Or.inl ⟨by rfl, ?_⟩) ?_ ?_
 rotate_left
 ·intro w'
  go_simp
  with_reducible rfl
 rotate_left
 ·simp only [PN]
  rfl
 refine one_ (i := 13) (N := some 19) #[Y,Y,Y,Y,Y,Y,Y,Y,Y,Y,Y,Y,Y,Y,O] rfl rfl (one_of HT_.out (by kernel_rfl)) (by decide) (fun K hK => ?_)
 have hba_ := below_alloc (Below.refl w7.heap.size w7) (.cells (scs P 0 gx gt gf (fun _ => .pointer none) (.slice none 0 0)) 108)
 have HGP8 := Aside0.mk (blk_below HGP7.out hba_)
 clear hba_
 refine value_ (w1 := ?_) (v := ?_) (by rfl) rfl ?_ ?_
 rotate_left 2
 ·go_simp
  constructor
  ·rfl
  ·rfl
 refine hK.out _ _ ⟨((blk_cell HGP8.out 0).trans rfl), ((blk_cell HGP8.out 1).trans rfl), ((blk_cell HGP8.out 2).trans rfl), ((blk_cell HGP8.out 3).trans rfl), ((blk_cell HGP8.out 4).trans rfl), ((blk_cell HGP8.out 5).trans rfl), ((blk_cell HGP8.out 6).trans rfl)⟩ (fun hHeld => ?_)
 clear hK K
 refine norm_ (a' := ?_) ?_ ?_
 rotate_left
 ·show Act.put _ (some 19) _ = _
  simp only [PN]
  rfl
 refine pure_ (i := 14) (N := some 2) (v := ?_) (a' := ?_) #[Y,Y,Y,Y,Y,Y,Y,Y,Y,Y,Y,Y,Y,Y,Y] rfl rfl (any_of HT_.out (by kernel_rfl)) (fun _ _ _ h => h) (Or.inl ⟨by rfl, ?_⟩) ?_ ?_
 rotate_left
 ·intro w'
  go_simp
  with_reducible rfl
 rotate_left
 ·simp only [PN]
  rfl
 refine done_ (done_of HT_.out (by kernel_rfl)) ?_
 clear hHeld
 go_wp2
 go_ret
 have hba := below_alloc (Below.refl w7.heap.size w7) (.cells (scs P 0 gx gt gf (fun _ => .pointer none) (.slice none 0 0)) 108)
 refine ⟨w7.heap.size, gx, gt, gf, mx, rfl, ?_, below_step HB7.out hba, HB7.out.size⟩
 exact {
     blk := blk_new w7 (.cells (scs P 0 gx gt gf (fun _ => .pointer none) (.slice none 0 0)) 108)
     ib := blk_below HI7.out.1 hba
     im := HI7.out.2.below hba
     tb := HT7.out.below hba
     fz := HF7.out.kf (show Kf N0 [] (fun _ => False) w7 _ from Kf.below hba) (fun _ _ h => by cases h) (fun _ h => h.elim)
     us := fun i hi h => by rw [busy_zero (f := fun _ => ((0 : Int), (0 : Int))) rfl] at h; exact absurd h (by decide)
     ra := Kd.R_nil _ _ _ _ _
     ok := fun _ h => by cases h
     low := ⟨Nat.le_trans hN_ HB7.out.size, HLX.out.1, HLX.out.2, HTL.out⟩
     nz := fun h => h
     pt := by have := HP.out; unfold PlanOk at this; omega
     fi := fun i hi => by simp }
theorem table.Given.calls {w : World} {g : Nat} {f : Nat → Int × Int} {n gv : Int} (h : TB w g f n gv) : Calls Tryz.prog 56 #[.pointer (some ⟨g, 0, none⟩)] w fun e w' => e = .returned (.int .i64 gv) ∧ w' = w := by
 have k0 := h.given
 clear h
 go_enter Tryz.func56, Tryz.ntmps56
 go_wp2
 go_ret
 exact ⟨rfl, rfl⟩
section
variable {w0 : World} {N0 : Nat} {w w' : World} {gs gx gt gf mx : Nat} {Z U : Nat → Prop} {P : PL} {xs : List Nd} {now gv : Nat} {f : Nat → Int × Int} {su : Nat → Value} {va : Value} {rows : List (List Value)} {b : Nat}
theorem service.Now.calls (h : SE w0 N0 w gs gx gt gf mx Z U P xs now gv f su va rows b) : Calls Tryz.prog 25 #[.pointer (some ⟨gs, 0, none⟩)] w fun e w' => e = .returned (.int .i64 (now : Int)) ∧ w' = w := by
 have k0 : w.cell? ⟨gs, 7, none⟩ = some (.int .i64 (now : Int)) := (blk_cell h.blk 7).trans rfl
 clear h
 go_enter Tryz.func25, Tryz.ntmps25
 go_wp2
 go_ret
 exact ⟨rfl, rfl⟩
theorem service.Given.calls (h : SE w0 N0 w gs gx gt gf mx Z U P xs now gv f su va rows b) : Calls Tryz.prog 22 #[.pointer (some ⟨gs, 0, none⟩)] w fun e w' => e = .returned (.int .i64 (gv : Int)) ∧ w' = w := by
 have k0 : w.cell? ⟨gs, 9, none⟩ = some (.pointer (some ⟨gt, 0, none⟩)) := (blk_cell h.blk 9).trans rfl
 have HT := Aside0.mk h.tb
 clear h
 go_enter Tryz.func22, Tryz.ntmps22
 go_wp2_with fail
 refine (table.Given.calls HT.out).mono ?_
 rintro e w1 ⟨rfl, rfl⟩
 go_wp2
 go_ret
 exact ⟨rfl, rfl⟩
set_option maxHeartbeats 1000000 in
theorem service.Busy.calls (h : SE w0 N0 w gs gx gt gf mx Z U P xs now gv f su va rows b) : Calls Tryz.prog 26 #[.pointer (some ⟨gs, 0, none⟩)] w fun e w' => ∃ A c, e = .returned (.slice A (taken f (P.t : Int) P.t).length c) ∧ Below w.heap.size w w' := by
 have HPT := Aside0.mk h.pt
 have k0 : w.cell? ⟨gs, 9, none⟩ = some (.pointer (some ⟨gt, 0, none⟩)) := (blk_cell h.blk 9).trans rfl
 have HT := Aside0.mk (And.intro h.tb h.blk)
 clear h
 go_enter Tryz.func26, Tryz.ntmps26
 go_wp2_with fail
 refine (table.Slots.calls HT.out.1 (by have := HPT.out; omega) (by have := HPT.out; omega)).mono ?_
 rintro e w1 ⟨vy, ys, rfl, hpy, _, hry, hb1⟩
 obtain ⟨Ay, cy, rfl⟩ := Kd.R_slice hry
 have HB1 := Aside0.mk hb1
 have HR1 := Aside0.mk (Kd.R_bound hry)
 have HY := Aside0.mk (show ys.length = (taken f (P.t : Int) P.t).length ∧ ys.length ≤ 8 ∧ ∀ y ∈ ys, ∃ k : Nat, y = (k : Int) ∧ k < 8 ∧ busy f (P.t : Int) k = true from ⟨by
  have h1 := hpy.length_eq
  rw [Int.toNat_natCast] at h1
  exact h1, by
  have h1 := hpy.length_eq
  have h3 := taken_length f (P.t : Int) (P.t : Int).toNat
  have := HPT.out
  simp at *
  omega, fun y hy => by
  obtain ⟨k, e, hk, hb⟩ := (taken_mem f _ _ y).1 (hpy.mem_iff.1 hy)
  exact ⟨k, e, by have := HPT.out; simp at hk; omega, hb⟩⟩)
 clear hpy hry hb1 k0
 go_wp2
 go_loopw [3, 17] (fun ov iv wr => ∃ (i : Nat) (zs : List Int), iv = .int .i64 (i : Int) ∧ i ≤ ys.length ∧ zs.length = i ∧ Aside0 (zs = [] → ov = .slice none 0 0) ∧ Aside0 ((Kd.int .i64).R 3 wr w1.heap.size (fun _ => True) ov zs) ∧ Aside0 (Below w1.heap.size w1 wr)) (fun _ iv _ => ((ys.length : Int) - intOf iv).toNat)
 case atStart => exact ⟨0, [], rfl, by omega, rfl, ⟨fun _ => rfl⟩, ⟨Kd.R_nil _ _ _ _ _⟩, ⟨Below.refl _ _⟩⟩
 case round =>
  obtain ⟨i, zs, rfl, hi, hz, HN, HRZ, HB⟩ := hrel
  have hl8 := HY.out.2.1
  obtain ⟨Az, cz, rfl⟩ := Kd.R_slice HRZ.out
  by_cases hlt : i < ys.length
  ·have q0 : decide ((i : Int) < (ys.length : Int)) = true := decide_eq_true (by omega)
   have u0 : (0 : Int) ≤ (i : Int) := by omega
   have u1 : (i : Int) < (ys.length : Int) := by omega
   have HA9 := Aside0.mk (show wrap64 ((i : Int) + 1) = (i : Int) + 1 from wrap_id (by omega) (by omega))
   have HLT := Aside0.mk (And.intro hlt (And.intro hz hl8))
   obtain ⟨ad, ea, hx⟩ := Kd.at_int (Kd.R_reads' (Kd.R_below HR1.out HB.out)).2.2 (i : Int) u0 u1
   subst ea
   obtain ⟨k, ek, hk8, hbk⟩ := HY.out.2.2 ys[i] (List.getElem_mem hlt)
   rw [show rd ys (i : Int) = (k : Int) from by rw [← ek]; unfold rd; rw [Int.toNat_natCast]; simp [List.getD_eq_getElem?_getD, hlt], Int.toNat_natCast] at hx
   have HK := Aside0.mk (And.intro hk8 hbk)
   have k0 : wr.cell? ⟨gs, 9, none⟩ = some (.pointer (some ⟨gt, 0, none⟩)) := (blk_cell (blk_below HT.out.2 (below_step HB1.out HB.out)) 9).trans rfl
   have HT2 := Aside0.mk (HT.out.1.below (below_step HB1.out HB.out))
   clear hk8 hbk ek hi hlt hz HN
   go_wp2_with fail
   refine (table.At.calls HT2.out k HK.out.1 (by have := HPT.out; omega) HK.out.2).mono ?_
   rintro e w5 ⟨rfl, hb5⟩
   have HB5 := Aside0.mk (below_step HB.out hb5)
   have HR5 := Aside0.mk (Kd.R_below HRZ.out hb5)
   generalize (f k).1 = x
   generalize (f k).2 = z
   have hl9 : (zs ++ [x]).length = i + 1 := by have := HLT.out.2.1; simp; omega
   have HL9 := Aside0.mk hl9
   clear hb5 HRZ HB hl9 HT2 hx k0
   go_wp2_with (first | ((with_reducible refine gate_builtin (b := .append) (xs := #[.tmp 31, .tmp 33]) rfl ?_); at_builtin; refine Kd.R_append (Kd.int .i64) (w0 := w1) w1.heap.size rfl (.tmp 31) (.tmp 33) 42 3 (.int .i64 0) 8 rfl Tryz.underlying42 infoInt rfl (by decide) (by omega) (.slice Az zs.length cz) zs x [.int .i64 x] (fun _ => True) (fun _ => False) rfl rfl rfl (fun _ hk => hk.elim) (fun _ _ => trivial) HR5.out HB5.out HB5.out.size (by have := HLT.out; omega) ?_; intro v9 w9 hr9 hb9 hg9 hat9; have n0_ := Aside0.mk hr9; have n1_ := Aside0.mk hb9; clear HR5 HB5 hr9 hb9 hg9 hat9))
   have a9 := HA9.out
   have hlt := HLT.out.1
   go_roundw
   case rel => exact ⟨i + 1, zs ++ [x], by go_num, hlt, HL9.out, ⟨fun e => by simp at e⟩, n0_, n1_⟩
   case measure => first | (rw [a9]; exact meas _ _ hlt) | exact meas _ _ hlt
  ·have q0 : decide ((i : Int) < (ys.length : Int)) = false := decide_eq_false (by omega)
   have HE := Aside0.mk (show zs.length = (taken f (P.t : Int) P.t).length ∧ zs.length ≤ 12 by have := HY.out.1; omega)
   clear hi hz
   go_wp2_with fail
   refine (sortOI.calls HRZ.out HN.out HE.out.2).mono ?_
   rintro e w5 ⟨rfl, zz, hp, hr5, hg5⟩
   have hb5 : Below w1.heap.size w1 w5 := ⟨hg5.os.trans HB.out.os, hg5.tape.trans HB.out.tape, hg5.output.trans HB.out.output, Nat.le_trans HB.out.size hg5.size, fun k hk => (hg5.block k (Nat.lt_of_lt_of_le hk HB.out.size) (fun e => by have := Kd.R_base HRZ.out k e.symm; omega)).trans (HB.out.block k hk)⟩
   have HF := Aside0.mk (below_step HB1.out hb5)
   clear hp hr5 hg5 hb5
   go_wp2
   go_ret
   exact ⟨Az, cz, by rw [← HE.out.1]; rfl, HF.out⟩
end
def RD (w : World) (N g : Nat) (ys : List Int) (i : Nat) : Prop := N ≤ g ∧ ∃ A c, w.heap[g]? = some (.cells #[.slice A ys.length c, .int .i64 (i : Int), .int .i64 0] 216 (0, 0)) ∧ kB.R 5 w N (fun _ => True) (.slice A ys.length c) ys
section
variable {w w' : World} {N g i : Nat} {ys : List Int}
theorem RD.below (h : RD w N g ys i) (hb : Below w.heap.size w w') : RD w' N g ys i := by
 obtain ⟨h0, A, c, h1, h2⟩ := h
 exact ⟨h0, A, c, blk_below h1 hb, Kd.R_below h2 hb⟩
theorem RD.lt (h : RD w N g ys i) : g < w.heap.size := by obtain ⟨_, A, c, h1, _⟩ := h; exact blk_lt h1
theorem RD.put (h : RD w N g ys i) (j : Nat) : RD (w.setCell ⟨g, 1, none⟩ (.int .i64 (j : Int))) N g ys j := by
 obtain ⟨h0, A, c, h1, h2⟩ := h
 have hk : Kf N [216] (fun _ => False) w (w.setCell ⟨g, 1, none⟩ (.int .i64 (j : Int))) := Kf.grown (grown_set w g 1 _) h1 (by simp) h0
 exact ⟨h0, A, c, blk_put h1 1 _ rfl, R_kf h2 hk (by decide)⟩
set_option maxRecDepth 100000 in
set_option maxHeartbeats 1000000 in
theorem vlq.Open.calls {A : Option Addr} {c : Nat} {xs : List Int} (h : kB.C w A xs.length xs) (hl : xs.length ≤ 1000) : Calls Tryz.prog 68 #[.slice A xs.length c] w fun e w' => ∃ g, e = .returned (.pointer (some ⟨g, 0, none⟩)) ∧ RD w' w.heap.size g xs 0 ∧ Below w.heap.size w w' := by
 have HX := Aside0.mk h
 have HL := Aside0.mk hl
 clear h hl
 go_enter Tryz.func68, Tryz.ntmps68
 go_upto_region 3 with (first | (refine Kd.R_make (o := ⟨some 6, _, _, _, _, _⟩) kB (w0 := w) w.heap.size 5 rfl rfl 27 (.tmp 5) (.tmp 5) rfl (xs.length : Int) rfl rfl Tryz.underlying27 (.int .u8 0) 1 infoU8 rfl (by decide) (by decide) (0 : Int) (ok := fun _ => True) (okp := fun _ => True) rfl (fun _ _ => trivial) trivial (by omega) (by have := HL.out; omega) (Below.refl w.heap.size w) (Nat.le_refl _) ?_; intro v1 w1 hr1 hb1 hg1 hat1; have HR1 := Aside0.mk hr1; have HB1 := Aside0.mk hb1; have HX1 := Aside0.mk (Kd.C_below HX.out (below_of_none hg1)); clear hr1 hb1 hg1 hat1) | (refine Kd.R_copy (o := ⟨some 9, _, _, _, _, _⟩) (enc := Value.int .u8) (h1 := fun _ => rfl) (d := (0 : Int)) (w0 := w) w.heap.size rfl (.tmp 7) (.tmp 8) 27 27 5 rfl Tryz.underlying27 (by kernel_rfl) v1 (List.replicate (xs.length : Int).toNat 0) xs A xs.length c (fun _ => True) rfl rfl HR1.out HX1.out HB1.out HB1.out.size ?_; intro w2 hr2 hb2 hg2))
 rw [show xs.take (min xs.length (List.replicate (xs.length : Int).toNat (0 : Int)).length) ++ (List.replicate (xs.length : Int).toNat (0 : Int)).drop (min xs.length (List.replicate (xs.length : Int).toNat (0 : Int)).length) = xs by simp] at hr2
 obtain ⟨A2, c2, rfl⟩ := Kd.R_slice hr2
 have hb3 := below_alloc (Below.refl w2.heap.size w2) (.cells #[.slice A2 xs.length c2, .int .i64 0, .int .i64 0] 216)
 have HR2 := Aside0.mk (And.intro hr2 (And.intro hb2 hb3))
 clear hr2 hb2 hb3 hg2
 go_wp2
 go_ret
 exact ⟨w2.heap.size, rfl, ⟨HR2.out.2.1.size, A2, c2, blk_new w2 _, Kd.R_below HR2.out.1 HR2.out.2.2⟩, below_step HR2.out.2.1 HR2.out.2.2⟩
theorem vlq.Err.calls (h : RD w N g ys i) : Calls Tryz.prog 70 #[.pointer (some ⟨g, 0, none⟩)] w fun e w' => e = .returned (.int .i64 0) ∧ w' = w := by
 obtain ⟨h0, A, c, h1, h2⟩ := h
 have k0 : w.cell? ⟨g, 2, none⟩ = some (.int .i64 0) := (blk_cell h1 2).trans rfl
 clear h0 h1 h2
 go_enter Tryz.func70, Tryz.ntmps70
 go_wp2
 go_ret
 exact ⟨rfl, rfl⟩
theorem vlq.Left.calls (h : RD w N g ys i) (hi : i ≤ ys.length) (hl : ys.length ≤ 1000) : Calls Tryz.prog 121 #[.pointer (some ⟨g, 0, none⟩)] w fun e w' => e = .returned (.int .i64 ((ys.length - i : Nat) : Int)) ∧ Below w.heap.size w w' := by
 obtain ⟨h0, A, c, h1, h2⟩ := h
 have k0 : w.cell? ⟨g, 0, none⟩ = some (.slice A ys.length c) := (blk_cell h1 0).trans rfl
 have k1 : w.cell? ⟨g, 1, none⟩ = some (.int .i64 (i : Int)) := (blk_cell h1 1).trans rfl
 have a0 : wrap64 ((ys.length : Int) - (i : Int)) = ((ys.length - i : Nat) : Int) := (wrap_id (by omega) (by omega)).trans (by omega)
 clear h0 h1 h2
 go_enter Tryz.func121, Tryz.ntmps121
 go_wp2
 have HH := Aside0.mk hi
 clear hi hl
 go_region
 go_wp2
 go_ret
 exact ⟨by show Ending.returned (.int .i64 (wrap64 ((ys.length : Int) - (i : Int)))) = _; rw [a0], below_drew (Below.refl _ _)⟩
theorem vlq.Close.calls (h : RD w N g ys ys.length) (hl : ys.length ≤ 1000) : Calls Tryz.prog 74 #[.pointer (some ⟨g, 0, none⟩)] w fun e w' => e = .returned (.int .i64 0) ∧ Below w.heap.size w w' := by
 have H := Aside0.mk h
 have HL := Aside0.mk hl
 clear h hl
 go_enter Tryz.func74, Tryz.ntmps74
 go_wp2_with fail
 refine (vlq.Err.calls H.out).mono ?_
 rintro e w1 ⟨rfl, rfl⟩
 go_wp2_with fail
 refine (vlq.Left.calls H.out (Nat.le_refl _) HL.out).mono ?_
 rintro e w2 ⟨rfl, hb2⟩
 rw [Nat.sub_self]
 have HB := Aside0.mk hb2
 clear hb2
 go_wp2
 go_ret
 exact ⟨rfl, HB.out⟩
set_option maxHeartbeats 1000000 in
theorem vlq.peek.calls (h : RD w N g ys i) (hi : i < ys.length) (hl : ys.length ≤ 1000) (m : Int) (h0 : 0 ≤ rd ys (i : Int)) (h1 : rd ys (i : Int) < 128) (hm0 : rd ys (i : Int) ≤ m) (hm1 : m ≤ 1000) : Calls Tryz.prog 119 #[.pointer (some ⟨g, 0, none⟩), .int .i64 m] w fun e w' => e = .returned (.tuple #[.int .i64 (rd ys (i : Int)), .int .i64 ((i + 1 : Nat) : Int)]) ∧ Below w.heap.size w w' := by
 obtain ⟨_, A, c, hb, hr⟩ := h
 obtain ⟨ad, rfl, kx⟩ := Kd.at_int (Kd.R_reads' hr).2.2 (i : Int) (by omega) (by omega)
 rw [Int.toNat_natCast] at kx
 generalize rd ys (i : Int) = x at *
 have k0 : w.cell? ⟨g, 0, none⟩ = some (.slice (some ad) ys.length c) := (blk_cell hb 0).trans rfl
 have k1 : w.cell? ⟨g, 1, none⟩ = some (.int .i64 (i : Int)) := (blk_cell hb 1).trans rfl
 have q0 : ((i : Int) == (ys.length : Int)) = false := beq_eq_false_iff_ne.2 (by omega)
 have q1 : (x == 128) = false := beq_eq_false_iff_ne.2 (by omega)
 have q2 : decide (128 ≤ x) = false := decide_eq_false (by omega)
 have q3 : x.tmod 128 = x := by rw [Int.tmod_eq_emod_of_nonneg h0]; omega
 have q4 : (if (1099511627776 : Int) < m then (1099511627776 : Int) else m) = m := if_neg (by omega)
 have q5 : decide (m < x) = false := decide_eq_false (by omega)
 have u0 : (0 : Int) ≤ (i : Int) := by omega
 have u1 : (i : Int) < (ys.length : Int) := by omega
 have a0 : wrap64 (i : Int) = (i : Int) := wrap_id (by omega) (by omega)
 have a1 : wrap64 ((i : Int) + 1) = ((i + 1 : Nat) : Int) := (wrap_id (by omega) (by omega)).trans (by omega)
 have a2 : wrap64 x = x := wrap_id (by omega) (by omega)
 have HF := Aside0.mk (And.intro hi hl)
 clear hb hr h0 h1 hm0 hm1 hi hl
 go_enter Tryz.func119, Tryz.ntmps119
 go_wp2
 go_region
 go_wp2
 go_region
 go_wp2
 have k0' : w.drew.drew.cell? ⟨g, 0, none⟩ = some (.slice (some ad) ys.length c) := k0
 have k1' : w.drew.drew.cell? ⟨g, 1, none⟩ = some (.int .i64 (i : Int)) := k1
 have kx' : w.drew.drew.cell? (ad.add i) = some (.int .u8 x) := kx
 have HB := Aside0.mk (below_drew (below_drew (Below.refl w.heap.size w)))
 clear k0 k1 kx
 generalize w.drew.drew = w2 at k0' k1' kx' HB ⊢
 go_loopw [6, 44] (fun nv iv wr => nv = .int .i64 0 ∧ iv = .int .i64 0 ∧ wr = w2) (fun _ _ _ => 0)
 case atStart => exact ⟨rfl, rfl, rfl⟩
 case round =>
  obtain ⟨rfl, rfl, rfl⟩ := hrel
  go_wp2
  go_region
  go_wp2
  go_region
  go_wp2
  go_region
  go_wp2
  go_ret2
  exact ⟨by show Ending.returned (.tuple #[.int .i64 (wrap64 x), .int .i64 (wrap64 ((i : Int) + 1))]) = _; rw [a1, a2], below_step HB.out (below_drew (below_drew (below_drew (Below.refl _ _))))⟩
theorem vlq.Num.calls (h : RD w N g ys i) (hN : N ≤ w.heap.size) (hi : i < ys.length) (hl : ys.length ≤ 1000) (m : Int) (h0 : 0 ≤ rd ys (i : Int)) (h1 : rd ys (i : Int) < 128) (hm0 : rd ys (i : Int) ≤ m) (hm1 : m ≤ 1000) : Calls Tryz.prog 69 #[.pointer (some ⟨g, 0, none⟩), .int .i64 m] w fun e w' => e = .returned (.int .i64 (rd ys (i : Int))) ∧ RD w' N g ys (i + 1) ∧ w.grownBy w' (some g) := by
 have HP := Aside0.mk (vlq.peek.calls h hi hl m h0 h1 hm0 hm1)
 have H := Aside0.mk h
 have HN := Aside0.mk hN
 have k2 : w.cell? ⟨g, 2, none⟩ = some (.int .i64 0) := by obtain ⟨_, A, c, hb, _⟩ := h; exact (blk_cell hb 2).trans rfl
 clear h hi h0 h1 hm0 hm1 hl hN
 go_enter Tryz.func69, Tryz.ntmps69
 go_wp2_with fail
 refine HP.out.mono ?_
 rintro e w2 ⟨rfl, hb2⟩
 have H2 := Aside0.mk (H.out.below hb2)
 have HB2 := Aside0.mk hb2
 have HP2 := Aside0.mk (H2.out.put (i + 1))
 have k1 : ∃ v, w2.cell? ⟨g, 1, none⟩ = some v := by obtain ⟨_, A, c, hb, _⟩ := H2.out; exact ⟨_, (blk_cell hb 1).trans rfl⟩
 have f1 : w2.frozen? ⟨g, 1, none⟩ = false := by obtain ⟨_, A, c, hb, _⟩ := H2.out; exact blk_frozen hb 1
 obtain ⟨v, k1⟩ := k1
 generalize hx : rd ys (i : Int) = x
 have HX := Aside0.mk hx
 clear hb2 HP k2 hx
 go_wp2
 go_ret
 exact ⟨by rw [HX.out]; rfl, HP2.out, (grown_of_below HB2.out (some g)).trans_row (grown_set w2 g 1 _)⟩
end
theorem pick.Check.nil (A : Option Addr) (c : Nat) (w : World) : Calls Tryz.prog 122 #[.slice A 0 c] w fun e w' => e = .returned (.bool true) ∧ w' = w := by
 go_enter Tryz.func122, Tryz.ntmps122
 go_wp2
 go_loopw [7] (fun iv wr => iv = .int .i64 0 ∧ wr = w) (fun _ _ => 0)
 case atStart => exact ⟨rfl, rfl⟩
 case round =>
  obtain ⟨rfl, rfl⟩ := hrel
  go_wp2
  go_ret
  exact ⟨rfl, rfl⟩
set_option maxHeartbeats 1000000 in
theorem answer.Check.calls (A : Option Addr) (c : Nat) (k : Int) (hk : k = 1 ∨ k = 4 ∨ k = 5) (w : World) : Calls Tryz.prog 75 #[.agg #[.int .i64 k, .slice A 0 c, .slice none 0 0]] w fun e w' => e = .returned (.bool true) ∧ Below w.heap.size w w' := by
 have hb := blk_new w (.cells #[.int .i64 k, .slice A 0 c, .slice none 0 0] 49)
 have HB := Aside0.mk (below_alloc (Below.refl w.heap.size w) (.cells #[.int .i64 k, .slice A 0 c, .slice none 0 0] 49))
 have k0 : (w.alloc (.cells #[.int .i64 k, .slice A 0 c, .slice none 0 0] 49)).cell? ⟨w.heap.size, 0, none⟩ = some (.int .i64 k) := (blk_cell hb 0).trans rfl
 have k1 : (w.alloc (.cells #[.int .i64 k, .slice A 0 c, .slice none 0 0] 49)).cell? ⟨w.heap.size, 1, none⟩ = some (.slice A 0 c) := (blk_cell hb 1).trans rfl
 have k2 : (w.alloc (.cells #[.int .i64 k, .slice A 0 c, .slice none 0 0] 49)).cell? ⟨w.heap.size, 2, none⟩ = some (.slice none 0 0) := (blk_cell hb 2).trans rfl
 clear hb
 rcases hk with rfl | rfl | rfl
 all_goals go_enter Tryz.func75, Tryz.ntmps75
 ·go_wp2_with fail
  refine (pick.Check.nil A c _).mono ?_
  rintro e w1 ⟨rfl, rfl⟩
  go_wp2
  go_ret
  exact ⟨rfl, HB.out⟩
 ·go_wp2
  go_ret
  exact ⟨rfl, HB.out⟩
 ·go_wp2
  go_ret
  exact ⟨rfl, HB.out⟩
theorem row1 (k : Int) (w : World) : (Kd.int .i64).C (w.alloc (.cells #[.int .i64 k] 3)) (some ⟨w.heap.size, 0, none⟩) [k].length [k] := by
 have hnew := blk_new w (.cells #[.int .i64 k] 3)
 refine Kd.C_of_reads (d := (0 : Int)) (h1 := fun _ => rfl) ⟨rfl, by simp, fun _ => ⟨_, rfl, fun j hj => ?_⟩⟩
 match j, hj with
 | 0, _ => exact (blk_cell hnew 0).trans rfl
def aB (k : Int) : List Int := if k = 1 then [1, 0] else [k]
theorem put1 (k : Int) (h0 : 0 ≤ k) (h1 : k < 128) (w : World) {A : Option Addr} {c : Nat} {xs : List Int} (hc : kB.C w A xs.length xs) (hl : xs.length ≤ 1000) : Calls Tryz.prog 76 #[.slice A xs.length c, .slice (some ⟨w.heap.size, 0, none⟩) 1 1] (w.alloc (.cells #[.int .i64 k] 3)) fun e w' => ∃ A' c', e = .returned (.slice A' (xs ++ [k]).length c') ∧ kB.R 5 w' w.heap.size (fun _ => True) (.slice A' (xs ++ [k]).length c') (xs ++ [k]) ∧ Below w.heap.size w w' := by
 have hb := below_alloc (Below.refl w.heap.size w) (.cells #[.int .i64 k] 3)
 refine (vlq.Put.calls (A := A) (c := c) (xs := xs) (ns := [k]) (Kd.C_below hc hb) (row1 k w) (by omega) (by simp)).mono ?_
 rintro e w' ⟨v, ys, rfl, hr, _, hy, hb2⟩
 obtain rfl := hy (fun n hn => by rw [List.mem_singleton.1 hn]; exact ⟨h0, h1⟩)
 obtain ⟨A', c', rfl⟩ := Kd.R_slice hr
 exact ⟨A', c', rfl, Kd.R_lower hr hb.size, below_step hb hb2⟩
set_option maxRecDepth 100000 in
set_option maxHeartbeats 1000000 in
theorem answer.Put.calls (A : Option Addr) (c : Nat) (k : Int) (hk : k = 1 ∨ k = 4 ∨ k = 5) (w : World) : Calls Tryz.prog 28 #[.agg #[.int .i64 k, .slice A 0 c, .slice none 0 0]] w fun e w' => ∃ A' c', e = .returned (.slice A' (aB k).length c') ∧ kB.R 5 w' w.heap.size (fun _ => True) (.slice A' (aB k).length c') (aB k) ∧ Below w.heap.size w w' := by
 have HG := Aside0.mk (blk_new w (.cells #[.int .i64 k, .slice A 0 c, .slice none 0 0] 49))
 have HB := Aside0.mk (below_alloc (Below.refl w.heap.size w) (.cells #[.int .i64 k, .slice A 0 c, .slice none 0 0] 49))
 have HK := Aside0.mk hk
 go_enter Tryz.func28, Tryz.ntmps28
 have k0 := (blk_cell HG.out 0).trans rfl
 have k1 := (blk_cell HG.out 1).trans rfl
 have k2 := (blk_cell HG.out 2).trans rfl
 go_wp2_with fail
 generalize w.alloc (.cells #[.int .i64 k, .slice A 0 c, .slice none 0 0] 49) = w1 at HG HB k0 k1 k2 ⊢
 refine (answer.Check.calls A c k HK.out w1).mono ?_
 rintro e w2 ⟨rfl, hb2⟩
 have HG2 := Aside0.mk (blk_below HG.out hb2)
 have HB2 := Aside0.mk (below_step HB.out hb2)
 have HLT := Aside0.mk (blk_lt HG2.out)
 clear hb2 k0 k1 k2 HG HB
 generalize w.heap.size = gp at HG2 HLT ⊢
 have k0 := (blk_cell HG2.out 0).trans rfl
 go_wp2_with fail
 refine (put1 k (by have := HK.out; omega) (by have := HK.out; omega) w2 (A := none) (c := 0) (xs := []) (Kd.C_nil _ _) (by simp)).mono ?_
 rintro e w3 ⟨A3, c3, rfl, hr3, hb3⟩
 have HG3 := Aside0.mk (blk_below HG2.out hb3)
 have HR3 := Aside0.mk (Kd.R_lower hr3 HB2.out.size)
 have HB3 := Aside0.mk (below_step HB2.out hb3)
 clear k0 hr3 hb3
 have k0 := (blk_cell HG3.out 0).trans rfl
 have k1 := (blk_cell HG3.out 1).trans rfl
 by_cases h1 : k = 1
 ·subst h1
  clear hk
  go_wp2_with fail
  refine (put1 0 (by omega) (by omega) w3 (A := A3) (c := c3) (xs := [1]) (Kd.R_reads' HR3.out).2.2 (by simp)).mono ?_
  rintro e w4 ⟨A4, c4, rfl, hr4, hb4⟩
  have HG4 := Aside0.mk (blk_below HG3.out hb4)
  have HR4 := Aside0.mk (Kd.R_lower hr4 HB3.out.size)
  have HB4 := Aside0.mk (below_step HB3.out hb4)
  clear k0 k1 hr4 hb4
  have k1 := (blk_cell HG4.out 1).trans rfl
  go_wp2
  go_loopw [3, 26] (fun bv iv wr => bv = .slice A4 2 c4 ∧ iv = .int .i64 0 ∧ wr = w4) (fun _ _ _ => 0)
  case atStart => exact ⟨rfl, rfl, rfl⟩
  case round =>
   obtain ⟨rfl, rfl, rfl⟩ := hrel
   go_wp2
   go_ret
   exact ⟨A4, c4, rfl, HR4.out, HB4.out⟩
 ·have q1 : (k == 1) = false := beq_eq_false_iff_ne.2 h1
  have q2 : (k == 2) = false := beq_eq_false_iff_ne.2 (by omega)
  have e1 : aB k = [k] := if_neg h1
  have HE := Aside0.mk e1
  clear hk h1 e1
  go_wp2
  go_ret
  exact ⟨A3, c3, by rw [HE.out]; rfl, by rw [HE.out]; exact HR3.out, HB3.out⟩
theorem aB_spec (k : Int) (hk : k = 1 ∨ k = 4 ∨ k = 5) : (aB k).length ≤ 2 ∧ 0 < (aB k).length ∧ rd (aB k) 0 = k ∧ (k = 1 → (aB k).length = 2 ∧ rd (aB k) 1 = 0) ∧ (k ≠ 1 → (aB k).length = 1) := by
 rcases hk with rfl | rfl | rfl <;> exact ⟨by decide, by decide, rfl, by decide, by decide⟩
set_option maxRecDepth 100000 in
set_option maxHeartbeats 1000000 in
theorem answer.Read.calls {A : Option Addr} {c : Nat} (k : Int) (hk : k = 1 ∨ k = 4 ∨ k = 5) (w : World) (h : kB.C w A (aB k).length (aB k)) : Calls Tryz.prog 27 #[.slice A (aB k).length c] w fun e w' => e = .returned (.tuple #[.agg #[.int .i64 k, .slice none 0 0, .slice none 0 0], .int .i64 0]) ∧ Below w.heap.size w w' := by
 have H := Aside0.mk h
 have HK := Aside0.mk hk
 have HS := Aside0.mk (aB_spec k hk)
 have HG := Aside0.mk (blk_new w (.cells #[.int .i64 0, .slice none 0 0, .slice none 0 0] 49))
 have HB := Aside0.mk (below_alloc (Below.refl w.heap.size w) (.cells #[.int .i64 0, .slice none 0 0, .slice none 0 0] 49))
 clear h
 go_enter Tryz.func27, Tryz.ntmps27
 go_wp2_with fail
 generalize w.alloc (.cells #[.int .i64 0, .slice none 0 0, .slice none 0 0] 49) = w1 at HG HB ⊢
 refine (vlq.Open.calls (Kd.C_below H.out HB.out) (by have := HS.out.1; omega)).mono ?_
 rintro e w2 ⟨g, rfl, hr2, hb2⟩
 have HG2 := Aside0.mk (blk_below HG.out hb2)
 have HR2 := Aside0.mk hr2
 have HB2 := Aside0.mk (below_step HB.out hb2)
 have HW2 := Aside0.mk (show w1.heap.size ≤ w2.heap.size ∧ w.heap.size < w1.heap.size from ⟨hb2.size, blk_lt HG.out⟩)
 clear hr2 hb2 HG
 generalize hN : w1.heap.size = N at HR2 HW2
 generalize hp : w.heap.size = gp at HG2 HW2 ⊢
 have HX := Aside0.mk (And.intro hN hp)
 clear hN hp HB
 go_wp2_with fail
 refine (vlq.Num.calls HR2.out HW2.out.1 HS.out.2.1 (by have := HS.out.1; omega) 5 (by have := HS.out.2.2.1; have := HK.out; show 0 ≤ rd (aB k) 0; omega) (by have := HS.out.2.2.1; have := HK.out; show rd (aB k) 0 < 128; omega) (by have := HS.out.2.2.1; have := HK.out; show rd (aB k) 0 ≤ 5; omega) (by omega)).mono ?_
 rintro e w3 ⟨rfl, hr3, hg3⟩
 have hb3 := below_of_grown hg3 HR2.out.1 HW2.out.1
 have HGL := Aside0.mk (show g ≠ w3.heap.size from fun e => by have := hr3.lt; omega)
 clear hg3
 rw [show rd (aB k) ((0 : Nat) : Int) = k from HS.out.2.2.1]
 have HG3 := Aside0.mk ((hb3.block gp HW2.out.2).trans HG2.out)
 have HR3 := Aside0.mk hr3
 have HB3 := Aside0.mk (HB2.out.trans (hb3.mono (by have := HX.out; have := HW2.out; omega)))
 have HG5 := Aside0.mk (blk_new w3 (.cells #[.int .i64 k, .slice none 0 0, .slice none 0 0] 49))
 have hb5 := below_alloc (Below.refl w3.heap.size w3) (.cells #[.int .i64 k, .slice none 0 0, .slice none 0 0] 49)
 have HG4 := Aside0.mk (blk_below HG3.out hb5)
 have HR4 := Aside0.mk (HR3.out.below hb5)
 have HB4 := Aside0.mk (below_step HB3.out hb5)
 have HN4 := Aside0.mk (show N ≤ (w3.alloc (.cells #[.int .i64 k, .slice none 0 0, .slice none 0 0] 49)).heap.size ∧ gp < w3.heap.size from ⟨Nat.le_trans HW2.out.1 (Nat.le_trans hb3.size hb5.size), Nat.lt_of_lt_of_le HW2.out.2 (Nat.le_trans HW2.out.1 hb3.size)⟩)
 clear hr3 hb3 hb5 HG2 HR2 HB2 HG3 HR3 HB3
 have k0 : (w3.alloc (.cells #[.int .i64 k, .slice none 0 0, .slice none 0 0] 49)).cell? ⟨w3.heap.size, 0, none⟩ = some (.int .i64 k) := (blk_cell HG5.out 0).trans rfl
 by_cases h1 : k = 1
 ·subst h1
  clear hk
  go_wp2_with fail
  generalize w3.alloc (.cells #[.int .i64 1, .slice none 0 0, .slice none 0 0] 49) = w4 at HG5 HG4 HR4 HB4 HN4 k0 ⊢
  have HLA := Aside0.mk (HS.out.2.2.2.1 trivial)
  refine (vlq.Num.calls HR4.out HN4.out.1 (by have := HLA.out.1; omega) (by have := HS.out.1; omega) 1000 (by have := HLA.out.2; show 0 ≤ rd (aB 1) 1; omega) (by have := HLA.out.2; show rd (aB 1) 1 < 128; omega) (by have := HLA.out.2; show rd (aB 1) 1 ≤ 1000; omega) (by omega)).mono ?_
  rintro e w5 ⟨rfl, hr5, hg5⟩
  rw [show rd (aB 1) ((0 + 1 : Nat) : Int) = 0 from HLA.out.2]
  have HG6 := Aside0.mk (And.intro (blk_grown HG4.out hg5 (fun e => by injection e with e; have := HR4.out.1; have := HW2.out; omega)) (blk_grown HG5.out hg5 (fun e => by injection e with e; exact HGL.out e.symm)))
  have HB6 := Aside0.mk (HB4.out.trans (below_of_grown hg5 (by have := HR4.out.1; have := HX.out; have := HW2.out; omega) HB4.out.size))
  have HRC := Aside0.mk (show RD w5 N g (aB 1) (aB 1).length from by rw [HLA.out.1]; exact hr5)
  clear hr5 hg5 k0 HG4 HG5 HB4 HN4 HR4
  have k0 : True := trivial
  go_wp2
  go_loopw [6] (fun nv wr => nv = .int .i64 0 ∧ wr = w5) (fun _ _ => 0)
  case atStart => exact ⟨rfl, rfl⟩
  case round =>
   obtain ⟨rfl, rfl⟩ := hrel
   go_wp2_with fail
   refine (vlq.Close.calls HRC.out (by have := HS.out.1; omega)).mono ?_
   rintro e wD ⟨rfl, hbD⟩
   have HGD := Aside0.mk (And.intro (blk_below HG6.out.1 hbD) (blk_below HG6.out.2 hbD))
   have HBD := Aside0.mk (below_step HB6.out hbD)
   clear hbD k0
   have k0 : wD.cell? ⟨w3.heap.size, 0, none⟩ = some (.int .i64 1) := (blk_cell HGD.out.2 0).trans rfl
   have k1 : wD.cell? ⟨w3.heap.size, 1, none⟩ = some (.slice none 0 0) := (blk_cell HGD.out.2 1).trans rfl
   have k2 : wD.cell? ⟨w3.heap.size, 2, none⟩ = some (.slice none 0 0) := (blk_cell HGD.out.2 2).trans rfl
   go_wp2_with fail
   refine (answer.Check.calls none 0 1 (.inl rfl) wD).mono ?_
   rintro e wE ⟨rfl, hbE⟩
   have HGE := Aside0.mk (And.intro (blk_below HGD.out.1 hbE) (blk_below HGD.out.2 hbE))
   have HBE := Aside0.mk (below_step HBD.out hbE)
   clear hbE k0 k1 k2 HGD HBD
   have k0 : wE.cell? ⟨w3.heap.size, 0, none⟩ = some (.int .i64 1) := (blk_cell HGE.out.2 0).trans rfl
   have k1 : wE.cell? ⟨w3.heap.size, 1, none⟩ = some (.slice none 0 0) := (blk_cell HGE.out.2 1).trans rfl
   have k2 : wE.cell? ⟨w3.heap.size, 2, none⟩ = some (.slice none 0 0) := (blk_cell HGE.out.2 2).trans rfl
   have c0 : wE.cell? ⟨gp, 0, none⟩ = some (.int .i64 0) := (blk_cell HGE.out.1 0).trans rfl
   have c1 : wE.cell? ⟨gp, 1, none⟩ = some (.slice none 0 0) := (blk_cell HGE.out.1 1).trans rfl
   have c2 : wE.cell? ⟨gp, 2, none⟩ = some (.slice none 0 0) := (blk_cell HGE.out.1 2).trans rfl
   have f0 := blk_frozen HGE.out.1 0
   have f1 := blk_frozen HGE.out.1 1
   have f2 := blk_frozen HGE.out.1 2
   have HP := Aside0.mk (blk_put (blk_put (blk_put HGE.out.1 0 (.int .i64 1) rfl) 1 (.slice none 0 0) rfl) 2 (.slice none 0 0) rfl)
   have HF := Aside0.mk (show Below w.heap.size w (((wE.setCell ⟨gp, 0, none⟩ (.int .i64 1)).setCell ⟨gp, 1, none⟩ (.slice none 0 0)).setCell ⟨gp, 2, none⟩ (.slice none 0 0)) from HBE.out.trans (below_of_grown (((grown_set wE gp 0 (.int .i64 1)).trans_row (grown_set _ gp 1 (.slice none 0 0))).trans_row (grown_set _ gp 2 (.slice none 0 0))) (by have := HX.out; omega) HBE.out.size))
   go_wp2
   generalize ((wE.setCell ⟨gp, 0, none⟩ (.int .i64 1)).setCell ⟨gp, 1, none⟩ (.slice none 0 0)).setCell ⟨gp, 2, none⟩ (.slice none 0 0) = w8 at HP HF ⊢
   refine bodyPost_ret (results_ct rfl _ _ gp 49 #[.int .i64 1, .slice none 0 0, .slice none 0 0] (0, 0) _ rfl HP.out Tryz.underlying49 rfl (by kernel_rfl)) rfl ?_
   exact ⟨rfl, HF.out⟩
 ·have q1 : (k == 1) = false := beq_eq_false_iff_ne.2 h1
  have q2 : (k == 2) = false := beq_eq_false_iff_ne.2 (by omega)
  have HL1 := Aside0.mk (HS.out.2.2.2.2 h1)
  clear hk h1
  go_wp2_with fail
  have HRC := Aside0.mk (show RD (w3.alloc (.cells #[.int .i64 k, .slice none 0 0, .slice none 0 0] 49)) N g (aB k) (aB k).length from by rw [HL1.out]; exact HR4.out)
  generalize w3.alloc (.cells #[.int .i64 k, .slice none 0 0, .slice none 0 0] 49) = w4 at HG5 HG4 HRC HB4 HN4 k0 ⊢
  clear HR4
  refine (vlq.Close.calls HRC.out (by have := HS.out.1; omega)).mono ?_
  rintro e wD ⟨rfl, hbD⟩
  have HGD := Aside0.mk (And.intro (blk_below HG4.out hbD) (blk_below HG5.out hbD))
  have HBD := Aside0.mk (below_step HB4.out hbD)
  clear hbD k0
  have k0 : wD.cell? ⟨w3.heap.size, 0, none⟩ = some (.int .i64 k) := (blk_cell HGD.out.2 0).trans rfl
  have k1 : wD.cell? ⟨w3.heap.size, 1, none⟩ = some (.slice none 0 0) := (blk_cell HGD.out.2 1).trans rfl
  have k2 : wD.cell? ⟨w3.heap.size, 2, none⟩ = some (.slice none 0 0) := (blk_cell HGD.out.2 2).trans rfl
  go_wp2_with fail
  refine (answer.Check.calls none 0 k HK.out wD).mono ?_
  rintro e wE ⟨rfl, hbE⟩
  have HGE := Aside0.mk (And.intro (blk_below HGD.out.1 hbE) (blk_below HGD.out.2 hbE))
  have HBE := Aside0.mk (below_step HBD.out hbE)
  clear hbE k0 k1 k2 HGD HBD
  have k0 : wE.cell? ⟨w3.heap.size, 0, none⟩ = some (.int .i64 k) := (blk_cell HGE.out.2 0).trans rfl
  have k1 : wE.cell? ⟨w3.heap.size, 1, none⟩ = some (.slice none 0 0) := (blk_cell HGE.out.2 1).trans rfl
  have k2 : wE.cell? ⟨w3.heap.size, 2, none⟩ = some (.slice none 0 0) := (blk_cell HGE.out.2 2).trans rfl
  have c0 : wE.cell? ⟨gp, 0, none⟩ = some (.int .i64 0) := (blk_cell HGE.out.1 0).trans rfl
  have c1 : wE.cell? ⟨gp, 1, none⟩ = some (.slice none 0 0) := (blk_cell HGE.out.1 1).trans rfl
  have c2 : wE.cell? ⟨gp, 2, none⟩ = some (.slice none 0 0) := (blk_cell HGE.out.1 2).trans rfl
  have f0 := blk_frozen HGE.out.1 0
  have f1 := blk_frozen HGE.out.1 1
  have f2 := blk_frozen HGE.out.1 2
  have HP := Aside0.mk (blk_put (blk_put (blk_put HGE.out.1 0 (.int .i64 k) rfl) 1 (.slice none 0 0) rfl) 2 (.slice none 0 0) rfl)
  have HF := Aside0.mk (show Below w.heap.size w (((wE.setCell ⟨gp, 0, none⟩ (.int .i64 k)).setCell ⟨gp, 1, none⟩ (.slice none 0 0)).setCell ⟨gp, 2, none⟩ (.slice none 0 0)) from HBE.out.trans (below_of_grown (((grown_set wE gp 0 (.int .i64 k)).trans_row (grown_set _ gp 1 (.slice none 0 0))).trans_row (grown_set _ gp 2 (.slice none 0 0))) (by have := HX.out; omega) HBE.out.size))
  go_wp2
  generalize ((wE.setCell ⟨gp, 0, none⟩ (.int .i64 k)).setCell ⟨gp, 1, none⟩ (.slice none 0 0)).setCell ⟨gp, 2, none⟩ (.slice none 0 0) = w8 at HP HF ⊢
  refine bodyPost_ret (results_ct rfl _ _ gp 49 #[.int .i64 k, .slice none 0 0, .slice none 0 0] (0, 0) _ rfl HP.out Tryz.underlying49 rfl (by kernel_rfl)) rfl ?_
  exact ⟨rfl, HF.out⟩
set_option maxRecDepth 100000 in
set_option maxHeartbeats 1000000 in
theorem cloneB.calls {w : World} {A : Option Addr} {c : Nat} {xs : List Int} (h : kB.C w A xs.length xs) (hl : xs.length ≤ 10000) : Calls Tryz.prog 40 #[.slice A xs.length c] w fun e w' => ∃ v, e = .returned v ∧ kB.R 5 w' w.heap.size (fun _ => True) v xs ∧ Below w.heap.size w w' := by
 have HX := Aside0.mk h
 have HL := Aside0.mk hl
 cases A with
 | none =>
  have hn : xs = [] := by
   rcases Nat.eq_zero_or_pos xs.length with h0 | h0
   ·exact List.eq_nil_of_length_eq_zero h0
   ·obtain ⟨ad, h, _⟩ := h.2.2 h0
    cases h
  subst hn
  have e0 := Lib.run_eql_slice_nil (P := Tryz.prog) w 27 5 none 0 c 0 0 Tryz.underlying27
  clear h hl
  go_enter Tryz.func40, Tryz.ntmps40
  go_wp2
  go_ret
  exact ⟨.slice none 0 0, rfl, Kd.R_nil _ _ _ _ _, Below.refl _ _⟩
 | some ad =>
  clear h hl
  have HO := Aside0.mk (show kB.R 5 (w.alloc (.cells #[] 5)) w.heap.size (fun _ => True) (.slice (some ⟨w.heap.size, 0, none⟩) 0 0) [] from lit kB w w.heap.size 5 (xs := []) (inner := []) (okp := fun _ => True) (Reps.none _ _) (fun _ h => h) trivial (Nat.le_refl _) (by simp))
  have HX1 := Aside0.mk (Kd.C_below HX.out (below_alloc (Below.refl w.heap.size w) (.cells #[] 5)))
  have HB1 := Aside0.mk (below_alloc (Below.refl w.heap.size w) (.cells #[] 5))
  have HW1 := Aside0.mk (HB1.out.size)
  have e0 := Lib.run_eql_slice_nil (P := Tryz.prog) w 27 5 (some ad) xs.length c 0 0 Tryz.underlying27
  go_enter Tryz.func40, Tryz.ntmps40
  go_upto_region 3 with fail
  go_wp2_with (first | ((with_reducible refine gate_builtin (b := .append) (xs := #[.tmp 5, .tmp 6]) rfl ?_); at_builtin; refine Kd.R_append_row (Value.int .u8) (0 : Int) (w0 := w) (w.heap.size) rfl (.tmp 5) (.tmp 6) 27 5 (.int .u8 0) 1 rfl Tryz.underlying27 infoU8 rfl (by decide) (.slice (some ⟨w.heap.size, 0, none⟩) 0 0) (([] : List Int)) (xs) (some ad) (xs.length) (c) (fun _ => True) rfl rfl (fun _ _ => trivial) HO.out HX1.out HB1.out HW1.out (by have h := HL.out; simp; omega) ?_; intro v9 w9 hr9 hb9 hg9 hat9; have n0_ := Aside0.mk hr9; have n1_ := Aside0.mk hb9; clear hr9 hb9 hg9 hat9))
  rw [List.nil_append] at n0_
  go_wp2
  go_ret
  exact ⟨v9, rfl, n0_.out, n1_.out⟩
def STN7.T7 : Bool × List (List Nat × List Nat) := (true, [([], []), ([], []), ([1], [1]), ([2], [2]), ([3], [3]), ([], []), ([5], [5]), ([], []), ([7], [7]), ([8], [8]), ([6, 9], [6, 9]), ([10], [10]), ([4, 11, 9], [4, 11]), ([0, 0, 1, 2, 3, 4, 5, 6, 7, 8, 9, 10, 11, 12], [0]), ([13, 0, 1, 2, 3, 4, 5, 6, 7, 8, 9, 10, 11, 12], [13]), ([14, 12, 12, 0, 1, 2, 3, 4, 5, 6, 7, 8, 9, 10, 11, 12], [12, 14])])
def STN7.B7 : List Nat := [0, 0, 2, 6, 14, 0, 32, 0, 128, 384, 992, 2016, 4094, 8191, 16383, 32767]
theorem STN7.tab7 : rtab .any (opsOf Tryz.f18 7) = STN7.T7 := by kernel_rfl
theorem STN7.bits7 : waitsOk STN7.T7.2 STN7.B7 = true := by kernel_rfl
set_option maxRecDepth 100000 in
set_option maxHeartbeats 1000000 in
theorem stand.New.calls {w : World} {A : Option Addr} {c : Nat} {xs : List En} (h : kEn.C w A xs.length xs) (hl : xs.length ≤ 24) (hk : EnOk 0 8 xs) (hd : dok xs = true) : Calls Tryz.prog 18 #[.slice A xs.length c] w fun e w' => ∃ gr vl, e = .returned (.pointer (some ⟨gr, 0, none⟩)) ∧ w'.heap[gr]? = some (.cells #[vl, .slice none 0 0, .slice none 0 0] 112 (0, 0)) ∧ w.heap.size ≤ gr ∧ Below w.heap.size w w' := by
 have H := Aside0.mk h
 have HL := Aside0.mk (And.intro hl hd)
 have HK := Aside0.mk (depot.Check.calls (c := c) h hl hk)
 clear h hl hk hd
 go_enter Tryz.func18, Tryz.ntmps18
 go_wp2_with fail
 refine HK.out.mono ?_
 rintro e w1 ⟨rfl, hb1⟩
 rw [HL.out.2]
 have HB1 := Aside0.mk (below_step hb1 (below_alloc (Below.refl w1.heap.size w1) (.cells #[.slice none 0 0, .slice none 0 0, .slice none 0 0] 112)))
 have HGR0 := Aside0.mk (blk_new w1 (.cells #[.slice none 0 0, .slice none 0 0, .slice none 0 0] 112))
 have HGE := Aside0.mk hb1.size
 clear hb1 HK
 go_wp2
 generalize w1.alloc (.cells #[.slice none 0 0, .slice none 0 0, .slice none 0 0] 112) = w2 at HB1 HGR0 ⊢
 generalize w1.heap.size = gr at HGR0 HGE ⊢
 go_loopw [13] (fun iv wr => ∃ (i : Nat) (v0 : Value) (zs : List En), iv = .int .i64 (i : Int) ∧ i ≤ xs.length ∧ zs.length = i ∧ Aside0 (kEn.R 59 wr w.heap.size (fun _ => True) v0 zs) ∧ Aside0 (wr.heap[gr]? = some (.cells #[v0, .slice none 0 0, .slice none 0 0] 112 (0, 0))) ∧ Aside0 (Below w.heap.size w wr)) (fun iv _ => ((xs.length : Int) - intOf iv).toNat)
 case atStart => exact ⟨0, _, [], rfl, by omega, rfl, ⟨Kd.R_nil _ _ _ _ _⟩, HGR0, HB1⟩
 case round =>
  clear HGR0 HB1
  obtain ⟨i, v0, zs, rfl, hi, hzi, HR, HGR, HB⟩ := hrel
  obtain ⟨A3, c3, rfl⟩ := Kd.R_slice HR.out
  have hll := HL.out.1
  by_cases hlt : i < xs.length
  ·have q0 : decide ((i : Int) < (xs.length : Int)) = true := decide_eq_true (by omega)
   have u0 : (0 : Int) ≤ (i : Int) := by omega
   have u1 : (i : Int) < (xs.length : Int) := by omega
   have HA9 := Aside0.mk (show wrap64 ((i : Int) + 1) = (i : Int) + 1 from wrap_id (by omega) (by omega))
   obtain ⟨ad, A1, c1, rfl, k0, k1, hlc, hcs⟩ := at_En (Kd.C_below H.out HB.out) i hlt
   have HXL := Aside0.mk (show (xs.getD i zEn).2.length ≤ 10000 from by
    have hd := HL.out.2
    unfold dok at hd
    rw [List.all_eq_true] at hd
    have := of_decide_eq_true (hd _ (getD_mem xs zEn i hlt))
    omega)
   generalize xs.getD i zEn = x at k0 k1 hlc hcs HXL
   have HZL := Aside0.mk (show zs.length ≤ 24 by omega)
   have HZI := Aside0.mk (And.intro hzi hlt)
   have hba := below_alloc (Below.refl wr.heap.size wr) (.cells #[.string x.1, .slice A1 x.2.length c1] 59)
   have HGX2 := Aside0.mk (blk_new wr (.cells #[.string x.1, .slice A1 x.2.length c1] 59))
   have HS2 := Aside0.mk (Kd.C_below hcs hba)
   have HR2 := Aside0.mk (Kd.R_below HR.out hba)
   have HGR2 := Aside0.mk (blk_below HGR.out hba)
   have HB2 := Aside0.mk (below_step HB.out hba)
   clear hba hcs hlc HB HR HGR hzi hi
   go_wp2
   generalize wr.alloc (.cells #[.string x.1, .slice A1 x.2.length c1] 59) = w1 at HGX2 HS2 HR2 HGR2 HB2 ⊢
   generalize wr.heap.size = gx at HGX2 ⊢
   have HGX := Aside0.mk (show w1.drew.heap[gx]? = _ from HGX2.out)
   have HGR := Aside0.mk (show w1.drew.heap[gr]? = _ from HGR2.out)
   have HB1 := Aside0.mk (below_drew HB2.out)
   have HS := Aside0.mk (Kd.C_below HS2.out (below_drew (Below.refl _ _)))
   have HR := Aside0.mk (show kEn.R 59 w1.drew w.heap.size (fun _ => True) (.slice A3 zs.length c3) zs from Kd.R_below HR2.out (below_drew (Below.refl _ _)))
   have HA3 := Aside0.mk (show ∀ k, some k = (Value.slice A3 zs.length c3).ownBlock → k < w1.drew.heap.size from fun k hk => by
    obtain ⟨inner, ho⟩ := Kd.R_own HR.out
    exact own_lt ho k hk.symm)
   have HW1 := Aside0.mk HB1.out.size
   clear HGX2 HGR2 HB2 HS2 HR2 k0 k1
   refine start_ (n := 16) (S := fun w' => w'.cell? ⟨gx, 0, none⟩ = some (.string x.1) ∧ w'.cell? ⟨gx, 1, none⟩ = some (.slice A1 x.2.length c1) ∧ w'.cell? ⟨gr, 0, none⟩ = some (.slice A3 zs.length c3)) (ds := [12, 15]) #[O,O,O,O,O,O,O,O,O,O,O,O,O,O,O,O] (by kernel_rfl) rfl rfl ⟨((blk_cell HGX.out 0).trans rfl), ((blk_cell HGX.out 1).trans rfl), ((blk_cell HGR.out 0).trans rfl)⟩ (fun hHeld => ?_)
   refine with_tabW STN7.tab7 STN7.bits7 (fun HT_ HW_ => ?_)
   refine pure_ (i := 0) (N := some 17) (v := ?_) (a' := ?_) #[Y,O,O,O,O,O,O,O,O,O,O,O,O,O,O,O] rfl rfl (any_of HT_.out (by kernel_rfl)) (fun _ _ _ h => h) (Or.inl ⟨by rfl, ?_⟩) ?_ ?_
   rotate_left
   ·intro w'
    go_simp
    with_reducible rfl
   rotate_left
   ·simp only [PN]
    rfl
   refine pure_ (i := 1) (N := some 18) (v := ?_) (a' := ?_) #[Y,Y,O,O,O,O,O,O,O,O,O,O,O,O,O,O] rfl rfl (any_of HT_.out (by kernel_rfl)) (fun _ _ _ h => h) (Or.inl ⟨by rfl, ?_⟩) ?_ ?_
   rotate_left
   ·intro w'
    go_simp
    with_reducible rfl
   rotate_left
   ·simp only [PN]
    rfl
   refine pure_ (i := 2) (N := some 19) (v := ?_) (a' := ?_) #[Y,Y,Y,O,O,O,O,O,O,O,O,O,O,O,O,O] rfl rfl (any_of HT_.out (by kernel_rfl)) (fun _ _ _ h => h) (Or.inl ⟨by rfl, ?_⟩) ?_ ?_
   rotate_left
   ·intro w'
    go_simp
    with_reducible rfl
   rotate_left
   ·simp only [PN]
    rfl
   refine pure_ (i := 3) (N := some 20) (v := ?_) (a' := ?_) #[Y,Y,Y,Y,O,O,O,O,O,O,O,O,O,O,O,O] rfl rfl (any_of HT_.out (by kernel_rfl)) (fun _ _ _ h => h) (Or.inl ⟨by rfl, ?_⟩) ?_ ?_
   rotate_left
   ·intro w'
    go_simp
    with_reducible rfl
   rotate_left
   ·simp only [PN]
    rfl
   refine pure_ (i := 5) (N := some 22) (v := ?_) (a' := ?_) #[Y,Y,Y,Y,O,Y,O,O,O,O,O,O,O,O,O,O] rfl rfl (any_of HT_.out (by kernel_rfl)) (fun _ _ _ h => h) (Or.inl ⟨by rfl, ?_⟩) ?_ ?_
   rotate_left
   ·intro w'
    go_simp
    with_reducible rfl
   rotate_left
   ·simp only [PN]
    rfl
   refine pure_ (i := 7) (N := some 24) (v := ?_) (a' := ?_) #[Y,Y,Y,Y,O,Y,O,Y,O,O,O,O,O,O,O,O] rfl rfl (any_of HT_.out (by kernel_rfl)) (fun _ _ _ h => h) (Or.inl ⟨by rfl, ?_⟩) ?_ ?_
   rotate_left
   ·intro w'
    go_simp
    with_reducible rfl
   rotate_left
   ·simp only [PN]
    rfl
   refine take_ (i := 4) (N := some 21) (v := ?_) (a' := ?_) #[Y,Y,Y,Y,Y,Y,O,Y,O,O,O,O,O,O,O,O] rfl rfl (take_ofW HT_.out HW_.out (by kernel_rfl)) (fun _ _ _ h => h) (Or.inl ⟨by rfl, ?_⟩) hHeld ?_ ?_
   rotate_left
   ·rintro w' ⟨s0, s1, s2⟩
    go_simp
    with_reducible rfl
   rotate_left
   ·simp only [PN]
    rfl
   refine take_ (i := 6) (N := some 23) (v := ?_) (a' := ?_) #[Y,Y,Y,Y,Y,Y,Y,Y,O,O,O,O,O,O,O,O] rfl rfl (take_ofW HT_.out HW_.out (by kernel_rfl)) (fun _ _ _ h => h) (Or.inl ⟨by rfl, ?_⟩) hHeld ?_ ?_
   rotate_left
   ·rintro w' ⟨s0, s1, s2⟩
    go_simp
    with_reducible rfl
   rotate_left
   ·simp only [PN]
    rfl
   refine take_ (i := 8) (N := some 25) (v := ?_) (a' := ?_) #[Y,Y,Y,Y,Y,Y,Y,Y,Y,O,O,O,O,O,O,O] rfl rfl (take_ofW HT_.out HW_.out (by kernel_rfl)) (fun _ _ _ h => h) (Or.inl ⟨by rfl, ?_⟩) hHeld ?_ ?_
   rotate_left
   ·rintro w' ⟨s0, s1, s2⟩
    go_simp
    with_reducible rfl
   rotate_left
   ·simp only [PN]
    rfl
   refine one_ (i := 9) (N := some 26) #[Y,Y,Y,Y,Y,Y,Y,Y,Y,Y,O,O,O,O,O,O] rfl rfl (one_of HT_.out (by kernel_rfl)) (by decide) (fun K hK => ?_)
   refine goes_ Tryz.func40 (by kernel_rfl) rfl #[.slice A1 x.2.length c1] (by rfl) rfl rfl (by (try simp only [List.map_toArray, List.map_cons, List.map_nil]); first | done | rfl) ?_
   refine (cloneB.calls HS.out HXL.out).mono ?_
   rintro e w5 ⟨v5, rfl, hr5, hb5⟩
   refine ⟨_, rfl, ?_⟩
   obtain ⟨A5, c5, rfl⟩ := Kd.R_slice hr5
   have HR5 := Aside0.mk (Kd.R_below HR.out hb5)
   have HY5 := Aside0.mk (show kB.R 5 w5 w.heap.size (fun k => some k ≠ (Value.slice A3 zs.length c3).ownBlock) (.slice A5 x.2.length c5) x.2 from Kd.R_lower (Kd.R_mono (Kd.R_bound hr5) (fun k hk e => by have h1 := HA3.out k e; have h2 : w1.drew.heap.size ≤ k := hk.2.1; exact absurd h1 (Nat.not_lt.2 h2))) HW1.out)
   have HB5 := Aside0.mk (below_step HB1.out hb5)
   have HGX5 := Aside0.mk (blk_below HGX.out hb5)
   have HGR5 := Aside0.mk (blk_below HGR.out hb5)
   clear hr5 hb5
   refine hK.out _ _ ⟨((blk_cell HGX5.out 0).trans rfl), ((blk_cell HGX5.out 1).trans rfl), ((blk_cell HGR5.out 0).trans rfl)⟩ (fun hHeld => ?_)
   clear hK K
   refine norm_ (a' := ?_) ?_ ?_
   rotate_left
   ·show Act.put _ (some 26) _ = _
    simp only [PN]
    rfl
   refine pure_ (i := 10) (N := some 27) (v := ?_) (a' := ?_) #[Y,Y,Y,Y,Y,Y,Y,Y,Y,Y,Y,O,O,O,O,O] rfl rfl (any_of HT_.out (by kernel_rfl)) (fun _ _ _ h => h) (Or.inl ⟨by rfl, ?_⟩) ?_ ?_
   rotate_left
   ·intro w'
    go_simp
    with_reducible rfl
   rotate_left
   ·simp only [PN]
    rfl
   refine one_ (i := 11) (N := some 28) #[Y,Y,Y,Y,Y,Y,Y,Y,Y,Y,Y,Y,O,O,O,O] rfl rfl (one_of HT_.out (by kernel_rfl)) (by decide) (fun K hK => ?_)
   have hba_ := below_alloc (Below.refl w5.heap.size w5) (.cells #[.string x.1, .slice A5 x.2.length c5] 59)
   have HGX6 := Aside0.mk (blk_below HGX5.out hba_)
   have HGR6 := Aside0.mk (blk_below HGR5.out hba_)
   clear hba_
   refine value_ (w1 := ?_) (v := ?_) (by rfl) rfl ?_ ?_
   rotate_left 2
   ·go_simp
    constructor
    ·rfl
    ·rfl
   refine hK.out _ _ ⟨((blk_cell HGX6.out 0).trans rfl), ((blk_cell HGX6.out 1).trans rfl), ((blk_cell HGR6.out 0).trans rfl)⟩ (fun hHeld => ?_)
   clear hK K
   refine norm_ (a' := ?_) ?_ ?_
   rotate_left
   ·show Act.put _ (some 28) _ = _
    simp only [PN]
    rfl
   refine last_ (i := 12) (N := some 29) #[Y,Y,Y,Y,Y,Y,Y,Y,Y,Y,Y,Y,Y,O,O,O] rfl rfl (one_of HT_.out (by kernel_rfl)) (by decide) (fun K hK => ?_)
   refine Kd.R_append_step kEn (w0 := w) (w.heap.size) (by rfl) (.tmp 21) (.tmp 28) 28 59 (.agg #[.string ⟨#[]⟩, .slice none 0 0]) 40 rfl Tryz.underlying28 infoEn rfl (by decide) (by omega) (.slice A3 zs.length c3) (zs) ((x.1, x.2)) [.string x.1, .slice A5 x.2.length c5] (fun _ => True) (fun k => some k ≠ (Value.slice A3 zs.length c3).ownBlock) rfl rfl (kEn_mkM _ HY5.out) (fun _ hk => ⟨trivial, hk⟩) (fun _ _ => trivial) HR5.out HB5.out HB5.out.size (by have h := HZL.out; omega) ?_
   intro v9 w9 hr9 hb9 hg9 hat9
   obtain ⟨A9, c9, rfl⟩ := Kd.R_slice hr9
   have HR9 := Aside0.mk hr9
   have HB9 := Aside0.mk hb9
   have HGR9 := Aside0.mk (blk_grown HGR5.out hg9 (Kd.R_ne HR5.out HGR5.out (by decide)))
   have f9 := blk_frozen HGR9.out 0
   have k9 : w9.cell? ⟨gr, 0, none⟩ = some (.slice A3 zs.length c3) := (blk_cell HGR9.out 0).trans rfl
   clear hr9 hb9 hg9 hat9
   refine hK.out _ _ ?_
   clear hK K
   refine norm_ (a' := ?_) ?_ ?_
   rotate_left
   ·show Act.put _ (some 29) _ = _
    simp only [PN]
    rfl
   refine pure_ (i := 13) (N := some 30) (v := ?_) (a' := ?_) #[Y,Y,Y,Y,Y,Y,Y,Y,Y,Y,Y,Y,Y,Y,O,O] rfl rfl (any_of HT_.out (by kernel_rfl)) (fun _ _ _ h => h) (Or.inl ⟨by rfl, ?_⟩) ?_ ?_
   rotate_left
   ·intro w'
    go_simp
    with_reducible rfl
   rotate_left
   ·simp only [PN]
    rfl
   refine pure_ (i := 14) (N := some 31) (v := ?_) (a' := ?_) #[Y,Y,Y,Y,Y,Y,Y,Y,Y,Y,Y,Y,Y,Y,Y,O] rfl rfl (any_of HT_.out (by kernel_rfl)) (fun _ _ _ h => h) (Or.inl ⟨by rfl, ?_⟩) ?_ ?_
   rotate_left
   ·intro w'
    go_simp
    with_reducible rfl
   rotate_left
   ·simp only [PN]
    rfl
   refine last_ (i := 15) (N := none) #[Y,Y,Y,Y,Y,Y,Y,Y,Y,Y,Y,Y,Y,Y,Y,Y] rfl rfl (one_of HT_.out (by kernel_rfl)) (by decide) (fun K hK => ?_)
   refine skip_ (w1 := ?_) (by rfl) rfl ?_ ?_
   rotate_left
   ·go_simp
    rfl
   refine hK.out _ _ ?_
   clear hK K
   refine done_ (done_of HT_.out (by kernel_rfl)) ?_
   clear hHeld f9 k9
   have hrl : (zs ++ [(x.1, x.2)]).length = zs.length + 1 := by simp
   rw [hrl] at HR9
   clear hrl
   have g9 := grown_set w9 gr 0 (.slice A9 (zs.length + 1) c9)
   have hk9 : Kf w.heap.size [112] (fun _ => False) w9 (w9.setCell ⟨gr, 0, none⟩ (.slice A9 (zs.length + 1) c9)) := Kf.grown g9 HGR9.out (by simp) HGE.out
   have HRE := Aside0.mk (R_kf HR9.out hk9 (by decide))
   have HGRE := Aside0.mk (show (w9.setCell ⟨gr, 0, none⟩ (.slice A9 (zs.length + 1) c9)).heap[gr]? = some (.cells #[.slice A9 (zs.length + 1) c9, .slice none 0 0, .slice none 0 0] 112 (0, 0)) from blk_put HGR9.out 0 _ rfl)
   have HBE := Aside0.mk (HB9.out.trans (below_of_grown g9 HGE.out HB9.out.size))
   have HLE := Aside0.mk (show (zs ++ [(x.1, x.2)]).length = i + 1 from by have := HZI.out.1; simp; omega)
   clear g9 hk9
   have a9 := HA9.out
   have hlt := HZI.out.2
   go_wp2
   go_roundw
   case rel => exact ⟨i + 1, _, _, by go_num, hlt, HLE.out, HRE, HGRE, HBE⟩
   case measure => first | (rw [a9]; exact meas _ _ hlt) | exact meas _ _ hlt
  ·have q0 : decide ((i : Int) < (xs.length : Int)) = false := decide_eq_false (by omega)
   go_wp2
   go_ret
   exact ⟨gr, _, rfl, HGR.out, HGE.out, HB.out⟩
def SR (w : World) (N0 gr m : Nat) : Prop := N0 ≤ gr ∧ ∃ vl vs Aw cw, ∃ ws : List (Int × ByteArray), w.heap[gr]? = some (.cells #[vl, .slice Aw ws.length cw, vs] 112 (0, 0)) ∧ kIss.R 208 w N0 (fun _ => True) (.slice Aw ws.length cw) ws ∧ ws.length ≤ m
theorem SR.kf {w w' : World} {N0 gr m : Nat} {Ts : List Nat} {X : Nat → Prop} (h : SR w N0 gr m) (hk : Kf N0 Ts X w w') (ht : 112 ∉ Ts ∧ 208 ∉ Ts) : SR w' N0 gr m := by
 obtain ⟨h0, vl, vs, Aw, cw, ws, h1, h2, h3⟩ := h
 exact ⟨h0, vl, vs, Aw, cw, ws, hk.blk h1 ht.1, R_kf h2 hk (fun q hq => by simp [kIss, Kd.pair, Kd.int, Kd.string, Kd.scalar] at hq; rw [hq]; exact ht.2), h3⟩
theorem SR.below {w w' : World} {N0 gr m : Nat} (h : SR w N0 gr m) (hb : Below w.heap.size w w') : SR w' N0 gr m := h.kf (Ts := []) (X := fun _ => False) (Kf.below hb) (by simp)
theorem at_Act {w : World} {A : Option Addr} {n : Nat} {xs : List (List Value)} (h : (Kd.raw 7).C w A n xs) (i : Nat) (hi : i < n) : ∃ ad, A = some ad ∧ ∀ j u, (xs.getD i [])[j]? = some u → w.cell? (ad.add (i * 7 + j)) = some u := by
 obtain ⟨ad, c, e, _, hK, hc0⟩ := Kd.C_get h [] (i : Int) (by omega) (by omega)
 have hc : ∀ j u, c[j]? = some u → w.cell? (ad.add (i * 7 + j)) = some u := hc0
 obtain ⟨rfl, _⟩ := hK
 exact ⟨ad, e, fun j u hu => hc j u (by rw [Int.toNat_natCast]; exact hu)⟩
theorem at_Act7 {w : World} {A : Option Addr} {n : Nat} {xs : List (List Value)} (h : (Kd.raw 7).C w A n xs) (i : Nat) (hi : i < n) {a0 a1 a2 a3 a4 a5 a6 : Value} (hx : xs.getD i [] = [a0, a1, a2, a3, a4, a5, a6]) : ∃ ad, A = some ad ∧ w.cell? (ad.add (i * 7)) = some a0 ∧ w.cell? ⟨(ad.add (i * 7)).block, (ad.add (i * 7)).off + 1, none⟩ = some a1 ∧ w.cell? ⟨(ad.add (i * 7)).block, (ad.add (i * 7)).off + 2, none⟩ = some a2 ∧ w.cell? ⟨(ad.add (i * 7)).block, (ad.add (i * 7)).off + 3, none⟩ = some a3 ∧ w.cell? ⟨(ad.add (i * 7)).block, (ad.add (i * 7)).off + 4, none⟩ = some a4 ∧ w.cell? ⟨(ad.add (i * 7)).block, (ad.add (i * 7)).off + 5, none⟩ = some a5 ∧ w.cell? ⟨(ad.add (i * 7)).block, (ad.add (i * 7)).off + 6, none⟩ = some a6 := by
 obtain ⟨ad, e, hc⟩ := at_Act h i hi
 rw [hx] at hc
 refine ⟨ad, e, hc 0 _ rfl, ?_, ?_, ?_, ?_, ?_, ?_⟩
 ·rw [← add_field _ _ 1 (by omega)]; exact hc 1 _ rfl
 ·rw [← add_field _ _ 2 (by omega)]; exact hc 2 _ rfl
 ·rw [← add_field _ _ 3 (by omega)]; exact hc 3 _ rfl
 ·rw [← add_field _ _ 4 (by omega)]; exact hc 4 _ rfl
 ·rw [← add_field _ _ 5 (by omega)]; exact hc 5 _ rfl
 ·rw [← add_field _ _ 6 (by omega)]; exact hc 6 _ rfl
theorem infoWait : (Tryz.prog.info? 208).map (fun i => (i.zero, i.size, i.bytes)) = some (some (.agg #[.int .i64 0, .string ⟨#[]⟩]), 2, 24) := by kernel_rfl
def TAK6.T6 : Bool × List (List Nat × List Nat) := (true, [([], []), ([], []), ([1], [1]), ([2], [2]), ([3], [3]), ([], []), ([5], [5]), ([], []), ([7], [7]), ([6, 8], [6, 8]), ([9], [9]), ([4, 10], [4, 10]), ([0, 0, 1, 2, 3, 4, 5, 6, 7, 8, 9, 10, 11], [0]), ([12, 0, 1, 2, 3, 4, 5, 6, 7, 8, 9, 10, 11], [12]), ([13, 11, 11, 0, 1, 2, 3, 4, 5, 6, 7, 8, 9, 10, 11], [11, 13])])
def TAK6.B6 : List Nat := [0, 0, 2, 6, 14, 0, 32, 0, 128, 480, 992, 2046, 4095, 8191, 16383]
theorem TAK6.tab6 : rtab .any (opsOf Tryz.f64 6) = TAK6.T6 := by kernel_rfl
theorem TAK6.bits6 : waitsOk TAK6.T6.2 TAK6.B6 = true := by kernel_rfl
set_option maxRecDepth 100000 in
set_option maxHeartbeats 1000000 in
theorem stand.Take.calls {w : World} {N0 gr m : Nat} {A : Option Addr} {c : Nat} {rows : List (List Value)} (hS : SR w N0 gr m) (hr : (Kd.raw 7).R 131 w N0 (fun _ => True) (.slice A rows.length c) rows) (hok : ∀ r ∈ rows, AOk r) (hN : N0 ≤ w.heap.size) (hl : rows.length ≤ 900) (hm : m ≤ 100000) : Calls Tryz.prog 64 #[.pointer (some ⟨gr, 0, none⟩), .slice A rows.length c] w fun e w' => (∃ n, e = .returned (.int .i64 n)) ∧ SR w' N0 gr (m + rows.length) ∧ Kf N0 [112, 208] (fun _ => False) w w' := by
 have HS0 := Aside0.mk hS
 have HR0 := Aside0.mk hr
 have HOK := Aside0.mk hok
 have HL := Aside0.mk (And.intro hN (And.intro hl hm))
 clear hS hr hok hN hl hm
 go_enter Tryz.func64, Tryz.ntmps64
 go_wp2
 go_loopw [5, 10] (fun nv iv wr => ∃ (i n : Nat), nv = .int .i64 (n : Int) ∧ iv = .int .i64 (i : Int) ∧ i ≤ rows.length ∧ n ≤ i ∧ Aside0 (SR wr N0 gr (m + i)) ∧ Aside0 (Kf N0 [112, 208] (fun _ => False) w wr)) (fun _ iv _ => ((rows.length : Int) - intOf iv).toNat)
 case atStart => exact ⟨0, 0, rfl, rfl, by omega, by omega, HS0, ⟨Kf.refl⟩⟩
 case round =>
  obtain ⟨i, n, rfl, rfl, hi, hn, HS, HK⟩ := hrel
  have hll := HL.out.2.1
  by_cases hlt : i < rows.length
  ·have q0 : decide ((i : Int) < (rows.length : Int)) = true := decide_eq_true (by omega)
   have u0 : (0 : Int) ≤ (i : Int) := by omega
   have u1 : (i : Int) < (rows.length : Int) := by omega
   have HA9 := Aside0.mk (show wrap64 ((i : Int) + 1) = (i : Int) + 1 from wrap_id (by omega) (by omega))
   have HB9 := Aside0.mk (show wrap64 ((n : Int) + 1) = ((n + 1 : Nat) : Int) from wrap_id (by omega) (by omega))
   have HI := Aside0.mk (And.intro hlt hn)
   have hrw := R_kf HR0.out HK.out (by decide)
   obtain hro := HOK.out _ (getD_mem rows [] i hlt)
   clear hi hn
   rcases hro with ⟨id, k, Ap, cp, er, _⟩ | ⟨t, x, er⟩
   ·obtain ⟨ad, rfl, x0, x1, x2, x3, x4, x5, x6⟩ := at_Act7 (Kd.R_reads' hrw).2.2 i hlt er
    have hba := below_alloc (Below.refl wr.heap.size wr) (.cells #[.int .i64 2, .int .i64 0, .string ⟨#[]⟩, .int .i64 id, .int .i64 k, .slice Ap 0 cp, .slice none 0 0] 131)
    have HS2 := Aside0.mk (HS.out.below hba)
    have HK2 := Aside0.mk (HK.out.trans (Kf.below hba))
    have hgb := blk_new wr (.cells #[.int .i64 2, .int .i64 0, .string ⟨#[]⟩, .int .i64 id, .int .i64 k, .slice Ap 0 cp, .slice none 0 0] 131)
    have k0 : (wr.alloc (.cells #[.int .i64 2, .int .i64 0, .string ⟨#[]⟩, .int .i64 id, .int .i64 k, .slice Ap 0 cp, .slice none 0 0] 131)).cell? ⟨wr.heap.size, 0, none⟩ = some (.int .i64 2) := (blk_cell hgb 0).trans rfl
    clear hba hrw er hgb HS HK hll
    have a9 := HA9.out
    have hlt := HI.out.1
    have hn := HI.out.2
    go_wp2
    go_roundw
    case rel => exact ⟨i + 1, n, rfl, by go_num, hlt, by omega, ⟨by obtain ⟨h0, vl, vs, Aw, cw, ws, h1, h2, h3⟩ := HS2.out; exact ⟨h0, vl, vs, Aw, cw, ws, h1, h2, by omega⟩⟩, HK2⟩
    case measure => first | (rw [a9]; exact meas _ _ hlt) | exact meas _ _ hlt
   ·obtain ⟨ad, rfl, x0, x1, x2, x3, x4, x5, x6⟩ := at_Act7 (Kd.R_reads' hrw).2.2 i hlt er
    have hba := below_alloc (Below.refl wr.heap.size wr) (.cells #[.int .i64 1, .int .i64 t, .string x, .int .i64 0, .int .i64 0, .slice none 0 0, .slice none 0 0] 131)
    have HGB4 := Aside0.mk (blk_new wr (.cells #[.int .i64 1, .int .i64 t, .string x, .int .i64 0, .int .i64 0, .slice none 0 0, .slice none 0 0] 131))
    have HS4 := Aside0.mk (HS.out.below hba)
    have HK4 := Aside0.mk (HK.out.trans (Kf.below hba))
    have k0 : (wr.alloc (.cells #[.int .i64 1, .int .i64 t, .string x, .int .i64 0, .int .i64 0, .slice none 0 0, .slice none 0 0] 131)).cell? ⟨wr.heap.size, 0, none⟩ = some (.int .i64 1) := (blk_cell HGB4.out 0).trans rfl
    clear hba hrw er HS HK hll
    go_wp2
    clear k0 x0 x1 x2 x3 x4 x5 x6
    generalize wr.alloc (.cells #[.int .i64 1, .int .i64 t, .string x, .int .i64 0, .int .i64 0, .slice none 0 0, .slice none 0 0] 131) = w4 at HGB4 HS4 HK4 ⊢
    generalize wr.heap.size = gb at HGB4 ⊢
    have HK := Aside0.mk (HK4.out.trans (Kf.below (below_drew (Below.refl w4.heap.size w4))))
    have HW := Aside0.mk (show N0 ≤ w4.drew.heap.size from Nat.le_trans HL.out.1 HK.out.size)
    have HGB := Aside0.mk (show w4.drew.heap[gb]? = _ from HGB4.out)
    obtain ⟨hgl, vl, vs, Aw, cw, ws, h1, h2, h3⟩ := HS4.out.below (below_drew (Below.refl w4.heap.size w4))
    have HGR := Aside0.mk h1
    have HRW := Aside0.mk h2
    have HWL := Aside0.mk (show ws.length ≤ 200000 by have := HL.out; have := HI.out; omega)
    have HLO := Aside0.mk (And.intro hgl h3)
    clear HGB4 HS4 HK4 hgl h1 h2 h3
    refine start_ (n := 15) (S := fun w' => w'.cell? ⟨gr, 1, none⟩ = some (.slice Aw ws.length cw) ∧ w'.cell? ⟨gb, 1, none⟩ = some (.int .i64 t) ∧ w'.cell? ⟨gb, 2, none⟩ = some (.string x)) (ds := [11, 14]) #[O,O,O,O,O,O,O,O,O,O,O,O,O,O,O] (by kernel_rfl) rfl rfl ⟨((blk_cell HGR.out 1).trans rfl), ((blk_cell HGB.out 1).trans rfl), ((blk_cell HGB.out 2).trans rfl)⟩ (fun hHeld => ?_)
    refine with_tabW TAK6.tab6 TAK6.bits6 (fun HT_ HW_ => ?_)
    refine pure_ (i := 0) (N := some 21) (v := ?_) (a' := ?_) #[Y,O,O,O,O,O,O,O,O,O,O,O,O,O,O] rfl rfl (any_of HT_.out (by kernel_rfl)) (fun _ _ _ h => h) (Or.inl ⟨by rfl, ?_⟩) ?_ ?_
    rotate_left
    ·intro w'
     go_simp
     with_reducible rfl
    rotate_left
    ·simp only [PN]
     rfl
    refine pure_ (i := 1) (N := some 22) (v := ?_) (a' := ?_) #[Y,Y,O,O,O,O,O,O,O,O,O,O,O,O,O] rfl rfl (any_of HT_.out (by kernel_rfl)) (fun _ _ _ h => h) (Or.inl ⟨by rfl, ?_⟩) ?_ ?_
    rotate_left
    ·intro w'
     go_simp
     with_reducible rfl
    rotate_left
    ·simp only [PN]
     rfl
    refine pure_ (i := 2) (N := some 23) (v := ?_) (a' := ?_) #[Y,Y,Y,O,O,O,O,O,O,O,O,O,O,O,O] rfl rfl (any_of HT_.out (by kernel_rfl)) (fun _ _ _ h => h) (Or.inl ⟨by rfl, ?_⟩) ?_ ?_
    rotate_left
    ·intro w'
     go_simp
     with_reducible rfl
    rotate_left
    ·simp only [PN]
     rfl
    refine pure_ (i := 3) (N := some 24) (v := ?_) (a' := ?_) #[Y,Y,Y,Y,O,O,O,O,O,O,O,O,O,O,O] rfl rfl (any_of HT_.out (by kernel_rfl)) (fun _ _ _ h => h) (Or.inl ⟨by rfl, ?_⟩) ?_ ?_
    rotate_left
    ·intro w'
     go_simp
     with_reducible rfl
    rotate_left
    ·simp only [PN]
     rfl
    refine pure_ (i := 5) (N := some 26) (v := ?_) (a' := ?_) #[Y,Y,Y,Y,O,Y,O,O,O,O,O,O,O,O,O] rfl rfl (any_of HT_.out (by kernel_rfl)) (fun _ _ _ h => h) (Or.inl ⟨by rfl, ?_⟩) ?_ ?_
    rotate_left
    ·intro w'
     go_simp
     with_reducible rfl
    rotate_left
    ·simp only [PN]
     rfl
    refine pure_ (i := 7) (N := some 28) (v := ?_) (a' := ?_) #[Y,Y,Y,Y,O,Y,O,Y,O,O,O,O,O,O,O] rfl rfl (any_of HT_.out (by kernel_rfl)) (fun _ _ _ h => h) (Or.inl ⟨by rfl, ?_⟩) ?_ ?_
    rotate_left
    ·intro w'
     go_simp
     with_reducible rfl
    rotate_left
    ·simp only [PN]
     rfl
    refine take_ (i := 4) (N := some 25) (v := ?_) (a' := ?_) #[Y,Y,Y,Y,Y,Y,O,Y,O,O,O,O,O,O,O] rfl rfl (take_ofW HT_.out HW_.out (by kernel_rfl)) (fun _ _ _ h => h) (Or.inl ⟨by rfl, ?_⟩) hHeld ?_ ?_
    rotate_left
    ·rintro w' ⟨s0, s1, s2⟩
     go_simp
     with_reducible rfl
    rotate_left
    ·simp only [PN]
     rfl
    refine take_ (i := 6) (N := some 27) (v := ?_) (a' := ?_) #[Y,Y,Y,Y,Y,Y,Y,Y,O,O,O,O,O,O,O] rfl rfl (take_ofW HT_.out HW_.out (by kernel_rfl)) (fun _ _ _ h => h) (Or.inl ⟨by rfl, ?_⟩) hHeld ?_ ?_
    rotate_left
    ·rintro w' ⟨s0, s1, s2⟩
     go_simp
     with_reducible rfl
    rotate_left
    ·simp only [PN]
     rfl
    refine take_ (i := 8) (N := some 29) (v := ?_) (a' := ?_) #[Y,Y,Y,Y,Y,Y,Y,Y,Y,O,O,O,O,O,O] rfl rfl (take_ofW HT_.out HW_.out (by kernel_rfl)) (fun _ _ _ h => h) (Or.inl ⟨by rfl, ?_⟩) hHeld ?_ ?_
    rotate_left
    ·rintro w' ⟨s0, s1, s2⟩
     go_simp
     with_reducible rfl
    rotate_left
    ·simp only [PN]
     rfl
    refine pure_ (i := 9) (N := some 30) (v := ?_) (a' := ?_) #[Y,Y,Y,Y,Y,Y,Y,Y,Y,Y,O,O,O,O,O] rfl rfl (any_of HT_.out (by kernel_rfl)) (fun _ _ _ h => h) (Or.inl ⟨by rfl, ?_⟩) ?_ ?_
    rotate_left
    ·intro w'
     go_simp
     with_reducible rfl
    rotate_left
    ·simp only [PN]
     rfl
    refine one_ (i := 10) (N := some 31) #[Y,Y,Y,Y,Y,Y,Y,Y,Y,Y,Y,O,O,O,O] rfl rfl (one_of HT_.out (by kernel_rfl)) (by decide) (fun K hK => ?_)
    have hba_ := below_alloc (Below.refl w4.drew.heap.size w4.drew) (.cells #[.int .i64 t, .string x] 208)
    have HGR6 := Aside0.mk (blk_below HGR.out hba_)
    have HGB6 := Aside0.mk (blk_below HGB.out hba_)
    clear hba_
    refine value_ (w1 := ?_) (v := ?_) (by rfl) rfl ?_ ?_
    rotate_left 2
    ·go_simp
     constructor
     ·rfl
     ·rfl
    refine hK.out _ _ ⟨((blk_cell HGR6.out 1).trans rfl), ((blk_cell HGB6.out 1).trans rfl), ((blk_cell HGB6.out 2).trans rfl)⟩ (fun hHeld => ?_)
    clear hK K
    refine norm_ (a' := ?_) ?_ ?_
    rotate_left
    ·show Act.put _ (some 31) _ = _
     simp only [PN]
     rfl
    refine last_ (i := 11) (N := some 32) #[Y,Y,Y,Y,Y,Y,Y,Y,Y,Y,Y,Y,O,O,O] rfl rfl (one_of HT_.out (by kernel_rfl)) (by decide) (fun K hK => ?_)
    refine Kd.R_append_step kIss (w0 := w4.drew) (N0) (by rfl) (.tmp 25) (.tmp 31) 109 208 (.agg #[.int .i64 0, .string ⟨#[]⟩]) 24 rfl Tryz.underlying109 infoWait rfl (by decide) (by omega) (.slice Aw ws.length cw) (ws) ((t, x)) [.int .i64 t, .string x] (fun _ => True) (fun _ => False) rfl rfl (kIss_mkM _ _ _ _) (fun _ hk => hk.elim) (fun _ _ => trivial) HRW.out (Below.refl N0 w4.drew) HW.out (by have := HWL.out; omega) ?_
    intro v9 w9 hr9 hb9 hg9 hat9
    obtain ⟨A9, c9, rfl⟩ := Kd.R_slice hr9
    have HR9 := Aside0.mk hr9
    have HGR9 := Aside0.mk (blk_grown HGR.out hg9 (Kd.R_ne HRW.out HGR.out (by decide)))
    have HKG9 := Aside0.mk hg9
    have f9 := blk_frozen HGR9.out 1
    have k9 : w9.cell? ⟨gr, 1, none⟩ = some (.slice Aw ws.length cw) := (blk_cell HGR9.out 1).trans rfl
    clear hr9 hb9 hg9 hat9
    refine hK.out _ _ ?_
    clear hK K
    refine norm_ (a' := ?_) ?_ ?_
    rotate_left
    ·show Act.put _ (some 32) _ = _
     simp only [PN]
     rfl
    refine pure_ (i := 12) (N := some 33) (v := ?_) (a' := ?_) #[Y,Y,Y,Y,Y,Y,Y,Y,Y,Y,Y,Y,Y,O,O] rfl rfl (any_of HT_.out (by kernel_rfl)) (fun _ _ _ h => h) (Or.inl ⟨by rfl, ?_⟩) ?_ ?_
    rotate_left
    ·intro w'
     go_simp
     with_reducible rfl
    rotate_left
    ·simp only [PN]
     rfl
    refine pure_ (i := 13) (N := some 34) (v := ?_) (a' := ?_) #[Y,Y,Y,Y,Y,Y,Y,Y,Y,Y,Y,Y,Y,Y,O] rfl rfl (any_of HT_.out (by kernel_rfl)) (fun _ _ _ h => h) (Or.inl ⟨by rfl, ?_⟩) ?_ ?_
    rotate_left
    ·intro w'
     go_simp
     with_reducible rfl
    rotate_left
    ·simp only [PN]
     rfl
    refine last_ (i := 14) (N := none) #[Y,Y,Y,Y,Y,Y,Y,Y,Y,Y,Y,Y,Y,Y,Y] rfl rfl (one_of HT_.out (by kernel_rfl)) (by decide) (fun K hK => ?_)
    refine skip_ (w1 := ?_) (by rfl) rfl ?_ ?_
    rotate_left
    ·go_simp
     rfl
    refine hK.out _ _ ?_
    clear hK K
    refine done_ (done_of HT_.out (by kernel_rfl)) ?_
    clear hHeld f9 k9
    have hrl : (ws ++ [(t, x)]).length = ws.length + 1 := by simp
    rw [hrl] at HR9
    have g9 := grown_set w9 gr 1 (.slice A9 (ws.length + 1) c9)
    have hk9 : Kf N0 [112, 208] (fun _ => False) w9 (w9.setCell ⟨gr, 1, none⟩ (.slice A9 (ws.length + 1) c9)) := Kf.grown g9 HGR9.out (by simp) HLO.out.1
    have hkA : Kf N0 [112, 208] (fun _ => False) w4.drew w9 := Kf.row HKG9.out HRW.out (by simp)
    have HSE := Aside0.mk (show SR (w9.setCell ⟨gr, 1, none⟩ (.slice A9 (ws.length + 1) c9)) N0 gr (m + (i + 1)) from ⟨HLO.out.1, vl, vs, A9, c9, ws ++ [(t, x)], by rw [hrl]; exact blk_put HGR9.out 1 _ rfl, by rw [hrl]; exact R_kf HR9.out (Kf.grown (Ts := [112]) (X := fun _ => False) g9 HGR9.out (by simp) HLO.out.1) (by decide), by rw [hrl]; have := HLO.out.2; omega⟩)
    have HKE := Aside0.mk (HK.out.trans (hkA.trans hk9))
    clear g9 hk9 hkA hrl
    have a9 := HA9.out
    have b9 := HB9.out
    have hlt := HI.out.1
    have hn := HI.out.2
    go_wp2
    go_roundw
    case rel => exact ⟨i + 1, n + 1, by rw [b9], by go_num, hlt, by omega, HSE, HKE⟩
    case measure => first | (rw [a9]; exact meas _ _ hlt) | exact meas _ _ hlt
  ·have q0 : decide ((i : Int) < (rows.length : Int)) = false := decide_eq_false (by omega)
   have hie : i = rows.length := by omega
   subst hie
   go_wp2
   go_ret
   exact ⟨⟨_, rfl⟩, HS.out, HK.out⟩
def TDK (w0 : World) (N0 : Nat) (w : World) (E : Nat) (xs : List Nd) (r : List Value) : Prop := ∃ (id as_ at_ k : Int) (Av : Option Addr) (cv : Nat) (Ap : Option Addr) (cp : Nat) (ys : List Nd), r = [.int .i64 id, .int .i64 as_, .int .i64 at_, .slice Av ys.length cv, .int .i64 k, .slice Ap 0 cp, .slice none 0 0] ∧ at_ ≤ (E : Int) ∧ (k = 1 ∨ k = 4 ∨ k = 5) ∧ ((k = 4 ∨ k = 5 ∨ xs = []) ∧ (xs = [] → k = 1)) ∧ (kNm w0).R 117 w N0 (fun _ => True) (.slice Av ys.length cv) ys ∧ (ys = xs ∨ ys = [])
def AVK (w0 : World) (N0 : Nat) (w : World) (xs : List Nd) (v : Value) : Prop := ∃ (at_ : Int) (Av : Option Addr) (cv : Nat) (ys : List Nd), v = .agg #[.int .i64 at_, .slice Av ys.length cv] ∧ (kNm w0).R 117 w N0 (fun _ => True) (.slice Av ys.length cv) ys ∧ (ys = xs ∨ ys = [])
def WT : List Nat := [66, 51, 112, 208, 117, 126]
structure WB (w0 : World) (N0 : Nat) (w : World) (gw gs gr gm : Nat) (xs : List Nd) (E m s : Nat) (tr : List (List Value)) : Prop where
 blk : ∃ At ct, w.heap[gw]? = some (.cells #[.pointer (some ⟨gs, 0, none⟩), .pointer (some ⟨gr, 0, none⟩), .map (some gm), .slice At tr.length ct] 66 (0, 0)) ∧ (Kd.raw 7).R 51 w N0 (fun _ => True) (.slice At tr.length ct) tr
 st : SR w N0 gr m
 am : ∃ z pl, MV 3 w gm z pl ∧ z ≤ s ∧ ∀ k v, pl k = some v → AVK w0 N0 w xs v
 td : ∀ r ∈ tr, TDK w0 N0 w E xs r
 low : N0 ≤ gw ∧ N0 ≤ gm
section
variable {w0 : World} {N0 : Nat} {w w' : World} {gw gs gr gm : Nat} {xs : List Nd} {E m s : Nat} {tr : List (List Value)}
theorem needs_kf {Ts : List Nat} {X : Nat → Prop} {v : Value} {ys : List Nd} (h : (kNm w0).R 117 w N0 (fun _ => True) v ys) (hk : Kf N0 Ts X w w') (ht : ∀ t ∈ WT, t ∉ Ts) : (kNm w0).R 117 w' N0 (fun _ => True) v ys := R_kf h hk (fun q hq => by
 rcases List.mem_cons.1 hq with rfl | hq
 ·exact ht _ (by simp [WT])
 ·rw [kNmE] at hq
  rw [List.mem_singleton.1 hq]
  exact ht _ (by simp [WT]))
theorem TDK.kf {Ts : List Nat} {X : Nat → Prop} {r : List Value} (h : TDK w0 N0 w E xs r) (hk : Kf N0 Ts X w w') (ht : ∀ t ∈ WT.drop 4, t ∉ Ts) : TDK w0 N0 w' E xs r := by
 obtain ⟨id, as_, at_, k, Av, cv, Ap, cp, ys, h1, h2, h3, h4, h5, h6⟩ := h
 exact ⟨id, as_, at_, k, Av, cv, Ap, cp, ys, h1, h2, h3, h4, R_kf h5 hk (fun q hq => by
  rcases List.mem_cons.1 hq with rfl | hq
  ·exact ht _ (by simp [WT])
  ·rw [kNmE] at hq
   rw [List.mem_singleton.1 hq]
   exact ht _ (by simp [WT])), h6⟩
theorem AVK.kf {Ts : List Nat} {X : Nat → Prop} {v : Value} (h : AVK w0 N0 w xs v) (hk : Kf N0 Ts X w w') (ht : ∀ t ∈ WT.drop 4, t ∉ Ts) : AVK w0 N0 w' xs v := by
 obtain ⟨at_, Av, cv, ys, h1, h2, h3⟩ := h
 exact ⟨at_, Av, cv, ys, h1, R_kf h2 hk (fun q hq => by
  rcases List.mem_cons.1 hq with rfl | hq
  ·exact ht _ (by simp [WT])
  ·rw [kNmE] at hq
   rw [List.mem_singleton.1 hq]
   exact ht _ (by simp [WT])), h3⟩
theorem WB.kf {Ts : List Nat} {X : Nat → Prop} (h : WB w0 N0 w gw gs gr gm xs E m s tr) (hk : Kf N0 Ts X w w') (ht : ∀ t ∈ WT, t ∉ Ts) (hx : ¬ X gm) : WB w0 N0 w' gw gs gr gm xs E m s tr := by
 obtain ⟨⟨At, ct, b1, b2⟩, st, ⟨z, pl, a1, a2, a3⟩, td, low⟩ := h
 have ht4 : ∀ t ∈ WT.drop 4, t ∉ Ts := fun t h => ht t (List.mem_of_mem_drop h)
 exact ⟨⟨At, ct, hk.blk b1 (ht _ (by simp [WT])), R_kf b2 hk (fun q hq => by rw [List.mem_singleton.1 hq]; exact ht _ (by simp [WT]))⟩, st.kf hk ⟨ht _ (by simp [WT]), ht _ (by simp [WT])⟩, ⟨z, pl, a1.kf hk hx, a2, fun k v h => (a3 k v h).kf hk ht4⟩, fun r h => (td r h).kf hk ht4, low⟩
theorem WB.tell {w9 : World} {At A9 : Option Addr} {ct c9 : Nat} {row : List Value} (h : WB w0 N0 w gw gs gr gm xs E m s tr) (b1 : w.heap[gw]? = some (.cells #[.pointer (some ⟨gs, 0, none⟩), .pointer (some ⟨gr, 0, none⟩), .map (some gm), .slice At tr.length ct] 66 (0, 0))) (b2 : (Kd.raw 7).R 51 w N0 (fun _ => True) (.slice At tr.length ct) tr) (hg : w.grownBy w9 (Value.slice At tr.length ct).ownBlock) (hr : (Kd.raw 7).R 51 w9 N0 (fun _ => True) (.slice A9 (tr.length + 1) c9) (tr ++ [row])) (ht : TDK w0 N0 w E xs row) : WB w0 N0 (w9.setCell ⟨gw, 3, none⟩ (.slice A9 (tr.length + 1) c9)) gw gs gr gm xs E m s (tr ++ [row]) ∧ Kf N0 [66, 51] (fun _ => False) w (w9.setCell ⟨gw, 3, none⟩ (.slice A9 (tr.length + 1) c9)) := by
 have hl : (tr ++ [row]).length = tr.length + 1 := by simp
 have k1 : Kf N0 [66, 51] (fun _ => False) w w9 := Kf.row hg b2 (by simp)
 have hgw : w9.heap[gw]? = _ := blk_grown b1 hg (Kd.R_ne b2 b1 (by decide))
 have k2 : Kf N0 [66] (fun _ => False) w9 (w9.setCell ⟨gw, 3, none⟩ (.slice A9 (tr.length + 1) c9)) := Kf.grown (grown_set w9 gw 3 _) hgw (by simp) h.low.1
 have k3 := k1.trans (k2.mono (Ts' := [66, 51]) (X' := fun _ => False) (by simp) (fun _ h => h))
 refine ⟨⟨⟨A9, c9, by rw [hl]; exact blk_put hgw 3 _ rfl, by rw [hl]; exact R_kf hr k2 (by decide)⟩, h.st.kf k3 (by decide), ?_, fun r hr => ?_, h.low⟩, k3⟩
 ·obtain ⟨z, pl, a1, a2, a3⟩ := h.am
  exact ⟨z, pl, a1.kf k3 (fun h => h), a2, fun k v hk => (a3 k v hk).kf k3 (by decide)⟩
 ·rcases List.mem_append.1 hr with h1 | h1
  ·exact (h.td r h1).kf k3 (by decide)
  ·rw [List.mem_singleton.1 h1]
   exact ht.kf k3 (by decide)
theorem WB.stand {m' : Nat} (h : WB w0 N0 w gw gs gr gm xs E m s tr) (hs : SR w' N0 gr m') (hk : Kf N0 [112, 208] (fun _ => False) w w') : WB w0 N0 w' gw gs gr gm xs E m' s tr := by
 obtain ⟨⟨At, ct, b1, b2⟩, st, ⟨z, pl, a1, a2, a3⟩, td, low⟩ := h
 exact ⟨⟨At, ct, hk.blk b1 (by decide), R_kf b2 hk (by decide)⟩, hs, ⟨z, pl, a1.kf hk (fun h => h), a2, fun k v h => (a3 k v h).kf hk (by decide)⟩, fun r h => (td r h).kf hk (by decide), low⟩
theorem WB.ask (h : WB w0 N0 w gw gs gr gm xs E m s tr) (hs : s ≤ 100000) (kk : Int) (h0 : 0 ≤ kk) (h1 : kk ≤ 1000000) {v : Value} (hv : AVK w0 N0 w xs v) : ∃ w', (Instr.mapUpdate 64 (.map (some gm)) (.int .i64 kk) v).run Tryz.prog w = .ok () w' ∧ WB w0 N0 w' gw gs gr gm xs E m (s + 1) tr ∧ Kf N0 [] (fun k => k = gm) w w' := by
 obtain ⟨⟨At, ct, b1, b2⟩, st, ⟨z, pl, a1, a2, a3⟩, td, low⟩ := h
 obtain ⟨w', hr, hm, hg⟩ := a1.put lawI Tryz.underlying64 (by omega) (keyI (a := kk) (by omega) (by omega)) (by simp [WideAt.IsKeyLit]) v
 have hk : Kf N0 [] (fun k => k = gm) w w' := by
  obtain ⟨D, ⟨es, clock, hb, _⟩, _⟩ := a1
  exact Kf.map hg hb (by simp) rfl low.2
 refine ⟨w', hr, ⟨⟨At, ct, hk.blk b1 (by simp), R_kf b2 hk (by simp)⟩, st.kf hk (by simp), ⟨_, _, hm, ?_, fun k u hu => ?_⟩, fun r h => (td r h).kf hk (by simp), low⟩, hk⟩
 ·split <;> omega
 ·unfold updM at hu
  split at hu
  ·injection hu with hu
   subst hu
   exact hv.kf hk (by simp)
  ·exact (a3 k u hu).kf hk (by simp)
theorem WB.below (h : WB w0 N0 w gw gs gr gm xs E m s tr) (hb : Below w.heap.size w w') : WB w0 N0 w' gw gs gr gm xs E m s tr := h.kf (Ts := []) (X := fun _ => False) (Kf.below hb) (fun _ _ h => by cases h) (fun h => h)
theorem WB.mono {E' m' s' : Nat} (h : WB w0 N0 w gw gs gr gm xs E m s tr) (h1 : E ≤ E') (h2 : m ≤ m') (h3 : s ≤ s') : WB w0 N0 w gw gs gr gm xs E' m' s' tr := by
 obtain ⟨b, ⟨g0, vl, vs, Aw, cw, ws, k1, k2, k3⟩, ⟨z, pl, a1, a2, a3⟩, td, low⟩ := h
 exact ⟨b, ⟨g0, vl, vs, Aw, cw, ws, k1, k2, by omega⟩, ⟨z, pl, a1, by omega, a3⟩, fun r hr => by
  obtain ⟨id, as_, at_, k, Av, cv, Ap, cp, ys, h1', h2', h3'⟩ := td r hr
  exact ⟨id, as_, at_, k, Av, cv, Ap, cp, ys, h1', by omega, h3'⟩, low⟩
end
section
variable {w0 : World} {N0 : Nat} {w w' : World} {gw gs gx gt gf mx gr gm : Nat} {Z U : Nat → Prop} {P : PL} {xs : List Nd} {now gv : Nat} {f : Nat → Int × Int} {su : Nat → Value} {va : Value} {rows tr : List (List Value)} {b E m s : Nat}
theorem world.Now.calls (hS : SE w0 N0 w gs gx gt gf mx Z U P xs now gv f su va rows b) (k0 : w.cell? ⟨gw, 0, none⟩ = some (.pointer (some ⟨gs, 0, none⟩))) : Calls Tryz.prog 10 #[.pointer (some ⟨gw, 0, none⟩)] w fun e w' => e = .returned (.int .i64 (now : Int)) ∧ w' = w := by
 have HS := Aside0.mk (service.Now.calls hS)
 clear hS
 go_enter Tryz.func10, Tryz.ntmps10
 go_wp2_with fail
 refine HS.out.mono ?_
 rintro e w1 ⟨rfl, rfl⟩
 go_wp2
 go_ret
 exact ⟨rfl, rfl⟩
theorem world.Busy.calls (hS : SE w0 N0 w gs gx gt gf mx Z U P xs now gv f su va rows b) (k0 : w.cell? ⟨gw, 0, none⟩ = some (.pointer (some ⟨gs, 0, none⟩))) : Calls Tryz.prog 11 #[.pointer (some ⟨gw, 0, none⟩)] w fun e w' => ∃ A c, e = .returned (.slice A (taken f (P.t : Int) P.t).length c) ∧ Below w.heap.size w w' := by
 have HS := Aside0.mk (service.Busy.calls hS)
 clear hS
 go_enter Tryz.func11, Tryz.ntmps11
 go_wp2_with fail
 refine HS.out.mono ?_
 rintro e w1 ⟨A, c, rfl, hb⟩
 have HB := Aside0.mk hb
 clear hb
 generalize hn : (taken f (P.t : Int) P.t).length = n
 have HN := Aside0.mk hn
 clear hn
 go_wp2
 go_ret
 exact ⟨A, c, by rw [HN.out]; rfl, HB.out⟩
end
theorem run_store_nilF {a : Addr} {m : Mode} {P : Program} {w : World} : (store a .nilFunc m).run P w = stored P w a .nilFunc m := run_store P w a _ m rfl
theorem run_store_fn {a : Addr} {m : Mode} {P : Program} {w : World} (fn : Fn) (first captured : Array Value) : (store a (.func fn first captured) m).run P w = stored P w a (.func fn first captured) m := run_store P w a _ m rfl
def evts : Value := .agg #[.nilFunc, .func (.func 41) #[] #[], .func (.func 42) #[] #[], .func (.func 43) #[] #[], .func (.func 44) #[] #[], .func (.func 45) #[] #[], .func (.func 46) #[] #[], .func (.func 47) #[] #[]]
theorem world.events.calls (w : World) : Calls Tryz.prog 19 #[] w fun e w' => e = .returned evts ∧ Below w.heap.size w w' := by
 have hs1 : ∀ (a : Addr) (m : Mode) (w : World), (store a .nilFunc m).run Tryz.prog w = stored Tryz.prog w a .nilFunc m := fun a m w => run_store_nilF
 have hs2 : ∀ (a : Addr) (m : Mode) (w : World) (fn : Fn) (x y : Array Value), (store a (.func fn x y) m).run Tryz.prog w = stored Tryz.prog w a (.func fn x y) m := fun a m w fn x y => run_store_fn fn x y
 go_enter Tryz.func19, Tryz.ntmps19
 go_wp2
 have h2 := blk_new w (.cells #[.nilFunc, .func (.func 41) #[] #[], .func (.func 42) #[] #[], .func (.func 43) #[] #[], .func (.func 44) #[] #[], .func (.func 45) #[] #[], .func (.func 46) #[] #[], .func (.func 47) #[] #[]] 71)
 refine bodyPost_ret (v := evts) (results_single rfl ?_) rfl ⟨rfl, below_alloc (Below.refl w.heap.size w) _⟩
 exact .cell w.heap.size _ _ (0, 0) _ rfl h2 Tryz.underlying71 rfl (by kernel_rfl) .nil
theorem world.ask.calls (gw : Nat) (A : Option Addr) (l c : Nat) (t : Int) (w : World) : Calls Tryz.prog 41 #[.pointer (some ⟨gw, 0, none⟩), .agg #[.int .i64 1, .int .i64 0, .int .i64 0, .int .i64 t, .int .u8 0, .slice A l c]] w fun e w' => e = .returned (.tuple #[.agg #[.int .i64 1, .slice A l c, .int .i64 t, .int .i64 0, .slice none 0 0], .bool true]) ∧ Below w.heap.size w w' := by
 go_enter Tryz.func41, Tryz.ntmps41
 go_wp2
 have hb1 := below_alloc (Below.refl w.heap.size w) (.cells #[.int .i64 1, .int .i64 0, .int .i64 0, .int .i64 t, .int .u8 0, .slice A l c] 40)
 have h2 := blk_new (w.alloc (.cells #[.int .i64 1, .int .i64 0, .int .i64 0, .int .i64 t, .int .u8 0, .slice A l c] 40)) (.cells #[.int .i64 1, .slice A l c, .int .i64 t, .int .i64 0, .slice none 0 0] 68)
 rw [show (w.alloc (.cells #[.int .i64 1, .int .i64 0, .int .i64 0, .int .i64 t, .int .u8 0, .slice A l c] 40)).heap.size = w.heap.size + 1 by simp] at h2
 have hb2 := below_step hb1 (below_alloc (Below.refl _ _) (.cells #[.int .i64 1, .slice A l c, .int .i64 t, .int .i64 0, .slice none 0 0] 68))
 refine bodyPost_ret (results_ct rfl _ _ (w.heap.size + 1) 68 #[.int .i64 1, .slice A l c, .int .i64 t, .int .i64 0, .slice none 0 0] (0, 0) _ rfl h2 Tryz.underlying68 rfl (by kernel_rfl)) rfl ?_
 exact ⟨rfl, hb2⟩
theorem world.tick.calls (gw : Nat) (w : World) : Calls Tryz.prog 42 #[.pointer (some ⟨gw, 0, none⟩), .agg #[.int .i64 2, .int .i64 0, .int .i64 0, .int .i64 0, .int .u8 0, .slice none 0 0]] w fun e w' => e = .returned (.tuple #[.agg #[.int .i64 2, .slice none 0 0, .int .i64 0, .int .i64 0, .slice none 0 0], .bool true]) ∧ Below w.heap.size w w' := by
 go_enter Tryz.func42, Tryz.ntmps42
 go_wp2
 have hb1 := below_alloc (Below.refl w.heap.size w) (.cells #[.int .i64 2, .int .i64 0, .int .i64 0, .int .i64 0, .int .u8 0, .slice none 0 0] 40)
 have h2 := blk_new (w.alloc (.cells #[.int .i64 2, .int .i64 0, .int .i64 0, .int .i64 0, .int .u8 0, .slice none 0 0] 40)) (.cells #[.int .i64 2, .slice none 0 0, .int .i64 0, .int .i64 0, .slice none 0 0] 68)
 rw [show (w.alloc (.cells #[.int .i64 2, .int .i64 0, .int .i64 0, .int .i64 0, .int .u8 0, .slice none 0 0] 40)).heap.size = w.heap.size + 1 by simp] at h2
 have hb2 := below_step hb1 (below_alloc (Below.refl _ _) (.cells #[.int .i64 2, .slice none 0 0, .int .i64 0, .int .i64 0, .slice none 0 0] 68))
 refine bodyPost_ret (results_ct rfl _ _ (w.heap.size + 1) 68 #[.int .i64 2, .slice none 0 0, .int .i64 0, .int .i64 0, .slice none 0 0] (0, 0) _ rfl h2 Tryz.underlying68 rfl (by kernel_rfl)) rfl ?_
 exact ⟨rfl, hb2⟩
end Go.Proofs.YtceffpgcbihckaaGreat.Top
