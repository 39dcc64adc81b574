/- The law TimerOnce: its walk. Condition: none. -/
import Derived.Test.YtenaggpgblaalaaOnceR
namespace Go.Proofs.Ytenaggpgblaalaa.Timer
open Go.RowKit Go.Proofs.Ytenaggpgblaalaa.PTimerPlays Go.Proofs.YtenaggpgblaalaaW.PrintWords Go.Proofs.YtenaggpgblaalaaW.PrintLast Go.Proofs.YtenaggpgblaalaaW.PrintMore
open Plain (wrap_id hold hold_hold hold_id)
set_option linter.unusedVariables false
set_option linter.unusedSimpArgs false

def ON8.T8 : Bool × List (List Nat × List Nat) := (true, [([], []), ([], []), ([], []), ([1, 2], [1, 2]), ([3], [3]), ([4], [4]), ([], []), ([], []), ([6, 7], [6, 7]), ([8], [8]), ([9], [9]), ([10], [10]), ([11], [11]), ([12], [12]), ([0, 5, 13], [0, 5, 13])])
def ON8.B8 : List Nat := [0, 0, 0, 6, 14, 30, 0, 0, 192, 448, 960, 1984, 4032, 8128, 16383]
theorem ON8.tab8 : rtab .any (opsOf Try.f16 8) = ON8.T8 := by kernel_rfl
theorem ON8.bits8 : waitsOk ON8.T8.2 ON8.B8 = true := by kernel_rfl

set_option maxHeartbeats 16000000 in
set_option maxRecDepth 100000 in
theorem Once.in (A : Option Addr) (c : Nat) (l : List S75) (B : Option Addr) (cb : Nat) (u : List Int) (w : World) (h : Kd.C k75 w A l.length l) (hc : l.length ≤ c) (hs : skp l = false)
    (hu : Kd.C (Kd.int .u8) w B u.length u) (hcb : u.length ≤ cb) (hub : ∀ x ∈ u, 0 ≤ x ∧ x ≤ 255) (hul : u.length ≤ 100) :
    Calls Try.prog 16 #[.slice A l.length c, .slice B u.length cb] w fun e w' => e = .returned (.bool true) ∧ Below w.heap.size w w' := by
  have hs2 : l.length ≤ 150 ∧ ∀ d ∈ l, d.f1.size ≤ 60 := by
    unfold skp at hs
    rw [Bool.or_eq_false_iff, decide_eq_false_iff_not, List.any_eq_false] at hs
    exact ⟨by omega, fun d hd => by have := hs.2 d hd; simp at this; omega⟩
  have HC75 := Aside0.mk h
  have HCC := Aside0.mk hc
  have HS := Aside0.mk hs
  have HS2 := Aside0.mk hs2
  have HU := Aside0.mk hu
  have HUB := Aside0.mk hub
  have HUL := Aside0.mk (show u.length ≤ 100 ∧ u.length ≤ cb from ⟨hul, hcb⟩)
  have g0 : decide ((100 : Int) < (u.length : Int)) = false := decide_eq_false (by omega)
  clear h hc hs hs2 hu hub hcb hul
  go_enter Try.func16, Try.ntmps16
  go_wp2_with fail
  refine (skip.calls A c l w HC75.out HCC.out).mono ?_
  rintro e w1 ⟨rfl, ⟨nd, rfl⟩⟩
  rw [HS.out]
  go_wp2_with fail
  refine (New.ts (w.drewN nd)).mono ?_
  rintro e w2 ⟨g, rfl, h2, hb2⟩
  have HTS0 := Aside0.mk (show TS w.heap.size w2 g 0 [] from h2)
  have HB0 := Aside0.mk (show Below w.heap.size w w2 from below_go (pw_below_drewN (Below.refl _ _) nd) hb2)
  clear h2 hb2 g0
  go_wp2
  go_loopw [6, 7] (fun ov iv wr => ∃ (i : Nat) (S : Int) (Z : List S106) (N : List ByteArray), iv = .int .i64 (i : Int) ∧ i ≤ l.length ∧ Aside0 (TS w.heap.size wr g S Z) ∧ Aside0 (NR wr w.heap.size ov N) ∧ Aside0 (In1 i S Z N) ∧ Aside0 (Below w.heap.size w wr)) (fun _ iv _ => l.length - (intOf iv).toNat)
  case atStart => exact ⟨0, 0, [], [], rfl, by omega, HTS0, ⟨Kd.R_nil _ _ _ _ _⟩, ⟨In1.start⟩, HB0⟩
  case round =>
    clear HTS0 HB0
    obtain ⟨i, S, Z, N, rfl, hi, HTS, HN, HG, HB⟩ := hrel
    obtain ⟨A6, c6, rfl⟩ := Kd.R_slice HN.out
    by_cases hil : i < l.length
    · have q0 : decide ((i : Int) < (l.length : Int)) = true := decide_eq_true (by omega)
      have q1 : (0 : Int) ≤ (i : Int) := by omega
      have q2 : (i : Int) < (l.length : Int) := by omega
      have HI := Aside0.mk (show i < 150 by have := HS2.out.1; omega)
      obtain ⟨ad, ea, hx0, hx1, hx2⟩ := at_T75 HC75.out (i : Int) q1 q2
      cases ea
      rw [Int.toNat_natCast] at hx1 hx2
      have hnm : (rd_T75 l (i : Int)).f1.size ≤ 1000 := by
        have e2 : rd_T75 l (i : Int) = l[i] := by unfold rd_T75; rw [Int.toNat_natCast]; simp [List.getD, hil]
        rw [e2]
        have := HS2.out.2 l[i] (List.getElem_mem hil)
        omega
      generalize (rd_T75 l (i : Int)).f1 = nm at hx1 hnm
      generalize (rd_T75 l (i : Int)).f2 = tt at hx2
      have HX1 := Aside0.mk hx1
      have HX2 := Aside0.mk hx2
      have HNM := Aside0.mk hnm
      clear hx0 hx1 hx2 hnm
      go_wp2
      have n0_ := Aside0.mk (HTS.out.below (below_drew (Below.refl _ _)))
      have n1_ := Aside0.mk (Kd.R_below HN.out (below_drew (Below.refl _ _)))
      have n2_ := Aside0.mk (below_drew1 HB.out)
      clear HTS HN HB
      have HTS := n0_
      have HN := n1_
      have HB := n2_
      clear n0_ n1_ n2_
      refine start_ (n := 15) (S := fun w' => w'.cell? ⟨(ad.add (i * 3)).block, (ad.add (i * 3)).off + 1, none⟩ = some (.string nm) ∧ w'.cell? ⟨(ad.add (i * 3)).block, (ad.add (i * 3)).off + 2, none⟩ = some (.int .i64 tt)) (ds := []) #[false, false, false, false, false, false, false, false, false, false, false, false, false, false, false] (by kernel_rfl) rfl rfl ⟨((HB.out.cell (World.block_lt_of_cell? w _ HX1.out)).trans HX1.out), ((HB.out.cell (World.block_lt_of_cell? w _ HX2.out)).trans HX2.out)⟩ (fun hHeld => ?_)
      refine with_tabW ON8.tab8 ON8.bits8 (fun HT_ HW_ => ?_)
      refine pure_ (i := 0) (N := some 37) (v := ?_) (a' := ?_) #[true, false, false, false, false, false, false, false, false, false, false, false, false, false, false] rfl rfl (any_of HT_.out (by kernel_rfl)) (fun _ _ _ h => h) (Or.inl ⟨by rfl, ?_⟩) ?_ ?_
      rotate_left
      · intro w'
        go_simp
        with_reducible rfl
      rotate_left
      · simp only [Act.put, List.setIfInBounds_toArray, List.set_cons_zero, List.set_cons_succ, i64_w, i32_w]
        rfl
      refine pure_ (i := 1) (N := some 38) (v := ?_) (a' := ?_) #[true, true, false, false, false, false, false, false, false, false, false, false, false, false, false] rfl rfl (any_of HT_.out (by kernel_rfl)) (fun _ _ _ h => h) (Or.inl ⟨by rfl, ?_⟩) ?_ ?_
      rotate_left
      · intro w'
        go_simp
        with_reducible rfl
      rotate_left
      · simp only [Act.put, List.setIfInBounds_toArray, List.set_cons_zero, List.set_cons_succ, i64_w, i32_w]
        rfl
      refine pure_ (i := 2) (N := some 39) (v := ?_) (a' := ?_) #[true, true, true, false, false, false, false, false, false, false, false, false, false, false, false] rfl rfl (any_of HT_.out (by kernel_rfl)) (fun _ _ _ h => h) (Or.inl ⟨by rfl, ?_⟩) ?_ ?_
      rotate_left
      · intro w'
        go_simp
        with_reducible rfl
      rotate_left
      · simp only [Act.put, List.setIfInBounds_toArray, List.set_cons_zero, List.set_cons_succ, i64_w, i32_w]
        rfl
      refine pure_ (i := 3) (N := some 40) (v := ?_) (a' := ?_) #[true, true, true, true, false, false, false, false, false, false, false, false, false, false, false] rfl rfl (any_of HT_.out (by kernel_rfl)) (fun _ _ _ h => h) (Or.inl ⟨by rfl, ?_⟩) ?_ ?_
      rotate_left
      · intro w'
        go_simp
        with_reducible rfl
      rotate_left
      · simp only [Act.put, List.setIfInBounds_toArray, List.set_cons_zero, List.set_cons_succ, i64_w, i32_w]
        rfl
      refine pure_ (i := 4) (N := some 41) (v := ?_) (a' := ?_) #[true, true, true, true, true, false, false, false, false, false, false, false, false, false, false] rfl rfl (any_of HT_.out (by kernel_rfl)) (fun _ _ _ h => h) (Or.inl ⟨by rfl, ?_⟩) ?_ ?_
      rotate_left
      · intro w'
        go_simp
        with_reducible rfl
      rotate_left
      · simp only [Act.put, List.setIfInBounds_toArray, List.set_cons_zero, List.set_cons_succ, i64_w, i32_w]
        rfl
      refine pure_ (i := 6) (N := some 43) (v := ?_) (a' := ?_) #[true, true, true, true, true, false, true, false, false, false, false, false, false, false, false] rfl rfl (any_of HT_.out (by kernel_rfl)) (fun _ _ _ h => h) (Or.inl ⟨by rfl, ?_⟩) ?_ ?_
      rotate_left
      · intro w'
        go_simp
        with_reducible rfl
      rotate_left
      · simp only [Act.put, List.setIfInBounds_toArray, List.set_cons_zero, List.set_cons_succ, i64_w, i32_w]
        rfl
      refine pure_ (i := 7) (N := some 44) (v := ?_) (a' := ?_) #[true, true, true, true, true, false, true, true, false, false, false, false, false, false, false] rfl rfl (any_of HT_.out (by kernel_rfl)) (fun _ _ _ h => h) (Or.inl ⟨by rfl, ?_⟩) ?_ ?_
      rotate_left
      · intro w'
        go_simp
        with_reducible rfl
      rotate_left
      · simp only [Act.put, List.setIfInBounds_toArray, List.set_cons_zero, List.set_cons_succ, i64_w, i32_w]
        rfl
      refine pure_ (i := 8) (N := some 45) (v := ?_) (a' := ?_) #[true, true, true, true, true, false, true, true, true, false, false, false, false, false, false] rfl rfl (any_of HT_.out (by kernel_rfl)) (fun _ _ _ h => h) (Or.inl ⟨by rfl, ?_⟩) ?_ ?_
      rotate_left
      · intro w'
        go_simp
        with_reducible rfl
      rotate_left
      · simp only [Act.put, List.setIfInBounds_toArray, List.set_cons_zero, List.set_cons_succ, i64_w, i32_w]
        rfl
      refine pure_ (i := 9) (N := some 46) (v := ?_) (a' := ?_) #[true, true, true, true, true, false, true, true, true, true, false, false, false, false, false] rfl rfl (any_of HT_.out (by kernel_rfl)) (fun _ _ _ h => h) (Or.inl ⟨by rfl, ?_⟩) ?_ ?_
      rotate_left
      · intro w'
        go_simp
        with_reducible rfl
      rotate_left
      · simp only [Act.put, List.setIfInBounds_toArray, List.set_cons_zero, List.set_cons_succ, i64_w, i32_w]
        rfl
      refine take_ (i := 5) (N := some 42) (v := ?_) (a' := ?_) #[true, true, true, true, true, true, true, true, true, true, false, false, false, false, false] rfl rfl (take_ofW HT_.out HW_.out (by kernel_rfl)) (fun _ _ _ h => h) (Or.inl ⟨by rfl, ?_⟩) hHeld ?_ ?_
      rotate_left
      · rintro w' ⟨s0, s1⟩
        go_simp
        with_reducible rfl
      rotate_left
      · simp only [Act.put, List.setIfInBounds_toArray, List.set_cons_zero, List.set_cons_succ, i64_w, i32_w]
        rfl
      refine take_ (i := 10) (N := some 47) (v := ?_) (a' := ?_) #[true, true, true, true, true, true, true, true, true, true, true, false, false, false, false] rfl rfl (take_ofW HT_.out HW_.out (by kernel_rfl)) (fun _ _ _ h => h) (Or.inl ⟨by rfl, ?_⟩) hHeld ?_ ?_
      rotate_left
      · rintro w' ⟨s0, s1⟩
        go_simp
        with_reducible rfl
      rotate_left
      · simp only [Act.put, List.setIfInBounds_toArray, List.set_cons_zero, List.set_cons_succ, i64_w, i32_w]
        rfl
      refine pure_ (i := 11) (N := some 48) (v := ?_) (a' := ?_) #[true, true, true, true, true, true, true, true, true, true, true, true, false, false, false] rfl rfl (any_of HT_.out (by kernel_rfl)) (fun _ _ _ h => h) (Or.inl ⟨by rfl, ?_⟩) ?_ ?_
      rotate_left
      · intro w'
        go_simp
        with_reducible rfl
      rotate_left
      · simp only [Act.put, List.setIfInBounds_toArray, List.set_cons_zero, List.set_cons_succ, i64_w, i32_w]
        rfl
      refine pure_ (i := 12) (N := some 49) (v := ?_) (a' := ?_) #[true, true, true, true, true, true, true, true, true, true, true, true, true, false, false] rfl rfl (any_of HT_.out (by kernel_rfl)) (fun _ _ _ h => h) (Or.inl ⟨by rfl, ?_⟩) ?_ ?_
      rotate_left
      · intro w'
        go_simp
        with_reducible rfl
      rotate_left
      · simp only [Act.put, List.setIfInBounds_toArray, List.set_cons_zero, List.set_cons_succ, i64_w, i32_w]
        rfl
      refine pure_ (i := 13) (N := some 50) (v := ?_) (a' := ?_) #[true, true, true, true, true, true, true, true, true, true, true, true, true, true, false] rfl rfl (any_of HT_.out (by kernel_rfl)) (fun _ _ _ h => h) (Or.inl ⟨by rfl, ?_⟩) ?_ ?_
      rotate_left
      · intro w'
        go_simp
        with_reducible rfl
      rotate_left
      · simp only [Act.put, List.setIfInBounds_toArray, List.set_cons_zero, List.set_cons_succ, i64_w, i32_w]
        rfl
      refine one_ (i := 14) (N := some 51) #[true, true, true, true, true, true, true, true, true, true, true, true, true, true, true] rfl rfl (one_of HT_.out (by kernel_rfl)) (by decide) (fun K hK => ?_)
      refine goes_ Try.func65 (by kernel_rfl) rfl #[.pointer (some ⟨g, 0, none⟩), .string nm, .int .i64 _] (by rfl) rfl rfl (by (try simp only [List.map_toArray, List.map_cons, List.map_nil]); first | done | rfl) ?_
      with_reducible refine (Set.calls HTS.out (by have := HI.out; have := HG.out.good.len; omega) nm HNM.out _ HG.out.good.s0 (by have := HG.out.good.s1; omega)).mono ?_
      rintro e w5 ⟨rfl, h2, ht⟩
      refine ⟨_, rfl, ?_⟩
      have n0_ := Aside0.mk h2
      have n1_ := Aside0.mk (NR.turn HN.out ht)
      have n2_ := Aside0.mk (below_go HB.out (ht.toB HB.out.size))
      clear HTS HN HB h2 ht
      have HTS := n0_
      have HN := n1_
      have HB := n2_
      clear n0_ n1_ n2_
      refine hK.out _ _ ⟨((HB.out.cell (World.block_lt_of_cell? w _ HX1.out)).trans HX1.out), ((HB.out.cell (World.block_lt_of_cell? w _ HX2.out)).trans HX2.out)⟩ (fun hHeld => ?_)
      clear hK K
      refine norm_ (a' := ?_) ?_ ?_
      rotate_left
      · show Act.put _ (some 51) _ = _
        simp only [Act.put, List.setIfInBounds_toArray, List.set_cons_zero, List.set_cons_succ, i64_w, i32_w]
        rfl
      refine done_ (done_of HT_.out (by kernel_rfl)) ?_
      clear hHeld
      have k1 := ((HB.out.cell (World.block_lt_of_cell? w _ HX1.out)).trans HX1.out)
      go_wp2_with fail
      refine (Add.calls A6 c6 N nm _ (Kd.R_reads' HN.out).2.2 (Kd.R_reads' HN.out).2.1 (by have := HG.out.len; have := HI.out; omega)).mono ?_
      rintro e w6 ⟨v6, rfl, hn, hb⟩
      have n0_ := Aside0.mk (HTS.out.below hb)
      have n1_ := Aside0.mk (Kd.R_lower hn HB.out.size)
      have n2_ := Aside0.mk (below_step HB.out hb)
      have n3_ := Aside0.mk (HG.out.set HI.out nm HNM.out tt)
      clear HTS HN HB hn hb k1
      have HTS := n0_
      have HN := n1_
      have HB := n2_
      clear n0_ n1_ n2_
      have hi150 := HI.out
      have a0 : wrap64 ((i : Int) + 1) = (i : Int) + 1 := wrap_id (by omega) (by omega)
      go_wp2
      go_roundw
      case rel => exact ⟨i + 1, _, _, _, by go_num, by omega, HTS, HN, ⟨HG.out.set HI.out nm HNM.out _⟩, HB⟩
      case measure => simp [intOf]; omega
    · have q0 : decide ((i : Int) < (l.length : Int)) = false := decide_eq_false (by omega)
      have hend := HG.out.end_
      have HE := Aside0.mk hend.2
      have e0 : ((Z.length : Int) != (N.length : Int)) = false := by rw [hend.1]; exact bne_self_eq_false _
      clear hend HG
      go_wp2_with fail
      refine (Len.ts HTS.out).mono ?_
      rintro e w5 ⟨rfl, rfl⟩
      have HNA := Aside0.mk (RA.nil HN.out)
      clear HN
      go_wp2
      clear e0
      go_loopw [8, 9, 10] (fun nv ov iv wr => ∃ (k : Nat) (t : Int) (Z : List S106) (CK : List ByteArray), iv = .int .i64 (k : Int) ∧ nv = .int .i64 t ∧ k ≤ u.length ∧ Aside0 (0 ≤ t ∧ t ≤ 255 * k) ∧ Aside0 (TS w.heap.size wr g S Z) ∧ Aside0 (NR wr w.heap.size ov CK) ∧ Aside0 (RA wr ov (.slice A6 N.length c6) N) ∧ Aside0 (In2 Z N CK) ∧ Aside0 (Below w.heap.size w wr)) (fun _ _ iv _ => u.length - (intOf iv).toNat)
      case atStart => exact ⟨0, 0, Z, [], rfl, rfl, by omega, ⟨by omega⟩, HTS, ⟨Kd.R_nil _ _ _ _ _⟩, HNA, HE, HB⟩
      case round =>
        clear HTS HNA HE HB
        obtain ⟨k, t, Z, CK, rfl, rfl, hk, HT, HTS, HC, HN, HE, HB⟩ := hrel
        obtain ⟨AC, cC, rfl⟩ := Kd.R_slice HC.out
        by_cases hkl : k < u.length
        · have q3 : decide ((k : Int) < (u.length : Int)) = true := decide_eq_true (by omega)
          have q4 : (0 : Int) ≤ (k : Int) := by omega
          have q5 : (k : Int) < (u.length : Int) := by omega
          obtain ⟨ad, ea, hx0⟩ := Kd.at_int HU.out (k : Int) q4 q5
          cases ea
          rw [Int.toNat_natCast] at hx0
          have hd : 0 ≤ rd u (k : Int) ∧ rd u (k : Int) ≤ 255 := by
            have e2 : rd u (k : Int) = u[k] := by unfold rd; rw [Int.toNat_natCast]; simp [List.getD, hkl]
            rw [e2]
            exact HUB.out u[k] (List.getElem_mem hkl)
          generalize rd u (k : Int) = d at hx0 hd
          have k0 := ((HB.out.cell (World.block_lt_of_cell? w _ hx0)).trans hx0)
          have w1 : IntKind.i64.wrap d = d := by rw [IntKind.wrap_i64]; omega
          have hk100 := HUL.out.1
          have ht := HT.out
          have w2 : wrap64 (t + d) = t + d := wrap_id (by omega) (by omega)
          have HT2 := Aside0.mk (show 0 ≤ t + d ∧ t + d ≤ 255 * (k + 1 : Nat) by omega)
          clear hx0 HT
          clear ht hd
          go_wp2
          generalize hT : wrap64 (t + d) = t2
          rw [w2.symm.trans hT] at HT2
          clear w1 w2 k0 hT
          go_loopw [11] (fun jv wq => ∃ j : Nat, jv = .int .i64 (j : Int) ∧ j ≤ N.length ∧ wq = wr) (fun jv _ => N.length - (intOf jv).toNat)
          case atStart => exact ⟨0, rfl, by omega, rfl⟩
          case round =>
            obtain ⟨j, rfl, hj, rfl⟩ := hrel
            by_cases hjl : j < N.length
            · have p0 : decide ((j : Int) < (N.length : Int)) = true := decide_eq_true (by omega)
              have p1 : (0 : Int) ≤ (j : Int) := by omega
              have p2 : (j : Int) < (N.length : Int) := by omega
              obtain ⟨ad2, ea2, hy0⟩ := Kd.at_string HN.out.reads.2.2 (j : Int) p1 p2
              cases ea2
              rw [Int.toNat_natCast, str_nat N j hjl] at hy0
              have hlk := HE.out.look N[j] (List.getElem_mem hjl)
              have HXN := Aside0.mk (HE.out.sz N[j] (List.getElem_mem hjl))
              generalize N[j] = x at hy0 hlk HXN
              obtain ⟨⟨gv, gb⟩, hgt⟩ : ∃ z, getX x (pj Z) = z := ⟨_, rfl⟩
              obtain ⟨ib, hib⟩ : ∃ z, inL x CK = z := ⟨_, rfl⟩
              rw [hgt, hib] at hlk
              have hgb : gb = !ib := hlk.1
              have hgv : 0 ≤ gv := hlk.2
              have HGT := Aside0.mk hgt
              have HIB := Aside0.mk hib
              clear hgt hib hlk
              subst hgb
              have e1 : ((!ib) == ib) = false := by cases ib <;> rfl
              have e2 : decide (gv < 0) = false := decide_eq_false (by omega)
              clear hgv
              go_wp2_with fail
              refine (Get.ts HTS.out x HXN.out).mono ?_
              rintro e w5 ⟨rfl, rfl⟩
              rw [HGT.out]
              go_wp2_with fail
              refine (find.calls AC cC CK x _ (Kd.R_reads' HC.out).2.2 (Kd.R_reads' HC.out).2.1 (by have h1 := HE.out.perm.length_eq; rw [List.length_append] at h1; have h2 := HE.out.n; omega)).mono ?_
              rintro e w6 ⟨n, rfl, rfl⟩
              rw [HIB.out]
              have hj150 : j < 150 := by have := HE.out.n; omega
              have a1 : wrap64 ((j : Int) + 1) = (j : Int) + 1 := wrap_id (by omega) (by omega)
              clear hy0
              cases ib with
              | true =>
                go_wp2
                go_roundw
                case rel => exact ⟨j + 1, by go_num, by omega, trivial⟩
                case measure => simp [intOf]; omega
              | false =>
                go_wp2
                go_roundw
                case rel => exact ⟨j + 1, by go_num, by omega, trivial⟩
                case measure => simp [intOf]; omega
            · have p0 : decide ((j : Int) < (N.length : Int)) = false := decide_eq_false (by omega)
              go_wp2_with fail
              refine (Due.calls HTS.out HE.out.rise HE.out.good (by have := HE.out.len; omega) t2).mono ?_
              rintro e w5 ⟨v5, rfl, hd, h2, ht⟩
              rw [show hold t2 = t2 from hold_id (by have := HT2.out; omega) (by have := HT2.out; have := HUL.out.1; omega)] at hd h2
              have hdue := HE.out.come t2
              have hleft := due_left t2 1001 Z (by have := HE.out.len; omega)
              obtain ⟨⟨D, Z2⟩, hDZ⟩ : ∃ z, due t2 1001 Z = z := ⟨_, rfl⟩
              rw [hDZ] at hd h2 hdue hleft
              have HDN := Aside0.mk (show (CK ++ D).Nodup from hdue.1)
              have HE2 := Aside0.mk (show In2 Z2 N (CK ++ D) from hdue.2)
              have HLF := Aside0.mk (show ∀ z ∈ Z2, t2 < z.f1 from hleft)
              have HD := Aside0.mk (show RA w5 (.slice AC CK.length cC) v5 D from RA.new hd HC.out)
              have n0_ := Aside0.mk (show TS w.heap.size w5 g S Z2 from h2)
              have n1_ := Aside0.mk (HN.out.turn ht)
              have n2_ := Aside0.mk (below_go HB.out (ht.toB HB.out.size))
              have n3_ := Aside0.mk (NR.turn HC.out ht)
              have HDL := Aside0.mk (show (CK ++ D).length ≤ 150 by have h1 := HE2.out.perm.length_eq; rw [List.length_append] at h1; have h2 := HE2.out.n; omega)
              clear HTS HN HB HC HE hdue hleft hd h2 ht hDZ
              have HTS := n0_
              have HN := n1_
              have HB := n2_
              have HC := n3_
              clear n0_ n1_ n2_ n3_
              obtain ⟨AD, cD, rfl⟩ := HD.out.slice
              go_wp2
              go_loopw [9, 17] (fun ov jv wq => ∃ (j : Nat) (CJ : List ByteArray), jv = .int .i64 (j : Int) ∧ j ≤ D.length ∧ Aside0 (CJ = CK ++ D.take j) ∧ Aside0 (TS w.heap.size wq g S Z2) ∧ Aside0 (NR wq w.heap.size ov CJ) ∧ Aside0 (RA wq ov (.slice A6 N.length c6) N) ∧ Aside0 (RA wq ov (.slice AD D.length cD) D) ∧ Aside0 (Below w.heap.size w wq)) (fun _ jv _ => D.length - (intOf jv).toNat)
              case atStart => exact ⟨0, CK, rfl, by omega, ⟨by simp⟩, HTS, HC, HN, HD, HB⟩
              case round =>
                clear HTS HC HN HD HB
                obtain ⟨j, CJ, rfl, hj, HCJ, HTS, HC, HN, HD, HB⟩ := hrel
                obtain ⟨AC, cC, rfl⟩ := Kd.R_slice HC.out
                by_cases hjl : j < D.length
                · have p3 : decide ((j : Int) < (D.length : Int)) = true := decide_eq_true (by omega)
                  have p1 : (0 : Int) ≤ (j : Int) := by omega
                  have p2 : (j : Int) < (D.length : Int) := by omega
                  obtain ⟨ad2, ea2, hy0⟩ := Kd.at_string HD.out.reads.2.2 (j : Int) p1 p2
                  cases ea2
                  rw [Int.toNat_natCast, str_nat D j hjl] at hy0
                  have hin := nodup_take HDN.out j hjl
                  rw [← HCJ.out] at hin
                  have HCJ2 := Aside0.mk (show CJ ++ [D[j]] = CK ++ D.take (j + 1) by rw [HCJ.out, List.append_assoc, List.take_add_one, List.getElem?_eq_getElem hjl]; rfl)
                  have HCL := Aside0.mk (show CJ.length ≤ 150 by have h1 := HDL.out; rw [HCJ.out]; rw [List.length_append] at h1 ⊢; rw [List.length_take]; omega)
                  generalize D[j] = x at hy0 hin HCJ2
                  have HIN := Aside0.mk hin
                  clear hin
                  have hj150 : j < 150 := by have h1 := HDL.out; rw [List.length_append] at h1; omega
                  have a1 : wrap64 ((j : Int) + 1) = (j : Int) + 1 := wrap_id (by omega) (by omega)
                  go_wp2_with fail
                  refine (find.calls AC cC CJ x _ (Kd.R_reads' HC.out).2.2 (Kd.R_reads' HC.out).2.1 (by have := HCL.out; omega)).mono ?_
                  rintro e w6 ⟨n, rfl, rfl⟩
                  rw [HIN.out]
                  go_wp2_with (first | ((with_reducible refine gate_builtin (b := .append) (xs := #[.tmp 130, .tmp 135]) rfl ?_); at_builtin; refine Kd.R_append Kd.string (w0 := w) w.heap.size rfl (.tmp 130) (.tmp 135) 78 9 (.string ⟨#[]⟩) 16 rfl Try.underlying78 info9s rfl (by decide) (by omega) (.slice AC CJ.length cC) CJ x [.string x] (fun _ => True) (fun _ => False) rfl rfl rfl (fun _ hk => hk.elim) (fun _ _ => trivial) HC.out HB.out HB.out.size (by have := HCL.out; simp; omega) ?_; intro v9 w9 hr9 hb9 hg9 hat9; have n0_ := Aside0.mk (HTS.out.over HC.out hg9); have n1_ := Aside0.mk (HN.out.grown hg9 hat9); have n2_ := Aside0.mk (HD.out.grown hg9 hat9); have n3_ := Aside0.mk hr9; have n4_ := Aside0.mk hb9; clear HTS HN HD HC HB hr9 hb9 hg9 hat9))
                  go_roundw
                  case rel => exact ⟨j + 1, CJ ++ [x], by go_num, by omega, HCJ2, n0_, n3_, n1_, n2_, n4_⟩
                  case measure => simp [intOf]; omega
                · have p3 : decide ((j : Int) < (D.length : Int)) = false := decide_eq_false (by omega)
                  have hcj := HCJ.out
                  rw [List.take_of_length_le (by omega)] at hcj
                  have hnx := HE2.out.next t2 HLF.out
                  obtain ⟨⟨n1, b1⟩, hn1⟩ : ∃ z, nextX (pj Z2) = z := ⟨_, rfl⟩
                  rw [hn1, ← hcj] at hnx
                  have HN1 := Aside0.mk hn1
                  have HE3 := Aside0.mk (show In2 Z2 N CJ by rw [hcj]; exact HE2.out)
                  have eb : b1 = decide ((CJ.length : Int) < (N.length : Int)) := hnx.1
                  have en : b1 = true → t2 < n1 := hnx.2.1
                  clear hn1 hnx hcj
                  have hk100 := HUL.out.1
                  have a2 : wrap64 ((k : Int) + 1) = (k : Int) + 1 := wrap_id (by omega) (by omega)
                  go_wp2_with fail
                  refine (Next.ts HTS.out HE3.out.rise).mono ?_
                  rintro e w6 ⟨rfl, rfl⟩
                  rw [HN1.out]
                  cases b1 with
                  | true =>
                    have e3 : decide (n1 ≤ t2) = false := decide_eq_false (by have := en rfl; omega)
                    have e6 : CJ.length < N.length := by have := of_decide_eq_true eb.symm; omega
                    have e4 : (!decide (CJ.length < N.length)) = false := by rw [decide_eq_true e6]; rfl
                    clear eb en
                    go_wp2
                    go_roundw
                    case rel => exact ⟨k + 1, t2, Z2, CJ, by go_num, rfl, by omega, HT2, HTS, HC, HN, HE3, HB⟩
                    case measure => simp [intOf]; omega
                  | false =>
                    have e6 : ¬ CJ.length < N.length := by have := of_decide_eq_false eb.symm; omega
                    have e4 : decide (CJ.length < N.length) = false := decide_eq_false e6
                    clear eb en
                    go_wp2
                    go_roundw
                    case rel => exact ⟨k + 1, t2, Z2, CJ, by go_num, rfl, by omega, HT2, HTS, HC, HN, HE3, HB⟩
                    case measure => simp [intOf]; omega
        · have q3 : decide ((k : Int) < (u.length : Int)) = false := decide_eq_false (by omega)
          go_wp2_with fail
          refine (awake.calls _).mono ?_
          rintro e w6 ⟨rfl, hb⟩
          have HF := Aside0.mk (below_step HB.out hb)
          clear hb
          go_wp2
          go_ret
          exact ⟨rfl, HF.out⟩
set_option maxHeartbeats 4000000 in
set_option maxRecDepth 100000 in
theorem Once.calls (A : Option Addr) (c : Nat) (l : List S75) (B : Option Addr) (cb : Nat) (u : List Int) (w : World) (h : Kd.C k75 w A l.length l) (hc : l.length ≤ c)
    (hu : Kd.C (Kd.int .u8) w B u.length u) (hcb : u.length ≤ cb) (hub : ∀ x ∈ u, 0 ≤ x ∧ x ≤ 255) :
    Calls Try.prog 16 #[.slice A l.length c, .slice B u.length cb] w fun e w' => e = .returned (.bool true) ∧ Below w.heap.size w w' := by
  cases hs : skp l with
  | false =>
    by_cases hul : u.length ≤ 100
    · exact Once.in A c l B cb u w h hc hs hu hcb hub hul
    · have HC := Aside0.mk h
      have HCC := Aside0.mk hc
      have HS := Aside0.mk hs
      have g0 : decide ((100 : Int) < (u.length : Int)) = true := decide_eq_true (by omega)
      have g1 : 100 < u.length := by omega
      clear h hc hs hul hu hub hcb
      go_enter Try.func16, Try.ntmps16
      go_wp2_with fail
      refine (skip.calls A c l w HC.out HCC.out).mono ?_
      rintro e w1 ⟨rfl, ⟨nd, rfl⟩⟩
      rw [HS.out]
      go_wp2_with fail
      refine (awake.calls _).mono ?_
      rintro e w2 ⟨rfl, hb⟩
      have HF := Aside0.mk (below_go (pw_below_drewN (Below.refl w.heap.size w) nd) hb)
      clear hb
      go_wp2
      go_ret
      exact ⟨rfl, HF.out⟩
  | true =>
    have HC := Aside0.mk h
    have HCC := Aside0.mk hc
    have HS := Aside0.mk hs
    clear h hc hs hu hub hcb
    go_enter Try.func16, Try.ntmps16
    go_wp2_with fail
    refine (skip.calls A c l w HC.out HCC.out).mono ?_
    rintro e w1 ⟨rfl, ⟨nd, rfl⟩⟩
    rw [HS.out]
    go_wp2_with fail
    refine (awake.calls _).mono ?_
    rintro e w2 ⟨rfl, hb⟩
    have HF := Aside0.mk (below_go (pw_below_drewN (Below.refl w.heap.size w) nd) hb)
    clear hb
    go_wp2
    go_ret
    exact ⟨rfl, HF.out⟩
end Go.Proofs.Ytenaggpgblaalaa.Timer
