/- The timer's down: its contract. Condition: a timer whose items and places agree, a heap but for the item that sinks. -/
import Derived.Test.YtenaggpgblaalaaTimerUp
namespace Go.Proofs.Ytenaggpgblaalaa.Timer
open Go.RowKit Go.Proofs.Ytenaggpgblaalaa.PTimerPlays Go.Proofs.YtenaggpgblaalaaW.PrintWords Go.Proofs.YtenaggpgblaalaaW.PrintLast Go.Proofs.YtenaggpgblaalaaW.PrintMore
open Plain (wrap_id)
set_option linter.unusedVariables false
set_option linter.unusedSimpArgs false

theorem lt_irr (x : S106) : ¬ lt x x := by unfold lt; omega
theorem lt_trans {x y z : S106} (h : lt x y) (k : lt y z) : lt x z := by unfold lt at *; omega
def DN.T4 : Bool × List (List Nat × List Nat) := (true, [([], []), ([0], [0]), ([1], [1]), ([2], [2]), ([], []), ([3, 4], [3, 4]), ([5], [5]), ([], []), ([7], [7]), ([8], [8]), ([9], [9]), ([], []), ([10, 11], [10, 11]), ([12], [12]), ([6, 13], [6, 13])])
def DN.B4 : List Nat := [0, 1, 3, 7, 0, 31, 63, 0, 128, 384, 896, 0, 3968, 8064, 16383]
theorem DN.tab4 : rtab .any (opsOf Try.f94 4) = DN.T4 := by kernel_rfl
theorem DN.bits4 : waitsOk DN.T4.2 DN.B4 = true := by kernel_rfl
section
variable {N0 : Nat} {w : World} {g c gm : Nat} {L0 : List S106} {S : Int} {pl0 : ByteArray → Option Int} {s : Nat}
set_option maxHeartbeats 8000000 in
set_option maxRecDepth 100000 in
theorem down.calls {gr : Nat} (h : TM N0 w g (some ⟨gr, 0, none⟩) c gm L0 S pl0 s) (hs : Sync L0 pl0) (k0 : Nat) (hk : k0 < L0.length) (hh : HeapAt L0 k0 k0) (hL : L0.length ≤ 100000) (hsc : s ≤ 100000) :
    Calls Try.prog 94 #[.pointer (some ⟨g, 0, none⟩), .int .i64 (k0 : Int)] w fun e w' => e = .returned (.tuple #[]) ∧ ∃ L pl, TM N0 w' g (some ⟨gr, 0, none⟩) c gm L S pl s ∧ Sync L pl ∧ HeapUp L k0 ∧ L.Perm L0 ∧ Turn N0 w w' := by
  have H00 := Aside0.mk h
  have HS0 := Aside0.mk hs
  have HH0 := Aside0.mk hh
  have HK00 := Aside0.mk hk
  have HL0 := Aside0.mk hL
  have HSC := Aside0.mk hsc
  clear h hs hh hk hL hsc
  go_enter Try.func94, Try.ntmps94
  go_wp2
  refine wp_scope_jumps 0 (fun a' w' => ∃ (q : Nat) (L : List S106) (pl : ByteArray → Option Int) (u2 u3 u4 u5 u6 u7 u8 u9 u10 u11 u12 u13 u14 u15 u16 u17 u18 u19 u20 u21 u22 u23 u24 u25 u26 u27 u28 u29 u30 u31 u32 u33 u34 u35 u36 u37 u38 u39 u40 u41 u42 u43 u44 u45 u46 u47 u48 u49 : Value), a' = { tmps := #[.pointer (some ⟨g, 0, none⟩), .int .i64 (q : Int), u2, u3, u4, u5, u6, u7, u8, u9, u10, u11, u12, u13, u14, u15, u16, u17, u18, u19, u20, u21, u22, u23, u24, u25, u26, u27, u28, u29, u30, u31, u32, u33, u34, u35, u36, u37, u38, u39, u40, u41, u42, u43, u44, u45, u46, u47, u48, u49], defers := [] } ∧ Aside0 (TM N0 w' g (some ⟨gr, 0, none⟩) c gm L S pl s) ∧ Aside0 (Turn N0 w w') ∧ Aside0 (Sync L pl) ∧ Aside0 (HeapAt L k0 q) ∧ Aside0 (q < L.length) ∧ Aside0 (L.Perm L0)) (fun a' _ => L0.length - (intOf (a'.tmps.getD 1 undef)).toNat) rfl ?_ ?_
  · obtain ⟨q, hkk⟩ : ∃ q, k0 = q := ⟨_, rfl⟩
    obtain ⟨L, hLL⟩ : ∃ L, L0 = L := ⟨_, rfl⟩
    have H := H00
    have HS := HS0
    have HH := Aside0.mk (show HeapAt L0 k0 q by rw [← hkk]; exact HH0.out)
    have HQL := Aside0.mk (show q < L0.length by rw [← hkk]; exact HK00.out)
    have HLC := HL0
    have HP := Aside0.mk (show L.Perm L0 by rw [hLL])
    have HT := Aside0.mk (Turn.refl N0 w)
    have HKK := Aside0.mk hkk
    rw [show (.int .i64 (k0 : Int) : Value) = .int .i64 (q : Int) by rw [hkk]]
    rw [hLL] at H HS HH HQL HLC
    clear H00 HS0 HH0 HK00 HL0 hLL hkk
    obtain ⟨pl, hpl⟩ : ∃ pl, pl0 = pl := ⟨_, rfl⟩
    rw [hpl] at H HS
    clear hpl
    have hql := HQL.out
    have hlc := HLC.out
    have a1 : wrap64 (2 * (q : Int)) = 2 * (q : Int) := wrap_id (by omega) (by omega)
    have a2 : wrap64 (2 * (q : Int) + 1) = 2 * (q : Int) + 1 := wrap_id (by omega) (by omega)
    have a3 : wrap64 (2 * (q : Int) + 2) = 2 * (q : Int) + 2 := wrap_id (by omega) (by omega)
    have r0 := H.out.c0
    go_wp2
    go_step3
    go_wp2
    go_loopw [4, 5] (fun lv dv wr => ∃ m d : Nat, lv = .int .i64 (m : Int) ∧ dv = .int .i64 (d : Int) ∧ Aside0 (TM N0 wr g (some ⟨gr, 0, none⟩) c gm L S pl s) ∧ Aside0 (Turn N0 w wr) ∧ Aside0 (m < L.length) ∧ (2 * q + 1 ≤ d ∧ d ≤ 2 * q + 3) ∧ Aside0 (m = q ∨ (lt (itm L m) (itm L q) ∧ 2 * q + 1 ≤ m ∧ m < d)) ∧ Aside0 (∀ i, 2 * q + 1 ≤ i → i < d → i < L.length → ¬ lt (itm L i) (itm L m))) (fun _ dv _ => 2 * q + 4 - (intOf dv).toNat)
    case atStart => exact ⟨q, 2 * q + 1, rfl, by go_num, H, HT, HQL, ⟨by omega, by omega⟩, ⟨Or.inl rfl⟩, ⟨fun i h1 h2 => by omega⟩⟩
    case round =>
      clear H HT r0
      obtain ⟨m, d, rfl, rfl, H, HT, HML, ⟨hd1, hd2⟩, HM, HMin⟩ := hrel
      have r0 := H.out.c0
      by_cases g1 : d ≤ 2 * q + 2
      · have c1 : decide ((d : Int) ≤ 2 * (q : Int) + 2) = true := decide_eq_true (by omega)
        by_cases g2 : d < L.length
        · have c2 : decide ((d : Int) < (L.length : Int)) = true := decide_eq_true (by omega)
          have HDL := Aside0.mk g2
          have hml := HML.out
          have q1 : (0 : Int) ≤ (d : Int) := by omega
          have q2 : (d : Int) < (L.length : Int) := by omega
          have q3 : (0 : Int) ≤ (m : Int) := by omega
          have q4 : (m : Int) < (L.length : Int) := by omega
          by_cases hlt : lt (itm L d) (itm L m)
          · have HLT := Aside0.mk hlt
            clear hlt
            go_wp2
            have n0_ := Aside0.mk (H.out.below (below_drew (Below.refl _ _)))
            have n1_ := Aside0.mk (HT.out.trans (Turn.below (below_drew (Below.refl _ _))))
            clear H HT r0
            have H := n0_
            have HT := n1_
            clear n0_ n1_
            refine start_ (n := 15) (S := fun w' => w'.cell? ⟨g, 0, none⟩ = some (.slice (some ⟨gr, 0, none⟩) L.length c) ∧ w'.cell? ⟨gr, d * 3, none⟩ = some (.string (itm L d).f0) ∧ w'.cell? ⟨gr, d * 3 + 1, none⟩ = some (.int .i64 (itm L d).f1) ∧ w'.cell? ⟨gr, d * 3 + 2, none⟩ = some (.int .i64 (itm L d).f2) ∧ w'.cell? ⟨gr, m * 3, none⟩ = some (.string (itm L m).f0) ∧ w'.cell? ⟨gr, m * 3 + 1, none⟩ = some (.int .i64 (itm L m).f1) ∧ w'.cell? ⟨gr, m * 3 + 2, none⟩ = some (.int .i64 (itm L m).f2)) (ds := []) #[false, false, false, false, false, false, false, false, false, false, false, false, false, false, false] (by kernel_rfl) rfl rfl ⟨H.out.c0, (H.out.at d HDL.out).1, (H.out.at d HDL.out).2.1, (H.out.at d HDL.out).2.2, (H.out.at m HML.out).1, (H.out.at m HML.out).2.1, (H.out.at m HML.out).2.2⟩ (fun hHeld => ?_)
            refine with_tabW DN.tab4 DN.bits4 (fun HT_ HW_ => ?_)
            refine pure_ (i := 0) (N := some 26) (v := ?_) (a' := ?_) #[true, false, false, false, false, false, false, false, false, false, false, false, false, false, false] rfl rfl (any_of HT_.out (by kernel_rfl)) (fun _ _ _ h => h) (Or.inl ⟨by rfl, ?_⟩) ?_ ?_
            rotate_left
            · intro w'
              go_simp
              with_reducible rfl
            rotate_left
            · simp only [Act.put, List.setIfInBounds_toArray, List.set_cons_zero, List.set_cons_succ, i64_w, i32_w]
              rfl
            refine pure_ (i := 1) (N := some 27) (v := ?_) (a' := ?_) #[true, true, false, false, false, false, false, false, false, false, false, false, false, false, false] rfl rfl (any_of HT_.out (by kernel_rfl)) (fun _ _ _ h => h) (Or.inl ⟨by rfl, ?_⟩) ?_ ?_
            rotate_left
            · intro w'
              go_simp
              with_reducible rfl
            rotate_left
            · simp only [Act.put, List.setIfInBounds_toArray, List.set_cons_zero, List.set_cons_succ, i64_w, i32_w]
              rfl
            refine pure_ (i := 2) (N := some 28) (v := ?_) (a' := ?_) #[true, true, true, false, false, false, false, false, false, false, false, false, false, false, false] rfl rfl (any_of HT_.out (by kernel_rfl)) (fun _ _ _ h => h) (Or.inl ⟨by rfl, ?_⟩) ?_ ?_
            rotate_left
            · intro w'
              go_simp
              with_reducible rfl
            rotate_left
            · simp only [Act.put, List.setIfInBounds_toArray, List.set_cons_zero, List.set_cons_succ, i64_w, i32_w]
              rfl
            refine pure_ (i := 4) (N := some 30) (v := ?_) (a' := ?_) #[true, true, true, false, true, false, false, false, false, false, false, false, false, false, false] rfl rfl (any_of HT_.out (by kernel_rfl)) (fun _ _ _ h => h) (Or.inl ⟨by rfl, ?_⟩) ?_ ?_
            rotate_left
            · intro w'
              go_simp
              with_reducible rfl
            rotate_left
            · simp only [Act.put, List.setIfInBounds_toArray, List.set_cons_zero, List.set_cons_succ, i64_w, i32_w]
              rfl
            refine pure_ (i := 7) (N := some 33) (v := ?_) (a' := ?_) #[true, true, true, false, true, false, false, true, false, false, false, false, false, false, false] rfl rfl (any_of HT_.out (by kernel_rfl)) (fun _ _ _ h => h) (Or.inl ⟨by rfl, ?_⟩) ?_ ?_
            rotate_left
            · intro w'
              go_simp
              with_reducible rfl
            rotate_left
            · simp only [Act.put, List.setIfInBounds_toArray, List.set_cons_zero, List.set_cons_succ, i64_w, i32_w]
              rfl
            refine pure_ (i := 8) (N := some 34) (v := ?_) (a' := ?_) #[true, true, true, false, true, false, false, true, true, false, false, false, false, false, false] rfl rfl (any_of HT_.out (by kernel_rfl)) (fun _ _ _ h => h) (Or.inl ⟨by rfl, ?_⟩) ?_ ?_
            rotate_left
            · intro w'
              go_simp
              with_reducible rfl
            rotate_left
            · simp only [Act.put, List.setIfInBounds_toArray, List.set_cons_zero, List.set_cons_succ, i64_w, i32_w]
              rfl
            refine pure_ (i := 9) (N := some 35) (v := ?_) (a' := ?_) #[true, true, true, false, true, false, false, true, true, true, false, false, false, false, false] rfl rfl (any_of HT_.out (by kernel_rfl)) (fun _ _ _ h => h) (Or.inl ⟨by rfl, ?_⟩) ?_ ?_
            rotate_left
            · intro w'
              go_simp
              with_reducible rfl
            rotate_left
            · simp only [Act.put, List.setIfInBounds_toArray, List.set_cons_zero, List.set_cons_succ, i64_w, i32_w]
              rfl
            refine pure_ (i := 11) (N := some 37) (v := ?_) (a' := ?_) #[true, true, true, false, true, false, false, true, true, true, false, true, false, false, false] rfl rfl (any_of HT_.out (by kernel_rfl)) (fun _ _ _ h => h) (Or.inl ⟨by rfl, ?_⟩) ?_ ?_
            rotate_left
            · intro w'
              go_simp
              with_reducible rfl
            rotate_left
            · simp only [Act.put, List.setIfInBounds_toArray, List.set_cons_zero, List.set_cons_succ, i64_w, i32_w]
              rfl
            refine take_ (i := 3) (N := some 29) (v := ?_) (a' := ?_) #[true, true, true, true, true, false, false, true, true, true, false, true, false, false, false] rfl rfl (take_ofW HT_.out HW_.out (by kernel_rfl)) (fun _ _ _ h => h) (Or.inl ⟨by rfl, ?_⟩) hHeld ?_ ?_
            rotate_left
            · rintro w' ⟨s0, s1, s2, s3, s4, s5, s6⟩
              go_simp
              with_reducible rfl
            rotate_left
            · simp only [Act.put, List.setIfInBounds_toArray, List.set_cons_zero, List.set_cons_succ, i64_w, i32_w]
              rfl
            refine pure_ (i := 5) (N := some 31) (v := ?_) (a' := ?_) #[true, true, true, true, true, true, false, true, true, true, false, true, false, false, false] rfl rfl (any_of HT_.out (by kernel_rfl)) (fun _ _ _ h => h) (Or.inl ⟨by rfl, ?_⟩) ?_ ?_
            rotate_left
            · intro w'
              go_simp
              with_reducible rfl
            rotate_left
            · simp only [Act.put, List.setIfInBounds_toArray, List.set_cons_zero, List.set_cons_succ, i64_w, i32_w]
              rfl
            refine take_ (i := 6) (N := some 32) (v := ?_) (a' := ?_) #[true, true, true, true, true, true, true, true, true, true, false, true, false, false, false] rfl rfl (take_ofW HT_.out HW_.out (by kernel_rfl)) (fun _ _ _ h => h) (Or.inl ⟨by rfl, ?_⟩) hHeld ?_ ?_
            rotate_left
            · rintro w' ⟨s0, s1, s2, s3, s4, s5, s6⟩
              go_simp
              with_reducible rfl
            rotate_left
            · simp only [Act.put, List.setIfInBounds_toArray, List.set_cons_zero, List.set_cons_succ, i64_w, i32_w]
              rfl
            refine take_ (i := 10) (N := some 36) (v := ?_) (a' := ?_) #[true, true, true, true, true, true, true, true, true, true, true, true, false, false, false] rfl rfl (take_ofW HT_.out HW_.out (by kernel_rfl)) (fun _ _ _ h => h) (Or.inl ⟨by rfl, ?_⟩) hHeld ?_ ?_
            rotate_left
            · rintro w' ⟨s0, s1, s2, s3, s4, s5, s6⟩
              go_simp
              with_reducible rfl
            rotate_left
            · simp only [Act.put, List.setIfInBounds_toArray, List.set_cons_zero, List.set_cons_succ, i64_w, i32_w]
              rfl
            refine pure_ (i := 12) (N := some 38) (v := ?_) (a' := ?_) #[true, true, true, true, true, true, true, true, true, true, true, true, true, false, false] rfl rfl (any_of HT_.out (by kernel_rfl)) (fun _ _ _ h => h) (Or.inl ⟨by rfl, ?_⟩) ?_ ?_
            rotate_left
            · intro w'
              go_simp
              with_reducible rfl
            rotate_left
            · simp only [Act.put, List.setIfInBounds_toArray, List.set_cons_zero, List.set_cons_succ, i64_w, i32_w]
              rfl
            refine take_ (i := 13) (N := some 39) (v := ?_) (a' := ?_) #[true, true, true, true, true, true, true, true, true, true, true, true, true, true, false] rfl rfl (take_ofW HT_.out HW_.out (by kernel_rfl)) (fun _ _ _ h => h) (Or.inl ⟨by rfl, ?_⟩) hHeld ?_ ?_
            rotate_left
            · rintro w' ⟨s0, s1, s2, s3, s4, s5, s6⟩
              go_simp
              with_reducible rfl
            rotate_left
            · simp only [Act.put, List.setIfInBounds_toArray, List.set_cons_zero, List.set_cons_succ, i64_w, i32_w]
              rfl
            refine one_ (i := 14) (N := some 40) #[true, true, true, true, true, true, true, true, true, true, true, true, true, true, true] rfl rfl (one_of HT_.out (by kernel_rfl)) (by decide) (fun K hK => ?_)
            refine goes_ Try.func92 (by kernel_rfl) rfl #[.agg #[.string (itm L d).f0, .int .i64 (itm L d).f1, .int .i64 (itm L d).f2], .agg #[.string (itm L m).f0, .int .i64 (itm L m).f1, .int .i64 (itm L m).f2]] (by rfl) rfl rfl (by (try simp only [List.map_toArray, List.map_cons, List.map_nil]); first | done | rfl) ?_
            with_reducible refine (ahead.yes (itm L d) (itm L m) _ HLT.out).mono ?_
            rintro e w5 ⟨rfl, hb⟩
            refine ⟨_, rfl, ?_⟩
            have n0_ := Aside0.mk (H.out.below hb)
            have n1_ := Aside0.mk (HT.out.trans (Turn.below hb))
            clear H HT hb
            have H := n0_
            have HT := n1_
            clear n0_ n1_
            refine hK.out _ _ ⟨H.out.c0, (H.out.at d HDL.out).1, (H.out.at d HDL.out).2.1, (H.out.at d HDL.out).2.2, (H.out.at m HML.out).1, (H.out.at m HML.out).2.1, (H.out.at m HML.out).2.2⟩ (fun hHeld => ?_)
            clear hK K
            refine norm_ (a' := ?_) ?_ ?_
            rotate_left
            · show Act.put _ (some 40) _ = _
              simp only [Act.put, List.setIfInBounds_toArray, List.set_cons_zero, List.set_cons_succ, i64_w, i32_w]
              rfl
            refine done_ (done_of HT_.out (by kernel_rfl)) ?_
            clear hHeld
            go_wp2
            go_roundw
            case rel => exact ⟨d, d + 1, rfl, by go_num, H, HT, HDL, ⟨by omega, by omega⟩, ⟨Or.inr ⟨HM.out.elim (fun e => by rw [← e]; exact HLT.out) (fun e => lt_trans HLT.out e.1), by omega, by omega⟩⟩, ⟨fun i i1 i2 i3 => by
              by_cases e : i = d
              · rw [e]; exact lt_irr _
              · exact nlt_lt (HMin.out i i1 (by omega) i3) HLT.out⟩⟩
            case measure => simp [intOf]; omega
          · have HLT := Aside0.mk hlt
            clear hlt
            go_wp2
            have n0_ := Aside0.mk (H.out.below (below_drew (Below.refl _ _)))
            have n1_ := Aside0.mk (HT.out.trans (Turn.below (below_drew (Below.refl _ _))))
            clear H HT r0
            have H := n0_
            have HT := n1_
            clear n0_ n1_
            refine start_ (n := 15) (S := fun w' => w'.cell? ⟨g, 0, none⟩ = some (.slice (some ⟨gr, 0, none⟩) L.length c) ∧ w'.cell? ⟨gr, d * 3, none⟩ = some (.string (itm L d).f0) ∧ w'.cell? ⟨gr, d * 3 + 1, none⟩ = some (.int .i64 (itm L d).f1) ∧ w'.cell? ⟨gr, d * 3 + 2, none⟩ = some (.int .i64 (itm L d).f2) ∧ w'.cell? ⟨gr, m * 3, none⟩ = some (.string (itm L m).f0) ∧ w'.cell? ⟨gr, m * 3 + 1, none⟩ = some (.int .i64 (itm L m).f1) ∧ w'.cell? ⟨gr, m * 3 + 2, none⟩ = some (.int .i64 (itm L m).f2)) (ds := []) #[false, false, false, false, false, false, false, false, false, false, false, false, false, false, false] (by kernel_rfl) rfl rfl ⟨H.out.c0, (H.out.at d HDL.out).1, (H.out.at d HDL.out).2.1, (H.out.at d HDL.out).2.2, (H.out.at m HML.out).1, (H.out.at m HML.out).2.1, (H.out.at m HML.out).2.2⟩ (fun hHeld => ?_)
            refine with_tabW DN.tab4 DN.bits4 (fun HT_ HW_ => ?_)
            refine pure_ (i := 0) (N := some 26) (v := ?_) (a' := ?_) #[true, false, false, false, false, false, false, false, false, false, false, false, false, false, false] rfl rfl (any_of HT_.out (by kernel_rfl)) (fun _ _ _ h => h) (Or.inl ⟨by rfl, ?_⟩) ?_ ?_
            rotate_left
            · intro w'
              go_simp
              with_reducible rfl
            rotate_left
            · simp only [Act.put, List.setIfInBounds_toArray, List.set_cons_zero, List.set_cons_succ, i64_w, i32_w]
              rfl
            refine pure_ (i := 1) (N := some 27) (v := ?_) (a' := ?_) #[true, true, false, false, false, false, false, false, false, false, false, false, false, false, false] rfl rfl (any_of HT_.out (by kernel_rfl)) (fun _ _ _ h => h) (Or.inl ⟨by rfl, ?_⟩) ?_ ?_
            rotate_left
            · intro w'
              go_simp
              with_reducible rfl
            rotate_left
            · simp only [Act.put, List.setIfInBounds_toArray, List.set_cons_zero, List.set_cons_succ, i64_w, i32_w]
              rfl
            refine pure_ (i := 2) (N := some 28) (v := ?_) (a' := ?_) #[true, true, true, false, false, false, false, false, false, false, false, false, false, false, false] rfl rfl (any_of HT_.out (by kernel_rfl)) (fun _ _ _ h => h) (Or.inl ⟨by rfl, ?_⟩) ?_ ?_
            rotate_left
            · intro w'
              go_simp
              with_reducible rfl
            rotate_left
            · simp only [Act.put, List.setIfInBounds_toArray, List.set_cons_zero, List.set_cons_succ, i64_w, i32_w]
              rfl
            refine pure_ (i := 4) (N := some 30) (v := ?_) (a' := ?_) #[true, true, true, false, true, false, false, false, false, false, false, false, false, false, false] rfl rfl (any_of HT_.out (by kernel_rfl)) (fun _ _ _ h => h) (Or.inl ⟨by rfl, ?_⟩) ?_ ?_
            rotate_left
            · intro w'
              go_simp
              with_reducible rfl
            rotate_left
            · simp only [Act.put, List.setIfInBounds_toArray, List.set_cons_zero, List.set_cons_succ, i64_w, i32_w]
              rfl
            refine pure_ (i := 7) (N := some 33) (v := ?_) (a' := ?_) #[true, true, true, false, true, false, false, true, false, false, false, false, false, false, false] rfl rfl (any_of HT_.out (by kernel_rfl)) (fun _ _ _ h => h) (Or.inl ⟨by rfl, ?_⟩) ?_ ?_
            rotate_left
            · intro w'
              go_simp
              with_reducible rfl
            rotate_left
            · simp only [Act.put, List.setIfInBounds_toArray, List.set_cons_zero, List.set_cons_succ, i64_w, i32_w]
              rfl
            refine pure_ (i := 8) (N := some 34) (v := ?_) (a' := ?_) #[true, true, true, false, true, false, false, true, true, false, false, false, false, false, false] rfl rfl (any_of HT_.out (by kernel_rfl)) (fun _ _ _ h => h) (Or.inl ⟨by rfl, ?_⟩) ?_ ?_
            rotate_left
            · intro w'
              go_simp
              with_reducible rfl
            rotate_left
            · simp only [Act.put, List.setIfInBounds_toArray, List.set_cons_zero, List.set_cons_succ, i64_w, i32_w]
              rfl
            refine pure_ (i := 9) (N := some 35) (v := ?_) (a' := ?_) #[true, true, true, false, true, false, false, true, true, true, false, false, false, false, false] rfl rfl (any_of HT_.out (by kernel_rfl)) (fun _ _ _ h => h) (Or.inl ⟨by rfl, ?_⟩) ?_ ?_
            rotate_left
            · intro w'
              go_simp
              with_reducible rfl
            rotate_left
            · simp only [Act.put, List.setIfInBounds_toArray, List.set_cons_zero, List.set_cons_succ, i64_w, i32_w]
              rfl
            refine pure_ (i := 11) (N := some 37) (v := ?_) (a' := ?_) #[true, true, true, false, true, false, false, true, true, true, false, true, false, false, false] rfl rfl (any_of HT_.out (by kernel_rfl)) (fun _ _ _ h => h) (Or.inl ⟨by rfl, ?_⟩) ?_ ?_
            rotate_left
            · intro w'
              go_simp
              with_reducible rfl
            rotate_left
            · simp only [Act.put, List.setIfInBounds_toArray, List.set_cons_zero, List.set_cons_succ, i64_w, i32_w]
              rfl
            refine take_ (i := 3) (N := some 29) (v := ?_) (a' := ?_) #[true, true, true, true, true, false, false, true, true, true, false, true, false, false, false] rfl rfl (take_ofW HT_.out HW_.out (by kernel_rfl)) (fun _ _ _ h => h) (Or.inl ⟨by rfl, ?_⟩) hHeld ?_ ?_
            rotate_left
            · rintro w' ⟨s0, s1, s2, s3, s4, s5, s6⟩
              go_simp
              with_reducible rfl
            rotate_left
            · simp only [Act.put, List.setIfInBounds_toArray, List.set_cons_zero, List.set_cons_succ, i64_w, i32_w]
              rfl
            refine pure_ (i := 5) (N := some 31) (v := ?_) (a' := ?_) #[true, true, true, true, true, true, false, true, true, true, false, true, false, false, false] rfl rfl (any_of HT_.out (by kernel_rfl)) (fun _ _ _ h => h) (Or.inl ⟨by rfl, ?_⟩) ?_ ?_
            rotate_left
            · intro w'
              go_simp
              with_reducible rfl
            rotate_left
            · simp only [Act.put, List.setIfInBounds_toArray, List.set_cons_zero, List.set_cons_succ, i64_w, i32_w]
              rfl
            refine take_ (i := 6) (N := some 32) (v := ?_) (a' := ?_) #[true, true, true, true, true, true, true, true, true, true, false, true, false, false, false] rfl rfl (take_ofW HT_.out HW_.out (by kernel_rfl)) (fun _ _ _ h => h) (Or.inl ⟨by rfl, ?_⟩) hHeld ?_ ?_
            rotate_left
            · rintro w' ⟨s0, s1, s2, s3, s4, s5, s6⟩
              go_simp
              with_reducible rfl
            rotate_left
            · simp only [Act.put, List.setIfInBounds_toArray, List.set_cons_zero, List.set_cons_succ, i64_w, i32_w]
              rfl
            refine take_ (i := 10) (N := some 36) (v := ?_) (a' := ?_) #[true, true, true, true, true, true, true, true, true, true, true, true, false, false, false] rfl rfl (take_ofW HT_.out HW_.out (by kernel_rfl)) (fun _ _ _ h => h) (Or.inl ⟨by rfl, ?_⟩) hHeld ?_ ?_
            rotate_left
            · rintro w' ⟨s0, s1, s2, s3, s4, s5, s6⟩
              go_simp
              with_reducible rfl
            rotate_left
            · simp only [Act.put, List.setIfInBounds_toArray, List.set_cons_zero, List.set_cons_succ, i64_w, i32_w]
              rfl
            refine pure_ (i := 12) (N := some 38) (v := ?_) (a' := ?_) #[true, true, true, true, true, true, true, true, true, true, true, true, true, false, false] rfl rfl (any_of HT_.out (by kernel_rfl)) (fun _ _ _ h => h) (Or.inl ⟨by rfl, ?_⟩) ?_ ?_
            rotate_left
            · intro w'
              go_simp
              with_reducible rfl
            rotate_left
            · simp only [Act.put, List.setIfInBounds_toArray, List.set_cons_zero, List.set_cons_succ, i64_w, i32_w]
              rfl
            refine take_ (i := 13) (N := some 39) (v := ?_) (a' := ?_) #[true, true, true, true, true, true, true, true, true, true, true, true, true, true, false] rfl rfl (take_ofW HT_.out HW_.out (by kernel_rfl)) (fun _ _ _ h => h) (Or.inl ⟨by rfl, ?_⟩) hHeld ?_ ?_
            rotate_left
            · rintro w' ⟨s0, s1, s2, s3, s4, s5, s6⟩
              go_simp
              with_reducible rfl
            rotate_left
            · simp only [Act.put, List.setIfInBounds_toArray, List.set_cons_zero, List.set_cons_succ, i64_w, i32_w]
              rfl
            refine one_ (i := 14) (N := some 40) #[true, true, true, true, true, true, true, true, true, true, true, true, true, true, true] rfl rfl (one_of HT_.out (by kernel_rfl)) (by decide) (fun K hK => ?_)
            refine goes_ Try.func92 (by kernel_rfl) rfl #[.agg #[.string (itm L d).f0, .int .i64 (itm L d).f1, .int .i64 (itm L d).f2], .agg #[.string (itm L m).f0, .int .i64 (itm L m).f1, .int .i64 (itm L m).f2]] (by rfl) rfl rfl (by (try simp only [List.map_toArray, List.map_cons, List.map_nil]); first | done | rfl) ?_
            with_reducible refine (ahead.no (itm L d) (itm L m) _ HLT.out).mono ?_
            rintro e w5 ⟨rfl, hb⟩
            refine ⟨_, rfl, ?_⟩
            have n0_ := Aside0.mk (H.out.below hb)
            have n1_ := Aside0.mk (HT.out.trans (Turn.below hb))
            clear H HT hb
            have H := n0_
            have HT := n1_
            clear n0_ n1_
            refine hK.out _ _ ⟨H.out.c0, (H.out.at d HDL.out).1, (H.out.at d HDL.out).2.1, (H.out.at d HDL.out).2.2, (H.out.at m HML.out).1, (H.out.at m HML.out).2.1, (H.out.at m HML.out).2.2⟩ (fun hHeld => ?_)
            clear hK K
            refine norm_ (a' := ?_) ?_ ?_
            rotate_left
            · show Act.put _ (some 40) _ = _
              simp only [Act.put, List.setIfInBounds_toArray, List.set_cons_zero, List.set_cons_succ, i64_w, i32_w]
              rfl
            refine done_ (done_of HT_.out (by kernel_rfl)) ?_
            clear hHeld
            go_wp2
            go_roundw
            case rel => exact ⟨m, d + 1, rfl, by go_num, H, HT, HML, ⟨by omega, by omega⟩, ⟨HM.out.imp id (fun e => ⟨e.1, e.2.1, by omega⟩)⟩, ⟨fun i i1 i2 i3 => by
              by_cases e : i = d
              · rw [e]; exact HLT.out
              · exact HMin.out i i1 (by omega) i3⟩⟩
            case measure => simp [intOf]; omega
        · have c2 : decide ((d : Int) < (L.length : Int)) = false := decide_eq_false (by omega)
          have HAll := Aside0.mk (show ∀ i, 0 < i → i < L.length → (i - 1) / 2 = q → ¬ lt (itm L i) (itm L m) from fun i i0 il iq => HMin.out i (by omega) (by omega) il)
          have hml := HML.out
          by_cases hmq : m = q
          · subst hmq
            have c3 : ((m : Int) == (m : Int)) = true := beq_self_eq_true _
            go_wp2
            (try simp only [Exit.jump])
            (try simp only [Exit.inBlock, Exit.then])
            refine bodyPost_ret (results_none rfl _ _ _) rfl ?_
            exact ⟨rfl, L, pl, H.out, HS.out, down_end HH.out HAll.out, HP.out, HT.out⟩
          · have c3 : ((m : Int) == (q : Int)) = false := beq_eq_false_iff_ne.2 (by omega)
            have HMQ := Aside0.mk (show lt (itm L m) (itm L q) ∧ 2 * q + 1 ≤ m ∧ m ≤ 2 * q + 2 from HM.out.elim (fun e => absurd e hmq) (fun e => ⟨e.1, e.2.1, by have := e.2.2; omega⟩))
            go_wp2_with fail
            refine (swap.calls H.out q m HQL.out HML.out (by rw [HS.out.at_ q HQL.out]; rfl) (by rw [HS.out.at_ m HML.out]; rfl) (HS.out.small q HQL.out) (HS.out.small m HML.out) HLC.out HSC.out).mono ?_
            rintro e w6 ⟨rfl, h6, hT6⟩
            have H6 := Aside0.mk h6
            have HT6 := Aside0.mk (HT.out.trans hT6)
            clear h6 hT6
            go_wp2
            go_step3
            exact ⟨rfl, ⟨m, swapL L q m, swapP L pl q m, _, _, _, _, _, _, _, _, _, _, _, _, _, _, _, _, _, _, _, _, _, _, _, _, _, _, _, _, _, _, _, _, _, _, _, _, _, _, _, _, _, _, _, _, _, _, _, _, rfl, H6, HT6, ⟨HS.out.swap HQL.out HML.out⟩, ⟨down_step HH.out HML.out (by have := HMQ.out.2; omega) (by have := HMQ.out.2; omega) HMQ.out.1 HAll.out⟩, ⟨by rw [swap_length]; exact HML.out⟩, ⟨(swap_perm L q m HQL.out HML.out).trans HP.out⟩⟩⟩
      · have c1 : decide ((d : Int) ≤ 2 * (q : Int) + 2) = false := decide_eq_false (by omega)
        have HAll := Aside0.mk (show ∀ i, 0 < i → i < L.length → (i - 1) / 2 = q → ¬ lt (itm L i) (itm L m) from fun i i0 il iq => HMin.out i (by omega) (by omega) il)
        have hml := HML.out
        by_cases hmq : m = q
        · subst hmq
          have c3 : ((m : Int) == (m : Int)) = true := beq_self_eq_true _
          go_wp2
          (try simp only [Exit.jump])
          (try simp only [Exit.inBlock, Exit.then])
          refine bodyPost_ret (results_none rfl _ _ _) rfl ?_
          exact ⟨rfl, L, pl, H.out, HS.out, down_end HH.out HAll.out, HP.out, HT.out⟩
        · have c3 : ((m : Int) == (q : Int)) = false := beq_eq_false_iff_ne.2 (by omega)
          have HMQ := Aside0.mk (show lt (itm L m) (itm L q) ∧ 2 * q + 1 ≤ m ∧ m ≤ 2 * q + 2 from HM.out.elim (fun e => absurd e hmq) (fun e => ⟨e.1, e.2.1, by have := e.2.2; omega⟩))
          go_wp2_with fail
          refine (swap.calls H.out q m HQL.out HML.out (by rw [HS.out.at_ q HQL.out]; rfl) (by rw [HS.out.at_ m HML.out]; rfl) (HS.out.small q HQL.out) (HS.out.small m HML.out) HLC.out HSC.out).mono ?_
          rintro e w6 ⟨rfl, h6, hT6⟩
          have H6 := Aside0.mk h6
          have HT6 := Aside0.mk (HT.out.trans hT6)
          clear h6 hT6
          go_wp2
          go_step3
          exact ⟨rfl, ⟨m, swapL L q m, swapP L pl q m, _, _, _, _, _, _, _, _, _, _, _, _, _, _, _, _, _, _, _, _, _, _, _, _, _, _, _, _, _, _, _, _, _, _, _, _, _, _, _, _, _, _, _, _, _, _, _, _, rfl, H6, HT6, ⟨HS.out.swap HQL.out HML.out⟩, ⟨down_step HH.out HML.out (by have := HMQ.out.2; omega) (by have := HMQ.out.2; omega) HMQ.out.1 HAll.out⟩, ⟨by rw [swap_length]; exact HML.out⟩, ⟨(swap_perm L q m HQL.out HML.out).trans HP.out⟩⟩⟩
  · rintro a' wr ⟨q, L, pl, u2, u3, u4, u5, u6, u7, u8, u9, u10, u11, u12, u13, u14, u15, u16, u17, u18, u19, u20, u21, u22, u23, u24, u25, u26, u27, u28, u29, u30, u31, u32, u33, u34, u35, u36, u37, u38, u39, u40, u41, u42, u43, u44, u45, u46, u47, u48, u49, rfl, H, HT, HS, HH, HQL, HP⟩
    have HLC := Aside0.mk (show L.length ≤ 100000 by rw [HP.out.length_eq]; exact HL0.out)
    clear H00 HS0 HH0 HK00 HL0
    have hql := HQL.out
    have hlc := HLC.out
    have a1 : wrap64 (2 * (q : Int)) = 2 * (q : Int) := wrap_id (by omega) (by omega)
    have a2 : wrap64 (2 * (q : Int) + 1) = 2 * (q : Int) + 1 := wrap_id (by omega) (by omega)
    have a3 : wrap64 (2 * (q : Int) + 2) = 2 * (q : Int) + 2 := wrap_id (by omega) (by omega)
    have r0 := H.out.c0
    go_wp2
    go_loopw [4, 5] (fun lv dv wr => ∃ m d : Nat, lv = .int .i64 (m : Int) ∧ dv = .int .i64 (d : Int) ∧ Aside0 (TM N0 wr g (some ⟨gr, 0, none⟩) c gm L S pl s) ∧ Aside0 (Turn N0 w wr) ∧ Aside0 (m < L.length) ∧ (2 * q + 1 ≤ d ∧ d ≤ 2 * q + 3) ∧ Aside0 (m = q ∨ (lt (itm L m) (itm L q) ∧ 2 * q + 1 ≤ m ∧ m < d)) ∧ Aside0 (∀ i, 2 * q + 1 ≤ i → i < d → i < L.length → ¬ lt (itm L i) (itm L m))) (fun _ dv _ => 2 * q + 4 - (intOf dv).toNat)
    case atStart => exact ⟨q, 2 * q + 1, rfl, by go_num, H, HT, HQL, ⟨by omega, by omega⟩, ⟨Or.inl rfl⟩, ⟨fun i h1 h2 => by omega⟩⟩
    case round =>
      clear H HT r0
      obtain ⟨m, d, rfl, rfl, H, HT, HML, ⟨hd1, hd2⟩, HM, HMin⟩ := hrel
      have r0 := H.out.c0
      by_cases g1 : d ≤ 2 * q + 2
      · have c1 : decide ((d : Int) ≤ 2 * (q : Int) + 2) = true := decide_eq_true (by omega)
        by_cases g2 : d < L.length
        · have c2 : decide ((d : Int) < (L.length : Int)) = true := decide_eq_true (by omega)
          have HDL := Aside0.mk g2
          have hml := HML.out
          have q1 : (0 : Int) ≤ (d : Int) := by omega
          have q2 : (d : Int) < (L.length : Int) := by omega
          have q3 : (0 : Int) ≤ (m : Int) := by omega
          have q4 : (m : Int) < (L.length : Int) := by omega
          by_cases hlt : lt (itm L d) (itm L m)
          · have HLT := Aside0.mk hlt
            clear hlt
            go_wp2
            have n0_ := Aside0.mk (H.out.below (below_drew (Below.refl _ _)))
            have n1_ := Aside0.mk (HT.out.trans (Turn.below (below_drew (Below.refl _ _))))
            clear H HT r0
            have H := n0_
            have HT := n1_
            clear n0_ n1_
            refine start_ (n := 15) (S := fun w' => w'.cell? ⟨g, 0, none⟩ = some (.slice (some ⟨gr, 0, none⟩) L.length c) ∧ w'.cell? ⟨gr, d * 3, none⟩ = some (.string (itm L d).f0) ∧ w'.cell? ⟨gr, d * 3 + 1, none⟩ = some (.int .i64 (itm L d).f1) ∧ w'.cell? ⟨gr, d * 3 + 2, none⟩ = some (.int .i64 (itm L d).f2) ∧ w'.cell? ⟨gr, m * 3, none⟩ = some (.string (itm L m).f0) ∧ w'.cell? ⟨gr, m * 3 + 1, none⟩ = some (.int .i64 (itm L m).f1) ∧ w'.cell? ⟨gr, m * 3 + 2, none⟩ = some (.int .i64 (itm L m).f2)) (ds := []) #[false, false, false, false, false, false, false, false, false, false, false, false, false, false, false] (by kernel_rfl) rfl rfl ⟨H.out.c0, (H.out.at d HDL.out).1, (H.out.at d HDL.out).2.1, (H.out.at d HDL.out).2.2, (H.out.at m HML.out).1, (H.out.at m HML.out).2.1, (H.out.at m HML.out).2.2⟩ (fun hHeld => ?_)
            refine with_tabW DN.tab4 DN.bits4 (fun HT_ HW_ => ?_)
            refine pure_ (i := 0) (N := some 26) (v := ?_) (a' := ?_) #[true, false, false, false, false, false, false, false, false, false, false, false, false, false, false] rfl rfl (any_of HT_.out (by kernel_rfl)) (fun _ _ _ h => h) (Or.inl ⟨by rfl, ?_⟩) ?_ ?_
            rotate_left
            · intro w'
              go_simp
              with_reducible rfl
            rotate_left
            · simp only [Act.put, List.setIfInBounds_toArray, List.set_cons_zero, List.set_cons_succ, i64_w, i32_w]
              rfl
            refine pure_ (i := 1) (N := some 27) (v := ?_) (a' := ?_) #[true, true, false, false, false, false, false, false, false, false, false, false, false, false, false] rfl rfl (any_of HT_.out (by kernel_rfl)) (fun _ _ _ h => h) (Or.inl ⟨by rfl, ?_⟩) ?_ ?_
            rotate_left
            · intro w'
              go_simp
              with_reducible rfl
            rotate_left
            · simp only [Act.put, List.setIfInBounds_toArray, List.set_cons_zero, List.set_cons_succ, i64_w, i32_w]
              rfl
            refine pure_ (i := 2) (N := some 28) (v := ?_) (a' := ?_) #[true, true, true, false, false, false, false, false, false, false, false, false, false, false, false] rfl rfl (any_of HT_.out (by kernel_rfl)) (fun _ _ _ h => h) (Or.inl ⟨by rfl, ?_⟩) ?_ ?_
            rotate_left
            · intro w'
              go_simp
              with_reducible rfl
            rotate_left
            · simp only [Act.put, List.setIfInBounds_toArray, List.set_cons_zero, List.set_cons_succ, i64_w, i32_w]
              rfl
            refine pure_ (i := 4) (N := some 30) (v := ?_) (a' := ?_) #[true, true, true, false, true, false, false, false, false, false, false, false, false, false, false] rfl rfl (any_of HT_.out (by kernel_rfl)) (fun _ _ _ h => h) (Or.inl ⟨by rfl, ?_⟩) ?_ ?_
            rotate_left
            · intro w'
              go_simp
              with_reducible rfl
            rotate_left
            · simp only [Act.put, List.setIfInBounds_toArray, List.set_cons_zero, List.set_cons_succ, i64_w, i32_w]
              rfl
            refine pure_ (i := 7) (N := some 33) (v := ?_) (a' := ?_) #[true, true, true, false, true, false, false, true, false, false, false, false, false, false, false] rfl rfl (any_of HT_.out (by kernel_rfl)) (fun _ _ _ h => h) (Or.inl ⟨by rfl, ?_⟩) ?_ ?_
            rotate_left
            · intro w'
              go_simp
              with_reducible rfl
            rotate_left
            · simp only [Act.put, List.setIfInBounds_toArray, List.set_cons_zero, List.set_cons_succ, i64_w, i32_w]
              rfl
            refine pure_ (i := 8) (N := some 34) (v := ?_) (a' := ?_) #[true, true, true, false, true, false, false, true, true, false, false, false, false, false, false] rfl rfl (any_of HT_.out (by kernel_rfl)) (fun _ _ _ h => h) (Or.inl ⟨by rfl, ?_⟩) ?_ ?_
            rotate_left
            · intro w'
              go_simp
              with_reducible rfl
            rotate_left
            · simp only [Act.put, List.setIfInBounds_toArray, List.set_cons_zero, List.set_cons_succ, i64_w, i32_w]
              rfl
            refine pure_ (i := 9) (N := some 35) (v := ?_) (a' := ?_) #[true, true, true, false, true, false, false, true, true, true, false, false, false, false, false] rfl rfl (any_of HT_.out (by kernel_rfl)) (fun _ _ _ h => h) (Or.inl ⟨by rfl, ?_⟩) ?_ ?_
            rotate_left
            · intro w'
              go_simp
              with_reducible rfl
            rotate_left
            · simp only [Act.put, List.setIfInBounds_toArray, List.set_cons_zero, List.set_cons_succ, i64_w, i32_w]
              rfl
            refine pure_ (i := 11) (N := some 37) (v := ?_) (a' := ?_) #[true, true, true, false, true, false, false, true, true, true, false, true, false, false, false] rfl rfl (any_of HT_.out (by kernel_rfl)) (fun _ _ _ h => h) (Or.inl ⟨by rfl, ?_⟩) ?_ ?_
            rotate_left
            · intro w'
              go_simp
              with_reducible rfl
            rotate_left
            · simp only [Act.put, List.setIfInBounds_toArray, List.set_cons_zero, List.set_cons_succ, i64_w, i32_w]
              rfl
            refine take_ (i := 3) (N := some 29) (v := ?_) (a' := ?_) #[true, true, true, true, true, false, false, true, true, true, false, true, false, false, false] rfl rfl (take_ofW HT_.out HW_.out (by kernel_rfl)) (fun _ _ _ h => h) (Or.inl ⟨by rfl, ?_⟩) hHeld ?_ ?_
            rotate_left
            · rintro w' ⟨s0, s1, s2, s3, s4, s5, s6⟩
              go_simp
              with_reducible rfl
            rotate_left
            · simp only [Act.put, List.setIfInBounds_toArray, List.set_cons_zero, List.set_cons_succ, i64_w, i32_w]
              rfl
            refine pure_ (i := 5) (N := some 31) (v := ?_) (a' := ?_) #[true, true, true, true, true, true, false, true, true, true, false, true, false, false, false] rfl rfl (any_of HT_.out (by kernel_rfl)) (fun _ _ _ h => h) (Or.inl ⟨by rfl, ?_⟩) ?_ ?_
            rotate_left
            · intro w'
              go_simp
              with_reducible rfl
            rotate_left
            · simp only [Act.put, List.setIfInBounds_toArray, List.set_cons_zero, List.set_cons_succ, i64_w, i32_w]
              rfl
            refine take_ (i := 6) (N := some 32) (v := ?_) (a' := ?_) #[true, true, true, true, true, true, true, true, true, true, false, true, false, false, false] rfl rfl (take_ofW HT_.out HW_.out (by kernel_rfl)) (fun _ _ _ h => h) (Or.inl ⟨by rfl, ?_⟩) hHeld ?_ ?_
            rotate_left
            · rintro w' ⟨s0, s1, s2, s3, s4, s5, s6⟩
              go_simp
              with_reducible rfl
            rotate_left
            · simp only [Act.put, List.setIfInBounds_toArray, List.set_cons_zero, List.set_cons_succ, i64_w, i32_w]
              rfl
            refine take_ (i := 10) (N := some 36) (v := ?_) (a' := ?_) #[true, true, true, true, true, true, true, true, true, true, true, true, false, false, false] rfl rfl (take_ofW HT_.out HW_.out (by kernel_rfl)) (fun _ _ _ h => h) (Or.inl ⟨by rfl, ?_⟩) hHeld ?_ ?_
            rotate_left
            · rintro w' ⟨s0, s1, s2, s3, s4, s5, s6⟩
              go_simp
              with_reducible rfl
            rotate_left
            · simp only [Act.put, List.setIfInBounds_toArray, List.set_cons_zero, List.set_cons_succ, i64_w, i32_w]
              rfl
            refine pure_ (i := 12) (N := some 38) (v := ?_) (a' := ?_) #[true, true, true, true, true, true, true, true, true, true, true, true, true, false, false] rfl rfl (any_of HT_.out (by kernel_rfl)) (fun _ _ _ h => h) (Or.inl ⟨by rfl, ?_⟩) ?_ ?_
            rotate_left
            · intro w'
              go_simp
              with_reducible rfl
            rotate_left
            · simp only [Act.put, List.setIfInBounds_toArray, List.set_cons_zero, List.set_cons_succ, i64_w, i32_w]
              rfl
            refine take_ (i := 13) (N := some 39) (v := ?_) (a' := ?_) #[true, true, true, true, true, true, true, true, true, true, true, true, true, true, false] rfl rfl (take_ofW HT_.out HW_.out (by kernel_rfl)) (fun _ _ _ h => h) (Or.inl ⟨by rfl, ?_⟩) hHeld ?_ ?_
            rotate_left
            · rintro w' ⟨s0, s1, s2, s3, s4, s5, s6⟩
              go_simp
              with_reducible rfl
            rotate_left
            · simp only [Act.put, List.setIfInBounds_toArray, List.set_cons_zero, List.set_cons_succ, i64_w, i32_w]
              rfl
            refine one_ (i := 14) (N := some 40) #[true, true, true, true, true, true, true, true, true, true, true, true, true, true, true] rfl rfl (one_of HT_.out (by kernel_rfl)) (by decide) (fun K hK => ?_)
            refine goes_ Try.func92 (by kernel_rfl) rfl #[.agg #[.string (itm L d).f0, .int .i64 (itm L d).f1, .int .i64 (itm L d).f2], .agg #[.string (itm L m).f0, .int .i64 (itm L m).f1, .int .i64 (itm L m).f2]] (by rfl) rfl rfl (by (try simp only [List.map_toArray, List.map_cons, List.map_nil]); first | done | rfl) ?_
            with_reducible refine (ahead.yes (itm L d) (itm L m) _ HLT.out).mono ?_
            rintro e w5 ⟨rfl, hb⟩
            refine ⟨_, rfl, ?_⟩
            have n0_ := Aside0.mk (H.out.below hb)
            have n1_ := Aside0.mk (HT.out.trans (Turn.below hb))
            clear H HT hb
            have H := n0_
            have HT := n1_
            clear n0_ n1_
            refine hK.out _ _ ⟨H.out.c0, (H.out.at d HDL.out).1, (H.out.at d HDL.out).2.1, (H.out.at d HDL.out).2.2, (H.out.at m HML.out).1, (H.out.at m HML.out).2.1, (H.out.at m HML.out).2.2⟩ (fun hHeld => ?_)
            clear hK K
            refine norm_ (a' := ?_) ?_ ?_
            rotate_left
            · show Act.put _ (some 40) _ = _
              simp only [Act.put, List.setIfInBounds_toArray, List.set_cons_zero, List.set_cons_succ, i64_w, i32_w]
              rfl
            refine done_ (done_of HT_.out (by kernel_rfl)) ?_
            clear hHeld
            go_wp2
            go_roundw
            case rel => exact ⟨d, d + 1, rfl, by go_num, H, HT, HDL, ⟨by omega, by omega⟩, ⟨Or.inr ⟨HM.out.elim (fun e => by rw [← e]; exact HLT.out) (fun e => lt_trans HLT.out e.1), by omega, by omega⟩⟩, ⟨fun i i1 i2 i3 => by
              by_cases e : i = d
              · rw [e]; exact lt_irr _
              · exact nlt_lt (HMin.out i i1 (by omega) i3) HLT.out⟩⟩
            case measure => simp [intOf]; omega
          · have HLT := Aside0.mk hlt
            clear hlt
            go_wp2
            have n0_ := Aside0.mk (H.out.below (below_drew (Below.refl _ _)))
            have n1_ := Aside0.mk (HT.out.trans (Turn.below (below_drew (Below.refl _ _))))
            clear H HT r0
            have H := n0_
            have HT := n1_
            clear n0_ n1_
            refine start_ (n := 15) (S := fun w' => w'.cell? ⟨g, 0, none⟩ = some (.slice (some ⟨gr, 0, none⟩) L.length c) ∧ w'.cell? ⟨gr, d * 3, none⟩ = some (.string (itm L d).f0) ∧ w'.cell? ⟨gr, d * 3 + 1, none⟩ = some (.int .i64 (itm L d).f1) ∧ w'.cell? ⟨gr, d * 3 + 2, none⟩ = some (.int .i64 (itm L d).f2) ∧ w'.cell? ⟨gr, m * 3, none⟩ = some (.string (itm L m).f0) ∧ w'.cell? ⟨gr, m * 3 + 1, none⟩ = some (.int .i64 (itm L m).f1) ∧ w'.cell? ⟨gr, m * 3 + 2, none⟩ = some (.int .i64 (itm L m).f2)) (ds := []) #[false, false, false, false, false, false, false, false, false, false, false, false, false, false, false] (by kernel_rfl) rfl rfl ⟨H.out.c0, (H.out.at d HDL.out).1, (H.out.at d HDL.out).2.1, (H.out.at d HDL.out).2.2, (H.out.at m HML.out).1, (H.out.at m HML.out).2.1, (H.out.at m HML.out).2.2⟩ (fun hHeld => ?_)
            refine with_tabW DN.tab4 DN.bits4 (fun HT_ HW_ => ?_)
            refine pure_ (i := 0) (N := some 26) (v := ?_) (a' := ?_) #[true, false, false, false, false, false, false, false, false, false, false, false, false, false, false] rfl rfl (any_of HT_.out (by kernel_rfl)) (fun _ _ _ h => h) (Or.inl ⟨by rfl, ?_⟩) ?_ ?_
            rotate_left
            · intro w'
              go_simp
              with_reducible rfl
            rotate_left
            · simp only [Act.put, List.setIfInBounds_toArray, List.set_cons_zero, List.set_cons_succ, i64_w, i32_w]
              rfl
            refine pure_ (i := 1) (N := some 27) (v := ?_) (a' := ?_) #[true, true, false, false, false, false, false, false, false, false, false, false, false, false, false] rfl rfl (any_of HT_.out (by kernel_rfl)) (fun _ _ _ h => h) (Or.inl ⟨by rfl, ?_⟩) ?_ ?_
            rotate_left
            · intro w'
              go_simp
              with_reducible rfl
            rotate_left
            · simp only [Act.put, List.setIfInBounds_toArray, List.set_cons_zero, List.set_cons_succ, i64_w, i32_w]
              rfl
            refine pure_ (i := 2) (N := some 28) (v := ?_) (a' := ?_) #[true, true, true, false, false, false, false, false, false, false, false, false, false, false, false] rfl rfl (any_of HT_.out (by kernel_rfl)) (fun _ _ _ h => h) (Or.inl ⟨by rfl, ?_⟩) ?_ ?_
            rotate_left
            · intro w'
              go_simp
              with_reducible rfl
            rotate_left
            · simp only [Act.put, List.setIfInBounds_toArray, List.set_cons_zero, List.set_cons_succ, i64_w, i32_w]
              rfl
            refine pure_ (i := 4) (N := some 30) (v := ?_) (a' := ?_) #[true, true, true, false, true, false, false, false, false, false, false, false, false, false, false] rfl rfl (any_of HT_.out (by kernel_rfl)) (fun _ _ _ h => h) (Or.inl ⟨by rfl, ?_⟩) ?_ ?_
            rotate_left
            · intro w'
              go_simp
              with_reducible rfl
            rotate_left
            · simp only [Act.put, List.setIfInBounds_toArray, List.set_cons_zero, List.set_cons_succ, i64_w, i32_w]
              rfl
            refine pure_ (i := 7) (N := some 33) (v := ?_) (a' := ?_) #[true, true, true, false, true, false, false, true, false, false, false, false, false, false, false] rfl rfl (any_of HT_.out (by kernel_rfl)) (fun _ _ _ h => h) (Or.inl ⟨by rfl, ?_⟩) ?_ ?_
            rotate_left
            · intro w'
              go_simp
              with_reducible rfl
            rotate_left
            · simp only [Act.put, List.setIfInBounds_toArray, List.set_cons_zero, List.set_cons_succ, i64_w, i32_w]
              rfl
            refine pure_ (i := 8) (N := some 34) (v := ?_) (a' := ?_) #[true, true, true, false, true, false, false, true, true, false, false, false, false, false, false] rfl rfl (any_of HT_.out (by kernel_rfl)) (fun _ _ _ h => h) (Or.inl ⟨by rfl, ?_⟩) ?_ ?_
            rotate_left
            · intro w'
              go_simp
              with_reducible rfl
            rotate_left
            · simp only [Act.put, List.setIfInBounds_toArray, List.set_cons_zero, List.set_cons_succ, i64_w, i32_w]
              rfl
            refine pure_ (i := 9) (N := some 35) (v := ?_) (a' := ?_) #[true, true, true, false, true, false, false, true, true, true, false, false, false, false, false] rfl rfl (any_of HT_.out (by kernel_rfl)) (fun _ _ _ h => h) (Or.inl ⟨by rfl, ?_⟩) ?_ ?_
            rotate_left
            · intro w'
              go_simp
              with_reducible rfl
            rotate_left
            · simp only [Act.put, List.setIfInBounds_toArray, List.set_cons_zero, List.set_cons_succ, i64_w, i32_w]
              rfl
            refine pure_ (i := 11) (N := some 37) (v := ?_) (a' := ?_) #[true, true, true, false, true, false, false, true, true, true, false, true, false, false, false] rfl rfl (any_of HT_.out (by kernel_rfl)) (fun _ _ _ h => h) (Or.inl ⟨by rfl, ?_⟩) ?_ ?_
            rotate_left
            · intro w'
              go_simp
              with_reducible rfl
            rotate_left
            · simp only [Act.put, List.setIfInBounds_toArray, List.set_cons_zero, List.set_cons_succ, i64_w, i32_w]
              rfl
            refine take_ (i := 3) (N := some 29) (v := ?_) (a' := ?_) #[true, true, true, true, true, false, false, true, true, true, false, true, false, false, false] rfl rfl (take_ofW HT_.out HW_.out (by kernel_rfl)) (fun _ _ _ h => h) (Or.inl ⟨by rfl, ?_⟩) hHeld ?_ ?_
            rotate_left
            · rintro w' ⟨s0, s1, s2, s3, s4, s5, s6⟩
              go_simp
              with_reducible rfl
            rotate_left
            · simp only [Act.put, List.setIfInBounds_toArray, List.set_cons_zero, List.set_cons_succ, i64_w, i32_w]
              rfl
            refine pure_ (i := 5) (N := some 31) (v := ?_) (a' := ?_) #[true, true, true, true, true, true, false, true, true, true, false, true, false, false, false] rfl rfl (any_of HT_.out (by kernel_rfl)) (fun _ _ _ h => h) (Or.inl ⟨by rfl, ?_⟩) ?_ ?_
            rotate_left
            · intro w'
              go_simp
              with_reducible rfl
            rotate_left
            · simp only [Act.put, List.setIfInBounds_toArray, List.set_cons_zero, List.set_cons_succ, i64_w, i32_w]
              rfl
            refine take_ (i := 6) (N := some 32) (v := ?_) (a' := ?_) #[true, true, true, true, true, true, true, true, true, true, false, true, false, false, false] rfl rfl (take_ofW HT_.out HW_.out (by kernel_rfl)) (fun _ _ _ h => h) (Or.inl ⟨by rfl, ?_⟩) hHeld ?_ ?_
            rotate_left
            · rintro w' ⟨s0, s1, s2, s3, s4, s5, s6⟩
              go_simp
              with_reducible rfl
            rotate_left
            · simp only [Act.put, List.setIfInBounds_toArray, List.set_cons_zero, List.set_cons_succ, i64_w, i32_w]
              rfl
            refine take_ (i := 10) (N := some 36) (v := ?_) (a' := ?_) #[true, true, true, true, true, true, true, true, true, true, true, true, false, false, false] rfl rfl (take_ofW HT_.out HW_.out (by kernel_rfl)) (fun _ _ _ h => h) (Or.inl ⟨by rfl, ?_⟩) hHeld ?_ ?_
            rotate_left
            · rintro w' ⟨s0, s1, s2, s3, s4, s5, s6⟩
              go_simp
              with_reducible rfl
            rotate_left
            · simp only [Act.put, List.setIfInBounds_toArray, List.set_cons_zero, List.set_cons_succ, i64_w, i32_w]
              rfl
            refine pure_ (i := 12) (N := some 38) (v := ?_) (a' := ?_) #[true, true, true, true, true, true, true, true, true, true, true, true, true, false, false] rfl rfl (any_of HT_.out (by kernel_rfl)) (fun _ _ _ h => h) (Or.inl ⟨by rfl, ?_⟩) ?_ ?_
            rotate_left
            · intro w'
              go_simp
              with_reducible rfl
            rotate_left
            · simp only [Act.put, List.setIfInBounds_toArray, List.set_cons_zero, List.set_cons_succ, i64_w, i32_w]
              rfl
            refine take_ (i := 13) (N := some 39) (v := ?_) (a' := ?_) #[true, true, true, true, true, true, true, true, true, true, true, true, true, true, false] rfl rfl (take_ofW HT_.out HW_.out (by kernel_rfl)) (fun _ _ _ h => h) (Or.inl ⟨by rfl, ?_⟩) hHeld ?_ ?_
            rotate_left
            · rintro w' ⟨s0, s1, s2, s3, s4, s5, s6⟩
              go_simp
              with_reducible rfl
            rotate_left
            · simp only [Act.put, List.setIfInBounds_toArray, List.set_cons_zero, List.set_cons_succ, i64_w, i32_w]
              rfl
            refine one_ (i := 14) (N := some 40) #[true, true, true, true, true, true, true, true, true, true, true, true, true, true, true] rfl rfl (one_of HT_.out (by kernel_rfl)) (by decide) (fun K hK => ?_)
            refine goes_ Try.func92 (by kernel_rfl) rfl #[.agg #[.string (itm L d).f0, .int .i64 (itm L d).f1, .int .i64 (itm L d).f2], .agg #[.string (itm L m).f0, .int .i64 (itm L m).f1, .int .i64 (itm L m).f2]] (by rfl) rfl rfl (by (try simp only [List.map_toArray, List.map_cons, List.map_nil]); first | done | rfl) ?_
            with_reducible refine (ahead.no (itm L d) (itm L m) _ HLT.out).mono ?_
            rintro e w5 ⟨rfl, hb⟩
            refine ⟨_, rfl, ?_⟩
            have n0_ := Aside0.mk (H.out.below hb)
            have n1_ := Aside0.mk (HT.out.trans (Turn.below hb))
            clear H HT hb
            have H := n0_
            have HT := n1_
            clear n0_ n1_
            refine hK.out _ _ ⟨H.out.c0, (H.out.at d HDL.out).1, (H.out.at d HDL.out).2.1, (H.out.at d HDL.out).2.2, (H.out.at m HML.out).1, (H.out.at m HML.out).2.1, (H.out.at m HML.out).2.2⟩ (fun hHeld => ?_)
            clear hK K
            refine norm_ (a' := ?_) ?_ ?_
            rotate_left
            · show Act.put _ (some 40) _ = _
              simp only [Act.put, List.setIfInBounds_toArray, List.set_cons_zero, List.set_cons_succ, i64_w, i32_w]
              rfl
            refine done_ (done_of HT_.out (by kernel_rfl)) ?_
            clear hHeld
            go_wp2
            go_roundw
            case rel => exact ⟨m, d + 1, rfl, by go_num, H, HT, HML, ⟨by omega, by omega⟩, ⟨HM.out.imp id (fun e => ⟨e.1, e.2.1, by omega⟩)⟩, ⟨fun i i1 i2 i3 => by
              by_cases e : i = d
              · rw [e]; exact HLT.out
              · exact HMin.out i i1 (by omega) i3⟩⟩
            case measure => simp [intOf]; omega
        · have c2 : decide ((d : Int) < (L.length : Int)) = false := decide_eq_false (by omega)
          have HAll := Aside0.mk (show ∀ i, 0 < i → i < L.length → (i - 1) / 2 = q → ¬ lt (itm L i) (itm L m) from fun i i0 il iq => HMin.out i (by omega) (by omega) il)
          have hml := HML.out
          by_cases hmq : m = q
          · subst hmq
            have c3 : ((m : Int) == (m : Int)) = true := beq_self_eq_true _
            go_wp2
            (try simp only [Exit.jump])
            (try simp only [Exit.inBlock, Exit.then])
            refine bodyPost_ret (results_none rfl _ _ _) rfl ?_
            exact ⟨rfl, L, pl, H.out, HS.out, down_end HH.out HAll.out, HP.out, HT.out⟩
          · have c3 : ((m : Int) == (q : Int)) = false := beq_eq_false_iff_ne.2 (by omega)
            have HMQ := Aside0.mk (show lt (itm L m) (itm L q) ∧ 2 * q + 1 ≤ m ∧ m ≤ 2 * q + 2 from HM.out.elim (fun e => absurd e hmq) (fun e => ⟨e.1, e.2.1, by have := e.2.2; omega⟩))
            go_wp2_with fail
            refine (swap.calls H.out q m HQL.out HML.out (by rw [HS.out.at_ q HQL.out]; rfl) (by rw [HS.out.at_ m HML.out]; rfl) (HS.out.small q HQL.out) (HS.out.small m HML.out) HLC.out HSC.out).mono ?_
            rintro e w6 ⟨rfl, h6, hT6⟩
            have H6 := Aside0.mk h6
            have HT6 := Aside0.mk (HT.out.trans hT6)
            clear h6 hT6
            go_wp2
            go_step3
            exact ⟨rfl, ⟨m, swapL L q m, swapP L pl q m, _, _, _, _, _, _, _, _, _, _, _, _, _, _, _, _, _, _, _, _, _, _, _, _, _, _, _, _, _, _, _, _, _, _, _, _, _, _, _, _, _, _, _, _, _, _, _, _, rfl, H6, HT6, ⟨HS.out.swap HQL.out HML.out⟩, ⟨down_step HH.out HML.out (by have := HMQ.out.2; omega) (by have := HMQ.out.2; omega) HMQ.out.1 HAll.out⟩, ⟨by rw [swap_length]; exact HML.out⟩, ⟨(swap_perm L q m HQL.out HML.out).trans HP.out⟩⟩, by have h1 := HMQ.out.2; have h2 := HML.out; have h3 := HP.out.length_eq; simp [intOf]; omega⟩
      · have c1 : decide ((d : Int) ≤ 2 * (q : Int) + 2) = false := decide_eq_false (by omega)
        have HAll := Aside0.mk (show ∀ i, 0 < i → i < L.length → (i - 1) / 2 = q → ¬ lt (itm L i) (itm L m) from fun i i0 il iq => HMin.out i (by omega) (by omega) il)
        have hml := HML.out
        by_cases hmq : m = q
        · subst hmq
          have c3 : ((m : Int) == (m : Int)) = true := beq_self_eq_true _
          go_wp2
          (try simp only [Exit.jump])
          (try simp only [Exit.inBlock, Exit.then])
          refine bodyPost_ret (results_none rfl _ _ _) rfl ?_
          exact ⟨rfl, L, pl, H.out, HS.out, down_end HH.out HAll.out, HP.out, HT.out⟩
        · have c3 : ((m : Int) == (q : Int)) = false := beq_eq_false_iff_ne.2 (by omega)
          have HMQ := Aside0.mk (show lt (itm L m) (itm L q) ∧ 2 * q + 1 ≤ m ∧ m ≤ 2 * q + 2 from HM.out.elim (fun e => absurd e hmq) (fun e => ⟨e.1, e.2.1, by have := e.2.2; omega⟩))
          go_wp2_with fail
          refine (swap.calls H.out q m HQL.out HML.out (by rw [HS.out.at_ q HQL.out]; rfl) (by rw [HS.out.at_ m HML.out]; rfl) (HS.out.small q HQL.out) (HS.out.small m HML.out) HLC.out HSC.out).mono ?_
          rintro e w6 ⟨rfl, h6, hT6⟩
          have H6 := Aside0.mk h6
          have HT6 := Aside0.mk (HT.out.trans hT6)
          clear h6 hT6
          go_wp2
          go_step3
          exact ⟨rfl, ⟨m, swapL L q m, swapP L pl q m, _, _, _, _, _, _, _, _, _, _, _, _, _, _, _, _, _, _, _, _, _, _, _, _, _, _, _, _, _, _, _, _, _, _, _, _, _, _, _, _, _, _, _, _, _, _, _, _, rfl, H6, HT6, ⟨HS.out.swap HQL.out HML.out⟩, ⟨down_step HH.out HML.out (by have := HMQ.out.2; omega) (by have := HMQ.out.2; omega) HMQ.out.1 HAll.out⟩, ⟨by rw [swap_length]; exact HML.out⟩, ⟨(swap_perm L q m HQL.out HML.out).trans HP.out⟩⟩, by have h1 := HMQ.out.2; have h2 := HML.out; have h3 := HP.out.length_eq; simp [intOf]; omega⟩
end
end Go.Proofs.Ytenaggpgblaalaa.Timer
