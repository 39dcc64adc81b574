/- PaceSums: the walk, and the law's own awake. Condition: none. -/
import Derived.Test.YtenaggpgblaalaaPaceB
namespace Go.Proofs.Ytenaggpgblaalaa.Pace
open Go.RowKit Go.Proofs.Ytenaggpgblaalaa.PPaceNotes Go.Proofs.YtenaggpgblaalaaW.PrintWords Go.Proofs.YtenaggpgblaalaaW.PrintLast Go.Proofs.YtenaggpgblaalaaW.PrintMore
open Plain (hold lim su nx lim_in lim_ge su_in su_300 Paced)
set_option linter.unusedVariables false
set_option linter.unusedSimpArgs false

theorem awake.calls (w : World) : Calls Try.prog 41 #[] w fun e w' => e = .returned (.bool true) ∧ Below w.heap.size w w' := by
  go_enter Try.func41, Try.ntmps41
  go_wp2_with fail
  refine (New.calls' 2 w).mono ?_
  rintro e w1 ⟨g, rfl, hp, hg, hb⟩
  rw [show lim 2 0 = 2 from by decide +kernel] at hp
  have HB := Aside0.mk hb
  have HP := Aside0.mk hp
  have HG := Aside0.mk hg
  clear hb hp hg
  go_wp2_with fail
  refine (Note.keep g 2 0 0 w1 HP.out (by omega) (by omega) (by omega)).mono ?_
  rintro e w2 ⟨rfl, hp, hg⟩
  have HB2 := Aside0.mk (HB.out.grown hg HB.out.size (fun k hk => by injection hk with hk; subst hk; exact HG.out))
  have HP2 := Aside0.mk hp
  clear hp hg HB HP
  go_wp2_with fail
  refine (Note.anew' g 2 (0 + 1) 0 w2 HP2.out (by omega) (by omega) (by omega) (by omega) (by omega) (by omega) (by omega)).mono ?_
  rintro e w3 ⟨rfl, hp, hg⟩
  rw [show nx 2 = 4 from by decide +kernel] at hp
  have HB3 := Aside0.mk (HB2.out.grown hg HB2.out.size (fun k hk => by injection hk with hk; subst hk; exact HG.out))
  have HP3 := Aside0.mk hp
  clear hp hg HB2 HP2
  go_wp2_with fail
  refine (Limit.calls g 4 0 _ w3 HP3.out).mono ?_
  rintro e w4 ⟨rfl, rfl⟩
  go_wp2_with fail
  refine (Sum.calls' 2 2 _ (by omega) (by omega)).mono ?_
  rintro e w5 ⟨rfl, hb⟩
  rw [show su 2 (2 : Int).toNat = 6 from by decide +kernel]
  have HB5 := Aside0.mk (below_step HB3.out hb)
  clear hb HB3
  go_wp2
  go_ret
  exact ⟨rfl, HB5.out⟩

theorem Sums.out (b n : Int) (w : World) (h : b < 1 ∨ 30 < b) : Calls Try.prog 10 #[.int .i64 b, .int .i64 n] w fun e w' => e = .returned (.bool true) ∧ Below w.heap.size w w' := by
  rcases h with h | h
  · go_enter Try.func10, Try.ntmps10
    go_wp2_with fail
    refine (awake.calls w).mono ?_
    rintro e w' ⟨rfl, hb⟩
    go_wp2
    go_ret
    exact ⟨rfl, hb⟩
  · have h2 : ¬ b < 1 := by omega
    go_enter Try.func10, Try.ntmps10
    go_wp2_with fail
    refine (awake.calls w).mono ?_
    rintro e w' ⟨rfl, hb⟩
    go_wp2
    go_ret
    exact ⟨rfl, hb⟩
set_option maxHeartbeats 4000000 in
set_option maxRecDepth 100000 in
theorem Sums.in (b n : Int) (w : World) (h0 : 1 ≤ b) (h1 : b ≤ 30) : Calls Try.prog 10 #[.int .i64 b, .int .i64 n] w fun e w' => e = .returned (.bool true) ∧ Below w.heap.size w w' := by
  go_enter Try.func10, Try.ntmps10
  go_wp2_with fail
  refine (New.calls' b w).mono ?_
  rintro e w1 ⟨g, rfl, hp, hg, hb⟩
  have HB := Aside0.mk hb
  have HP := Aside0.mk hp
  have HG := Aside0.mk hg
  clear hb hp hg
  go_wp2
  go_loopw [6, 7] (fun l i wr => ∃ (k : Nat) (c l0 : Int) (t : Nat), k ≤ 400 ∧ i = .int .i64 ((k : Int) + 1) ∧ l = .int .i64 l0 ∧ Aside0 (l0 ≤ lim b t) ∧ Aside0 (Paced b k c t) ∧ Aside0 (PB wr g (lim b t) c t) ∧ Aside0 (Below w.heap.size w wr)) (fun _ i _ => 401 - (intOf i).toNat)
  case atStart => exact ⟨0, 0, 0, 0, by omega, rfl, rfl, ⟨by have := lim_in b 0; omega⟩, ⟨Paced.zero b⟩, HP, HB⟩
  case round =>
    obtain ⟨k, c, l0, t, hk, rfl, rfl, HL, HQ, HPr, HBr⟩ := hrel
    clear HB HP
    by_cases hgo : (k : Int) + 1 ≤ n ∧ k < 400
    · obtain ⟨hgo1, hgo2⟩ := hgo
      have hq := HQ.out
      have hfew := hq.few
      have hlim := lim_in b t
      have hlimg := lim_ge b t
      have hl0 := HL.out
      obtain ⟨L, hL⟩ : ∃ L : Int, lim b t = L := ⟨_, rfl⟩
      obtain ⟨L', hL'⟩ : ∃ L : Int, lim b (t + 1) = L := ⟨_, rfl⟩
      have HLL := Aside0.mk hL
      have HLL' := Aside0.mk hL'
      have hnx : nx L = L' := by rw [← hL, ← hL']; rfl
      have HNX := Aside0.mk hnx
      rw [hL] at hlim hlimg hl0
      rw [hL'] at hlimg
      have HPR := Aside0.mk (show PB wr g L c t by rw [← hL]; exact HPr.out)
      have hc0 := hq.lo
      have hcl := hq.hi
      rw [hL] at hcl
      clear hq hL hL' hnx HL HPr
      have ht : t < 400 := by omega
      have hn2 : n ≤ 9223372036854775807 ∨ True := Or.inr trivial
      by_cases hlt : c + 1 < L
      · obtain ⟨hq2, hne⟩ := HQ.out.keep (by omega) (by rw [HLL.out]; exact hlt)
        have HQ2 := Aside0.mk hq2
        obtain ⟨S, hS⟩ : ∃ S : Int, su b (t + 1) = S := ⟨_, rfl⟩
        have HS := Aside0.mk hS
        rw [hS] at hne
        have hb1 : (S == (k : Int) + 1) = false := beq_eq_false_iff_ne.2 (by omega)
        clear hq2 hS hne hn2
        go_wp2_with fail
        refine (Times.calls g L c t wr HPR.out).mono ?_
        rintro e w2 ⟨rfl, rfl⟩
        go_wp2_with fail
        refine (Limit.calls g L c t _ HPR.out).mono ?_
        rintro e w2 ⟨rfl, rfl⟩
        go_wp2_with fail
        refine (Limit.calls g L c t _ HPR.out).mono ?_
        rintro e w2 ⟨rfl, rfl⟩
        go_wp2_with fail
        refine (Note.keep g L c t _ HPR.out hc0 (by omega) hlt).mono ?_
        rintro e w2 ⟨rfl, hp, hg⟩
        have HB2 := Aside0.mk (HBr.out.grown hg HBr.out.size (fun k hk => by injection hk with hk; subst hk; exact HG.out))
        have HP2 := Aside0.mk hp
        clear hp hg HBr HPR
        go_wp2_with fail
        refine (Sum.calls' b ((t : Int) + 1) _ (by omega) (by omega)).mono ?_
        rintro e w3 ⟨rfl, hb⟩
        rw [show ((t : Int) + 1).toNat = t + 1 from by omega, HS.out]
        have HB3 := Aside0.mk (below_step HB2.out hb)
        have HP3 := Aside0.mk (HP2.out.below hb)
        clear hb HB2 HP2
        go_wp2
        go_roundw
        case rel => exact ⟨k + 1, c + 1, L, t, by omega, by go_num, rfl, ⟨by rw [HLL.out]; exact Int.le_refl _⟩, HQ2, ⟨by rw [HLL.out]; exact HP3.out⟩, HB3⟩
        case measure => simp [intOf]; omega
      · obtain ⟨hq2, hne⟩ := HQ.out.anew (by omega) (by rw [HLL.out]; exact hlt)
        have HQ2 := Aside0.mk hq2
        obtain ⟨S, hS⟩ : ∃ S : Int, su b (t + 1) = S := ⟨_, rfl⟩
        have HS := Aside0.mk hS
        rw [hS] at hne
        have hb1 : (S == (k : Int) + 1) = true := beq_iff_eq.2 (by omega)
        clear hq2 hS hne hn2
        go_wp2_with fail
        refine (Times.calls g L c t wr HPR.out).mono ?_
        rintro e w2 ⟨rfl, rfl⟩
        go_wp2_with fail
        refine (Limit.calls g L c t _ HPR.out).mono ?_
        rintro e w2 ⟨rfl, rfl⟩
        go_wp2_with fail
        refine (Limit.calls g L c t _ HPR.out).mono ?_
        rintro e w2 ⟨rfl, rfl⟩
        go_wp2_with fail
        refine (Note.anew' g L c t _ HPR.out hlim.1 hlim.2 hc0 (by omega) (by omega) (by omega) (by omega)).mono ?_
        rintro e w2 ⟨rfl, hp, hg⟩
        have HB2 := Aside0.mk (HBr.out.grown hg HBr.out.size (fun k hk => by injection hk with hk; subst hk; exact HG.out))
        rw [HNX.out] at hp
        have HP2 := Aside0.mk hp
        clear hp hg HBr HPR
        go_wp2_with fail
        refine (Sum.calls' b ((t : Int) + 1) _ (by omega) (by omega)).mono ?_
        rintro e w3 ⟨rfl, hb⟩
        rw [show ((t : Int) + 1).toNat = t + 1 from by omega, HS.out]
        have HB3 := Aside0.mk (below_step HB2.out hb)
        have HP3 := Aside0.mk (HP2.out.below hb)
        clear hb HB2 HP2
        go_wp2
        go_roundw
        case rel => exact ⟨k + 1, 0, L, t + 1, by omega, by go_num, rfl, ⟨by rw [HLL'.out]; exact hlimg⟩, HQ2, ⟨by rw [HLL'.out]; exact HP3.out⟩, HB3⟩
        case measure => simp [intOf]; omega
    · have hfin : ∀ (wr : World), Below w.heap.size w wr → True := fun _ _ => trivial
      clear hfin HQ HPr HL
      by_cases hkn : (k : Int) + 1 ≤ n
      all_goals
        have hk4 : (k : Int) + 1 ≤ n → ¬ k < 400 := fun h1 h2 => hgo ⟨h1, h2⟩
        clear hgo
      · have hk400 : k = 400 := by have := hk4 hkn; omega
        subst hk400
        clear hk4
        go_wp2_with fail
        refine (Sum.calls' b 300 _ (by omega) (by omega)).mono ?_
        rintro e w3 ⟨rfl, hb⟩
        rw [show (300 : Int).toNat = 300 from rfl, su_300]
        have HB3 := Aside0.mk (below_step HBr.out hb)
        clear hb HBr
        go_wp2_with fail
        refine (awake.calls _).mono ?_
        rintro e w4 ⟨rfl, hb⟩
        have HB4 := Aside0.mk (below_step HB3.out hb)
        clear hb HB3
        go_wp2
        go_ret
        exact ⟨rfl, HB4.out⟩
      · clear hk4
        go_wp2_with fail
        refine (Sum.calls' b 300 _ (by omega) (by omega)).mono ?_
        rintro e w3 ⟨rfl, hb⟩
        rw [show (300 : Int).toNat = 300 from rfl, su_300]
        have HB3 := Aside0.mk (below_step HBr.out hb)
        clear hb HBr
        go_wp2_with fail
        refine (awake.calls _).mono ?_
        rintro e w4 ⟨rfl, hb⟩
        have HB4 := Aside0.mk (below_step HB3.out hb)
        clear hb HB3
        go_wp2
        go_ret
        exact ⟨rfl, HB4.out⟩
end Go.Proofs.Ytenaggpgblaalaa.Pace
