/- The timer's Due: its contract. Condition: at most 1000 names, each of at most 1000 bytes. -/
import Derived.Test.YtenaggpgblaalaaTimerSet
import Derived.Test.YtenaggpgblaalaaPlainDue
namespace Go.Proofs.Ytenaggpgblaalaa.Timer
open Go.RowKit Go.Proofs.Ytenaggpgblaalaa.PTimerPlays Go.Proofs.YtenaggpgblaalaaW.PrintWords Go.Proofs.YtenaggpgblaalaaW.PrintLast Go.Proofs.YtenaggpgblaalaaW.PrintMore
open Plain (wrap_id hold)
set_option linter.unusedVariables false
set_option linter.unusedSimpArgs false

theorem info9s : (Try.prog.info? 9).map (fun i => (i.zero, i.size, i.bytes)) = some (some (.string ⟨#[]⟩), 1, 16) := by kernel_rfl
theorem Passed.calls (a b : Int) (w : World) : Calls Try.prog 26 #[.int .i64 a, .int .i64 b] w fun e w' => e = .returned (.bool (decide (hold b ≤ hold a))) ∧ Below w.heap.size w w' := by
  have hh : ∀ a, tick_Hold.f a = some (hold a) := fun a => by
    unfold tick_Hold.f hold
    refine congrArg some ?_
    simp only [mx, mn]
    (repeat' split) <;> omega
  refine tick_Passed.calls a b _ w ?_
  unfold tick_Passed.f
  rw [hh, hh]
  rfl
/-- A row of names of one's own: it lies in no timer's block. -/
abbrev NR (w : World) (base : Nat) (v : Value) (xs : List ByteArray) : Prop := Kd.R Kd.string 9 w base (fun _ => True) v xs
theorem NR.turn {N0 base : Nat} {w w' : World} {v : Value} {xs : List ByteArray} (h : NR w base v xs) (ht : Turn N0 w w') : NR w' base v xs := by
  refine Kd.R_move (Kd.R_bound h) ?_ |> (Kd.R_mono · (fun _ _ => trivial))
  intro k hk
  obtain ⟨q, hq, cells, hc⟩ := hk.2.2.2
  have hq2 : q = 9 := by
    have : ∀ q, q ∈ 9 :: Kd.string.E → q = 9 := by decide
    exact this q hq
  subst hq2
  rw [ht.keep k _ hc (.inr rfl), hc]
theorem TM.over {N0 base : Nat} {w w' : World} {g : Nat} {A : Option Addr} {c gm : Nat} {L : List S106} {S : Int} {pl : ByteArray → Option Int} {s : Nat} {v : Value} {xs : List ByteArray} (h1 : TM N0 w g A c gm L S pl s) (hr : NR w base v xs) (hg : w.grownBy w' v.ownBlock) : TM N0 w' g A c gm L S pl s := by
  refine ⟨h1.hg, h1.hgm, blk_grown h1.blk hg (Kd.R_ne hr h1.blk (by decide)), Kd.R_over h1.row hr (by decide) hg, h1.map.grown hg ?_⟩
  intro e
  obtain ⟨es, clock, hb⟩ := h1.map.blk
  obtain ⟨inner, ho⟩ := Kd.R_own hr
  obtain ⟨cells, hc⟩ := own_typed ho gm e.symm
  rw [hc] at hb; cases hb
theorem TS.over {N0 base : Nat} {w w' : World} {g : Nat} {S : Int} {Z : List S106} {v : Value} {xs : List ByteArray} (h : TS N0 w g S Z) (hr : NR w base v xs) (hg : w.grownBy w' v.ownBlock) : TS N0 w' g S Z := by
  obtain ⟨A, c, gm, L, pl, h1, h2, h3, h4⟩ := h
  exact ⟨A, c, gm, L, pl, h1.over hr hg, h2, h3, h4⟩
theorem due_cons (h : Int) (f : Nat) (y : S106) (l : List S106) : due h (f + 1) (y :: l) = if (lst y l).f1 ≤ h then ((lst y l).f0 :: (due h f (out (lst y l).f0 (y :: l))).1, (due h f (out (lst y l).f0 (y :: l))).2) else ([], y :: l) := rfl
theorem Turn.over {N0 : Nat} {w W w' : World} {r : Option Nat} (h : Turn N0 w W) (hg : W.grownBy w' r) (hr : ∀ b, r = some b → w.heap.size ≤ b) : Turn N0 w w' :=
  ⟨hg.os.trans h.os, hg.tape.trans h.tape, hg.output.trans h.output, Nat.le_trans h.size hg.size, fun k o hk ho => blk_grown (h.keep k o hk ho) hg (fun e => by have := hr k e.symm; have := blk_lt hk; omega)⟩
section
variable {N0 : Nat} {w : World} {g : Nat} {S : Int}
set_option maxHeartbeats 4000000 in
set_option maxRecDepth 100000 in
theorem Due.calls {Z : List S106} (h : TS N0 w g S Z) (hr : Rise Z) (hgd : ∀ y ∈ Z, hold y.f1 = y.f1) (hZ : Z.length ≤ 1000) (now : Int) :
    Calls Try.prog 70 #[.pointer (some ⟨g, 0, none⟩), .int .i64 now] w fun e w' => ∃ v, e = .returned v ∧ NR w' w.heap.size v (due (hold now) 1001 Z).1 ∧ TS N0 w' g S (due (hold now) 1001 Z).2 ∧ Turn N0 w w' := by
  have H0 := Aside0.mk h
  have HR0 := Aside0.mk hr
  have HG0 := Aside0.mk hgd
  have HZ0 := Aside0.mk hZ
  clear h hr hgd hZ
  go_enter Try.func70, Try.ntmps70
  go_wp2
  go_loopg [5] 1001 (fun f v5 wr => ∃ (Zr : List S106) (acc : List ByteArray), Aside0 (TS N0 wr g S Zr) ∧ Aside0 (Rise Zr ∧ (∀ y ∈ Zr, hold y.f1 = y.f1) ∧ Zr.length < f ∧ acc.length + f ≤ 1001) ∧ Aside0 (NR wr w.heap.size v5 acc) ∧ Aside0 (Turn N0 w wr) ∧ Aside0 (acc ++ (due (hold now) f Zr).1 = (due (hold now) 1001 Z).1 ∧ (due (hold now) f Zr).2 = (due (hold now) 1001 Z).2))
  case atStart => exact ⟨Z, [], H0, ⟨HR0.out, HG0.out, by have := HZ0.out; omega, by simp⟩, ⟨Kd.R_nil _ _ _ _ _⟩, ⟨Turn.refl _ _⟩, ⟨rfl, rfl⟩⟩
  case round =>
    clear H0 HR0 HG0 HZ0
    obtain ⟨Zr, acc, HTS, HQ, HNR, HT, HD⟩ := hrel
    obtain ⟨A, c, gm, L, pl, t1, t2, t3, t4⟩ := HTS.out
    have H := Aside0.mk t1
    have HSY := Aside0.mk t2
    have HHP := Aside0.mk t3
    have HPM := Aside0.mk t4
    clear t1 t2 t3 t4
    cases Zr with
    | nil =>
      have hd := HD.out
      have e1 : due (hold now) gk [] = ([], []) := by cases gk <;> rfl
      rw [e1, List.append_nil] at hd
      have HD2 := Aside0.mk hd
      clear hd HD
      go_wp2_with fail
      refine (Next.out H.out (by rw [HPM.out.length_eq]; rfl)).mono ?_
      rintro e w' ⟨rfl, rfl⟩
      go_wp2
      go_ret
      exact ⟨_, rfl, by rw [← HD2.out.1]; exact HNR.out, by rw [← HD2.out.2]; exact HTS.out, HT.out⟩
    | cons y l =>
      have hl : 0 < L.length := by rw [HPM.out.length_eq]; simp
      have hroot := root_lst HHP.out HPM.out HQ.out.1
      have hgd := HQ.out.2.1 _ (lst_mem l y)
      obtain ⟨x, hx⟩ : ∃ x, lst y l = x := ⟨_, rfl⟩
      rw [hx] at hroot hgd
      have HX := Aside0.mk hx
      have HRT := Aside0.mk hroot
      have HGD := Aside0.mk hgd
      obtain ⟨gr, hA, _⟩ := H.out.form hl
      subst hA
      obtain ⟨x0, _, _⟩ := H.out.at 0 hl
      rw [hroot] at x0
      have r0 := H.out.c0
      have HLL := Aside0.mk hl
      have q1 : (0 : Int) < (L.length : Int) := by omega
      cases gk with
      | zero => exact absurd HQ.out.2.2.1 (by omega)
      | succ f =>
        have hd := HD.out
        rw [due_cons, hx] at hd
        by_cases hle : x.f1 ≤ hold now
        · rw [if_pos hle] at hd
          have HD2 := Aside0.mk hd
          have hp : decide (hold x.f1 ≤ hold now) = true := by rw [hgd]; exact decide_eq_true hle
          have HP := Aside0.mk hp
          clear hd hle hp hx hroot hgd hl HD
          obtain ⟨A5, c5, rfl⟩ := Kd.R_slice HNR.out
          go_wp2_with fail
          refine (Next.in H.out HLL.out).mono ?_
          rintro e w' ⟨rfl, rfl⟩
          rw [HRT.out]
          go_wp2_with fail
          refine (Passed.calls now x.f1 _).mono ?_
          rintro e w6 ⟨rfl, hb⟩
          rw [HP.out]
          have n0_ := Aside0.mk (H.out.below hb)
          have n1_ := Aside0.mk (HT.out.trans (Turn.below hb))
          have n2_ := Aside0.mk (Kd.R_below HNR.out hb)
          have n3_ := Aside0.mk (HTS.out.below hb)
          clear H HT HNR hb r0 x0 HTS
          have H := n0_
          have HT := n1_
          have HNR := n2_
          have HTS := n3_
          clear n0_ n1_ n2_ n3_
          obtain ⟨x0, _, _⟩ := H.out.at 0 HLL.out
          rw [HRT.out] at x0
          have r0 := H.out.c0
          go_wp2_with (first | ((with_reducible refine gate_builtin (b := .append) (xs := #[.tmp 22, .tmp 30]) rfl ?_); at_builtin; refine Kd.R_append Kd.string (w0 := w6) w.heap.size rfl (.tmp 22) (.tmp 30) 78 9 (.string ⟨#[]⟩) 16 rfl Try.underlying78 info9s rfl (by decide) (by omega) (.slice A5 acc.length c5) acc x.f0 [.string x.f0] (fun _ => True) (fun _ => False) rfl rfl rfl (fun _ hk => hk.elim) (fun _ _ => trivial) HNR.out (Below.refl _ _) HT.out.size (by have := HQ.out.2.2.2; omega) ?_; intro v1 w9 hr9 hb9 hg9 hat9))
          have H9 := Aside0.mk (H.out.over HNR.out hg9)
          have HT9 := Aside0.mk (HT.out.over hg9 (fun b e => Kd.R_base HNR.out b e))
          have HNR9 := Aside0.mk hr9
          clear hr9 hb9 hg9 hat9 H HT HNR HTS r0 x0
          have hc := cut.calls H9.out HSY.out 0 HLL.out HHP.out (by rw [HPM.out.length_eq]; have := HQ.out.2.2; omega) (by rw [HPM.out.length_eq]; have := HQ.out.2.2; omega)
          rw [show ((0 : Nat) : Int) = 0 from rfl] at hc
          refine hc.mono ?_
          rintro e w10 ⟨rfl, L', pl', g1, g2, g3, g4, g5⟩
          have hmem : x ∈ y :: l := by rw [← HX.out]; exact lst_mem l y
          have hlen := out_length x (y :: l) hmem
          have hout : L'.Perm (out x.f0 (y :: l)) := g4.trans ((HSY.out.out_some HLL.out (by rw [HRT.out])).trans (out_perm HPM.out x.f0))
          have e2 : L'.length = L.length - 1 := by rw [g4.length_eq, List.length_eraseIdx, if_pos HLL.out]
          have HTS := Aside0.mk (show TS N0 w10 g S (out x.f0 (y :: l)) from ⟨_, _, _, L', pl', by rw [e2]; exact g1, g2, g3, hout⟩)
          have HNR := Aside0.mk (NR.turn HNR9.out g5)
          have HT := Aside0.mk (HT9.out.trans g5)
          have HLN := Aside0.mk hlen
          clear hmem hlen hout e2 g1 g2 g3 g4 g5 hc H9 HT9 HNR9
          go_wp2
          go_roundg f
          case measure => omega
          case rel => exact ⟨out x.f0 (y :: l), acc ++ [x.f0], HTS, ⟨HQ.out.1.out _, fun z hz => HQ.out.2.1 z (List.mem_filter.1 hz).1, by have h1 := HLN.out; have h2 := HQ.out.2.2.1; omega, by have h1 := HQ.out.2.2.2; simp; omega⟩, HNR, HT, ⟨by rw [List.append_assoc]; exact HD2.out.1, HD2.out.2⟩⟩
        · rw [if_neg hle] at hd
          have HD2 := Aside0.mk hd
          have hp : decide (hold x.f1 ≤ hold now) = false := by rw [hgd]; exact decide_eq_false hle
          have HP := Aside0.mk hp
          clear hd hle hp hx hroot hgd hl HD
          go_wp2_with fail
          refine (Next.in H.out HLL.out).mono ?_
          rintro e w' ⟨rfl, rfl⟩
          rw [HRT.out]
          go_wp2_with fail
          refine (Passed.calls now x.f1 _).mono ?_
          rintro e w6 ⟨rfl, hb⟩
          rw [HP.out]
          have HF := Aside0.mk (And.intro (Kd.R_below HNR.out hb) (And.intro (HTS.out.below hb) (HT.out.trans (Turn.below hb))))
          clear hb
          go_wp2
          go_ret
          exact ⟨_, rfl, by rw [← HD2.out.1, List.append_nil]; exact HF.out.1, by rw [← HD2.out.2]; exact HF.out.2.1, HF.out.2.2⟩
end
end Go.Proofs.Ytenaggpgblaalaa.Timer
