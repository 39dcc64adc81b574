/- StampGoes: the walk. Condition: none. -/
import Derived.Test.YtenaggpgblaalaaStampAwake
namespace Go.Proofs.Ytenaggpgblaalaa.Stamp
open Go.RowKit Go.Proofs.Ytenaggpgblaalaa.StampA Base Go.Proofs.YtenaggpgblaalaaW.PrintWords Go.Proofs.YtenaggpgblaalaaW.PrintLast Go.Proofs.YtenaggpgblaalaaW.PrintMore
set_option linter.unusedVariables false
set_option linter.unusedSimpArgs false
open PlainStamp

theorem Goes.long1 (A0 A1 : Option Addr) (c0 c1 n0 n1 : Nat) (w : World) (h : 5000 < n0) :
    Calls Try.prog 6 #[.slice A0 n0 c0, .slice A1 n1 c1] w fun e w' => e = .returned (.bool true) ∧ Below w.heap.size w w' := by
  go_enter Try.func6, Try.ntmps6
  go_wp2_with fail
  refine (awake.calls w).mono ?_
  rintro e w' ⟨rfl, hb⟩
  go_wp2
  go_ret
  exact ⟨rfl, hb⟩
theorem Goes.long2 (A0 A1 : Option Addr) (c0 c1 n0 n1 : Nat) (w : World) (h0 : n0 ≤ 5000) (h : 5000 < n1) :
    Calls Try.prog 6 #[.slice A0 n0 c0, .slice A1 n1 c1] w fun e w' => e = .returned (.bool true) ∧ Below w.heap.size w w' := by
  go_enter Try.func6, Try.ntmps6
  go_wp2_with fail
  refine (awake.calls w).mono ?_
  rintro e w' ⟨rfl, hb⟩
  go_wp2
  go_ret
  exact ⟨rfl, hb⟩
set_option maxHeartbeats 4000000 in
set_option maxRecDepth 100000 in
theorem Goes.short (A0 A1 : Option Addr) (c0 c1 n0 n1 : Nat) (l0 l1 : List Int) (w : World) (h0 : n0 ≤ 5000) (h1 : n1 ≤ 5000) (hl0 : l0.length = n0) (hl1 : l1.length = n1) (hb0 : Bytes l0) (hb1 : Bytes l1)
    (hr0 : Kd.C (Kd.int .u8) w A0 n0 l0) (hr1 : Kd.C (Kd.int .u8) w A1 n1 l1) (hc0 : n0 ≤ c0) (hc1 : n1 ≤ c1) :
    Calls Try.prog 6 #[.slice A0 n0 c0, .slice A1 n1 c1] w fun e w' => e = .returned (.bool true) ∧ Below w.heap.size w w' := by
  have HR0 := Aside0.mk hr0
  have HR1 := Aside0.mk hr1
  have HL0 := Aside0.mk hl0
  have HL1 := Aside0.mk hl1
  have HY0 := Aside0.mk hb0
  have HY1 := Aside0.mk hb1
  clear hr0 hr1 hl0 hl1 hb0 hb1
  have HB := Aside0.mk (Below.refl w.heap.size w)
  go_enter Try.func6, Try.ntmps6
  go_wp2_with (first | ((with_reducible refine gate_dst (N := 14) rfl ?_); refine Kd.R_lit (Kd.int .u8) (w0 := w) w.heap.size 5 ?hg (N := 14) ?hd (xs := ([] : List Int)) (inner := []) (ok := fun _ => True) (okp := fun _ => True) ?hr ?hp (fun _ hk => hk) trivial (by repeat (first | (with_reducible first | exact HB.out | apply below_alloc | apply pw_below_drewN | apply below_drew1) | exact HB.out)) (below_size (by repeat (first | (with_reducible first | exact HB.out | apply below_alloc | apply pw_below_drewN | apply below_drew1) | exact HB.out))) (by simp) ?_; (case hd => rfl); (case hg => rfl); (case hr => first | (go_simp; done) | (go_simp; rfl)); (case hp => exact (Reps.none _ _)); intro v1 w1 ho hb hg_ hnew_; have n0_ := Aside0.mk ho; have n1_ := Aside0.mk hb; clear HB; have HO1 := n0_; have HB := n1_; clear n0_ n1_ ho hb hg_ hnew_) | ((with_reducible refine gate_builtin (b := .append) (xs := #[.tmp 14, .tmp 15]) rfl ?_); at_builtin; refine Kd.R_append_rows (Kd.int .u8) (w0 := w) w.heap.size rfl (.tmp 14) (.tmp 15) 31 5 (.int .u8 0) 1 rfl Try.underlying31 info5 rfl (by decide) (by omega) _ [] l0 _ _ _ (fun _ => True) (fun _ => False) rfl rfl ?aO ?aR (fun _ _ h => h) (fun _ h => h.elim) ?aF ?aB ?aS ?aL ?_; (case aR => exact Kd.C_below HR0.out HB.out); (case aB => exact HB.out); (case aF => exact (fun _ _ => trivial)); (case aO => exact HO1.out); (case aS => exact below_size HB.out); (case aL => simp; omega); intro v2 w2 ho hb hg hat; have n0_ := Aside0.mk hb; have n1_ := Aside0.mk ho; clear HB HO1; have HB := n0_; have HO2 := n1_; clear n0_ n1_ ho hb hg hat) | ((with_reducible refine gate_builtin (b := .append) (xs := #[.tmp 16, .tmp 17]) rfl ?_); at_builtin; refine Kd.R_append_rows (Kd.int .u8) (w0 := w) w.heap.size rfl (.tmp 16) (.tmp 17) 31 5 (.int .u8 0) 1 rfl Try.underlying31 info5 rfl (by decide) (by omega) _ ([] ++ l0) l1 _ _ _ (fun _ => True) (fun _ => False) rfl rfl ?aO ?aR (fun _ _ h => h) (fun _ h => h.elim) ?aF ?aB ?aS ?aL ?_; (case aR => exact Kd.C_below HR1.out HB.out); (case aB => exact HB.out); (case aF => exact (fun _ _ => trivial)); (case aO => exact HO2.out); (case aS => exact below_size HB.out); (case aL => have := HL0.out; simp; omega); intro v3 w3 ho hb hg hat; have n0_ := Aside0.mk hb; have n1_ := Aside0.mk ho; clear HB HO2; have HB := n0_; have HO3 := n1_; clear n0_ n1_ ho hb hg hat))
  simp only [List.nil_append] at HO3
  obtain ⟨A3, c3, rfl, hc3, hr3⟩ := Kd.R_reads HO3.out
  have hl3 : (l0 ++ l1).length = n0 + n1 := by rw [List.length_append, HL0.out, HL1.out]
  rw [hl3] at hr3 hc3 ⊢
  have HR3 := Aside0.mk hr3
  have HC3 := Aside0.mk hc3
  have HL3 := Aside0.mk hl3
  clear hr3 hl3
  clear hc3
  have he : onN (ofN l0) l1 = ofN (l0 ++ l1) := (onN_append l0 l1 2166136261).symm
  have hlt0 := ofN_lt l0
  have HE := Aside0.mk he
  have HLT := Aside0.mk hlt0
  clear he hlt0
  go_wp2_with fail
  refine (Of.calls' A3 c3 (n0 + n1) (l0 ++ l1) _ HL3.out (bytes_append HY0.out HY1.out) (by omega) HR3.out HC3.out).mono ?_
  rintro e w' ⟨rfl, ⟨nd1, rfl⟩⟩
  obtain ⟨X, hX⟩ : ∃ X : Int, ((ofN (l0 ++ l1) : Nat) : Int) = X := ⟨_, rfl⟩
  rw [hX]
  have HX := Aside0.mk hX
  clear hX
  go_wp2_with fail
  refine (Of.calls' A0 c0 n0 l0 _ HL0.out HY0.out (by omega) (Kd.C_below HR0.out (pw_below_drewN HB.out _)) (by omega)).mono ?_
  rintro e w' ⟨rfl, ⟨nd2, rfl⟩⟩
  obtain ⟨Y, hY⟩ : ∃ Y : Int, ((ofN l0 : Nat) : Int) = Y := ⟨_, rfl⟩
  rw [hY]
  have hY0 : 0 ≤ Y ∧ Y ≤ 4294967295 := by have := HLT.out; omega
  have HYY := Aside0.mk hY
  clear hY
  go_wp2_with fail
  refine (On.calls' A1 c1 n1 Y l1 _ hY0.1 hY0.2 HL1.out HY1.out (by omega) (Kd.C_below HR1.out (pw_below_drewN HB.out _)) (by omega)).mono ?_
  rintro e w' ⟨rfl, ⟨nd3, rfl⟩⟩
  rw [show ((onN Y.toNat l1 : Nat) : Int) = X from by
    have e1 : Y.toNat = ofN l0 := by have := HYY.out; omega
    rw [e1, HE.out, HX.out]]
  go_wp2_with fail
  refine (Of.calls' none 0 0 [] _ rfl bytes_nil (by omega) (C_nil _) (by omega)).mono ?_
  rintro e w' ⟨rfl, ⟨nd4, rfl⟩⟩
  rw [of_nil]
  go_wp2_with fail
  refine (awake.calls _).mono ?_
  rintro e w' ⟨rfl, hb⟩
  have HB2 := Aside0.mk (below_step (pw_below_drewN HB.out _) hb)
  clear hb
  go_wp2
  go_ret
  exact ⟨rfl, HB2.out⟩
end Go.Proofs.Ytenaggpgblaalaa.Stamp
