/- The contract of stamp.Seal: it returns a new slice, the bytes with their stamp behind them. Condition: at most 100000 bytes. -/
import Derived.Test.YtenaggpgblaalaaStampB
namespace Go.Proofs.Ytenaggpgblaalaa.Stamp
open Go.RowKit Go.Proofs.Ytenaggpgblaalaa.StampA Base Go.Proofs.YtenaggpgblaalaaW.PrintWords Go.Proofs.YtenaggpgblaalaaW.PrintLast Go.Proofs.YtenaggpgblaalaaW.PrintMore
set_option linter.unusedVariables false
set_option linter.unusedSimpArgs false

open PlainStamp

set_option maxHeartbeats 4000000 in
set_option maxRecDepth 100000 in
theorem Seal.go (A0 : Option Addr) (c0 : Nat) (l0 : List Int) (s : Int) (w : World) (hr0 : Kd.C (Kd.int .u8) w A0 l0.length l0) (hc0 : l0.length ≤ c0) (hl : l0.length ≤ 100000)
    (hb : Bytes l0) (h : ((ofN l0 : Nat) : Int) = s) (b0 : 0 ≤ s) (b1 : s ≤ 4294967295) :
    Calls Try.prog 32 #[.slice A0 l0.length c0] w fun e w' => ∃ v0_ : Value, e = .returned v0_ ∧ Kd.R (Kd.int .u8) 5 w' w.heap.size (fun _ => True) v0_ (l0 ++ tail4 s) ∧ Below w.heap.size w w' := by
  have HR0 := Aside0.mk hr0
  have HC0 := Aside0.mk hc0
  have HS := Aside0.mk h
  have HBY := Aside0.mk hb
  have HL := Aside0.mk hl
  clear hr0 hc0 h hb
  have HB := Aside0.mk (Below.refl w.heap.size w)
  obtain ⟨i5, hi5, hz5, hs5, hb5⟩ := info_parts info5
  have HI5 := Aside0.mk hi5
  have HZ5 := Aside0.mk hz5
  have HS5 := Aside0.mk hs5
  have HB5 := Aside0.mk hb5
  clear hi5 hz5 hs5 hb5
  go_enter Try.func32, Try.ntmps32
  go_wp2_with fail
  refine (Of.calls' _ _ _ l0 _ rfl HBY.out (by have := HL.out; omega) HR0.out HC0.out).mono ?_
  rintro e w' ⟨rfl, ⟨nd, rfl⟩⟩
  rw [HS.out]
  go_wp2_with (first | ((with_reducible refine gate_dst (N := 10) rfl ?_); refine wpList_make_own _ rfl _ _ 31 rfl w.heap.size 5 i5 (.int .u8 0) 1 Try.underlying31 HI5.out HZ5.out HS5.out .i64 .i64 _ (l0.length + 4) rfl rfl (by simp) ?m1 ?m2 ?m3 ?_; (case m1 => rw [HB5.out]; omega); (case m2 => unfold maxLen; omega); (case m3 => exact below_size (by repeat (first | (with_reducible first | exact HB.out | apply below_alloc | apply pw_below_drewN | apply below_drew1) | exact HB.out))); intro w1 hown hgrow; have n0_ := Aside0.mk (Kd.R_of_own (enc := Value.int .u8) (h1 := fun _ => rfl) (xs := []) (ok := fun _ => True) hown (fun _ _ => trivial)); have n1_ := Aside0.mk ((show Below w.heap.size w _ from (by repeat (first | (with_reducible first | exact HB.out | apply below_alloc | apply pw_below_drewN | apply below_drew1) | exact HB.out))).grown hgrow (below_size (by repeat (first | (with_reducible first | exact HB.out | apply below_alloc | apply pw_below_drewN | apply below_drew1) | exact HB.out))) (by simp)); clear HB; have HO1 := n0_; have HB := n1_; clear n0_ n1_ hown hgrow) | ((with_reducible refine gate_builtin (b := .append) (xs := #[.tmp 11, .tmp 12]) rfl ?_); at_builtin; refine Kd.R_append_rows (Kd.int .u8) (w0 := w) w.heap.size rfl (.tmp 11) (.tmp 12) 31 5 (.int .u8 0) 1 rfl Try.underlying31 info5 rfl (by decide) (by omega) _ [] l0 _ _ _ (fun _ => True) (fun _ => False) rfl rfl ?aO ?aR (fun _ _ h => h) (fun _ h => h.elim) ?aF ?aB ?aS ?aL ?_; (case aR => exact Kd.C_below HR0.out HB.out); (case aB => exact HB.out); (case aF => exact (fun _ _ => trivial)); (case aO => exact HO1.out); (case aS => exact below_size HB.out); (case aL => simp; omega); intro v2 w2 ho hb hg hat; have n0_ := Aside0.mk hb; have n1_ := Aside0.mk ho; clear HB HO1; have HB := n0_; have HO2 := n1_; clear n0_ n1_ ho hb hg hat) | ((with_reducible refine gate_dst (N := 26) rfl ?_); refine Kd.R_lit (Kd.int .u8) (w0 := w) w.heap.size 5 ?hg (N := 26) ?hd (xs := tail4 s) (inner := [.int .u8 (s / 16777216), .int .u8 (s / 65536 % 256), .int .u8 (s / 256 % 256), .int .u8 (s % 256)]) (ok := fun _ => True) (okp := fun _ => True) ?hr ?hp (fun _ hk => hk) trivial HB.out (below_size HB.out) (by simp [tail4]) ?_; (case hd => rfl); (case hg => rfl); (case hr => first | (go_simp; done) | (go_simp; rfl)); (case hp => exact (Reps.one (show Kd.M (Kd.int .u8) _ _ _ (s / 16777216) [.int .u8 (s / 16777216)] from rfl) (Reps.one (show Kd.M (Kd.int .u8) _ _ _ (s / 65536 % 256) [.int .u8 (s / 65536 % 256)] from rfl) (Reps.one (show Kd.M (Kd.int .u8) _ _ _ (s / 256 % 256) [.int .u8 (s / 256 % 256)] from rfl) (Reps.one (show Kd.M (Kd.int .u8) _ _ _ (s % 256) [.int .u8 (s % 256)] from rfl) (Reps.none _ _)))))); intro v3 w3 ho hb hg_ hnew_; have n0_ := Aside0.mk (Kd.R_grown HO2.out hg_ (fun _ _ => by simp)); have n1_ := Aside0.mk hb; have n2_ := Aside0.mk (Kd.R_reads ho); clear HB HO2; have HO2 := n0_; have HB := n1_; have HO3 := n2_; clear n0_ n1_ n2_ ho hb hg_ hnew_; obtain ⟨A3, c3, rfl, hc3, hr3⟩ := HO3.out; have HR3 := Aside0.mk hr3; clear HO3 hc3 hr3) | ((with_reducible refine gate_builtin (b := .append) (xs := #[.tmp 14, .tmp 26]) rfl ?_); at_builtin; refine Kd.R_append_rows (Kd.int .u8) (w0 := w) w.heap.size rfl (.tmp 14) (.tmp 26) 31 5 (.int .u8 0) 1 rfl Try.underlying31 info5 rfl (by decide) (by omega) _ l0 (tail4 s) _ _ _ (fun _ => True) (fun _ => False) rfl rfl ?aO ?aR (fun _ _ h => h) (fun _ h => h.elim) ?aF ?aB ?aS ?aL ?_; (case aR => exact HR3.out); (case aB => exact HB.out); (case aF => exact (fun _ _ => trivial)); (case aO => exact HO2.out); (case aS => exact below_size HB.out); (case aL => simp [tail4]; omega); intro v4 w4 ho hb hg hat; have n0_ := Aside0.mk hb; have n1_ := Aside0.mk ho; clear HB HO2; have HB := n0_; have HO4 := n1_; clear n0_ n1_ ho hb hg hat))
  go_ret
  exact ⟨_, rfl, HO4.out, HB.out⟩
theorem Seal.calls' (A : Option Addr) (c n : Nat) (l : List Int) (w : World) (hn : l.length = n) (hb : Bytes l) (hm : n ≤ 100000) (hr : Kd.C (Kd.int .u8) w A n l) (hc : n ≤ c) :
    Calls Try.prog 32 #[.slice A n c] w fun e w' => ∃ v0_ : Value, e = .returned v0_ ∧ Kd.R (Kd.int .u8) 5 w' w.heap.size (fun _ => True) v0_ (l ++ tail4 (ofN l)) ∧ Below w.heap.size w w' := by
  subst hn
  have := ofN_lt l
  exact Seal.go A c l _ w hr hc hm hb rfl (by omega) (by omega)
end Go.Proofs.Ytenaggpgblaalaa.Stamp
