/- The law's own 'awake' returns true. No condition. -/
import Derived.Test.YtenaggpgblaalaaOpen
import Derived.Lib.SlBytesConst
namespace Go.Proofs.Ytenaggpgblaalaa.Stamp
open Go.RowKit Go.Proofs.Ytenaggpgblaalaa.StampA Base Go.Proofs.YtenaggpgblaalaaW.PrintWords Go.Proofs.YtenaggpgblaalaaW.PrintLast Go.Proofs.YtenaggpgblaalaaW.PrintMore
set_option linter.unusedVariables false
set_option linter.unusedSimpArgs false
open PlainStamp

theorem C_a (W : World) : Kd.C (Kd.int .u8) (W.alloc (.cells #[.int .u8 97] 5 (1, 2))) (some ⟨W.heap.size, 0, none⟩) 1 [97] :=
  Kd.C_of_reads (d := (0 : Int)) (h1 := fun _ => rfl) ⟨rfl, by omega, fun _ => ⟨_, rfl, fun j hj => by
    obtain rfl : j = 0 := by omega
    rw [add_plain, World.cell?_alloc_mark]; rfl⟩⟩
theorem of_nil : ofN [] = 2166136261 := rfl
theorem of_a : ofN [97] = 3826002220 := by decide +kernel
theorem bytes_nil : Bytes [] := fun x hx => by simp at hx
theorem C_nil (w : World) : Kd.C (Kd.int .u8) w none 0 [] := Kd.C_of_reads (d := (0 : Int)) (h1 := fun _ => rfl) ⟨rfl, by omega, fun h => by omega⟩
set_option maxHeartbeats 4000000 in
set_option maxRecDepth 100000 in
theorem awake.calls (w : World) : Calls Try.prog 27 #[] w fun e w' => e = .returned (.bool true) ∧ Below w.heap.size w w' := by
  have HB := Aside0.mk (Below.refl w.heap.size w)
  go_enter Try.func27, Try.ntmps27
  go_wp2_with fail
  refine (Seal.calls' none 0 0 [] w rfl bytes_nil (by omega) (C_nil w) (by omega)).mono ?_
  rintro e w1 ⟨v0, rfl, ho, hb⟩
  have HB1 := Aside0.mk hb
  obtain ⟨A, c, rfl, hc, hr⟩ := Kd.R_reads ho
  rw [List.nil_append, show (tail4 ((ofN [] : Nat) : Int)).length = 4 from rfl] at hr hc
  rw [List.nil_append, show (tail4 ((ofN [] : Nat) : Int)).length = 4 from rfl]
  have HR := Aside0.mk hr
  have HC := Aside0.mk hc
  clear ho hb hr hc HB
  have hop : openF (tail4 (ofN [])) = ([], true) := by have := openF_seal []; rwa [List.nil_append] at this
  have HOP := Aside0.mk hop
  have HBT := Aside0.mk (tail4_bytes ((ofN [] : Nat) : Int) (by omega) (by have := ofN_lt []; omega))
  clear hop
  go_wp2_with fail
  refine (Open.calls' A c 4 _ _ rfl HBT.out (by omega) HR.out HC.out).mono ?_
  rintro e w2 ⟨v2, rfl, ho2, hb2⟩
  have HB := Aside0.mk (below_step HB1.out hb2)
  rw [HOP.out] at ho2 ⊢
  obtain ⟨A2, c2, rfl, hc2, hr2⟩ := Kd.R_reads ho2
  clear ho2 hb2 hc2 hr2 HR HC HBT HB1 HOP
  have kc := fun (W : World) (C : Array Value) (n c : Nat) => Lib.run_convert_bytes_const (P := Try.prog) W 31 5 C n c Try.underlying31 Try.underlying5
  go_wp2_with fail
  refine (Of.calls' _ 1 1 [97] _ rfl (fun x hx => by simp at hx; omega) (by omega) (C_a w2) (by omega)).mono ?_
  rintro e w' ⟨rfl, ⟨nd, rfl⟩⟩
  rw [of_a]
  go_wp2
  go_ret
  exact ⟨rfl, (by repeat (first | (with_reducible first | exact HB.out | apply below_alloc | apply pw_below_drewN | apply below_drew1) | exact HB.out))⟩
end Go.Proofs.Ytenaggpgblaalaa.Stamp
