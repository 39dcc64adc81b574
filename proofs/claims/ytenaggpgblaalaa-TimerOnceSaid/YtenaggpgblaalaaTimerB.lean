/- The timer's Len, Next, Get: their contracts. No condition but that its blocks are there. -/
import Derived.Test.YtenaggpgblaalaaTimerA
namespace Go.Proofs.Ytenaggpgblaalaa.Timer
open Go.RowKit Go.Proofs.Ytenaggpgblaalaa.PTimerPlays Go.Proofs.YtenaggpgblaalaaW.PrintWords Go.Proofs.YtenaggpgblaalaaW.PrintLast Go.Proofs.YtenaggpgblaalaaW.PrintMore
set_option linter.unusedVariables false
set_option linter.unusedSimpArgs false

section
variable {N0 : Nat} {w : World} {g : Nat} {A : Option Addr} {c gm : Nat} {L : List S106} {S : Int} {pl : ByteArray → Option Int} {s : Nat}
theorem Len.calls (h : TM N0 w g A c gm L S pl s) : Calls Try.prog 76 #[.pointer (some ⟨g, 0, none⟩)] w fun e w' => e = .returned (.int .i64 (L.length : Int)) ∧ w' = w := by
  have h0 := h.c0
  clear h
  go_enter Try.func76, Try.ntmps76
  go_wp2
  go_ret
  exact ⟨rfl, rfl⟩
theorem Len.nil0 (w : World) : Calls Try.prog 76 #[.pointer none] w fun e w' => e = .returned (.int .i64 0) ∧ w' = w := by
  go_enter Try.func76, Try.ntmps76
  go_wp2
  go_ret
  exact ⟨rfl, rfl⟩
theorem Next.out (h : TM N0 w g A c gm L S pl s) (hl : L.length = 0) : Calls Try.prog 72 #[.pointer (some ⟨g, 0, none⟩)] w fun e w' => e = .returned (.tuple #[.int .i64 0, .bool false]) ∧ w' = w := by
  have H := Aside0.mk h
  have HL := Aside0.mk hl
  clear h hl
  go_enter Try.func72, Try.ntmps72
  go_wp2_with fail
  refine (Len.calls H.out).mono ?_
  rintro e w' ⟨rfl, rfl⟩
  rw [HL.out]
  go_wp2
  go_ret2
  exact ⟨rfl, rfl⟩
theorem Next.in (h : TM N0 w g A c gm L S pl s) (hl : 0 < L.length) : Calls Try.prog 72 #[.pointer (some ⟨g, 0, none⟩)] w fun e w' => e = .returned (.tuple #[.int .i64 (itm L 0).f1, .bool true]) ∧ w' = w := by
  obtain ⟨gr, rfl, h1, h2, _⟩ := h.form hl
  have h0 := h.c0
  obtain ⟨x0, x1, x2⟩ := h.at 0 hl
  have H := Aside0.mk h
  clear h
  obtain ⟨N, hN⟩ : ∃ N, L.length = N := ⟨_, rfl⟩
  rw [hN] at h0 hl
  have HN := Aside0.mk hN
  have q1 : ((N : Int) == 0) = false := beq_eq_false_iff_ne.2 (by omega)
  have q2 : (0 : Int) < (N : Int) := by omega
  clear hN
  go_enter Try.func72, Try.ntmps72
  go_wp2_with fail
  refine (Len.calls H.out).mono ?_
  rintro e w' ⟨rfl, rfl⟩
  rw [HN.out]
  go_wp2
  go_ret2
  exact ⟨rfl, rfl⟩
theorem Next.nil0 (w : World) : Calls Try.prog 72 #[.pointer none] w fun e w' => e = .returned (.tuple #[.int .i64 0, .bool false]) ∧ w' = w := by
  go_enter Try.func72, Try.ntmps72
  go_wp2_with fail
  refine (Len.nil0 w).mono ?_
  rintro e w' ⟨rfl, rfl⟩
  go_wp2
  go_ret2
  exact ⟨rfl, rfl⟩
theorem Get.nil0 (x : ByteArray) (w : World) : Calls Try.prog 74 #[.pointer none, .string x] w fun e w' => e = .returned (.tuple #[.int .i64 0, .bool false]) ∧ w' = w := by
  go_enter Try.func74, Try.ntmps74
  go_wp2
  go_ret2
  exact ⟨rfl, rfl⟩
set_option maxRecDepth 100000 in
/-- What the map answers. -/
theorem MP.look {w : World} {m s : Nat} {pl : ByteArray → Option Int} (h : MP w m s pl) {x : ByteArray} (hx : x.size ≤ 1000) :
    (Instr.lookup 101 (.map (some m)) (.string x) true).run Try.prog w = .ok (.tuple #[.int .i64 ((pl x).getD 0), .bool (pl x).isSome]) w := by
  obtain ⟨D, h1, h2, h3⟩ := h
  obtain ⟨v, ps, hrun, hR⟩ := h1.look_ok law9 Try.underlying101 (zero3 w) (plainElem_int Try.underlying3 (by decide)) (hkey hx)
  obtain ⟨a, rfl, e, _⟩ := plainElem_int_inv Try.underlying3 hR
  have e2 := congrArg Prod.fst e
  rw [(h3 x).2] at e2
  injection e2 with e2
  injection e2 with _ e2
  rw [hrun, (h3 x).1, e2]
theorem Get.out (h : TM N0 w g A c gm L S pl s) (x : ByteArray) (hx : x.size ≤ 1000) (hp : pl x = none) : Calls Try.prog 74 #[.pointer (some ⟨g, 0, none⟩), .string x] w fun e w' => e = .returned (.tuple #[.int .i64 0, .bool false]) ∧ w' = w := by
  have h0 := h.c0
  have h1 := h.c1
  have hm := h.map.look hx
  rw [hp] at hm
  clear h
  go_enter Try.func74, Try.ntmps74
  go_wp2
  go_ret2
  exact ⟨rfl, rfl⟩
theorem Get.in (h : TM N0 w g A c gm L S pl s) (x : ByteArray) (hx : x.size ≤ 1000) (k : Nat) (hk : k < L.length) (hp : pl x = some (k : Int)) : Calls Try.prog 74 #[.pointer (some ⟨g, 0, none⟩), .string x] w fun e w' => e = .returned (.tuple #[.int .i64 (itm L k).f1, .bool true]) ∧ w' = w := by
  obtain ⟨gr, rfl, g1, g2, _⟩ := h.form (by omega)
  have h0 := h.c0
  have h1 := h.c1
  have hm := h.map.look hx
  rw [hp] at hm
  obtain ⟨x0, x1, x2⟩ := h.at k hk
  have q1 : (0 : Int) ≤ (k : Int) := by omega
  have q2 : (k : Int) < (L.length : Int) := by omega
  clear h hp
  go_enter Try.func74, Try.ntmps74
  go_wp2
  go_ret2
  exact ⟨rfl, rfl⟩
end
end Go.Proofs.Ytenaggpgblaalaa.Timer
