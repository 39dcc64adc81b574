/- The timer's swap: its contract. No condition but that its blocks are there. -/
import Derived.Test.YtenaggpgblaalaaTimerC
namespace Go.Proofs.Ytenaggpgblaalaa.Timer
open Go.RowKit Go.Proofs.Ytenaggpgblaalaa.PTimerPlays Go.Proofs.YtenaggpgblaalaaW.PrintWords Go.Proofs.YtenaggpgblaalaaW.PrintLast Go.Proofs.YtenaggpgblaalaaW.PrintMore
set_option linter.unusedVariables false
set_option linter.unusedSimpArgs false

section
variable {N0 : Nat} {w : World} {g : Nat} {A : Option Addr} {c gm : Nat} {L : List S106} {S : Int} {pl : ByteArray → Option Int} {s : Nat}
def swapL (L : List S106) (j k : Nat) : List S106 := (L.set j (itm L k)).set k (itm L j)
def swapP (L : List S106) (pl : ByteArray → Option Int) (j k : Nat) : ByteArray → Option Int := upd (upd pl (itm L k).f0 (j : Int)) (itm L j).f0 (k : Int)
set_option maxHeartbeats 2000000 in
theorem swap.calls {gr : Nat} (h : TM N0 w g (some ⟨gr, 0, none⟩) c gm L S pl s) (j k : Nat) (hj : j < L.length) (hk : k < L.length) (pj : (pl (itm L j).f0).isSome = true) (pk : (pl (itm L k).f0).isSome = true) (xj : (itm L j).f0.size ≤ 1000) (xk : (itm L k).f0.size ≤ 1000) (hL : L.length ≤ 100000) (hs : s ≤ 100000) :
    Calls Try.prog 93 #[.pointer (some ⟨g, 0, none⟩), .int .i64 (j : Int), .int .i64 (k : Int)] w fun e w' => e = .returned (.tuple #[]) ∧ TM N0 w' g (some ⟨gr, 0, none⟩) c gm (swapL L j k) S (swapP L pl j k) s ∧ Turn N0 w w' := by
  have q1 : (0 : Int) ≤ (j : Int) := by omega
  have q2 : (j : Int) < (L.length : Int) := by omega
  have q3 : (0 : Int) ≤ (k : Int) := by omega
  have q4 : (k : Int) < (L.length : Int) := by omega
  have H := Aside0.mk h
  have h0 := h.c0
  obtain ⟨x0, x1, x2⟩ := h.at j hj
  obtain ⟨y0, y1, y2⟩ := h.at k hk
  have lg : g < w.heap.size := blk_lt h.blk
  have lgr : gr < w.heap.size := by
    obtain ⟨gr', e, _, hlt, _⟩ := h.form (by omega)
    injection e with e; injection e with e; subst e
    exact hlt
  have HJ := Aside0.mk hj
  have HKL := Aside0.mk (show k < (L.set j (itm L k)).length by rw [List.length_set]; exact hk)
  have HPK := Aside0.mk pk
  have HXK := Aside0.mk xk
  have HPJ := Aside0.mk (show (upd pl (itm L k).f0 (j : Int) (itm L j).f0).isSome = true by unfold upd; split <;> first | rfl | exact pj)
  have HXJ := Aside0.mk xj
  have HJ2 := Aside0.mk (show j ≤ 100000 by omega)
  have HK2 := Aside0.mk (show k ≤ 100000 by omega)
  have HS := Aside0.mk hs
  clear h pj pk xj xk hL hs
  go_enter Try.func93, Try.ntmps93
  go_wp2
  go_region
  · have hX := blk_drew (blk_alloc (blk_new w (.cells #[.string (itm L j).f0, .int .i64 (itm L j).f1, .int .i64 (itm L j).f2] 106)) (.cells #[.string (itm L k).f0, .int .i64 (itm L k).f1, .int .i64 (itm L k).f2] 106))
    have hY := blk_drew (blk_new (w.alloc (.cells #[.string (itm L j).f0, .int .i64 (itm L j).f1, .int .i64 (itm L j).f2] 106)) (.cells #[.string (itm L k).f0, .int .i64 (itm L k).f1, .int .i64 (itm L k).f2] 106))
    rw [show (w.alloc (.cells #[.string (itm L j).f0, .int .i64 (itm L j).f1, .int .i64 (itm L j).f2] 106)).heap.size = w.heap.size + 1 from by simp only [World.alloc, Array.size_push]] at hY
    have hBl := below_drew (below_alloc (below_alloc (Below.refl w.heap.size w) (.cells #[.string (itm L j).f0, .int .i64 (itm L j).f1, .int .i64 (itm L j).f2] 106)) (.cells #[.string (itm L k).f0, .int .i64 (itm L k).f1, .int .i64 (itm L k).f2] 106))
    have nX : w.heap.size ≠ gr := by omega
    have nY : w.heap.size + 1 ≠ gr := by omega
    obtain ⟨es, clock, hmm⟩ := H.out.map.blk
    have lgm : gm < w.heap.size := blk_lt hmm
    have mX : w.heap.size ≠ gm := by omega
    have mY : w.heap.size + 1 ≠ gm := by omega
    generalize ((w.alloc (.cells #[.string (itm L j).f0, .int .i64 (itm L j).f1, .int .i64 (itm L j).f2] 106)).alloc (.cells #[.string (itm L k).f0, .int .i64 (itm L k).f1, .int .i64 (itm L k).f2] 106)).drew = w1 at hX hY hBl ⊢
    generalize w.heap.size + 1 = by_ at hY nY mY ⊢
    generalize hbx : w.heap.size = bx_ at hX nX mX ⊢
    have H1 := Aside0.mk (H.out.below hBl)
    have HT := Aside0.mk (Turn.below (N0 := N0) hBl)
    have HA := Aside0.mk hX
    have HN := Aside0.mk (And.intro nX mX)
    have y0 := (blk_cell hY 0).trans rfl
    have y1 := (blk_cell hY 1).trans rfl
    have y2 := (blk_cell hY 2).trans rfl
    clear hX hY hBl nX nY mX mY hbx lgm hmm es clock H
    go_wp2_with fail
    refine (put.calls H1.out j HJ.out (itm L k) HPK.out HXK.out HJ2.out HS.out).mono ?_
    rintro e w3 ⟨rfl, h3, hT3, hK3⟩
    have hA3 := hK3 _ _ HA.out HN.out.1 HN.out.2
    have x0 := (blk_cell hA3 0).trans rfl
    have x1 := (blk_cell hA3 1).trans rfl
    have x2 := (blk_cell hA3 2).trans rfl
    have HT3 := Aside0.mk (HT.out.trans hT3)
    have H3 := Aside0.mk h3
    clear h3 hT3 hK3 hA3 y0 y1 y2 HA H1 HT
    go_wp2_with fail
    refine (put.calls H3.out k HKL.out (itm L j) HPJ.out HXJ.out HK2.out HS.out).mono ?_
    rintro e w4 ⟨rfl, h4, hT4, hK4⟩
    have HF := Aside0.mk (And.intro h4 (HT3.out.trans hT4))
    clear h4 hT4 hK4 H3 HT3
    go_wp2
    go_end0
    exact ⟨rfl, HF.out⟩
  · have hX := blk_drew (blk_alloc (blk_new w (.cells #[.string (itm L k).f0, .int .i64 (itm L k).f1, .int .i64 (itm L k).f2] 106)) (.cells #[.string (itm L j).f0, .int .i64 (itm L j).f1, .int .i64 (itm L j).f2] 106))
    have hY := blk_drew (blk_new (w.alloc (.cells #[.string (itm L k).f0, .int .i64 (itm L k).f1, .int .i64 (itm L k).f2] 106)) (.cells #[.string (itm L j).f0, .int .i64 (itm L j).f1, .int .i64 (itm L j).f2] 106))
    rw [show (w.alloc (.cells #[.string (itm L k).f0, .int .i64 (itm L k).f1, .int .i64 (itm L k).f2] 106)).heap.size = w.heap.size + 1 from by simp only [World.alloc, Array.size_push]] at hY
    have hBl := below_drew (below_alloc (below_alloc (Below.refl w.heap.size w) (.cells #[.string (itm L k).f0, .int .i64 (itm L k).f1, .int .i64 (itm L k).f2] 106)) (.cells #[.string (itm L j).f0, .int .i64 (itm L j).f1, .int .i64 (itm L j).f2] 106))
    have nX : w.heap.size ≠ gr := by omega
    have nY : w.heap.size + 1 ≠ gr := by omega
    obtain ⟨es, clock, hmm⟩ := H.out.map.blk
    have lgm : gm < w.heap.size := blk_lt hmm
    have mX : w.heap.size ≠ gm := by omega
    have mY : w.heap.size + 1 ≠ gm := by omega
    generalize ((w.alloc (.cells #[.string (itm L k).f0, .int .i64 (itm L k).f1, .int .i64 (itm L k).f2] 106)).alloc (.cells #[.string (itm L j).f0, .int .i64 (itm L j).f1, .int .i64 (itm L j).f2] 106)).drew = w1 at hX hY hBl ⊢
    generalize w.heap.size + 1 = by_ at hY nY mY ⊢
    generalize hbx : w.heap.size = bx_ at hX nX mX ⊢
    have H1 := Aside0.mk (H.out.below hBl)
    have HT := Aside0.mk (Turn.below (N0 := N0) hBl)
    have HA := Aside0.mk hY
    have HN := Aside0.mk (And.intro nY mY)
    have y0 := (blk_cell hX 0).trans rfl
    have y1 := (blk_cell hX 1).trans rfl
    have y2 := (blk_cell hX 2).trans rfl
    clear hX hY hBl nX nY mX mY hbx lgm hmm es clock H
    go_wp2_with fail
    refine (put.calls H1.out j HJ.out (itm L k) HPK.out HXK.out HJ2.out HS.out).mono ?_
    rintro e w3 ⟨rfl, h3, hT3, hK3⟩
    have hA3 := hK3 _ _ HA.out HN.out.1 HN.out.2
    have x0 := (blk_cell hA3 0).trans rfl
    have x1 := (blk_cell hA3 1).trans rfl
    have x2 := (blk_cell hA3 2).trans rfl
    have HT3 := Aside0.mk (HT.out.trans hT3)
    have H3 := Aside0.mk h3
    clear h3 hT3 hK3 hA3 y0 y1 y2 HA H1 HT
    go_wp2_with fail
    refine (put.calls H3.out k HKL.out (itm L j) HPJ.out HXJ.out HK2.out HS.out).mono ?_
    rintro e w4 ⟨rfl, h4, hT4, hK4⟩
    have HF := Aside0.mk (And.intro h4 (HT3.out.trans hT4))
    clear h4 hT4 hK4 H3 HT3
    go_wp2
    go_end0
    exact ⟨rfl, HF.out⟩
end
end Go.Proofs.Ytenaggpgblaalaa.Timer
