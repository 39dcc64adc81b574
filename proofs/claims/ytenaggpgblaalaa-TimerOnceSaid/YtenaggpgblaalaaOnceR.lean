/- Rows of names beside another one that grows. No condition. -/
import Derived.Test.YtenaggpgblaalaaOnceE
import Derived.Test.YtenaggpgblaalaaOnceC
namespace Go.Proofs.Ytenaggpgblaalaa.Timer
open Go.RowKit Go.Proofs.Ytenaggpgblaalaa.PTimerPlays Go.Proofs.YtenaggpgblaalaaW.PrintWords Go.Proofs.YtenaggpgblaalaaW.PrintLast Go.Proofs.YtenaggpgblaalaaW.PrintMore
set_option linter.unusedVariables false
set_option linter.unusedSimpArgs false

/-- A row of names that is none of v's. -/
def RA (w : World) (v u : Value) (xs : List ByteArray) : Prop := ∃ base, Kd.R Kd.string 9 w base (fun k => some k ≠ v.ownBlock) u xs
theorem RA.turn {N0 : Nat} {w w' : World} {v u : Value} {xs : List ByteArray} (h : RA w v u xs) (ht : Turn N0 w w') : RA w' v u xs := by
  obtain ⟨b, h⟩ := h
  refine ⟨b, Kd.R_mono (Kd.R_move (Kd.R_bound h) ?_) (fun _ hk => hk.1)⟩
  intro k hk
  obtain ⟨q, hq, cells, hc⟩ := hk.2.2.2
  rw [ht.keep k _ hc (.inr (by
    have e : q = 9 := by simpa [Kd.string, Kd.scalar] using hq
    subst e
    rfl)), hc]
theorem RA.below {w w' : World} {v u : Value} {xs : List ByteArray} (h : RA w v u xs) (hb : Below w.heap.size w w') : RA w' v u xs := by
  obtain ⟨b, h⟩ := h
  exact ⟨b, Kd.R_below h hb⟩
theorem RA.grown {w w1 : World} {v v1 u : Value} {xs : List ByteArray} (h : RA w v u xs) (hg : w.grownBy w1 v.ownBlock) (hat : v1.ownBlock = v.ownBlock ∨ ∃ b, v1.ownBlock = some b ∧ w.heap.size ≤ b) : RA w1 v1 u xs := by
  obtain ⟨b, h⟩ := h
  refine ⟨b, Kd.R_mono (Kd.R_grown (Kd.R_bound h) hg (fun k hk => hk.1)) ?_⟩
  intro k hk
  rcases hat with hat | ⟨b2, hb2, hle⟩
  · rw [hat]; exact hk.1
  · rw [hb2]
    intro e
    injection e with e
    have := hk.2.2.1
    omega
theorem RA.nil {w : World} {base : Nat} {u : Value} {xs : List ByteArray} (h : NR w base u xs) : RA w (.slice none 0 0) u xs :=
  ⟨base, Kd.R_mono h (fun k _ e => by simp [Value.ownBlock] at e)⟩
theorem RA.new {N0 : Nat} {w w' : World} {v u : Value} {xs C : List ByteArray} (h : NR w' w.heap.size u xs) (hC : NR w N0 v C) : RA w' v u xs :=
  ⟨_, Kd.R_mono (Kd.R_new' h (Kd.R_lt hC)) (fun _ hk => hk.2)⟩
theorem RA.reads {w : World} {v : Value} {A : Option Addr} {c n : Nat} {xs : List ByteArray} (h : RA w v (.slice A n c) xs) : n = xs.length ∧ n ≤ c ∧ Kd.C Kd.string w A xs.length xs := by
  obtain ⟨b, h⟩ := h
  exact Kd.R_reads' h
theorem RA.slice {w : World} {v u : Value} {xs : List ByteArray} (h : RA w v u xs) : ∃ A c, u = .slice A xs.length c := by
  obtain ⟨b, h⟩ := h
  exact Kd.R_slice h
end Go.Proofs.Ytenaggpgblaalaa.Timer
