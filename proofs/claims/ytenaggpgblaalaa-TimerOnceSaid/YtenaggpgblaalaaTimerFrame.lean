/- What the timer's functions leave of the reference, and the other way about; a nil timer's Due; skip; equal names. No condition. -/
import Derived.Test.YtenaggpgblaalaaTimerPlain
namespace Go.Proofs.Ytenaggpgblaalaa.Timer
open Go.RowKit Go.Proofs.Ytenaggpgblaalaa.PTimerPlays Go.Proofs.YtenaggpgblaalaaW.PrintWords Go.Proofs.YtenaggpgblaalaaW.PrintLast Go.Proofs.YtenaggpgblaalaaW.PrintMore
open Plain (wrap_id hold)
set_option linter.unusedVariables false
set_option linter.unusedSimpArgs false

theorem XS.turn {N0 : Nat} {w w' : World} {g : Nat} {M : List S109} (h : XS N0 w g M) (ht : Turn N0 w w') : XS N0 w' g M := by
  obtain ⟨A, c, h⟩ := h
  refine ⟨A, c, h.hg, ht.keep _ _ h.blk (.inr rfl), ?_⟩
  refine Kd.R_move (Kd.R_bound h.row) ?_ |> (Kd.R_mono · (fun _ _ => trivial))
  intro k hk
  obtain ⟨q, hq, cells, hc⟩ := hk.2.2.2
  have hq2 : q = 109 := by
    have : ∀ q, q ∈ 109 :: k109.E → q = 109 := by decide
    exact this q hq
  subst hq2
  rw [ht.keep k _ hc (.inr rfl), hc]
theorem XS.blk {N0 : Nat} {w : World} {g : Nat} {M : List S109} (h : XS N0 w g M) : N0 ≤ g ∧ ∃ cs, w.heap[g]? = some (.cells cs 73 (0, 0)) := by
  obtain ⟨A, c, h⟩ := h
  exact ⟨h.hg, _, h.blk⟩
theorem TS.xturn {N0 gx : Nat} {w w' : World} {g : Nat} {S : Int} {Z : List S106} {cs : Array Value} (h : TS N0 w g S Z) (ht : XTurn N0 gx w w') (hx : w.heap[gx]? = some (.cells cs 73 (0, 0))) : TS N0 w' g S Z := by
  obtain ⟨A, c, gm, L, pl, h1, h2, h3, h4⟩ := h
  have hgx : g ≠ gx := blk_ne h1.blk hx (by decide)
  obtain ⟨D, ⟨es, clock, hb, r⟩, d2, d3⟩ := h1.map
  have hmx : gm ≠ gx := by
    rintro rfl
    rw [hx] at hb; cases hb
  refine ⟨A, c, gm, L, pl, ⟨h1.hg, h1.hgm, (ht.keep g (blk_lt h1.blk) hgx).trans h1.blk, ?_, ⟨D, ⟨es, clock, (ht.keep gm (blk_lt hb) hmx).trans hb, r⟩, d2, d3⟩⟩, h2, h3, h4⟩
  refine Kd.R_move (Kd.R_bound h1.row) ?_ |> (Kd.R_mono · (fun _ _ => trivial))
  intro k hk
  refine ht.keep k hk.2.2.1 ?_
  rintro rfl
  obtain ⟨q, hq, cells, hc⟩ := hk.2.2.2
  have hq2 : q = 106 := by
    have : ∀ q, q ∈ 106 :: k106.E → q = 106 := by decide
    exact this q hq
  subst hq2
  rw [hx] at hc
  simp at hc
theorem Turn.toB {N0 : Nat} {a b : World} (h : Turn N0 a b) (hn : N0 ≤ a.heap.size) : Below N0 a b := ⟨h.os, h.tape, h.output, h.size, fun k hk => by
  obtain ⟨o, ho⟩ : ∃ o, a.heap[k]? = some o := ⟨_, Array.getElem?_eq_getElem (by omega)⟩
  rw [ho, h.keep k o ho (.inl hk)]⟩
theorem XTurn.toB {N0 g : Nat} {a b : World} (h : XTurn N0 g a b) (hn : N0 ≤ a.heap.size) (hg : N0 ≤ g) : Below N0 a b := ⟨h.os, h.tape, h.output, h.size, fun k hk => h.keep k (by omega) (by omega)⟩
theorem below_go {N0 : Nat} {w a b : World} (h : Below N0 w a) (k : Below N0 a b) : Below N0 w b := h.trans k
theorem Due.nilp (now : Int) (w : World) : Calls Try.prog 70 #[.pointer none, .int .i64 now] w fun e w' => e = .returned (.slice none 0 0) ∧ w' = w := by
  go_enter Try.func70, Try.ntmps70
  go_wp2
  go_loopg [5] 1 (fun f v5 wr => v5 = .slice none 0 0 ∧ wr = w)
  case atStart => exact ⟨rfl, rfl⟩
  case round =>
    obtain ⟨rfl, rfl⟩ := hrel
    go_wp2_with fail
    refine (Next.nil0 _).mono ?_
    rintro e w' ⟨rfl, rfl⟩
    go_wp2
    go_ret
    exact ⟨rfl, rfl⟩
/-- Is more done than is looked at? -/
def skp (l : List S75) : Bool := decide (150 < l.length) || l.any (fun d => decide (60 < d.f1.size))
theorem skip_l (d : Nat) : ∀ (l : List S75) (i k : Nat), l.length = i + d → d + 1 ≤ k → l.length ≤ 150 → compradorlaw34_skip.l0 k l (i : Int) = some ((l.drop i).any (fun d => decide (60 < d.f1.size))) := by
  induction d with
  | zero =>
    intro l i k h1 h3 h4
    obtain ⟨k', rfl⟩ : ∃ k', k = k' + 1 := ⟨k - 1, by omega⟩
    simp only [compradorlaw34_skip.l0]
    rw [if_neg (by omega), List.drop_eq_nil_of_le (by omega)]
    rfl
  | succ d ih =>
    intro l i k h1 h3 h4
    obtain ⟨k', rfl⟩ : ∃ k', k = k' + 1 := ⟨k - 1, by omega⟩
    have hi : i < l.length := by omega
    have e2 : rd_T75 l (i : Int) = l[i] := by unfold rd_T75; rw [Int.toNat_natCast]; simp [List.getD, hi]
    have e3 : wrap64 ((i : Int) + 1) = ((i + 1 : Nat) : Int) := by rw [wrap_id (by omega) (by omega)]; rfl
    simp only [compradorlaw34_skip.l0]
    rw [if_pos (by omega), if_pos (by omega), e2, e3, List.drop_eq_getElem_cons hi, List.any_cons]
    by_cases h : (l[i].f1.size : Int) > 60
    · rw [if_pos h, decide_eq_true (by omega)]; rfl
    · rw [if_neg h, decide_eq_false (by omega), Bool.false_or]
      exact ih l (i + 1) k' (by omega) (by omega) h4
theorem skip_f (l : List S75) : compradorlaw34_skip.f 200 l = some (skp l) := by
  unfold compradorlaw34_skip.f skp
  by_cases h : (l.length : Int) > 150
  · rw [if_pos h, decide_eq_true (by omega)]; rfl
  · rw [if_neg h, decide_eq_false (by omega), Bool.false_or]
    exact skip_l l.length l 0 200 (by omega) (by omega) (by omega)
theorem skip.calls (A : Option Addr) (c : Nat) (l : List S75) (w : World) (h : Kd.C k75 w A l.length l) (hc : l.length ≤ c) : Calls Try.prog 62 #[.slice A l.length c] w fun e w' => e = .returned (.bool (skp l)) ∧ Drawn0 w w' :=
  compradorlaw34_skip.calls 200 A c l (skp l) w h hc (skip_f l)
theorem names_l (d : Nat) : ∀ (l : List ByteArray) (i k : Nat), l.length = i + d → d + 1 ≤ k → l.length ≤ 100000 → compradorref09_Names2.l0 k l l (i : Int) = some true := by
  induction d with
  | zero =>
    intro l i k h1 h3 h4
    obtain ⟨k', rfl⟩ : ∃ k', k = k' + 1 := ⟨k - 1, by omega⟩
    simp only [compradorref09_Names2.l0]
    rw [if_neg (by omega)]
  | succ d ih =>
    intro l i k h1 h3 h4
    obtain ⟨k', rfl⟩ : ∃ k', k = k' + 1 := ⟨k - 1, by omega⟩
    have e3 : wrap64 ((i : Int) + 1) = ((i + 1 : Nat) : Int) := by rw [wrap_id (by omega) (by omega)]; rfl
    simp only [compradorref09_Names2.l0]
    rw [if_pos (by omega), if_pos (by omega), if_pos (by omega), e3]
    simp only [if_true]
    exact ih l (i + 1) k' (by omega) (by omega) h4
theorem names_f (l : List ByteArray) (h : l.length ≤ 100000) : compradorref09_Names2.f 200000 l l = some true := by
  unfold compradorref09_Names2.f
  rw [if_pos rfl]
  exact names_l l.length l 0 200000 (by omega) (by omega) h
theorem Names2.calls (A B : Option Addr) (c d : Nat) (l : List ByteArray) (w : World) (h : l.length ≤ 100000) (ha : Kd.C Kd.string w A l.length l) (hc : l.length ≤ c) (hb : Kd.C Kd.string w B l.length l) (hd : l.length ≤ d) : Calls Try.prog 69 #[.slice A l.length c, .slice B l.length d] w fun e w' => e = .returned (.bool true) ∧ Drawn0 w w' :=
  compradorref09_Names2.calls 200000 A c l B d l true w ha hc hb hd (names_f l h)
end Go.Proofs.Ytenaggpgblaalaa.Timer
