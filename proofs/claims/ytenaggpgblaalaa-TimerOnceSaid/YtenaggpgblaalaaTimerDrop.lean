/- A timer's whole state, in the order of its serials; its Drop: its contract. Condition: names of at most 1000 bytes, at most 1000 of them. -/
import Derived.Test.YtenaggpgblaalaaTimerCut
namespace Go.Proofs.Ytenaggpgblaalaa.Timer
open Go.RowKit Go.Proofs.Ytenaggpgblaalaa.PTimerPlays Go.Proofs.YtenaggpgblaalaaW.PrintWords Go.Proofs.YtenaggpgblaalaaW.PrintLast Go.Proofs.YtenaggpgblaalaaW.PrintMore
open Plain (wrap_id)
set_option linter.unusedVariables false
set_option linter.unusedSimpArgs false

/-- All but the one of a name. -/
def out (x : ByteArray) (Z : List S106) : List S106 := Z.filter (fun y => decide (y.f0 ≠ x))
def has (x : ByteArray) (Z : List S106) : Bool := Z.any (fun y => decide (y.f0 = x))
theorem out_perm {L Z : List S106} (h : L.Perm Z) (x : ByteArray) : (out x L).Perm (out x Z) := h.filter _
theorem has_perm {L Z : List S106} (h : L.Perm Z) (x : ByteArray) : has x L = has x Z := by
  unfold has
  rw [Bool.eq_iff_iff, List.any_eq_true, List.any_eq_true]
  exact ⟨fun ⟨y, hy, e⟩ => ⟨y, h.mem_iff.1 hy, e⟩, fun ⟨y, hy, e⟩ => ⟨y, h.mem_iff.2 hy, e⟩⟩
theorem Sync.out_some {L : List S106} {pl : ByteArray → Option Int} (h : Sync L pl) {x : ByteArray} {k : Nat} (hk : k < L.length) (e : (itm L k).f0 = x) : (L.eraseIdx k).Perm (out x L) := by
  have h1 := (erase_perm L k hk).filter (fun y => decide (y.f0 ≠ x))
  rw [itm_eq L k hk] at e
  rw [List.filter_cons_of_neg (by simp [e])] at h1
  refine List.Perm.trans (List.Perm.of_eq ?_) h1
  symm
  rw [List.filter_eq_self]
  intro y hy
  rw [List.mem_eraseIdx_iff_getElem] at hy
  obtain ⟨i, hi, hik, rfl⟩ := hy
  simp only [ne_eq, decide_not, Bool.not_eq_eq_eq_not, Bool.not_true, decide_eq_false_iff_not]
  intro e2
  refine hik (h.inj hi hk ?_)
  rw [itm_eq L i hi, itm_eq L k hk, e2, e]
theorem Sync.has_some {L : List S106} {pl : ByteArray → Option Int} (h : Sync L pl) {x : ByteArray} {k : Nat} (hk : k < L.length) (e : (itm L k).f0 = x) : has x L = true := by
  unfold has
  rw [List.any_eq_true]
  refine ⟨L[k], List.getElem_mem hk, ?_⟩
  rw [← itm_eq L k hk]
  exact decide_eq_true e
theorem Sync.has_none {L : List S106} {pl : ByteArray → Option Int} (h : Sync L pl) {x : ByteArray} (e : pl x = none) : has x L = false ∧ out x L = L := by
  have key : ∀ y ∈ L, y.f0 ≠ x := by
    intro y hy e2
    obtain ⟨i, hi, rfl⟩ := List.getElem_of_mem hy
    have := h.at_ i hi
    rw [itm_eq L i hi, e2, e] at this
    cases this
  refine ⟨?_, ?_⟩
  · unfold has
    rw [List.any_eq_false]
    intro y hy
    simp [key y hy]
  · unfold out
    rw [List.filter_eq_self]
    intro y hy
    simp [key y hy]
/-- A timer that holds the items Z, in whatever heap. -/
def TS (N0 : Nat) (w : World) (g : Nat) (S : Int) (Z : List S106) : Prop := ∃ A c gm L pl, TM N0 w g A c gm L S pl L.length ∧ Sync L pl ∧ Heap L ∧ L.Perm Z
theorem TS.below {N0 : Nat} {w w' : World} {g : Nat} {S : Int} {Z : List S106} (h : TS N0 w g S Z) (hb : Below w.heap.size w w') : TS N0 w' g S Z := by
  obtain ⟨A, c, gm, L, pl, h1, h2, h3, h4⟩ := h
  exact ⟨A, c, gm, L, pl, h1.below hb, h2, h3, h4⟩
section
variable {N0 : Nat} {w : World} {g : Nat} {A : Option Addr} {c gm : Nat} {L : List S106} {S : Int} {pl : ByteArray → Option Int} {s : Nat}
theorem Drop.nilp (x : ByteArray) (w : World) : Calls Try.prog 67 #[.pointer none, .string x] w fun e w' => e = .returned (.bool false) ∧ w' = w := by
  go_enter Try.func67, Try.ntmps67
  go_wp2
  go_ret
  exact ⟨rfl, rfl⟩
theorem Drop.none0 (h : TM N0 w g A c gm L S pl s) (x : ByteArray) (hx : x.size ≤ 1000) (hp : pl x = none) : Calls Try.prog 67 #[.pointer (some ⟨g, 0, none⟩), .string x] w fun e w' => e = .returned (.bool false) ∧ w' = w := by
  have h0 := h.c0
  have h1 := h.c1
  have hm := h.map.look hx
  rw [hp] at hm
  clear h
  go_enter Try.func67, Try.ntmps67
  go_wp2
  go_ret
  exact ⟨rfl, rfl⟩
theorem Drop.some0 (h : TM N0 w g A c gm L S pl s) (hs : Sync L pl) (hh : Heap L) (hL : L.length ≤ 100000) (hsc : s ≤ 100000) (x : ByteArray) (hx : x.size ≤ 1000) (k : Nat) (hk : k < L.length) (hp : pl x = some (k : Int)) : Calls Try.prog 67 #[.pointer (some ⟨g, 0, none⟩), .string x] w fun e w' => e = .returned (.bool true) ∧ ∃ L' pl', TM N0 w' g A c gm L' S pl' (s - 1) ∧ Sync L' pl' ∧ Heap L' ∧ L'.Perm (L.eraseIdx k) ∧ Turn N0 w w' := by
  obtain ⟨gr, rfl, _⟩ := h.form (by omega)
  have h0 := h.c0
  have h1 := h.c1
  have hm := h.map.look hx
  rw [hp] at hm
  have H := Aside0.mk h
  have HS := Aside0.mk hs
  have HH := Aside0.mk hh
  have HK := Aside0.mk hk
  have HL := Aside0.mk hL
  have HSC := Aside0.mk hsc
  clear h hs hh hk hL hsc hp
  go_enter Try.func67, Try.ntmps67
  go_wp2_with fail
  refine (cut.calls H.out HS.out k HK.out HH.out HL.out HSC.out).mono ?_
  rintro e w1 ⟨rfl, h2⟩
  have H2 := Aside0.mk h2
  clear h2
  go_wp2
  go_ret
  exact ⟨rfl, H2.out⟩
theorem Drop.calls {Z : List S106} (h : TS N0 w g S Z) (hZ : Z.length ≤ 1000) (x : ByteArray) (hx : x.size ≤ 1000) : Calls Try.prog 67 #[.pointer (some ⟨g, 0, none⟩), .string x] w fun e w' => e = .returned (.bool (has x Z)) ∧ TS N0 w' g S (out x Z) ∧ Turn N0 w w' := by
  obtain ⟨A, c, gm, L, pl, h1, h2, h3, h4⟩ := h
  have hl : L.length ≤ 1000 := by rw [h4.length_eq]; exact hZ
  cases hp : pl x with
  | none =>
    obtain ⟨e1, e2⟩ := h2.has_none hp
    refine (Drop.none0 h1 x hx hp).mono ?_
    rintro e w' ⟨rfl, rfl⟩
    refine ⟨by rw [← has_perm h4, e1], ⟨A, c, gm, L, pl, h1, h2, h3, ?_⟩, Turn.refl _ _⟩
    have h5 := out_perm h4 x
    rw [e2] at h5
    exact h5
  | some i =>
    obtain ⟨k, rfl, hk, e⟩ := h2.back x i hp
    refine (Drop.some0 h1 h2 h3 (by omega) (by omega) x hx k hk hp).mono ?_
    rintro e' w' ⟨rfl, L', pl', g1, g2, g3, g4, g5⟩
    refine ⟨by rw [← has_perm h4, h2.has_some hk e], ⟨A, c, gm, L', pl', ?_, g2, g3, g4.trans ((h2.out_some hk e).trans (out_perm h4 x))⟩, g5⟩
    have e2 : L'.length = L.length - 1 := by rw [g4.length_eq, List.length_eraseIdx, if_pos hk]
    rw [e2]
    exact g1
end
end Go.Proofs.Ytenaggpgblaalaa.Timer
