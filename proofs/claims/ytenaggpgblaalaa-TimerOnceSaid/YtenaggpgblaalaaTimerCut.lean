/- The timer's cut: its contract. Condition: a timer whose items and places agree, a heap. -/
import Derived.Test.YtenaggpgblaalaaTimerDown
import Derived.Test.YtenaggpgblaalaaPlainCut
namespace Go.Proofs.Ytenaggpgblaalaa.Timer
open Go.RowKit Go.Proofs.Ytenaggpgblaalaa.PTimerPlays Go.Proofs.YtenaggpgblaalaaW.PrintWords Go.Proofs.YtenaggpgblaalaaW.PrintLast Go.Proofs.YtenaggpgblaalaaW.PrintMore
open Plain (wrap_id)
set_option linter.unusedVariables false
set_option linter.unusedSimpArgs false

theorem grown_set (w : World) (g j : Nat) (v : Value) : w.grownBy (w.setCell ⟨g, j, none⟩ v) (some g) := by
  exact ⟨(Below.refl 0 w |>.setCell (Nat.zero_le _) v).os, (Below.refl 0 w |>.setCell (p := ⟨g, j, none⟩) (Nat.zero_le _) v).tape, (Below.refl 0 w |>.setCell (p := ⟨g, j, none⟩) (Nat.zero_le _) v).output, (Below.refl 0 w |>.setCell (p := ⟨g, j, none⟩) (Nat.zero_le _) v).size, fun i _ hi => Below.heap_setCell w ⟨g, j, none⟩ v i (fun e => hi (congrArg some e))⟩

section
variable {N0 : Nat} {w : World} {g : Nat} {A : Option Addr} {c gm : Nat} {L : List S106} {S : Int} {pl : ByteArray → Option Int} {s : Nat}
/-- The row is made shorter. -/
theorem TM.shorter (h : TM N0 w g A c gm L S pl s) (m : Nat) (hm : m ≤ L.length) : TM N0 (w.setCell ⟨g, 0, none⟩ (.slice A m c)) g A c gm (L.take m) S pl s ∧ Turn N0 w (w.setCell ⟨g, 0, none⟩ (.slice A m c)) := by
  have hg := grown_set w g 0 (.slice A m c)
  refine ⟨⟨h.hg, h.hgm, ?_, ?_, h.map.grown hg (fun e => h.mne (by injection e with e; exact e.symm))⟩, Turn.grown h.blk rfl h.hg hg⟩
  · rw [take_length L m hm]
    exact blk_put h.blk 0 _ rfl
  · rw [take_length L m hm]
    exact Kd.R_take (Kd.R_set h.row h.blk (by decide) 0 _) hm
/-- A name is taken out of the map. -/
theorem TM.mdel {w' : World} {m : Nat} {x : ByteArray} {D : DataW Unit} (h : TM N0 w g A c gm L S pl s) (h1 : w.ownsMap Try.prog 9 (plainElem Try.prog 3) gm s D) (h2 : Maps.size D = s) (h3 : ∀ x : ByteArray, Maps.has D (ky x) = (pl x).isSome ∧ D.atKey (ky x) (.lit (.int .i64 0)) = .lit (.int .i64 ((pl x).getD 0))) (hx : (pl x).isSome = true)
    (ho : w'.ownsMap Try.prog 9 (plainElem Try.prog 3) gm m (D.del (ky x))) (ht : w.mapTurned w' gm) : TM N0 w' g A c gm L S (era pl x) (s - 1) ∧ Turn N0 w w' := by
  obtain ⟨es, clock, hb⟩ := h.map.blk
  refine ⟨⟨h.hg, h.hgm, blk_grown h.blk ht.grown (fun e => h.mne (by injection e)), ?_, MP.del h1 h2 h3 hx ho⟩, Turn.grown hb rfl h.hgm ht.grown⟩
  refine Kd.R_move (Kd.R_bound h.row) ?_ |> (Kd.R_mono · (fun _ _ => trivial))
  intro k hk
  refine ht.grown.block k hk.2.2.1 ?_
  intro e
  injection e with e
  obtain ⟨q, _, cells, hc⟩ := hk.2.2.2
  rw [e, hb] at hc; cases hc
set_option maxHeartbeats 4000000 in
set_option maxRecDepth 100000 in
theorem cut.calls {gr : Nat} (h : TM N0 w g (some ⟨gr, 0, none⟩) c gm L S pl s) (hs : Sync L pl) (k : Nat) (hk : k < L.length) (hh : Heap L) (hL : L.length ≤ 100000) (hsc : s ≤ 100000) :
    Calls Try.prog 88 #[.pointer (some ⟨g, 0, none⟩), .int .i64 (k : Int)] w fun e w' => e = .returned (.tuple #[]) ∧ ∃ L' pl', TM N0 w' g (some ⟨gr, 0, none⟩) c gm L' S pl' (s - 1) ∧ Sync L' pl' ∧ Heap L' ∧ L'.Perm (L.eraseIdx k) ∧ Turn N0 w w' := by
  obtain ⟨m, hm⟩ : ∃ m, L.length = m + 1 := ⟨L.length - 1, by omega⟩
  have H := Aside0.mk h
  have HS := Aside0.mk hs
  have HH := Aside0.mk hh
  have HK := Aside0.mk hk
  have HM := Aside0.mk hm
  have HSC := Aside0.mk hsc
  have HLC := Aside0.mk hL
  have r0 := h.c0
  have a1 : wrap64 ((L.length : Int) - 1) = (m : Int) := by rw [wrap_id (by omega) (by omega)]; omega
  have a2 : (L.length : Int) - 1 = (m : Int) := by omega
  have a3 : IntKind.i64.wrap (m : Int) = (m : Int) := by rw [IntKind.wrap_i64]; omega
  clear h hs hh hm
  go_enter Try.func88, Try.ntmps88
  go_wp2_with fail
  refine (swap.calls H.out k m HK.out (by have := HM.out; omega) (by rw [HS.out.at_ k HK.out]; rfl) (by rw [HS.out.at_ m (by have := HM.out; omega)]; rfl) (HS.out.small k HK.out) (HS.out.small m (by have := HM.out; omega)) HLC.out HSC.out).mono ?_
  rintro e w1 ⟨rfl, h1, hT1⟩
  have hS1 := HS.out.swap HK.out (show m < L.length by have := HM.out; omega)
  have hl1 := swap_length L k m
  have hP := cut_perm L k m HM.out HK.out
  have HPm := Aside0.mk hP
  obtain ⟨L1, hL1⟩ : ∃ L1, swapL L k m = L1 := ⟨_, rfl⟩
  obtain ⟨p1, hp1⟩ : ∃ p1, swapP L pl k m = p1 := ⟨_, rfl⟩
  have HL1 := Aside0.mk hL1
  rw [hL1, hp1] at h1 hS1
  rw [hL1] at hl1
  rw [HM.out] at hl1
  have h1d : TM N0 w1.drew g (some ⟨gr, 0, none⟩) c gm L1 S p1 s := h1.below (below_drew (Below.refl _ _))
  have hT1d : Turn N0 w w1.drew := hT1.trans (Turn.below (below_drew (Below.refl _ _)))
  obtain ⟨x0, x1, x2⟩ := h1.at m (by omega)
  have s0 := h1.c0
  have s1 := h1.c1
  rw [hl1] at s0
  have hx := hS1.small m (by omega)
  obtain ⟨D, d1, d2, d3⟩ := h1d.map
  obtain ⟨w2, hrun, hown, hturn⟩ := d1.drop law9 Try.underlying101 (hkey hx) 0
  have hfin := h1d.mdel d1 d2 d3 (by rw [hS1.at_ m (by omega)]; rfl) hown hturn
  have HS1 := Aside0.mk (hS1.cut m hl1)
  have H2 := Aside0.mk hfin.1
  have HT2 := Aside0.mk (hT1d.trans hfin.2)
  have HL := Aside0.mk hl1
  have q1 : (0 : Int) ≤ (m : Int) := by omega
  have q2 : (m : Int) < ((m + 1 : Nat) : Int) := by omega
  clear hfin hown hturn d1 d2 d3 h1d hT1d h1 hT1 hS1 hx hL1 hp1 r0 hP hl1
  go_wp2
  go_region
  have hl := HL.out
  have hsh := H2.out.shorter m (by omega)
  have y0 := H2.out.c0
  rw [hl] at y0
  have f0 := H2.out.f 0
  have hmc := H2.out.len
  rw [hl] at hmc
  have H3 := Aside0.mk hsh.1
  have HT3 := Aside0.mk (HT2.out.trans hsh.2)
  have q5 : (m : Int) ≤ (c : Int) := by omega
  have q6 : m ≤ c := by omega
  have hlen : (L1.take m).length = m := take_length L1 m (by omega)
  have HLEN := Aside0.mk hlen
  have hm1 := HM.out
  clear hsh H2 HT2 x0 x1 x2 s0 s1 hlen
  by_cases hkm : k < m
  · have c1 : decide ((k : Int) < (m : Int)) = true := decide_eq_true (by omega)
    have HAT := Aside0.mk (show HeapAt (L1.take m) k k by rw [← HL1.out]; exact cut_at HH.out k m HM.out hkm)
    go_wp2_with fail
    refine (down.calls H3.out HS1.out k (by rw [HLEN.out]; exact hkm) HAT.out (by rw [HLEN.out]; have := HLC.out; omega) (by have := HSC.out; omega)).mono ?_
    rintro e w4 ⟨rfl, L4, p4, h4, hs4, hu4, hp4, ht4⟩
    have H4 := Aside0.mk h4
    have HS4 := Aside0.mk hs4
    have HU4 := Aside0.mk hu4
    have HP4 := Aside0.mk hp4
    have HT4 := Aside0.mk (HT3.out.trans ht4)
    have HL4 := Aside0.mk (show L4.length = m by rw [hp4.length_eq]; exact HLEN.out)
    clear h4 hs4 hu4 hp4 ht4
    go_wp2_with fail
    refine (up.calls H4.out HS4.out k (by rw [HL4.out]; exact hkm) HU4.out (by rw [HL4.out]; have := HLC.out; omega) (by have := HSC.out; omega)).mono ?_
    rintro e w5 ⟨rfl, L5, p5, h5, hs5, hh5, hp5, ht5⟩
    have HF := Aside0.mk (show ∃ L' pl', TM N0 w5 g (some ⟨gr, 0, none⟩) c gm L' S pl' (s - 1) ∧ Sync L' pl' ∧ Heap L' ∧ L'.Perm (L.eraseIdx k) ∧ Turn N0 w w5 from ⟨L5, p5, h5, hs5, hh5, hp5.trans (HP4.out.trans (by rw [← HL1.out]; exact HPm.out)), HT4.out.trans ht5⟩)
    clear h5 hs5 hh5 hp5 ht5
    go_wp2
    go_end0
    exact ⟨rfl, HF.out⟩
  · have c1 : decide ((k : Int) < (m : Int)) = false := decide_eq_false (by omega)
    have hkm2 : k = m := by have := HK.out; omega
    have HF := Aside0.mk (show ∃ L' pl', TM N0 (w2.setCell ⟨g, 0, none⟩ (.slice (some ⟨gr, 0, none⟩) m c)) g (some ⟨gr, 0, none⟩) c gm L' S pl' (s - 1) ∧ Sync L' pl' ∧ Heap L' ∧ L'.Perm (L.eraseIdx k) ∧ Turn N0 w (w2.setCell ⟨g, 0, none⟩ (.slice (some ⟨gr, 0, none⟩) m c)) from
      ⟨L1.take m, _, H3.out, HS1.out, by rw [← HL1.out, hkm2]; exact cut_last HH.out m HM.out, by rw [← HL1.out]; exact HPm.out, HT3.out⟩)
    clear hkm2
    go_wp2
    go_end0
    exact ⟨rfl, HF.out⟩
end
end Go.Proofs.Ytenaggpgblaalaa.Timer
