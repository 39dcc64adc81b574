/- The timer's put and swap: their contracts. No condition but that its blocks are there. -/
import Derived.Test.YtenaggpgblaalaaTimerB
namespace Go.Proofs.Ytenaggpgblaalaa.Timer
open Go.RowKit Go.Proofs.Ytenaggpgblaalaa.PTimerPlays Go.Proofs.YtenaggpgblaalaaW.PrintWords Go.Proofs.YtenaggpgblaalaaW.PrintLast Go.Proofs.YtenaggpgblaalaaW.PrintMore
set_option linter.unusedVariables false
set_option linter.unusedSimpArgs false

section
variable {N0 : Nat} {w : World} {g : Nat} {A : Option Addr} {c gm : Nat} {L : List S106} {S : Int} {pl : ByteArray → Option Int} {s : Nat}
theorem TM.fr {gr : Nat} (h : TM N0 w g (some ⟨gr, 0, none⟩) c gm L S pl s) (hp : 0 < L.length) (i : Nat) : w.frozen? ⟨gr, i, none⟩ = false := by
  obtain ⟨gr', e, _, _, cells, hc⟩ := h.form hp
  injection e with e; injection e with e; subst e
  exact blk_frozen hc i
theorem MP.blk {m : Nat} (h : MP w m s pl) : ∃ es clock, w.heap[m]? = some (.map es clock) := by
  obtain ⟨D, ⟨es, clock, hb, _⟩, _⟩ := h
  exact ⟨es, clock, hb⟩
theorem TM.gne {gr : Nat} (h : TM N0 w g (some ⟨gr, 0, none⟩) c gm L S pl s) (hp : 0 < L.length) : g ≠ gr ∧ gm ≠ gr := by
  obtain ⟨gr', e, _, _, cells, hc⟩ := h.form hp
  injection e with e; injection e with e; subst e
  refine ⟨blk_ne h.blk hc (by decide), ?_⟩
  rintro rfl
  obtain ⟨es, clock, hb⟩ := h.map.blk
  rw [hc] at hb; cases hb
theorem TM.mne (h : TM N0 w g A c gm L S pl s) : g ≠ gm := by
  rintro rfl
  obtain ⟨es, clock, hb⟩ := h.map.blk
  rw [h.blk] at hb; cases hb
/-- An item is written. -/
theorem TM.set {gr : Nat} (h : TM N0 w g (some ⟨gr, 0, none⟩) c gm L S pl s) (k : Nat) (hk : k < L.length) (x : S106) :
    TM N0 (((w.setCell ⟨gr, k * 3, none⟩ (.string x.f0)).setCell ⟨gr, k * 3 + 1, none⟩ (.int .i64 x.f1)).setCell ⟨gr, k * 3 + 2, none⟩ (.int .i64 x.f2)) g (some ⟨gr, 0, none⟩) c gm (L.set k x) S pl s ∧
    w.grownBy (((w.setCell ⟨gr, k * 3, none⟩ (.string x.f0)).setCell ⟨gr, k * 3 + 1, none⟩ (.int .i64 x.f1)).setCell ⟨gr, k * 3 + 2, none⟩ (.int .i64 x.f2)) (some gr) := by
  obtain ⟨x0, x1, x2⟩ := h.at k hk
  obtain ⟨n1, n2⟩ := h.gne (by omega)
  have hs := Kd.R_seg (d := k106) h.row (k : Int) (by omega) (by omega) (c := [.string (itm L k).f0, .int .i64 (itm L k).f1, .int .i64 (itm L k).f2]) (seg := [.string x.f0, .int .i64 x.f1, .int .i64 x.f2]) (j := 0) rfl
    (by
      intro j u hj
      rw [Int.toNat_natCast]
      match j, hj with
      | 0, hj => simp at hj; subst hj; exact x0
      | 1, hj => simp at hj; subst hj; exact x1
      | 2, hj => simp at hj; subst hj; exact x2
      | j + 3, hj => simp at hj)
    (by show 0 + 3 ≤ 3; omega) (x' := x) (okp := fun _ => False) (by exact k106_mkM w N0 _ x) (fun _ hk => hk.elim)
  rw [Int.toNat_natCast] at hs
  obtain ⟨hrow, hg⟩ := hs
  have e : w.setCells gr (k * k106.sz + 0) [.string x.f0, .int .i64 x.f1, .int .i64 x.f2] = (((w.setCell ⟨gr, k * 3, none⟩ (.string x.f0)).setCell ⟨gr, k * 3 + 1, none⟩ (.int .i64 x.f1)).setCell ⟨gr, k * 3 + 2, none⟩ (.int .i64 x.f2)) := rfl
  rw [e] at hrow hg
  refine ⟨⟨h.hg, h.hgm, ?_, ?_, h.map.grown hg (fun e => n2 (by injection e))⟩, hg⟩
  · rw [List.length_set]
    exact blk_grown h.blk hg (fun e => n1 (by injection e))
  · rw [List.length_set]
    exact hrow
theorem TM.turn {gr : Nat} {w' : World} (h : TM N0 w g (some ⟨gr, 0, none⟩) c gm L S pl s) (hp : 0 < L.length) (hg : w.grownBy w' (some gr)) : Turn N0 w w' := by
  obtain ⟨gr', e, h1, _, cells, hc⟩ := h.form hp
  injection e with e; injection e with e; subst e
  exact Turn.grown hc rfl h1 hg
/-- The map is written. -/
theorem TM.mput {w' : World} {m : Nat} {x : ByteArray} {k : Int} {D : DataW Unit} (h : TM N0 w g A c gm L S pl s) (h1 : w.ownsMap Try.prog 9 (plainElem Try.prog 3) gm s D) (h2 : Maps.size D = s) (h3 : ∀ x : ByteArray, Maps.has D (ky x) = (pl x).isSome ∧ D.atKey (ky x) (.lit (.int .i64 0)) = .lit (.int .i64 ((pl x).getD 0)))
    (ho : w'.ownsMap Try.prog 9 (plainElem Try.prog 3) gm m (D.put (ky x) (.lit (.int .i64 k)))) (ht : w.mapTurned w' gm) : TM N0 w' g A c gm L S (upd pl x k) (if (pl x).isSome then s else s + 1) ∧ Turn N0 w w' := by
  obtain ⟨es, clock, hb⟩ := h.map.blk
  refine ⟨⟨h.hg, h.hgm, blk_grown h.blk ht.grown (fun e => h.mne (by injection e)), ?_, MP.put h1 h2 h3 ho⟩, Turn.grown hb rfl h.hgm ht.grown⟩
  refine Kd.R_move (Kd.R_bound h.row) ?_ |> (Kd.R_mono · (fun _ _ => trivial))
  intro k hk
  refine ht.grown.block k hk.2.2.1 ?_
  intro e
  injection e with e
  obtain ⟨q, _, cells, hc⟩ := hk.2.2.2
  rw [e, hb] at hc; cases hc
set_option maxHeartbeats 1000000 in
theorem put.calls {gr : Nat} (h : TM N0 w g (some ⟨gr, 0, none⟩) c gm L S pl s) (k : Nat) (hk : k < L.length) (x : S106) (hp : (pl x.f0).isSome = true) (hx : x.f0.size ≤ 1000) (hkk : k ≤ 100000) (hs : s ≤ 100000) :
    Calls Try.prog 95 #[.pointer (some ⟨g, 0, none⟩), .int .i64 (k : Int), .agg #[.string x.f0, .int .i64 x.f1, .int .i64 x.f2]] w fun e w' => e = .returned (.tuple #[]) ∧ TM N0 w' g (some ⟨gr, 0, none⟩) c gm (L.set k x) S (upd pl x.f0 (k : Int)) s ∧ Turn N0 w w' ∧ (∀ i o, w.heap[i]? = some o → i ≠ gr → i ≠ gm → w'.heap[i]? = some o) := by
  have q1 : (0 : Int) ≤ (k : Int) := by omega
  have q2 : (k : Int) < (L.length : Int) := by omega
  have H := Aside0.mk h
  clear h
  go_enter Try.func95, Try.ntmps95
  go_wp2
  have hb := blk_new w (.cells #[.string x.f0, .int .i64 x.f1, .int .i64 x.f2] 106)
  have h1 := H.out.below (below_alloc (Below.refl _ _) (.cells #[.string x.f0, .int .i64 x.f1, .int .i64 x.f2] 106))
  have hT1 : Turn N0 w (w.alloc (.cells #[.string x.f0, .int .i64 x.f1, .int .i64 x.f2] 106)) := Turn.below (below_alloc (Below.refl _ _) _)
  have hK1 : ∀ i o, w.heap[i]? = some o → (w.alloc (.cells #[.string x.f0, .int .i64 x.f1, .int .i64 x.f2] 106)).heap[i]? = some o := fun i o hi => blk_alloc hi _
  obtain ⟨w1, hw1⟩ : ∃ w1, w.alloc (.cells #[.string x.f0, .int .i64 x.f1, .int .i64 x.f2] 106) = w1 := ⟨_, rfl⟩
  obtain ⟨b, hbb⟩ : ∃ b, w.heap.size = b := ⟨_, rfl⟩
  have hne : b ≠ gr := by
    obtain ⟨gr', e, _, hlt, _⟩ := H.out.form (by omega)
    injection e with e; injection e with e; subst e
    omega
  have HNE := Aside0.mk hne
  clear hne
  rw [hw1] at hb h1 hT1 hK1 ⊢
  have HK1 := Aside0.mk hK1
  clear hK1
  rw [hbb] at hb ⊢
  clear hw1 hbb H
  have H := Aside0.mk h1
  have HT := Aside0.mk hT1
  have HBk := Aside0.mk hb
  have h0 := h1.c0
  obtain ⟨x0, x1, x2⟩ := h1.at k hk
  have f0 := h1.fr (by omega) (k * 3)
  have f1 := h1.fr (by omega) (k * 3 + 1)
  have f2 := h1.fr (by omega) (k * 3 + 2)
  have b0 := (blk_cell hb 0).trans rfl
  have b1 := (blk_cell hb 1).trans rfl
  have b2 := (blk_cell hb 2).trans rfl
  clear hb h1 hT1
  go_region
  have hset := H.out.set k hk x
  have hT2 := HT.out.trans (H.out.turn (by omega) hset.2)
  have hK2 : ∀ i o, w.heap[i]? = some o → i ≠ gr → (((w1.setCell ⟨gr, k * 3, none⟩ (.string x.f0)).setCell ⟨gr, k * 3 + 1, none⟩ (.int .i64 x.f1)).setCell ⟨gr, k * 3 + 2, none⟩ (.int .i64 x.f2)).heap[i]? = some o := fun i o hi hn => blk_grown (HK1.out i o hi) hset.2 (fun e => hn (by injection e))
  have hb2 := blk_grown HBk.out hset.2 (fun e => HNE.out (by injection e))
  generalize (((w1.setCell ⟨gr, k * 3, none⟩ (.string x.f0)).setCell ⟨gr, k * 3 + 1, none⟩ (.int .i64 x.f1)).setCell ⟨gr, k * 3 + 2, none⟩ (.int .i64 x.f2)) = w2 at hset hT2 hb2 hK2 ⊢
  have h2 := hset.1
  clear hset x0 x1 x2 f0 f1 f2 b0 b1 b2 h0 H HT HBk
  have c1 := h2.c1
  have b0 := (blk_cell hb2 0).trans rfl
  have h2d : TM N0 w2.drew.drew g (some ⟨gr, 0, none⟩) c gm (L.set k x) S pl s := h2.below (below_drew (below_drew (Below.refl _ _)))
  have hT2d : Turn N0 w w2.drew.drew := hT2.trans (Turn.below (below_drew (below_drew (Below.refl _ _))))
  have hm := h2d.map
  obtain ⟨D, d1, d2, d3⟩ := hm
  obtain ⟨w3, hrun, hown, hturn⟩ := d1.store law9 Try.underlying101 (by unfold maxLen; omega) (hkey hx) (plainElem_int Try.underlying3 (a := (k : Int)) (by simp [Lit.wf, IntKind.min, IntKind.max, IntKind.signed, IntKind.bits]; omega))
  have hfin := h2d.mput d1 d2 d3 hown hturn
  rw [if_pos hp] at hfin
  have HF := Aside0.mk (show TM N0 w3 g (some ⟨gr, 0, none⟩) c gm (L.set k x) S (upd pl x.f0 (k : Int)) s ∧ Turn N0 w w3 ∧ (∀ i o, w.heap[i]? = some o → i ≠ gr → i ≠ gm → w3.heap[i]? = some o) from ⟨hfin.1, hT2d.trans hfin.2, fun i o hi n1 n2 => blk_grown (w := w2.drew.drew) (hK2 i o hi n1) hturn.grown (fun e => n2 (by injection e))⟩)
  clear hK2 HK1
  clear hfin hown hturn d1 d2 d3 h2d hT2d h2 hb2 hT2
  go_wp2
  go_region
  go_end0
  exact ⟨rfl, HF.out⟩
end
end Go.Proofs.Ytenaggpgblaalaa.Timer
