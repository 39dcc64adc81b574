/- The timer's Set: its contract. Condition: names of at most 1000 bytes, at most 999 of them. -/
import Derived.Test.YtenaggpgblaalaaTimerDrop
namespace Go.Proofs.Ytenaggpgblaalaa.Timer
open Go.RowKit Go.Proofs.Ytenaggpgblaalaa.PTimerPlays Go.Proofs.YtenaggpgblaalaaW.PrintWords Go.Proofs.YtenaggpgblaalaaW.PrintLast Go.Proofs.YtenaggpgblaalaaW.PrintMore
open Plain (wrap_id hold)
set_option linter.unusedVariables false
set_option linter.unusedSimpArgs false

theorem info106 : (Try.prog.info? 106).map (fun i => (i.zero, i.size, i.bytes)) = some (some (.agg #[.string ⟨#[]⟩, .int .i64 0, .int .i64 0]), 3, 32) := by kernel_rfl
theorem Hold.calls (a : Int) (w : World) : Calls Try.prog 18 #[.int .i64 a] w fun e w' => e = .returned (.int .i64 (hold a)) ∧ Below w.heap.size w w' := by
  have e : tick_Hold.f a = some (hold a) := by
    unfold tick_Hold.f hold
    refine congrArg some ?_
    simp only [mx, mn]
    (repeat' split) <;> omega
  exact tick_Hold.calls a (hold a) w e
theorem itm_snoc (L : List S106) (y : S106) (i : Nat) (h : i < L.length) : itm (L ++ [y]) i = itm L i := by
  rw [itm_eq _ i (by simp; omega), itm_eq L i h, List.getElem_append_left h]
theorem itm_last (L : List S106) (y : S106) : itm (L ++ [y]) L.length = y := by
  rw [itm_eq _ _ (by simp)]; simp
theorem Sync.snoc {L : List S106} {pl : ByteArray → Option Int} (h : Sync L pl) (y : S106) (hp : pl y.f0 = none) (hy : y.f0.size ≤ 1000) : Sync (L ++ [y]) (upd pl y.f0 (L.length : Int)) := by
  have ne : ∀ i, i < L.length → (itm L i).f0 ≠ y.f0 := fun i hi e => by
    have := h.at_ i hi
    rw [e, hp] at this; cases this
  refine ⟨?_, ?_, ?_⟩
  · intro i hi
    simp at hi
    unfold upd
    by_cases e : i = L.length
    · subst e; rw [itm_last, if_pos rfl]
    · rw [itm_snoc L y i (by omega), if_neg (ne i (by omega))]
      exact h.at_ i (by omega)
  · intro x i hx
    unfold upd at hx
    by_cases e : x = y.f0
    · rw [if_pos e] at hx
      injection hx with hx
      exact ⟨L.length, hx.symm, by simp, by rw [itm_last, e]⟩
    · rw [if_neg e] at hx
      obtain ⟨n, e1, hn, e2⟩ := h.back x i hx
      exact ⟨n, e1, by simp; omega, by rw [itm_snoc L y n hn, e2]⟩
  · intro i hi
    simp at hi
    by_cases e : i = L.length
    · subst e; rw [itm_last]; exact hy
    · rw [itm_snoc L y i (by omega)]; exact h.small i (by omega)
theorem up_snoc {L : List S106} (h : Heap L) (y : S106) : HeapUp (L ++ [y]) L.length := by
  refine ⟨?_, ?_⟩
  · intro i i0 il ik
    simp at il
    unfold Edge
    rw [itm_snoc L y i (by omega), itm_snoc L y _ (by omega)]
    exact h i i0 (by omega)
  · intro k0 i i0 il ik
    simp at il
    omega
def ST.T3 : Bool × List (List Nat × List Nat) := (true, [([], []), ([], []), ([1], [1]), ([2], [2]), ([3], [3]), ([], []), ([], []), ([6], [6]), ([], []), ([8], [8]), ([9], [9]), ([10], [10]), ([5, 7, 11], [5, 7, 11]), ([12], [12]), ([4, 13, 7], [4, 13]), ([0, 0, 1, 2, 3, 4, 5, 6, 7, 8, 9, 10, 11, 12, 13, 14], [0]), ([15, 0, 1, 2, 3, 4, 5, 6, 7, 8, 9, 10, 11, 12, 13, 14], [15]), ([16, 14, 14, 0, 1, 2, 3, 4, 5, 6, 7, 8, 9, 10, 11, 12, 13, 14], [14, 16])])
def ST.B3 : List Nat := [0, 0, 2, 6, 14, 0, 0, 64, 0, 256, 768, 1792, 4064, 8160, 16382, 32767, 65535, 131071]
theorem ST.tab3 : rtab .any (opsOf Try.f65 3) = ST.T3 := by kernel_rfl
theorem ST.bits3 : waitsOk ST.T3.2 ST.B3 = true := by kernel_rfl
section
variable {N0 : Nat} {w : World} {g : Nat} {A : Option Addr} {c gm : Nat} {L : List S106} {S : Int} {pl : ByteArray → Option Int} {s : Nat}
/-- The count is written. -/
theorem TM.count (h : TM N0 w g A c gm L S pl s) (S1 : Int) : TM N0 (w.setCell ⟨g, 2, none⟩ (.int .i64 S1)) g A c gm L S1 pl s ∧ Turn N0 w (w.setCell ⟨g, 2, none⟩ (.int .i64 S1)) := by
  have hg := grown_set w g 2 (.int .i64 S1)
  exact ⟨⟨h.hg, h.hgm, blk_put h.blk 2 _ rfl, Kd.R_set h.row h.blk (by decide) 2 _, h.map.grown hg (fun e => h.mne (by injection e with e; exact e.symm))⟩, Turn.grown h.blk rfl h.hg hg⟩
/-- The row has grown. -/
theorem TM.grew {w' : World} {v1 : Value} {xs : List S106} (h : TM N0 w g A c gm L S pl s) (hg : w.grownBy w' (Value.slice A L.length c).ownBlock) (hr : k106.R 106 w' N0 (fun _ => True) v1 xs) : w'.heap[g]? = some (.cells #[.slice A L.length c, .map (some gm), .int .i64 S] 104 (0, 0)) ∧ MP w' gm s pl ∧ Turn N0 w w' := by
  have key : ∀ r, (Value.slice A L.length c).ownBlock = r → w'.heap[g]? = some (.cells #[.slice A L.length c, .map (some gm), .int .i64 S] 104 (0, 0)) ∧ MP w' gm s pl ∧ Turn N0 w w' := by
    intro r hr'
    rw [hr'] at hg
    cases r with
    | none =>
      exact ⟨blk_grown h.blk hg (by simp), h.map.grown hg (by simp), ⟨hg.os, hg.tape, hg.output, hg.size, fun k o hk _ => blk_grown hk hg (by simp)⟩⟩
    | some b =>
      have hne : some g ≠ some b := by
        rw [← hr']
        exact Kd.R_ne h.row h.blk (by decide)
      obtain ⟨es, clock, hb⟩ := h.map.blk
      have hbase := Kd.R_base h.row b hr'
      obtain ⟨cells, hcell⟩ : ∃ cells, w.heap[b]? = some (.cells cells 106 (0, 0)) := by
        obtain ⟨inner, ho⟩ := Kd.R_own h.row
        exact own_typed ho b hr'
      have hne2 : some gm ≠ some b := by
        intro e
        injection e with e
        rw [e, hcell] at hb; cases hb
      exact ⟨blk_grown h.blk hg hne, h.map.grown hg hne2, Turn.grown hcell rfl hbase hg⟩
  exact key _ rfl
set_option maxHeartbeats 4000000 in
set_option maxRecDepth 100000 in
theorem Set.calls {Z : List S106} (h : TS N0 w g S Z) (hZ : Z.length ≤ 999) (x : ByteArray) (hx : x.size ≤ 1000) (at_ : Int) (hS0 : 0 ≤ S) (hS1 : S ≤ 1000000) :
    Calls Try.prog 65 #[.pointer (some ⟨g, 0, none⟩), .string x, .int .i64 at_] w fun e w' => e = .returned (.tuple #[]) ∧ TS N0 w' g (S + 1) (out x Z ++ [⟨x, hold at_, S + 1⟩]) ∧ Turn N0 w w' := by
  have H0 := Aside0.mk h
  have HZ := Aside0.mk (show Z.length ≤ 1000 by omega)
  have HZ2 := Aside0.mk hZ
  have HX := Aside0.mk hx
  clear h hZ hx
  go_enter Try.func65, Try.ntmps65
  go_wp2_with fail
  refine (Drop.calls H0.out HZ.out x HX.out).mono ?_
  rintro e w1 ⟨rfl, h1, hT1⟩
  obtain ⟨A, c, gm, L, pl, t1, t2, t3, t4⟩ := h1
  have hno : has x (out x Z) = false := by
    unfold has out
    rw [List.any_eq_false]
    intro y hy
    have := (List.mem_filter.1 hy).2
    simpa using this
  have hpn : pl x = none := by
    cases hp : pl x with
    | none => rfl
    | some i =>
      obtain ⟨k, rfl, hk, e⟩ := t2.back x i hp
      have := t2.has_some hk e
      rw [has_perm t4, hno] at this
      cases this
  have hlc : L.length ≤ 999 := by
    rw [t4.length_eq]
    have := List.length_filter_le (fun y : S106 => decide (y.f0 ≠ x)) Z
    unfold out
    have h2 := HZ2.out
    omega
  have HLC := Aside0.mk hlc
  have HPN := Aside0.mk hpn
  have HSY := Aside0.mk t2
  have HHP := Aside0.mk t3
  have HPM := Aside0.mk t4
  obtain ⟨S1, hS⟩ : ∃ S1, S + 1 = S1 := ⟨_, rfl⟩
  have e1 : wrap64 (S + 1) = S1 := by rw [wrap_id (by omega) (by omega)]; exact hS
  have e2 : IntKind.i64.wrap S1 = S1 := by rw [IntKind.wrap_i64]; omega
  have HS := Aside0.mk hS
  have c2 := t1.c2
  have f2 := t1.f 2
  have hcnt := t1.count S1
  have H := Aside0.mk hcnt.1
  have HT := Aside0.mk (hT1.trans hcnt.2)
  obtain ⟨hv, hhv⟩ : ∃ v, hold at_ = v := ⟨_, rfl⟩
  have HHV := Aside0.mk hhv
  obtain ⟨L1, hL1⟩ : ∃ l, L ++ [⟨x, hv, S1⟩] = l := ⟨_, rfl⟩
  have HL1 := Aside0.mk hL1
  clear hcnt t1 t2 t3 t4 hT1 hno hpn hlc hhv hL1
  go_wp2
  have n0_ := Aside0.mk (H.out.below (below_drew (Below.refl _ _)))
  have n1_ := Aside0.mk (HT.out.trans (Turn.below (below_drew (Below.refl _ _))))
  clear H HT
  have H := n0_
  have HT := n1_
  clear n0_ n1_
  refine start_ (n := 18) (S := fun w' => w'.cell? ⟨g, 0, none⟩ = some (.slice A L.length c) ∧ w'.cell? ⟨g, 2, none⟩ = some (.int .i64 S1)) (ds := [17]) #[false, false, false, false, false, false, false, false, false, false, false, false, false, false, false, false, false, false] (by kernel_rfl) rfl rfl ⟨H.out.c0, H.out.c2⟩ (fun hHeld => ?_)
  refine with_tabW ST.tab3 ST.bits3 (fun HT_ HW_ => ?_)
  refine pure_ (i := 0) (N := some 18) (v := ?_) (a' := ?_) #[true, false, false, false, false, false, false, false, false, false, false, false, false, false, false, false, false, false] rfl rfl (any_of HT_.out (by kernel_rfl)) (fun _ _ _ h => h) (Or.inl ⟨by rfl, ?_⟩) ?_ ?_
  rotate_left
  · intro w'
    go_simp
    with_reducible rfl
  rotate_left
  · simp only [Act.put, List.setIfInBounds_toArray, List.set_cons_zero, List.set_cons_succ, i64_w, i32_w]
    rfl
  refine pure_ (i := 1) (N := some 19) (v := ?_) (a' := ?_) #[true, true, false, false, false, false, false, false, false, false, false, false, false, false, false, false, false, false] rfl rfl (any_of HT_.out (by kernel_rfl)) (fun _ _ _ h => h) (Or.inl ⟨by rfl, ?_⟩) ?_ ?_
  rotate_left
  · intro w'
    go_simp
    with_reducible rfl
  rotate_left
  · simp only [Act.put, List.setIfInBounds_toArray, List.set_cons_zero, List.set_cons_succ, i64_w, i32_w]
    rfl
  refine pure_ (i := 2) (N := some 20) (v := ?_) (a' := ?_) #[true, true, true, false, false, false, false, false, false, false, false, false, false, false, false, false, false, false] rfl rfl (any_of HT_.out (by kernel_rfl)) (fun _ _ _ h => h) (Or.inl ⟨by rfl, ?_⟩) ?_ ?_
  rotate_left
  · intro w'
    go_simp
    with_reducible rfl
  rotate_left
  · simp only [Act.put, List.setIfInBounds_toArray, List.set_cons_zero, List.set_cons_succ, i64_w, i32_w]
    rfl
  refine pure_ (i := 3) (N := some 21) (v := ?_) (a' := ?_) #[true, true, true, true, false, false, false, false, false, false, false, false, false, false, false, false, false, false] rfl rfl (any_of HT_.out (by kernel_rfl)) (fun _ _ _ h => h) (Or.inl ⟨by rfl, ?_⟩) ?_ ?_
  rotate_left
  · intro w'
    go_simp
    with_reducible rfl
  rotate_left
  · simp only [Act.put, List.setIfInBounds_toArray, List.set_cons_zero, List.set_cons_succ, i64_w, i32_w]
    rfl
  refine pure_ (i := 5) (N := some 23) (v := ?_) (a' := ?_) #[true, true, true, true, false, true, false, false, false, false, false, false, false, false, false, false, false, false] rfl rfl (any_of HT_.out (by kernel_rfl)) (fun _ _ _ h => h) (Or.inl ⟨by rfl, ?_⟩) ?_ ?_
  rotate_left
  · intro w'
    go_simp
    with_reducible rfl
  rotate_left
  · simp only [Act.put, List.setIfInBounds_toArray, List.set_cons_zero, List.set_cons_succ, i64_w, i32_w]
    rfl
  refine pure_ (i := 6) (N := some 24) (v := ?_) (a' := ?_) #[true, true, true, true, false, true, true, false, false, false, false, false, false, false, false, false, false, false] rfl rfl (any_of HT_.out (by kernel_rfl)) (fun _ _ _ h => h) (Or.inl ⟨by rfl, ?_⟩) ?_ ?_
  rotate_left
  · intro w'
    go_simp
    with_reducible rfl
  rotate_left
  · simp only [Act.put, List.setIfInBounds_toArray, List.set_cons_zero, List.set_cons_succ, i64_w, i32_w]
    rfl
  refine pure_ (i := 8) (N := some 26) (v := ?_) (a' := ?_) #[true, true, true, true, false, true, true, false, true, false, false, false, false, false, false, false, false, false] rfl rfl (any_of HT_.out (by kernel_rfl)) (fun _ _ _ h => h) (Or.inl ⟨by rfl, ?_⟩) ?_ ?_
  rotate_left
  · intro w'
    go_simp
    with_reducible rfl
  rotate_left
  · simp only [Act.put, List.setIfInBounds_toArray, List.set_cons_zero, List.set_cons_succ, i64_w, i32_w]
    rfl
  refine pure_ (i := 9) (N := some 27) (v := ?_) (a' := ?_) #[true, true, true, true, false, true, true, false, true, true, false, false, false, false, false, false, false, false] rfl rfl (any_of HT_.out (by kernel_rfl)) (fun _ _ _ h => h) (Or.inl ⟨by rfl, ?_⟩) ?_ ?_
  rotate_left
  · intro w'
    go_simp
    with_reducible rfl
  rotate_left
  · simp only [Act.put, List.setIfInBounds_toArray, List.set_cons_zero, List.set_cons_succ, i64_w, i32_w]
    rfl
  refine pure_ (i := 10) (N := some 28) (v := ?_) (a' := ?_) #[true, true, true, true, false, true, true, false, true, true, true, false, false, false, false, false, false, false] rfl rfl (any_of HT_.out (by kernel_rfl)) (fun _ _ _ h => h) (Or.inl ⟨by rfl, ?_⟩) ?_ ?_
  rotate_left
  · intro w'
    go_simp
    with_reducible rfl
  rotate_left
  · simp only [Act.put, List.setIfInBounds_toArray, List.set_cons_zero, List.set_cons_succ, i64_w, i32_w]
    rfl
  refine take_ (i := 4) (N := some 22) (v := ?_) (a' := ?_) #[true, true, true, true, true, true, true, false, true, true, true, false, false, false, false, false, false, false] rfl rfl (take_ofW HT_.out HW_.out (by kernel_rfl)) (fun _ _ _ h => h) (Or.inl ⟨by rfl, ?_⟩) hHeld ?_ ?_
  rotate_left
  · rintro w' ⟨s0, s1⟩
    go_simp
    with_reducible rfl
  rotate_left
  · simp only [Act.put, List.setIfInBounds_toArray, List.set_cons_zero, List.set_cons_succ, i64_w, i32_w]
    rfl
  refine take_ (i := 11) (N := some 29) (v := ?_) (a' := ?_) #[true, true, true, true, true, true, true, false, true, true, true, true, false, false, false, false, false, false] rfl rfl (take_ofW HT_.out HW_.out (by kernel_rfl)) (fun _ _ _ h => h) (Or.inl ⟨by rfl, ?_⟩) hHeld ?_ ?_
  rotate_left
  · rintro w' ⟨s0, s1⟩
    go_simp
    with_reducible rfl
  rotate_left
  · simp only [Act.put, List.setIfInBounds_toArray, List.set_cons_zero, List.set_cons_succ, i64_w, i32_w]
    rfl
  refine one_ (i := 7) (N := some 25) #[true, true, true, true, true, true, true, true, true, true, true, true, false, false, false, false, false, false] rfl rfl (one_of HT_.out (by kernel_rfl)) (by decide) (fun K hK => ?_)
  refine goes_ Try.func18 (by kernel_rfl) rfl #[.int .i64 at_] (by rfl) rfl rfl (by (try simp only [List.map_toArray, List.map_cons, List.map_nil]); first | done | rfl) ?_
  with_reducible refine (Hold.calls at_ _).mono ?_
  rintro e w5 ⟨rfl, hb⟩
  refine ⟨_, rfl, ?_⟩
  rw [HHV.out]
  have n0_ := Aside0.mk (H.out.below hb)
  have n1_ := Aside0.mk (HT.out.trans (Turn.below hb))
  clear H HT hb
  have H := n0_
  have HT := n1_
  clear n0_ n1_
  refine hK.out _ _ ⟨H.out.c0, H.out.c2⟩ (fun hHeld => ?_)
  clear hK K
  refine norm_ (a' := ?_) ?_ ?_
  rotate_left
  · show Act.put _ (some 25) _ = _
    simp only [Act.put, List.setIfInBounds_toArray, List.set_cons_zero, List.set_cons_succ, i64_w, i32_w]
    rfl
  refine pure_ (i := 12) (N := some 30) (v := ?_) (a' := ?_) #[true, true, true, true, true, true, true, true, true, true, true, true, true, false, false, false, false, false] rfl rfl (any_of HT_.out (by kernel_rfl)) (fun _ _ _ h => h) (Or.inl ⟨by rfl, ?_⟩) ?_ ?_
  rotate_left
  · intro w'
    go_simp
    with_reducible rfl
  rotate_left
  · simp only [Act.put, List.setIfInBounds_toArray, List.set_cons_zero, List.set_cons_succ, i64_w, i32_w]
    rfl
  refine one_ (i := 13) (N := some 31) #[true, true, true, true, true, true, true, true, true, true, true, true, true, true, false, false, false, false] rfl rfl (one_of HT_.out (by kernel_rfl)) (by decide) (fun K hK => ?_)
  refine value_ (w1 := ?_) (v := ?_) (by rfl) rfl ?_ ?_
  rotate_left 2
  · go_simp
    constructor
    · rfl
    · rfl
  have HB := Aside0.mk (blk_alloc H.out.blk (.cells #[.string x, .int .i64 hv, .int .i64 S1] 106))
  refine hK.out _ _ ⟨(blk_cell HB.out 0).trans rfl, (blk_cell HB.out 2).trans rfl⟩ (fun hHeld => ?_)
  clear hK K
  refine norm_ (a' := ?_) ?_ ?_
  rotate_left
  · show Act.put _ (some 31) _ = _
    simp only [Act.put, List.setIfInBounds_toArray, List.set_cons_zero, List.set_cons_succ, i64_w, i32_w]
    rfl
  refine one_ (i := 14) (N := some 32) #[true, true, true, true, true, true, true, true, true, true, true, true, true, true, true, false, false, false] rfl rfl (one_of HT_.out (by kernel_rfl)) (by decide) (fun K hK => ?_)
  refine Kd.R_append_step k106 (w0 := w5) N0 (by rfl) (.tmp 22) (.tmp 31) 102 106 (.agg #[.string ⟨#[]⟩, .int .i64 0, .int .i64 0]) 32 rfl Try.underlying102 info106 rfl (by decide) (by omega) (.slice A L.length c) L ⟨x, hv, S1⟩ [.string x, .int .i64 hv, .int .i64 S1] (fun _ => True) (fun _ => False) rfl rfl (k106_mkM _ _ _ _) (fun _ hk => hk.elim) (fun _ _ => trivial) H.out.row (Below.refl _ _) (Nat.le_trans H.out.hg (Nat.le_of_lt (blk_lt H.out.blk))) (by have := HLC.out; omega) ?_
  intro v1 w9 hr hb9 hg9 hat9
  rw [HL1.out] at hr
  obtain ⟨A1, c1_, rfl⟩ := Kd.R_slice hr
  have h9 := H.out.grew hg9 hr
  have HR := Aside0.mk hr
  have H9 := Aside0.mk h9.1
  have HT9 := Aside0.mk (HT.out.trans h9.2.2)
  have HM9 := Aside0.mk h9.2.1
  clear hr hb9 hg9 hat9 h9 HB
  refine hK.out _ _ ⟨(blk_cell H9.out 0).trans rfl, (blk_cell H9.out 2).trans rfl⟩ (fun hHeld => ?_)
  clear hK K
  refine norm_ (a' := ?_) ?_ ?_
  rotate_left
  · show Act.put _ (some 32) _ = _
    simp only [Act.put, List.setIfInBounds_toArray, List.set_cons_zero, List.set_cons_succ, i64_w, i32_w]
    rfl
  refine pure_ (i := 15) (N := some 33) (v := ?_) (a' := ?_) #[true, true, true, true, true, true, true, true, true, true, true, true, true, true, true, true, false, false] rfl rfl (any_of HT_.out (by kernel_rfl)) (fun _ _ _ h => h) (Or.inl ⟨by rfl, ?_⟩) ?_ ?_
  rotate_left
  · intro w'
    go_simp
    with_reducible rfl
  rotate_left
  · simp only [Act.put, List.setIfInBounds_toArray, List.set_cons_zero, List.set_cons_succ, i64_w, i32_w]
    rfl
  refine pure_ (i := 16) (N := some 34) (v := ?_) (a' := ?_) #[true, true, true, true, true, true, true, true, true, true, true, true, true, true, true, true, true, false] rfl rfl (any_of HT_.out (by kernel_rfl)) (fun _ _ _ h => h) (Or.inl ⟨by rfl, ?_⟩) ?_ ?_
  rotate_left
  · intro w'
    go_simp
    with_reducible rfl
  rotate_left
  · simp only [Act.put, List.setIfInBounds_toArray, List.set_cons_zero, List.set_cons_succ, i64_w, i32_w]
    rfl
  refine last_ (i := 17) (N := none) #[true, true, true, true, true, true, true, true, true, true, true, true, true, true, true, true, true, true] rfl rfl (one_of HT_.out (by kernel_rfl)) (by decide) (fun K hK => ?_)
  have f9 := blk_frozen H9.out 0
  have c9 := (blk_cell H9.out 0).trans rfl
  refine skip_ (w1 := ?_) (by rfl) rfl ?_ ?_
  rotate_left
  · go_simp
    rfl
  refine hK.out _ _ ?_
  clear hK K
  refine done_ (done_of HT_.out (by kernel_rfl)) ?_
  clear hHeld
  have hl1 : L1.length = L.length + 1 := by rw [← HL1.out]; simp
  have hg9 := grown_set w9 g 0 (.slice A1 L1.length c1_)
  have h10 : TM N0 (w9.setCell ⟨g, 0, none⟩ (.slice A1 L1.length c1_)) g A1 c1_ gm L1 S1 pl L.length :=
    ⟨H.out.hg, H.out.hgm, blk_put H9.out 0 _ rfl, Kd.R_set HR.out H9.out (by decide) 0 _, HM9.out.grown hg9 (fun e => H.out.mne (by injection e with e; exact e.symm))⟩
  have hT10 := HT9.out.trans (Turn.grown H9.out rfl H.out.hg hg9)
  obtain ⟨gr, hA, _⟩ := h10.form (by omega)
  subst hA
  generalize w9.setCell ⟨g, 0, none⟩ (.slice (some ⟨gr, 0, none⟩) L1.length c1_) = w10 at h10 hT10 ⊢
  have h10d : TM N0 w10.drew g (some ⟨gr, 0, none⟩) c1_ gm L1 S1 pl L.length := h10.below (below_drew (Below.refl _ _))
  have hT10d : Turn N0 w w10.drew := hT10.trans (Turn.below (below_drew (Below.refl _ _)))
  have s0 := h10.c0
  have s1 := h10.c1
  have hlc := HLC.out
  obtain ⟨D, d1, d2, d3⟩ := h10d.map
  obtain ⟨w11, hrun, hown, hturn⟩ := d1.store law9 Try.underlying101 (by unfold maxLen; omega) (hkey HX.out) (plainElem_int Try.underlying3 (a := (L.length : Int)) (by simp [Lit.wf, IntKind.min, IntKind.max, IntKind.signed, IntKind.bits]; omega))
  have hfin := h10d.mput d1 d2 d3 hown hturn
  rw [HPN.out] at hfin
  have H11 := Aside0.mk (show TM N0 w11 g (some ⟨gr, 0, none⟩) c1_ gm L1 S1 (upd pl x (L.length : Int)) L1.length by rw [hl1]; exact hfin.1)
  have HT11 := Aside0.mk (hT10d.trans hfin.2)
  have a4 : wrap64 ((L1.length : Int) - 1) = (L.length : Int) := by rw [wrap_id (by omega) (by omega)]; omega
  have a5 : (L1.length : Int) - 1 = (L.length : Int) := by omega
  have a6 : IntKind.i64.wrap (L.length : Int) = (L.length : Int) := by rw [IntKind.wrap_i64]; omega
  clear hfin hown hturn d1 d2 d3 h10d hT10d h10 hT10 hg9 H9 HR HM9 HT9 H HT c2 f2
  go_wp2
  go_region
  have HSY2 := Aside0.mk (show Sync L1 (upd pl x (L.length : Int)) by rw [← HL1.out]; exact HSY.out.snoc ⟨x, hv, S1⟩ HPN.out HX.out)
  have HUP := Aside0.mk (show HeapUp L1 L.length by rw [← HL1.out]; exact up_snoc HHP.out _)
  have HLL := Aside0.mk hl1
  have t0 := H11.out.c0
  clear s0 s1 hrun hl1 hlc
  go_wp2_with fail
  refine (up.calls H11.out HSY2.out L.length (by rw [HLL.out]; omega) HUP.out (by rw [HLL.out]; have := HLC.out; omega) (by rw [HLL.out]; have := HLC.out; omega)).mono ?_
  rintro e w12 ⟨rfl, L2, p2, g1, g2, g3, g4, g5⟩
  have HF := Aside0.mk (show TS N0 w12 g (S + 1) (out x Z ++ [⟨x, hold at_, S + 1⟩]) ∧ Turn N0 w w12 from
    ⟨⟨some ⟨gr, 0, none⟩, c1_, gm, L2, p2, by rw [HS.out, show L2.length = L1.length from g4.length_eq]; exact g1, g2, g3, g4.trans (by rw [← HL1.out, HHV.out, HS.out]; exact HPM.out.append_right _)⟩, HT11.out.trans g5⟩)
  clear g1 g2 g3 g4 g5
  go_wp2
  go_end0
  exact ⟨rfl, HF.out⟩
theorem Set.nilp (x : ByteArray) (a : Int) (w : World) : Calls Try.prog 65 #[.pointer none, .string x, .int .i64 a] w fun e w' => e = .returned (.tuple #[]) ∧ w' = w := by
  go_enter Try.func65, Try.ntmps65
  go_wp2
  (try simp only [Exit.inBlock, Exit.then])
  refine bodyPost_ret (results_none rfl _ _ _) rfl ?_
  exact ⟨rfl, rfl⟩
end
end Go.Proofs.Ytenaggpgblaalaa.Timer
