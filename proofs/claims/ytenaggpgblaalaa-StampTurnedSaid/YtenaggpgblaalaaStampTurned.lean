/- StampTurned: the walk. Condition: none. -/
import Derived.Test.YtenaggpgblaalaaStampAwake
namespace Go.Proofs.Ytenaggpgblaalaa.Stamp
open Go.RowKit Go.Proofs.Ytenaggpgblaalaa.StampA Base Go.Proofs.YtenaggpgblaalaaW.PrintWords Go.Proofs.YtenaggpgblaalaaW.PrintLast Go.Proofs.YtenaggpgblaalaaW.PrintMore
set_option linter.unusedVariables false
set_option linter.unusedSimpArgs false
open PlainStamp

theorem Turned.long (A0 : Option Addr) (c0 n0 : Nat) (a t : Int) (w : World) (h : 5000 < n0) :
    Calls Try.prog 7 #[.slice A0 n0 c0, .int .u16 a, .int .u8 t] w fun e w' => e = .returned (.bool true) ∧ Below w.heap.size w w' := by
  go_enter Try.func7, Try.ntmps7
  go_wp2_with fail
  refine (awake.calls w).mono ?_
  rintro e w' ⟨rfl, hb⟩
  go_wp2
  go_ret
  exact ⟨rfl, hb⟩
set_option maxHeartbeats 4000000 in
set_option maxRecDepth 100000 in
theorem Turned.short (A0 : Option Addr) (c0 n0 : Nat) (a t : Int) (l0 : List Int) (w : World) (h0 : n0 ≤ 5000) (hl0 : l0.length = n0) (hb0 : Bytes l0)
    (hr0 : Kd.C (Kd.int .u8) w A0 n0 l0) (hc0 : n0 ≤ c0) (ha : 0 ≤ a ∧ a ≤ 65535) (ht : 0 ≤ t ∧ t ≤ 255) :
    Calls Try.prog 7 #[.slice A0 n0 c0, .int .u16 a, .int .u8 t] w fun e w' => e = .returned (.bool true) ∧ Below w.heap.size w w' := by
  have HR0 := Aside0.mk hr0
  have HL0 := Aside0.mk hl0
  have HY0 := Aside0.mk hb0
  have HOP := Aside0.mk (openF_seal l0)
  have hlt := ofN_lt l0
  have HYT := Aside0.mk (bytes_append hb0 (tail4_bytes ((ofN l0 : Nat) : Int) (by omega) (by omega)))
  have htn : ∀ (i : Nat) (d : Int), i < (l0 ++ tail4 (ofN l0)).length → 0 ≤ d ∧ d ≤ 255 → (l0 ++ tail4 (ofN l0)).getD i 0 ≠ d → openF ((l0 ++ tail4 (ofN l0)).set i d) = ([], false) := by
    intro i d hi hd hne
    refine openF_turned l0 hb0 i hi d hd ?_
    intro he
    apply hne
    rw [← he]
    simp only [List.getD, List.getElem?_eq_getElem hi, Option.getD_some]
  have hl4 : (l0 ++ tail4 (ofN l0)).length = n0 + 4 := by rw [List.length_append, hl0]; rfl
  obtain ⟨m, hm⟩ : ∃ m : List Int, l0 ++ tail4 (ofN l0) = m := ⟨_, rfl⟩
  rw [hm] at HOP HYT hl4 htn
  have HTN := Aside0.mk htn
  clear htn
  have HM := Aside0.mk hm
  have HL4 := Aside0.mk hl4
  clear hr0 hl0 hb0 hlt hm hl4
  have HB := Aside0.mk (Below.refl w.heap.size w)
  go_enter Try.func7, Try.ntmps7
  go_wp2_with ((with_reducible refine gate_dst (N := 17) rfl ?_); refine Kd.R_lit (Kd.int .u8) (w0 := w) w.heap.size 5 ?hg (N := 17) ?hd (xs := ([] : List Int)) (inner := []) (ok := fun _ => True) (okp := fun _ => True) ?hr ?hp (fun _ hk => hk) trivial (by repeat (first | (with_reducible first | exact HB.out | apply below_alloc | apply pw_below_drewN | apply below_drew1) | exact HB.out)) (below_size (by repeat (first | (with_reducible first | exact HB.out | apply below_alloc | apply pw_below_drewN | apply below_drew1) | exact HB.out))) (by simp) ?_; (case hd => rfl); (case hg => rfl); (case hr => first | (go_simp; done) | (go_simp; rfl)); (case hp => exact (Reps.none _ _)); intro v1 w1 ho hb hg_ hnew_; have n0_ := Aside0.mk ho; have n1_ := Aside0.mk hb; clear HB; have HO1 := n0_; have HB := n1_; clear n0_ n1_ ho hb hg_ hnew_)
  refine (Seal.calls' A0 c0 n0 l0 _ HL0.out HY0.out (by omega) (Kd.C_below HR0.out HB.out) hc0).mono ?_
  rintro e w2 ⟨v2, rfl, ho2, hb2⟩
  rw [HM.out] at ho2
  have n0_ := Aside0.mk (Kd.R_below HO1.out hb2)
  have n1_ := Aside0.mk (below_step HB.out hb2)
  clear HB HO1
  have HO1 := n0_
  have HB := n1_
  clear n0_ n1_
  obtain ⟨A2, c2, rfl, hc2, hr2⟩ := Kd.R_reads ho2
  rw [HL4.out] at hr2 hc2 ⊢
  have HR2 := Aside0.mk hr2
  clear ho2 hb2 hr2 hc2
  go_wp2_with ((with_reducible refine gate_builtin (b := .append) (xs := #[.tmp 17, .tmp 19]) rfl ?_); at_builtin; refine Kd.R_append_rows (Kd.int .u8) (w0 := w) w.heap.size rfl (.tmp 17) (.tmp 19) 31 5 (.int .u8 0) 1 rfl Try.underlying31 info5 rfl (by decide) (by omega) _ [] m _ _ _ (fun _ => True) (fun _ => False) rfl rfl ?aO ?aR (fun _ _ h => h) (fun _ h => h.elim) ?aF ?aB ?aS ?aL ?_; (case aR => exact HR2.out); (case aB => exact HB.out); (case aF => exact (fun _ _ => trivial)); (case aO => exact HO1.out); (case aS => exact below_size HB.out); (case aL => simp; omega); intro v3 w3 ho hb hg hat; have n0_ := Aside0.mk hb; have n1_ := Aside0.mk ho; clear HB HO1; have HB := n0_; have HO3 := n1_; clear n0_ n1_ ho hb hg hat)
  simp only [List.nil_append] at HO3
  obtain ⟨g, cap, rfl, hgb, hgl, _⟩ := Kd.R_form HO3.out (by rw [HL4.out]; omega)
  obtain ⟨A3, c3, e3, hc3, hr3⟩ := Kd.R_reads HO3.out
  injection e3 with e3a e3b e3c
  subst e3a e3c
  rw [HL4.out] at hr3 hc3 ⊢
  clear e3b
  have HR3 := Aside0.mk hr3
  clear hr3
  refine (Open.calls' _ cap (n0 + 4) m _ HL4.out HYT.out (by omega) HR3.out hc3).mono ?_
  rintro e w4 ⟨v4, rfl, ho4, hb4⟩
  rw [HOP.out] at ho4 ⊢
  have n0_ := Aside0.mk (Kd.R_below HO3.out hb4)
  have n1_ := Aside0.mk (below_step HB.out hb4)
  have n2_ := Aside0.mk (Kd.C_below HR3.out hb4)
  clear HB HO3 HR3
  have HO3 := n0_
  have HB := n1_
  have HR3 := n2_
  clear n0_ n1_ n2_
  have hsz4 : w3.heap.size ≤ w4.heap.size := hb4.size
  obtain ⟨A4, c4, rfl, hc4, hr4⟩ := Kd.R_reads ho4
  rw [HL0.out] at hr4 hc4 ⊢
  have hcv1 := Kd.C_string (P := Try.prog) (c := c4) Try.underlying31 Try.underlying5 Try.underlying9 hr4
  have hcv2 := Kd.C_string (P := Try.prog) (c := c0) Try.underlying31 Try.underlying5 Try.underlying9 (Kd.C_below HR0.out HB.out)
  clear hr4 hb4 ho4 hc4
  obtain ⟨S, hS⟩ : ∃ S : ByteArray, strOfNums l0 = S := ⟨_, rfl⟩
  rw [hS] at hcv1 hcv2
  clear hS
  have hj0 : 0 ≤ a % ((n0 : Int) + 4) := Int.emod_nonneg _ (by omega)
  have hj1 : a % ((n0 : Int) + 4) < (n0 : Int) + 4 := Int.emod_lt_of_pos _ (by omega)
  have hjn : (a % ((n0 : Int) + 4)).toNat < m.length := by have := HL4.out; omega
  obtain ⟨ad, ead, hcell⟩ := Kd.at_int HR3.out (a % ((n0 : Int) + 4)) hj0 (by omega)
  injection ead with ead
  subst ead
  rw [add_plain] at hcell
  obtain ⟨g', cap', e4, _, _, cells, hblk⟩ := Kd.R_form HO3.out (by rw [HL4.out]; omega)
  injection e4 with e4a e4b e4c
  injection e4a with e4a
  injection e4a with e4a
  subst e4a e4c
  clear e4b
  have hfr := blk_frozen hblk (a % ((n0 : Int) + 4)).toNat
  have HBLK := Aside0.mk hblk
  clear hblk
  have hy : 0 ≤ rd m (a % ((n0 : Int) + 4)) ∧ rd m (a % ((n0 : Int) + 4)) ≤ 255 := by
    rw [rd_at m _ hj0 hjn]
    exact HYT.out _ (List.getElem_mem hjn)
  have HTN2 := Aside0.mk (HTN.out (a % ((n0 : Int) + 4)).toNat t hjn ht)
  have hset : (Kd.int .u8).R 5 (w4.setCell ⟨g, (a % ((n0 : Int) + 4)).toNat, none⟩ (.int .u8 t)) w.heap.size (fun _ => True) (.slice (some ⟨g, 0, none⟩) (n0 + 4) cap) (m.set (a % ((n0 : Int) + 4)).toNat t) ∧ w4.grownBy (w4.setCell ⟨g, (a % ((n0 : Int) + 4)).toNat, none⟩ (.int .u8 t)) (some g) :=
    Kd.R_putg (by rw [← HL4.out]; exact HO3.out) _ t
  have HSET := Aside0.mk hset
  have hyt : Bytes (m.set (a % ((n0 : Int) + 4)).toNat t) := by
    intro x hx
    rcases List.mem_or_eq_of_mem_set hx with h | h
    · exact HYT.out x h
    · subst h; exact ht
  have HYS := Aside0.mk hyt
  clear hset hyt HTN
  have hyy : ∃ y : Int, rd m (a % ((n0 : Int) + 4)) = y := ⟨_, rfl⟩
  obtain ⟨y, hyy⟩ := hyy
  rw [hyy] at hcell hy
  have HYY := Aside0.mk hyy
  clear hyy hjn
  by_cases heq : y = t
  · have hb1 : (y == t) = true := beq_iff_eq.2 heq
    clear heq
    go_wp2_with fail
    refine (awake.calls _).mono ?_
    rintro e w' ⟨rfl, hb⟩
    have HB2 := Aside0.mk (below_step HB.out hb)
    clear hb
    go_wp2
    go_ret
    exact ⟨rfl, HB2.out⟩
  · have hb1 : (y == t) = false := beq_eq_false_iff_ne.2 heq
    have hop5 : openF (m.set (a % ((n0 : Int) + 4)).toNat t) = ([], false) := HTN2.out (by
      have := HYY.out
      unfold rd at this
      rw [this]; exact heq)
    have HOP5 := Aside0.mk hop5
    clear hop5 heq
    go_wp2_with fail
    obtain ⟨A5, c5, e5, hc5, hr5⟩ := Kd.R_reads HSET.out.1
    injection e5 with e5a e5b e5c
    subst e5a e5c
    rw [← e5b] at hr5 hc5
    refine (Open.calls' _ cap (n0 + 4) _ _ e5b.symm HYS.out (by omega) hr5 hc5).mono ?_
    rintro e w5 ⟨v5, rfl, ho5, hb5⟩
    rw [HOP5.out] at ho5 ⊢
    have HB5 := Aside0.mk (below_step (HB.out.grown HSET.out.2 (below_size HB.out) (fun k hk => by injection hk with hk; subst hk; exact hgb)) hb5)
    obtain ⟨A6, c6, rfl, _, _⟩ := Kd.R_reads ho5
    clear ho5 hb5 e5b hr5 hc5 HB
    go_wp2_with fail
    refine (awake.calls _).mono ?_
    rintro e w' ⟨rfl, hb⟩
    have HB2 := Aside0.mk (below_step HB5.out hb)
    clear hb
    go_wp2
    go_ret
    exact ⟨rfl, HB2.out⟩
end Go.Proofs.Ytenaggpgblaalaa.Stamp
