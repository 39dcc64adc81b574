/- The contract of stamp.Open: what is opened is openF. Condition: whole bytes, at most 100004 of them. -/
import Derived.Test.YtenaggpgblaalaaSeal

namespace Go.Proofs.Ytenaggpgblaalaa.Stamp
open Go.RowKit Go.Proofs.Ytenaggpgblaalaa.StampA Base Go.Proofs.YtenaggpgblaalaaW.PrintWords Go.Proofs.YtenaggpgblaalaaW.PrintLast Go.Proofs.YtenaggpgblaalaaW.PrintMore
set_option linter.unusedVariables false
set_option linter.unusedSimpArgs false
open PlainStamp

theorem be_snoc (l : List Int) (c : Int) : be (l ++ [c]) = be l * 256 + c := by unfold be; rw [List.foldl_append]; rfl

theorem Open.short (A0 : Option Addr) (c0 n : Nat) (w : World) (hn : n < 4) :
    Calls Try.prog 28 #[.slice A0 n c0] w fun e w' => e = .returned (.tuple #[.slice none 0 0, .bool false]) ∧ w' = w := by
  go_enter Try.func28, Try.ntmps28
  go_wp2
  go_ret2
  exact ⟨rfl, rfl⟩

def OpenPost (w : World) (xs ys : List Int) (e : Ending) (w' : World) : Prop :=
  ∃ v0_ : Value, e = .returned (.tuple #[v0_, .bool (decide (be ys = (ofN xs : Int)))]) ∧ Kd.R (Kd.int .u8) 5 w' w.heap.size (fun _ => True) v0_ (if be ys = (ofN xs : Int) then xs else []) ∧ Below w.heap.size w w'

set_option maxHeartbeats 4000000 in
set_option maxRecDepth 100000 in
theorem Open.long (A0 : Option Addr) (c0 n : Nat) (xs ys : List Int) (w : World) (hx : xs.length = n) (hy : ys.length = 4) (hr0 : Kd.C (Kd.int .u8) w A0 (xs ++ ys).length (xs ++ ys)) (hc0 : (xs ++ ys).length ≤ c0) (hl : n ≤ 100000)
    (hbx : Bytes xs) (hby : Bytes ys) :
    Calls Try.prog 28 #[.slice A0 (n + 4) c0] w (OpenPost w xs ys) := by
  have hlen : (xs ++ ys).length = n + 4 := by rw [List.length_append]; omega
  have hofl := ofN_lt xs
  have hber := be_range ys (by omega) hby
  obtain ⟨i5, hi5, _, hs5, _⟩ := info_parts info5
  obtain ⟨A1, hcut1, hA1, hC1⟩ := print_drop_of (P := Try.prog) (Value.int .u8) 0 31 5 .i64 Try.underlying31 hi5 hs5 A0 c0 (xs ++ ys) (n : Int) (by omega) (by omega) hc0
  obtain ⟨hcut2, hA2, hC2⟩ := print_take_of (P := Try.prog) (Value.int .u8) 0 31 5 .i64 Try.underlying31 hi5 hs5 A0 c0 (xs ++ ys) (n : Int) (by omega) (by omega) hc0
  have hr1 := hA1 w (Kd.reads_of_C hr0)
  have hr2 := Kd.C_of_reads (h1 := fun _ => rfl) (hA2 w (Kd.reads_of_C hr0))
  have ed : List.drop (n : Int).toNat (xs ++ ys) = ys := by rw [Int.toNat_natCast, ← hx]; exact List.drop_left
  have et : List.take (n : Int).toNat (xs ++ ys) = xs := by rw [Int.toNat_natCast, ← hx]; exact List.take_left
  rw [ed, hy] at hr1
  rw [et] at hr2 hC2
  rw [hx] at hr2 hC2
  simp only [hlen, ed, hy, et, hx] at hcut1 hcut2
  obtain ⟨ad, rfl, hcell⟩ := hr1.2.2 (by omega)
  have HR2 := Aside0.mk hr2
  have HC2 := Aside0.mk hC2
  have HX := Aside0.mk hx
  have HY := Aside0.mk hy
  have HL := Aside0.mk hl
  have HBX := Aside0.mk hbx
  have HBY := Aside0.mk hby
  have HCELL := Aside0.mk hcell
  have HOFL := Aside0.mk hofl
  have HBER := Aside0.mk hber
  have HI5 := Aside0.mk hi5
  have HS5 := Aside0.mk hs5
  clear hi5 hs5
  clear hr0 hc0 hlen hA1 hA2 hr1 hr2 hC1 hC2 ed et hbx hby hcell hofl hber hx hy
  have HB := Aside0.mk (Below.refl w.heap.size w)
  simp only [Int.toNat_natCast] at hcut1
  go_enter Try.func28, Try.ntmps28
  go_wp2
  go_loop [5, 17] (fun x i => ∃ k : Nat, k ≤ 4 ∧ i = .int .i64 k ∧ x = .int .u32 (be (ys.take k))) (fun _ i => 4 - (intOf i).toNat)
  case atStart => exact ⟨0, by omega, rfl, rfl⟩
  case round =>
    obtain ⟨k, hk, rfl, rfl⟩ := hrel
    by_cases hlt : k < 4
    · have hc := HCELL.out k hlt
      have hkl : k < ys.length := by rw [HY.out]; exact hlt
      have hb := HBY.out ys[k] (List.getElem_mem hkl)
      have hg : ys.getD k 0 = ys[k] := by simp [List.getD, hkl]
      rw [hg] at hc
      have hbt : Bytes (ys.take k) := fun x hx => HBY.out x (List.mem_of_mem_take hx)
      have hlk : (ys.take k).length = k := by rw [List.length_take]; omega
      have hbe : 0 ≤ be (ys.take k) ∧ be (ys.take k) < 16777216 := by
        have hk3 : k ≤ 3 := by omega
        have h3 := be_range (ys.take k) (by omega) hbt
        refine ⟨h3.1, ?_⟩
        clear h3
        generalize ys.take k = l at *
        match l, hlk, hk3 with
        | [], _, _ => unfold be; simp
        | [a], _, _ =>
          have ha := hbt a (by simp)
          unfold be; simp only [List.foldl]; omega
        | [a, b], _, _ =>
          have ha := hbt a (by simp); have hb := hbt b (by simp)
          unfold be; simp only [List.foldl]; omega
        | [a, b, c], _, _ =>
          have ha := hbt a (by simp); have hb := hbt b (by simp); have hc := hbt c (by simp)
          unfold be; simp only [List.foldl]; omega
        | a :: b :: c :: d :: l, h1, h2 => simp only [List.length_cons] at h1; omega
      have hs := Aside0.mk (be_snoc (ys.take k) ys[k])
      have hts : ys.take (k + 1) = ys.take k ++ [ys[k]] := by rw [List.take_succ_eq_append_getElem hkl]
      have HTS := Aside0.mk hts
      have HOR := Aside0.mk (or_step (be (ys.take k)) ys[k] hbe.1 hbe.2 hb.1 hb.2)
      have hyy : ∃ y : Int, ys[k] = y := ⟨_, rfl⟩
      obtain ⟨y, hyy⟩ := hyy
      have hqq : ∃ q : Int, be (ys.take k) = q := ⟨_, rfl⟩
      obtain ⟨q, hqq⟩ := hqq
      rw [hyy, hqq] at hs HOR
      rw [hyy] at HTS hc hb
      rw [hqq] at hbe ⊢
      clear hts hg hbt hlk hyy hqq
      clear hkl
      go_wp2
      refine ⟨⟨k + 1, by omega, by go_num, ?_⟩, by simp [intOf]; omega⟩
      have e1 : q * 256 % 4294967296 = q * 256 := by omega
      have e2 : y % 4294967296 = y := by omega
      have h3 := HOR.out
      rw [e1, e2] at h3
      rw [h3, HTS.out, hs.out]
    · obtain rfl : k = 4 := by omega
      have e4 : ys.take 4 = ys := List.take_of_length_le (by rw [HY.out]; omega)
      rw [e4]
      have hbb : be ys = (ofN xs : Int) ∨ be ys ≠ (ofN xs : Int) := Decidable.em _
      rcases hbb with hbb | hbb
      · rw [hbb]
        have hfin : ∀ e w', (∃ v0_ : Value, e = Ending.returned (.tuple #[v0_, .bool true]) ∧ Kd.R (Kd.int .u8) 5 w' w.heap.size (fun _ => True) v0_ xs ∧ Below w.heap.size w w') → OpenPost w xs ys e w' := by
          intro e w' h
          unfold OpenPost
          rw [if_pos hbb, decide_eq_true hbb]; exact h
        have HFIN := Aside0.mk hfin
        clear hfin hbb e4 hk hlt
        obtain ⟨oN, hoN⟩ : ∃ q : Int, (ofN xs : Int) = q := ⟨_, rfl⟩
        have hofb : 0 ≤ oN ∧ oN ≤ 4294967295 := by have := HOFL.out; omega
        have HON := Aside0.mk hoN
        rw [hoN]
        clear hoN
        go_wp2_with fail
        refine (Of.calls' _ _ _ xs _ HX.out HBX.out (by have := HL.out; omega) HR2.out HC2.out).mono ?_
        rintro e w' ⟨rfl, ⟨nd, rfl⟩⟩
        rw [HON.out]
        go_wp2_with (first | ((with_reducible refine gate_dst (N := 33) rfl ?_); refine Kd.R_lit (Kd.int .u8) (w0 := w) w.heap.size 5 ?hg (N := 33) ?hd (xs := ([] : List Int)) (inner := []) (ok := fun _ => True) (okp := fun _ => True) ?hr ?hp (fun _ hk => hk) trivial (by repeat (first | (with_reducible first | exact HB.out | apply below_alloc | apply pw_below_drewN | apply below_drew1) | exact HB.out)) (below_size (by repeat (first | (with_reducible first | exact HB.out | apply below_alloc | apply pw_below_drewN | apply below_drew1) | exact HB.out))) (by simp) ?_; (case hd => rfl); (case hg => rfl); (case hr => first | (go_simp; done) | (go_simp; rfl)); (case hp => exact (Reps.none _ _)); intro v3 w3 ho hb hg_ hnew_; have n0_ := Aside0.mk ho; have n1_ := Aside0.mk hb; clear HB; have HO1 := n0_; have HB := n1_; clear n0_ n1_ ho hb hg_ hnew_) | ((with_reducible refine gate_builtin (b := .append) (xs := #[.tmp 33, .tmp 36]) rfl ?_); at_builtin; refine Kd.R_append_rows (Kd.int .u8) (w0 := w) w.heap.size rfl (.tmp 33) (.tmp 36) 31 5 (.int .u8 0) 1 rfl Try.underlying31 info5 rfl (by decide) (by omega) _ [] xs _ _ _ (fun _ => True) (fun _ => False) rfl rfl ?aO ?aR (fun _ _ h => h) (fun _ h => h.elim) ?aF ?aB ?aS ?aL ?_; (case aR => exact Kd.C_below HR2.out HB.out); (case aB => exact HB.out); (case aF => exact (fun _ _ => trivial)); (case aO => exact HO1.out); (case aS => exact below_size HB.out); (case aL => simp; omega); intro v4 w4 ho hb hg hat; have n0_ := Aside0.mk hb; have n1_ := Aside0.mk ho; clear HB HO1; have HB := n0_; have HO2 := n1_; clear n0_ n1_ ho hb hg hat))
        go_ret2
        exact HFIN.out _ _ ⟨_, rfl, HO2.out, HB.out⟩
      · have hfin : ∀ e w', (∃ v0_ : Value, e = Ending.returned (.tuple #[v0_, .bool false]) ∧ Kd.R (Kd.int .u8) 5 w' w.heap.size (fun _ => True) v0_ [] ∧ Below w.heap.size w w') → OpenPost w xs ys e w' := by
          intro e w' h
          unfold OpenPost
          rw [if_neg hbb, decide_eq_false hbb]; exact h
        have HFIN := Aside0.mk hfin
        obtain ⟨oN, hoN⟩ : ∃ q : Int, (ofN xs : Int) = q := ⟨_, rfl⟩
        have hofb : 0 ≤ oN ∧ oN ≤ 4294967295 := by have := HOFL.out; omega
        have HON := Aside0.mk hoN
        obtain ⟨bN, hbN⟩ : ∃ q : Int, be ys = q := ⟨_, rfl⟩
        have hbeb : 0 ≤ bN ∧ bN ≤ 4294967295 := by have := HBER.out; omega
        rw [hoN, hbN] at hbb
        have hne : (bN != oN) = true := bne_iff_ne.2 hbb
        have hne2 : (bN == oN) = false := beq_eq_false_iff_ne.2 hbb
        rw [hbN]
        clear hfin e4 hk hlt hoN hbN hbb
        go_wp2_with fail
        refine (Of.calls' _ _ _ xs _ HX.out HBX.out (by have := HL.out; omega) HR2.out HC2.out).mono ?_
        rintro e w' ⟨rfl, ⟨nd, rfl⟩⟩
        rw [HON.out]
        go_wp2_with (first | ((with_reducible refine gate_dst (N := 33) rfl ?_); refine Kd.R_lit (Kd.int .u8) (w0 := w) w.heap.size 5 ?hg (N := 33) ?hd (xs := ([] : List Int)) (inner := []) (ok := fun _ => True) (okp := fun _ => True) ?hr ?hp (fun _ hk => hk) trivial (by repeat (first | (with_reducible first | exact HB.out | apply below_alloc | apply pw_below_drewN | apply below_drew1) | exact HB.out)) (below_size (by repeat (first | (with_reducible first | exact HB.out | apply below_alloc | apply pw_below_drewN | apply below_drew1) | exact HB.out))) (by simp) ?_; (case hd => rfl); (case hg => rfl); (case hr => first | (go_simp; done) | (go_simp; rfl)); (case hp => exact (Reps.none _ _)); intro v3 w3 ho hb hg_ hnew_; have n0_ := Aside0.mk ho; have n1_ := Aside0.mk hb; clear HB; have HO1 := n0_; have HB := n1_; clear n0_ n1_ ho hb hg_ hnew_) | ((with_reducible refine gate_builtin (b := .append) (xs := #[.tmp 33, .tmp 36]) rfl ?_); at_builtin; refine Kd.R_append_rows (Kd.int .u8) (w0 := w) w.heap.size rfl (.tmp 33) (.tmp 36) 31 5 (.int .u8 0) 1 rfl Try.underlying31 info5 rfl (by decide) (by omega) _ [] xs _ _ _ (fun _ => True) (fun _ => False) rfl rfl ?aO ?aR (fun _ _ h => h) (fun _ h => h.elim) ?aF ?aB ?aS ?aL ?_; (case aR => exact Kd.C_below HR2.out HB.out); (case aB => exact HB.out); (case aF => exact (fun _ _ => trivial)); (case aO => exact HO1.out); (case aS => exact below_size HB.out); (case aL => simp; omega); intro v4 w4 ho hb hg hat; have n0_ := Aside0.mk hb; have n1_ := Aside0.mk ho; clear HB HO1; have HB := n0_; have HO2 := n1_; clear n0_ n1_ ho hb hg hat))
        go_ret2
        exact HFIN.out _ _ ⟨_, rfl, Kd.R_nil _ _ _ _ _, (by repeat (first | (with_reducible first | exact HB.out | apply below_alloc | apply pw_below_drewN | apply below_drew1) | exact HB.out))⟩
theorem Open.calls' (A : Option Addr) (c n : Nat) (l : List Int) (w : World) (hn : l.length = n) (hb : Bytes l) (hm : n ≤ 100004) (hr : Kd.C (Kd.int .u8) w A n l) (hc : n ≤ c) :
    Calls Try.prog 28 #[.slice A n c] w fun e w' => ∃ v0_ : Value, e = .returned (.tuple #[v0_, .bool (openF l).2]) ∧ Kd.R (Kd.int .u8) 5 w' w.heap.size (fun _ => True) v0_ (openF l).1 ∧ Below w.heap.size w w' := by
  by_cases h4 : n < 4
  · refine (Open.short A c n w h4).mono ?_
    rintro e w' ⟨rfl, rfl⟩
    have e1 : openF l = ([], false) := by unfold openF; rw [if_pos (by omega)]
    rw [e1]
    exact ⟨_, rfl, Kd.R_nil _ _ _ _ _, Below.refl _ _⟩
  · obtain ⟨m, rfl⟩ : ∃ m, n = m + 4 := ⟨n - 4, by omega⟩
    have hs : l.take m ++ l.drop m = l := List.take_append_drop _ _
    have h1 : (l.take m).length = m := by rw [List.length_take]; omega
    have h2 : (l.drop m).length = 4 := by rw [List.length_drop]; omega
    refine (Open.long A c m (l.take m) (l.drop m) w h1 h2 (by rw [hs, hn]; exact hr) (by rw [hs, hn]; exact hc) (by omega) (fun x hx => hb x (List.mem_of_mem_take hx)) (fun x hx => hb x (List.mem_of_mem_drop hx))).mono ?_
    rintro e w' h
    unfold OpenPost at h
    have e1 : openF l = (if be (l.drop m) = (ofN (l.take m) : Int) then l.take m else [], decide (be (l.drop m) = (ofN (l.take m) : Int))) := by
      unfold openF
      rw [if_neg (by omega), show l.length - 4 = m from by omega]
      by_cases c : be (l.drop m) = (ofN (l.take m) : Int)
      · rw [if_pos c, if_pos c, decide_eq_true c]
      · rw [if_neg c, if_neg c, decide_eq_false c]
    rw [e1]; exact h
end Go.Proofs.Ytenaggpgblaalaa.Stamp
