/- The reference's Due: its contract. Condition: at most 1000 names. -/
import Derived.Test.YtenaggpgblaalaaRefXB
namespace Go.Proofs.Ytenaggpgblaalaa.Timer
open Go.RowKit Go.Proofs.Ytenaggpgblaalaa.PTimerPlays Go.Proofs.YtenaggpgblaalaaW.PrintWords Go.Proofs.YtenaggpgblaalaaW.PrintLast Go.Proofs.YtenaggpgblaalaaW.PrintMore
open Plain (wrap_id hold)
set_option linter.unusedVariables false
set_option linter.unusedSimpArgs false

/-- The name of the first one of a tick. -/
def nameX (n : Int) : List S109 → ByteArray
  | [] => ⟨#[]⟩
  | y :: l => if y.f1 = n then y.f0 else nameX n l
def dueX (h : Int) : Nat → List S109 → List ByteArray × List S109
  | 0, M => ([], M)
  | _ + 1, [] => ([], [])
  | f + 1, y :: l => if (nextX (y :: l)).1 ≤ h then (nameX (nextX (y :: l)).1 (y :: l) :: (dueX h f (outX (nameX (nextX (y :: l)).1 (y :: l)) (y :: l))).1, (dueX h f (outX (nameX (nextX (y :: l)).1 (y :: l)) (y :: l))).2) else ([], y :: l)
theorem dueX_cons (h : Int) (f : Nat) (y : S109) (l : List S109) : dueX h (f + 1) (y :: l) = if (nextX (y :: l)).1 ≤ h then (nameX (nextX (y :: l)).1 (y :: l) :: (dueX h f (outX (nameX (nextX (y :: l)).1 (y :: l)) (y :: l))).1, (dueX h f (outX (nameX (nextX (y :: l)).1 (y :: l)) (y :: l))).2) else ([], y :: l) := rfl
theorem fold_mem (l : List S109) : ∀ m : Int, (l.foldl (fun m z => if z.f1 < m then z.f1 else m) m) = m ∨ ∃ z ∈ l, z.f1 = (l.foldl (fun m z => if z.f1 < m then z.f1 else m) m) := by
  induction l with
  | nil => intro m; exact Or.inl rfl
  | cons z l ih =>
    intro m
    rw [List.foldl_cons]
    by_cases h : z.f1 < m
    · rw [if_pos h]
      rcases ih z.f1 with e | ⟨u, hu, e⟩
      · exact Or.inr ⟨z, List.mem_cons_self .., e.symm⟩
      · exact Or.inr ⟨u, List.mem_cons_of_mem _ hu, e⟩
    · rw [if_neg h]
      rcases ih m with e | ⟨u, hu, e⟩
      · exact Or.inl e
      · exact Or.inr ⟨u, List.mem_cons_of_mem _ hu, e⟩
theorem name_mem (n : Int) (M : List S109) : (∃ z ∈ M, z.f1 = n) → ∃ z ∈ M, z.f0 = nameX n M := by
  induction M with
  | nil => rintro ⟨z, hz, _⟩; cases hz
  | cons y l ih =>
    rintro ⟨z, hz, e⟩
    unfold nameX
    by_cases h : y.f1 = n
    · rw [if_pos h]; exact ⟨y, List.mem_cons_self .., rfl⟩
    · rw [if_neg h]
      rcases List.mem_cons.1 hz with rfl | hz
      · exact absurd e h
      · obtain ⟨u, hu, e2⟩ := ih ⟨z, hz, e⟩
        exact ⟨u, List.mem_cons_of_mem _ hu, e2⟩
theorem outX_less (y : S109) (l : List S109) : (outX (nameX (nextX (y :: l)).1 (y :: l)) (y :: l)).length < (y :: l).length := by
  obtain ⟨z, hz, e⟩ := name_mem (nextX (y :: l)).1 (y :: l) (by
    rcases fold_mem l y.f1 with e | ⟨u, hu, e⟩
    · exact ⟨y, List.mem_cons_self .., e.symm⟩
    · exact ⟨u, List.mem_cons_of_mem _ hu, e⟩)
  unfold outX
  exact List.length_filter_lt_length_iff_exists.2 ⟨z, hz, by simp [e]⟩
theorem XM.over {N0 base : Nat} {w w' : World} {g : Nat} {A : Option Addr} {c : Nat} {M : List S109} {v : Value} {xs : List ByteArray} (h : XM N0 w g A c M) (hr : NR w base v xs) (hg : w.grownBy w' v.ownBlock) : XM N0 w' g A c M :=
  ⟨h.hg, blk_grown h.blk hg (Kd.R_ne hr h.blk (by decide)), Kd.R_over h.row hr (by decide) hg⟩
theorem XTurn.over {N0 g : Nat} {w W w' : World} {r : Option Nat} (h : XTurn N0 g w W) (hg : W.grownBy w' r) (hr : ∀ b, r = some b → w.heap.size ≤ b) : XTurn N0 g w w' :=
  ⟨hg.os.trans h.os, hg.tape.trans h.tape, hg.output.trans h.output, Nat.le_trans h.size hg.size, fun k hk hn => (hg.block k (Nat.lt_of_lt_of_le hk h.size) (fun e => by have := hr k e.symm; omega)).trans (h.keep k hk hn)⟩
theorem NR.xturn {N0 base g : Nat} {w w' : World} {v : Value} {xs : List ByteArray} {cs : Array Value} (h : NR w base v xs) (ht : XTurn N0 g w w') (hb : w.heap[g]? = some (.cells cs 73 (0, 0))) : NR w' base v xs := by
  refine Kd.R_move (Kd.R_bound h) ?_ |> (Kd.R_mono · (fun _ _ => trivial))
  intro k hk
  refine ht.keep k hk.2.2.1 ?_
  rintro rfl
  obtain ⟨q, hq, cells, hc⟩ := hk.2.2.2
  have hq2 : q = 9 := by
    have : ∀ q, q ∈ 9 :: Kd.string.E → q = 9 := by decide
    exact this q hq
  subst hq2
  rw [hb] at hc
  simp at hc
section
variable {N0 : Nat} {w : World} {g : Nat}
set_option maxHeartbeats 4000000 in
set_option maxRecDepth 100000 in
theorem XDue.calls {M : List S109} (h : XS N0 w g M) (hM : M.length ≤ 1000) (now : Int) :
    Calls Try.prog 71 #[.pointer (some ⟨g, 0, none⟩), .int .i64 now] w fun e w' => ∃ v, e = .returned v ∧ NR w' w.heap.size v (dueX (hold now) 1001 M).1 ∧ XS N0 w' g (dueX (hold now) 1001 M).2 ∧ XTurn N0 g w w' := by
  have H0 := Aside0.mk h
  have HM := Aside0.mk hM
  clear h hM
  go_enter Try.func71, Try.ntmps71
  go_wp2
  go_loopg [5] 1001 (fun f v5 wr => ∃ (Mr : List S109) (acc : List ByteArray), Aside0 (XS N0 wr g Mr) ∧ Aside0 (Mr.length < f ∧ acc.length + f ≤ 1001) ∧ Aside0 (NR wr w.heap.size v5 acc) ∧ Aside0 (XTurn N0 g w wr) ∧ Aside0 (acc ++ (dueX (hold now) f Mr).1 = (dueX (hold now) 1001 M).1 ∧ (dueX (hold now) f Mr).2 = (dueX (hold now) 1001 M).2))
  case atStart => exact ⟨M, [], H0, ⟨by have := HM.out; omega, by simp⟩, ⟨Kd.R_nil _ _ _ _ _⟩, ⟨XTurn.refl _ _ _⟩, ⟨rfl, rfl⟩⟩
  case round =>
    clear H0 HM
    obtain ⟨Mr, acc, ⟨A, c, hx⟩, HQ, HNR, HT, HD⟩ := hrel
    have H := Aside0.mk hx
    clear hx
    have r0 := H.out.c0
    have rr := (blk_cell H.out.blk 0).trans rfl
    have hml : Mr.length ≤ 100000 := by have := HQ.out; omega
    cases Mr with
    | nil =>
      have hd := HD.out
      have e1 : dueX (hold now) gk [] = ([], []) := by cases gk <;> rfl
      rw [e1, List.append_nil] at hd
      have HD2 := Aside0.mk hd
      clear hd HD
      go_wp2_with fail
      refine (XNext.calls H.out hml).mono ?_
      rintro e w2 ⟨rfl, hb⟩
      rw [show (nextX []).1 = 0 from rfl, show (nextX []).2 = false from rfl]
      have HF := Aside0.mk (And.intro (Kd.R_below HNR.out hb) (And.intro (XS.below ⟨A, c, H.out⟩ hb) (HT.out.trans (XTurn.below hb))))
      clear hb
      go_wp2
      go_ret
      exact ⟨_, rfl, by rw [← HD2.out.1]; exact HF.out.1, by rw [← HD2.out.2]; exact HF.out.2.1, HF.out.2.2⟩
    | cons y l =>
      cases gk with
      | zero => exact absurd HQ.out.1 (by omega)
      | succ f =>
        have hd := HD.out
        rw [dueX_cons] at hd
        have hless := outX_less y l
        have hsec : (nextX (y :: l)).2 = true := rfl
        have hpos : 0 < (y :: l).length := by simp
        have HML := Aside0.mk hml
        obtain ⟨n, hn⟩ : ∃ n, (nextX (y :: l)).1 = n := ⟨_, rfl⟩
        rw [hn] at hd hless
        have HN := Aside0.mk hn
        have HS := Aside0.mk hsec
        have HLS := Aside0.mk hless
        obtain ⟨Mr, hMr⟩ : ∃ Mr, y :: l = Mr := ⟨_, rfl⟩
        rw [hMr] at hd H HN HS HLS HML HQ hpos r0 rr hml
        clear hn hsec hless HD hMr
        by_cases hle : n ≤ hold now
        · rw [if_pos hle] at hd
          have HD2 := Aside0.mk hd
          obtain ⟨hv, hhv⟩ : ∃ v, hold now = v := ⟨_, rfl⟩
          have HHV := Aside0.mk hhv
          rw [hhv] at hle
          have hgt : decide (hv < n) = false := decide_eq_false (by omega)
          clear hd hle hhv
          obtain ⟨A5, c5, rfl⟩ := Kd.R_slice HNR.out
          obtain ⟨gr, rfl⟩ := H.out.form hpos
          go_wp2_with fail
          refine (XNext.calls H.out HML.out).mono ?_
          rintro e w2 ⟨rfl, hb⟩
          rw [HN.out, HS.out]
          have n0_ := Aside0.mk (H.out.below hb)
          have n1_ := Aside0.mk (HT.out.trans (XTurn.below hb))
          have n2_ := Aside0.mk (Kd.R_below HNR.out hb)
          clear H HT HNR hb r0 rr
          have H := n0_
          have HT := n1_
          have HNR := n2_
          clear n0_ n1_ n2_
          go_wp2_with fail
          refine (RHold.calls now w2).mono ?_
          rintro e w3 ⟨rfl, hb⟩
          rw [HHV.out]
          have n0_ := Aside0.mk (H.out.below hb)
          have n1_ := Aside0.mk (HT.out.trans (XTurn.below hb))
          have n2_ := Aside0.mk (Kd.R_below HNR.out hb)
          clear H HT HNR hb
          have H := n0_
          have HT := n1_
          have HNR := n2_
          clear n0_ n1_ n2_
          have r0 := H.out.c0
          have a1 : wrap64 ((Mr.length : Int) - 1) = (Mr.length : Int) - 1 := wrap_id (by omega) (by omega)
          go_wp2
          go_loopw [8, 9] (fun nv iv wr2 => ∃ j : Nat, iv = .int .i64 ((j : Int) - 1) ∧ nv = .string (nameX n (Mr.drop j)) ∧ wr2 = w3 ∧ j ≤ Mr.length) (fun _ iv _ => ((intOf iv) + 1).toNat)
          case atStart => exact ⟨Mr.length, by first | rfl | go_num, by rw [List.drop_length]; rfl, rfl, Nat.le_refl _⟩
          case round =>
            obtain ⟨j, rfl, rfl, rfl, hj⟩ := hrel
            cases j with
            | zero =>
              have e0 : (((0 : Nat) : Int) - 1) = -1 := by omega
              rw [e0, List.drop_zero]
              obtain ⟨nm, hnm⟩ : ∃ x, nameX n Mr = x := ⟨_, rfl⟩
              rw [hnm]
              have HNM := Aside0.mk hnm
              clear hnm
              go_wp2_with (first | ((with_reducible refine gate_builtin (b := .append) (xs := #[.tmp 54, .tmp 56]) rfl ?_); at_builtin; refine Kd.R_append Kd.string (w0 := wr) w.heap.size rfl (.tmp 54) (.tmp 56) 78 9 (.string ⟨#[]⟩) 16 rfl Try.underlying78 info9s rfl (by decide) (by omega) (.slice A5 acc.length c5) acc nm [.string nm] (fun _ => True) (fun _ => False) rfl rfl rfl (fun _ hk => hk.elim) (fun _ _ => trivial) HNR.out (Below.refl _ _) HT.out.size (by have := HQ.out.2; omega) ?_; intro v1 w9 hr9 hb9 hg9 hat9))
              have H9 := Aside0.mk (H.out.over HNR.out hg9)
              have HT9 := Aside0.mk (HT.out.over hg9 (fun b e => Kd.R_base HNR.out b e))
              have HNR9 := Aside0.mk hr9
              clear hr9 hb9 hg9 hat9 H HT HNR r0
              refine (XDrop.calls ⟨_, _, H9.out⟩ HML.out nm).mono ?_
              rintro e w10 ⟨rfl, g1, g2⟩
              have HX := Aside0.mk g1
              have HT := Aside0.mk (HT9.out.trans g2)
              have HNR := Aside0.mk (NR.xturn HNR9.out g2 H9.out.blk)
              clear g1 g2 H9 HT9 HNR9
              go_wp2
              go_roundg f
              case measure => omega
              case rel => exact ⟨outX nm Mr, acc ++ [nm], HX, ⟨by have h1 := HLS.out; rw [HNM.out] at h1; have := HQ.out.1; omega, by have h1 := HQ.out.2; simp; omega⟩, HNR, HT, ⟨by rw [List.append_assoc, ← HNM.out]; exact HD2.out.1, by rw [← HNM.out]; exact HD2.out.2⟩⟩
            | succ j =>
              have e0 : (((j + 1 : Nat) : Int) - 1) = (j : Int) := by omega
              rw [e0]
              have hjl : j < Mr.length := by omega
              obtain ⟨x0, x1⟩ := H.out.at j hjl
              have q1 : (0 : Int) ≤ (j : Int) := by omega
              have q2 : (j : Int) < (Mr.length : Int) := by omega
              have a2 : wrap64 ((j : Int) - 1) = (j : Int) - 1 := wrap_id (by omega) (by omega)
              have hdr : nameX n (Mr.drop j) = if (im Mr j).f1 = n then (im Mr j).f0 else nameX n (Mr.drop (j + 1)) := by
                rw [List.drop_eq_getElem_cons hjl, im_eq Mr j hjl]
                rfl
              by_cases hf : (im Mr j).f1 = n
              · rw [if_pos hf] at hdr
                have e1 : ((im Mr j).f1 == n) = true := beq_iff_eq.2 hf
                have HDR := Aside0.mk hdr
                clear hdr hf
                go_wp2
                go_roundw
                case rel => exact ⟨j, by first | rfl | go_num, by rw [HDR.out], trivial, by omega⟩
                case measure => simp [intOf]; try omega
              · rw [if_neg hf] at hdr
                have e1 : ((im Mr j).f1 == n) = false := beq_eq_false_iff_ne.2 hf
                have HDR := Aside0.mk hdr
                clear hdr hf
                go_wp2
                go_roundw
                case rel => exact ⟨j, by first | rfl | go_num, by rw [HDR.out], trivial, by omega⟩
                case measure => simp [intOf]; try omega
        · rw [if_neg hle] at hd
          have HD2 := Aside0.mk hd
          obtain ⟨hv, hhv⟩ : ∃ v, hold now = v := ⟨_, rfl⟩
          have HHV := Aside0.mk hhv
          rw [hhv] at hle
          have hgt : decide (hv < n) = true := decide_eq_true (by omega)
          clear hd hle hhv
          go_wp2_with fail
          refine (XNext.calls H.out HML.out).mono ?_
          rintro e w2 ⟨rfl, hb⟩
          rw [HN.out, HS.out]
          have n0_ := Aside0.mk (H.out.below hb)
          have n1_ := Aside0.mk (HT.out.trans (XTurn.below hb))
          have n2_ := Aside0.mk (Kd.R_below HNR.out hb)
          clear H HT HNR hb r0 rr
          have H := n0_
          have HT := n1_
          have HNR := n2_
          clear n0_ n1_ n2_
          go_wp2_with fail
          refine (RHold.calls now w2).mono ?_
          rintro e w3 ⟨rfl, hb⟩
          rw [HHV.out]
          have HF := Aside0.mk (And.intro (Kd.R_below HNR.out hb) (And.intro (XS.below ⟨A, c, H.out⟩ hb) (HT.out.trans (XTurn.below hb))))
          clear hb
          go_wp2
          go_ret
          exact ⟨_, rfl, by rw [← HD2.out.1, List.append_nil]; exact HF.out.1, by rw [← HD2.out.2]; exact HF.out.2.1, HF.out.2.2⟩
end
end Go.Proofs.Ytenaggpgblaalaa.Timer
