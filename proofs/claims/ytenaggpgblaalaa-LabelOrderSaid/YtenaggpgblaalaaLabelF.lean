/- The contract of label's Compare. Condition: two texts of at most 2^46 bytes. -/
import Derived.Test.YtenaggpgblaalaaLabelD
import Derived.Laws.IdiomStrings
namespace Go.Proofs.Ytenaggpgblaalaa.Label
open Go.RowKit Go.Proofs.Ytenaggpgblaalaa.PLabelReads Go.Proofs.YtenaggpgblaalaaW.PrintWords Go.Proofs.YtenaggpgblaalaaW.PrintLast Go.Proofs.YtenaggpgblaalaaW.PrintMore
open PlainRune
set_option linter.unusedVariables false
set_option linter.unusedSimpArgs false

theorem runesFrom_eq (s : ByteArray) (f : Nat) : ∀ (p : Nat) (acc : Array Value), Conv.runesFrom s f p acc = acc ++ ((rfrom s f p).map (Value.int .i32)).toArray := by
  induction f with
  | zero => intro p acc; simp [Conv.runesFrom, rfrom]
  | succ f ih =>
    intro p acc
    unfold Conv.runesFrom rfrom
    split
    · show Conv.runesFrom s f (nxt s p) (acc.push (.int .i32 (rn s p))) = _
      rw [ih]
      simp
    · simp
theorem conv_runes (w : World) (s : ByteArray) (hs : s.size ≤ 70368744177664) : ∃ cap C, (convert 9 100 (.string s)).run Try.prog w = .ok (.slice (some ⟨w.heap.size, 0, none⟩) (runes s).length cap) (w.drew.alloc (.cells C 21)) ∧ ∀ i : Nat, i < (runes s).length → C[i]? = some (.int .i32 (rd (runes s) (i : Int))) := by
  have h := run_runes_of_string (P := Try.prog) w 9 100 21 s Try.underlying9 Try.underlying100 Try.underlying21 (by have := size_runesFrom s s.size 0 #[]; simp at this; omega)
  have e : Conv.runesFrom s s.size 0 #[] = ((runes s).map (Value.int .i32)).toArray := by rw [runesFrom_eq]; simp [runes]
  have e2 : (Conv.runesFrom s s.size 0 #[]).size = (runes s).length := by rw [e]; simp
  rw [e2] at h
  refine ⟨_, _, h, ?_⟩
  intro i hi
  rw [e, Array.getElem?_append_left (by simpa using hi), rd_nat _ _ hi]
  simp [hi]
theorem cmp_cc (x y : Int) (a b : List Int) : cmp (x :: a) (y :: b) = if x < y then -1 else if y < x then 1 else cmp a b := rfl
set_option maxHeartbeats 1000000 in
set_option maxRecDepth 100000 in
theorem Compare.calls (a b : ByteArray) (w : World) (ha : a.size ≤ 1048576) (hb : b.size ≤ 1048576) :
    Calls Try.prog 60 #[.string a, .string b] w fun e w' => e = .returned (.int .i64 (cmp (runes a) (runes b))) ∧ Below w.heap.size w w' := by
  obtain ⟨capa, Ca, hca, ra⟩ := conv_runes w a (by omega)
  obtain ⟨capb, Cb, hcb, rb⟩ := conv_runes (w.drew.alloc (.cells Ca 21)) b (by omega)
  rw [show (w.drew.alloc (.cells Ca 21)).heap.size = w.heap.size + 1 from by simp only [World.alloc, Array.size_push]; rfl] at hcb
  have hla : (runes a).length ≤ 1048576 := by have := runes_le a; omega
  have hlb : (runes b).length ≤ 1048576 := by have := runes_le b; omega
  obtain ⟨la, hea⟩ : ∃ l, l = runes a := ⟨_, rfl⟩
  obtain ⟨lb, heb⟩ : ∃ l, l = runes b := ⟨_, rfl⟩
  rw [← hea] at hca ra hla
  rw [← heb] at hcb rb hlb
  obtain ⟨W2, hW2⟩ : ∃ W2, W2 = (w.drew.alloc (.cells Ca 21)).drew.alloc (.cells Cb 21) := ⟨_, rfl⟩
  rw [← hW2] at hcb
  have hcb2 : (convert 9 100 (.string b)).run Try.prog (w.alloc (.cells Ca 21)).drew = .ok (.slice (some ⟨w.heap.size + 1, 0, none⟩) lb.length capb) W2 := hcb
  have rca : ∀ i : Nat, i < la.length → W2.cell? ⟨w.heap.size, i, none⟩ = some (.int .i32 (rd la (i : Int))) := fun i h1 => by
    rw [hW2]
    refine (blk_cell (blk_alloc (blk_drew (blk_new w.drew (.cells Ca 21))) (.cells Cb 21)) i).trans ?_
    exact ra i h1
  have rcb : ∀ i : Nat, i < lb.length → W2.cell? ⟨w.heap.size + 1, i, none⟩ = some (.int .i32 (rd lb (i : Int))) := fun i h3 => by
    have e : w.heap.size + 1 = (w.drew.alloc (.cells Ca 21)).drew.heap.size := by
      show _ = (w.drew.heap.push _).size
      rw [Array.size_push]; rfl
    rw [e, hW2]
    refine (blk_cell (blk_new ((w.drew.alloc (.cells Ca 21)).drew) (.cells Cb 21)) i).trans ?_
    exact rb i h3
  have hB : Below w.heap.size w W2 := by rw [hW2]; exact below_alloc (below_drew (below_alloc (below_drew (Below.refl _ _)) _)) _
  have HB := Aside0.mk hB
  clear hcb hW2 hB
  have HEA := Aside0.mk hea
  have HEB := Aside0.mk heb
  have HRA := Aside0.mk rca
  have HRB := Aside0.mk rcb
  clear hea heb ra rb rca rcb
  go_enter Try.func60, Try.ntmps60
  go_wp2
  go_loopw [15] (fun iv w' => ∃ (i : Nat), iv = .int .i64 (i : Int) ∧ w' = W2 ∧ Aside0 (cmp (la.drop i) (lb.drop i) = cmp la lb) ∧ i ≤ la.length ∧ i ≤ lb.length) (fun iv _ => la.length - (intOf iv).toNat)
  case atStart => exact ⟨0, rfl, rfl, ⟨rfl⟩, by omega, by omega⟩
  case round =>
    obtain ⟨i, rfl, rfl, HC, hia, hib⟩ := hrel
    by_cases h1 : i < la.length
    · have d1 : decide ((i : Int) < (la.length : Int)) = true := decide_eq_true (by omega)
      have d1' : decide (i < la.length) = true := decide_eq_true h1
      have ca := HRA.out i h1
      have hc := HC.out
      rw [List.drop_eq_getElem_cons h1, ← rd_nat la i h1] at hc
      generalize rd la (i : Int) = x at ca hc
      by_cases h2 : i = lb.length
      · have d2 : ((i : Int) == (lb.length : Int)) = true := beq_iff_eq.2 (by omega)
        have d2' : (i == lb.length) = true := beq_iff_eq.2 h2
        rw [List.drop_eq_nil_of_le (show lb.length ≤ i by omega)] at hc
        have HC2 := Aside0.mk (show (1 : Int) = cmp la lb from hc)
        clear hc HC h2
        go_wp2
        go_ret
        exact ⟨by rw [← HEA.out, ← HEB.out, ← HC2.out]; rfl, HB.out⟩
      · have d2 : ((i : Int) == (lb.length : Int)) = false := beq_eq_false_iff_ne.2 (by omega)
        have d2' : (i == lb.length) = false := beq_eq_false_iff_ne.2 h2
        have h3 : i < lb.length := by omega
        have cb := HRB.out i h3
        rw [List.drop_eq_getElem_cons h3, ← rd_nat lb i h3] at hc
        generalize rd lb (i : Int) = y at cb hc
        have q1 : (i : Int) < (lb.length : Int) := by omega
        rw [cmp_cc] at hc
        by_cases h4 : x < y
        · rw [if_pos h4] at hc
          have HC2 := Aside0.mk hc
          clear hc HC h2
          go_wp2
          go_ret
          exact ⟨by rw [← HEA.out, ← HEB.out, ← HC2.out]; rfl, HB.out⟩
        · rw [if_neg h4] at hc
          by_cases h5 : y < x
          · rw [if_pos h5] at hc
            have HC2 := Aside0.mk hc
            clear hc HC h2
            go_wp2
            go_ret
            exact ⟨by rw [← HEA.out, ← HEB.out, ← HC2.out]; rfl, HB.out⟩
          · rw [if_neg h5] at hc
            have HC2 := Aside0.mk hc
            clear hc HC h2
            go_wp2
            go_roundw
            case rel => exact ⟨i + 1, by go_num, trivial, HC2, by omega, by omega⟩
            case measure => simp [intOf]; omega
    · have d1 : decide ((i : Int) < (la.length : Int)) = false := decide_eq_false (by omega)
      have d1' : decide (i < la.length) = false := decide_eq_false h1
      have hc := HC.out
      rw [List.drop_eq_nil_of_le (show la.length ≤ i by omega)] at hc
      by_cases h2 : la.length < lb.length
      · have d2 : decide ((la.length : Int) < (lb.length : Int)) = true := decide_eq_true (by omega)
        have d2' : decide (la.length < lb.length) = true := decide_eq_true h2
        rw [List.drop_eq_getElem_cons (show i < lb.length by omega)] at hc
        have HC2 := Aside0.mk (show (-1 : Int) = cmp la lb from hc)
        clear hc HC
        go_wp2
        go_ret
        exact ⟨by rw [← HEA.out, ← HEB.out, ← HC2.out]; rfl, HB.out⟩
      · have d2 : decide ((la.length : Int) < (lb.length : Int)) = false := decide_eq_false (by omega)
        have d2' : decide (la.length < lb.length) = false := decide_eq_false h2
        rw [List.drop_eq_nil_of_le (show lb.length ≤ i by omega)] at hc
        have HC2 := Aside0.mk (show (0 : Int) = cmp la lb from hc)
        clear hc HC
        go_wp2
        go_ret
        exact ⟨by rw [← HEA.out, ← HEB.out, ← HC2.out]; rfl, HB.out⟩
end Go.Proofs.Ytenaggpgblaalaa.Label
