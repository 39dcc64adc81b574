/- A law's slice of Do, as it is read, is a list of Do in the model's cells. No condition. -/
import Derived.Test.YtenaggpgblaalaaPTimerPlaysx0
import Derived.Deep.Slices
import Derived.ChangeSame
import Derived.StringKeys
import Derived.ChangeOld
namespace Go.Proofs.Ytenaggpgblaalaa.DoRead
open Go.RowKit Go.Proofs.Ytenaggpgblaalaa.PTimerPlays Go.Proofs.YtenaggpgblaalaaW.PrintWords
open Go.Deep Go.ChangeShapes Go.WideShapes
set_option linter.unusedVariables false

theorem cells75 : Try.prog.cellsOf 75 = 3 := by kernel_rfl
theorem cells3 : Try.prog.cellsOf 3 = 1 := by kernel_rfl
theorem cells9 : Try.prog.cellsOf 9 = 1 := by kernel_rfl
set_option maxRecDepth 100000 in
set_option maxHeartbeats 1000000 in
theorem open_dos {H : Type} {enc : TypeId × Value → H} {w : World} {base : Nat} {spare : Nat → Bool} {held : Bool} {fuel : Nat} {cs : List Value} {x : DataW H × List MemPlace} (h : DataW.trod enc Try.prog w base spare held fuel 66 cs = some x) :
    ∃ (a : Option Addr) (len cap : Nat) (l : List S75), cs = [.slice a len cap] ∧ l.length = len ∧ len ≤ cap ∧ Kd.C k75 w a len l := by
  rcases open_slice Try.underlying66 h with ⟨rfl, _⟩ | ⟨a, len, cap, m, n, D, Pl, rfl, hb, hl, hm, hmm, _, hx⟩
  · exact ⟨none, 0, 0, [], rfl, rfl, Nat.le_refl _, rfl, by omega, fun h => by omega⟩
  · have hlm : len ≤ m := by rw [hmm]; split <;> omega
    have each : ∀ i, ∃ y : S75, i < len → ∀ j u, ([.int .i64 y.f0, .string y.f1, .int .i64 y.f2] : List Value)[j]? = some u → w.cell? (a.add (i * 3 + j)) = some u := by
      intro i
      by_cases hi : i < len
      · obtain ⟨cs', h1, h2⟩ := hx i (by omega)
        rw [cells75] at h1
        obtain ⟨_, hlen, hcell⟩ := World.cells?_some h1
        obtain ⟨xs, k, hk, hxy, _, hxl, hf⟩ := DataW.trod_struct Try.underlying75 h2
        match xs, hxl, cs', hlen with
        | [y0, y1, y2], _, [v0, v1, v2], _ =>
          have f0 := hf 0 _ rfl
          have f1 := hf 1 _ rfl
          have f2 := hf 2 _ rfl
          obtain ⟨n0, e0, _, _⟩ := DataW.trod_int Try.underlying3 f0
          obtain ⟨s1, e1, _, _⟩ := DataW.trod_string Try.underlying9 f1
          obtain ⟨n2, e2, _, _⟩ := DataW.trod_int Try.underlying3 f2
          have d0 : List.take (Try.prog.cellsOf 3) (List.drop 0 [v0, v1, v2]) = [Value.int .i64 n0] := e0
          have d1 : List.take (Try.prog.cellsOf 9) (List.drop 1 [v0, v1, v2]) = [Value.string s1] := e1
          have d2 : List.take (Try.prog.cellsOf 3) (List.drop 2 [v0, v1, v2]) = [Value.int .i64 n2] := e2
          rw [cells3] at d0 d2
          rw [cells9] at d1
          have e0' : [v0] = [Value.int .i64 n0] := d0
          have e1' : [v1] = [Value.string s1] := d1
          have e2' : [v2] = [Value.int .i64 n2] := d2
          clear e0 e1 e2
          refine ⟨⟨n0, s1, n2⟩, fun _ j u hj => ?_⟩
          have hj3 : j < 3 := (List.getElem?_eq_some_iff.1 hj).1
          have hc := hcell j hj3
          rw [Addr.add_add] at hc
          rw [hc, ← hj]
          injection e0' with e0'
          injection e1' with e1'
          injection e2' with e2'
          rw [e0', e1', e2']
      · exact ⟨z75, fun h => absurd h hi⟩
    refine ⟨some a, len, cap, (List.range len).map (fun i => (each i).choose), rfl, by simp, hl, by simp, by unfold maxLen at hm; omega, fun _ => ⟨a, rfl, ?_⟩⟩
    intro j p hj
    rw [List.getElem?_map] at hj
    obtain ⟨i, hi, rfl⟩ := Option.map_eq_some_iff.1 hj
    obtain ⟨hjl, hji⟩ := List.getElem?_eq_some_iff.1 hi
    rw [List.getElem_range] at hji
    subst hji
    have hjl2 : j < len := by simpa using hjl
    exact ⟨_, rfl, k75_mk w _, (each j).choose_spec hjl2⟩
end Go.Proofs.Ytenaggpgblaalaa.DoRead
