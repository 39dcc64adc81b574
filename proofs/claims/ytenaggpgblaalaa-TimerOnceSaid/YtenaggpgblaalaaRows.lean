/-
  No cell of these rows narrows 'for every input' (looked for: loops, veiled, ifaces, maps, wideKeys, modest, calm, conditions, laid).
  DERIVED. THE GIVEN ROWS OF THIS SEAT. 14 by the template 'for every input the law returns true; each argument reads behind the call as it read before'; 0 by the template 'total and deterministic' (their statements: YtenaggpgblaalaaTotals.lean).
  GIVEN WITH THE SEED: the statements are not yours to turn. If you find one false, say at which input.
  Laid BY PROGRAM, IN A SANDBOX (cutbox-rows.mjs): the forced cells as the released guide's own fill.sh prints them over the translation 648dd604edbbbe11… (all of the seat's roots in one cut). By AI agents, Wed Nov 11 2026. No macro, syntax, notation, axiom, sorry.
-/
import Derived.Test.YtenaggpgblaalaaChecked
import GoSem.Claim
import GoSem.ClaimJoined
import GoSem.ClaimMapViews
import Derived.JoinedTies
import Derived.KernelRfl
namespace Go.Proofs.Ytenaggpgblaalaa
/- THE CELL 'sum', in the pinned program and in every row, IS THE sha256 OF THE DUMP (.gsa) THAT YtenaggpgblaalaaProg.lean LOADS. Nothing in Lean hashes anything: it is a label: what it is worth is what the hold of that sum in a sandbox is worth. -/
noncomputable def Try.pinned : Pinned := { name := "ytenaggpgblaalaa", sum := "648dd604edbbbe11eeb50e1ad7e41ef7888e6300a0ae3981360e4049c2490b13", checked := Try.checked }
namespace Rows
def none {H : Type} : Left H := { results := [], args := [] }

/-- 'compradorlaw04.TickCounts': WHATEVER THE INPUT: true; the input reads as it did. -/
def tickCountsSpec : ChangeSpec := { name := "tickCounts", fn := fun _ => fun
  | [d1, d2, d3] => { results := [.lit (.bool true)], args := [d1, d2, d3] }
  | _ => none }
def tickCountsRow : OpenClaim := { program := "ytenaggpgblaalaa", sum := "648dd604edbbbe11eeb50e1ad7e41ef7888e6300a0ae3981360e4049c2490b13", func := "comprador/compradorlaw04.TickCounts", spec := "tickCounts", apart := false }
def TickCountsSaid : Prop := tickCountsRow.holds Try.pinned (OpenSpec.ofChange tickCountsSpec)

/-- ITS FALSE NEIGHBOUR: 'it returns false'. Refute it at one input. -/
def tickCountsWrong : ChangeSpec := { name := "tickCounts", fn := fun _ => fun
  | [d1, d2, d3] => { results := [.lit (.bool false)], args := [d1, d2, d3] }
  | _ => none }
def TickCountsWrongFalsely : Prop := tickCountsRow.holds Try.pinned (OpenSpec.ofChange tickCountsWrong)

/-- 'compradorlaw04.TickRises': WHATEVER THE INPUT: true; the input reads as it did. -/
def tickRisesSpec : ChangeSpec := { name := "tickRises", fn := fun _ => fun
  | [d1, d2, d3] => { results := [.lit (.bool true)], args := [d1, d2, d3] }
  | _ => none }
def tickRisesRow : OpenClaim := { program := "ytenaggpgblaalaa", sum := "648dd604edbbbe11eeb50e1ad7e41ef7888e6300a0ae3981360e4049c2490b13", func := "comprador/compradorlaw04.TickRises", spec := "tickRises", apart := false }
def TickRisesSaid : Prop := tickRisesRow.holds Try.pinned (OpenSpec.ofChange tickRisesSpec)

/-- ITS FALSE NEIGHBOUR: 'it returns false'. Refute it at one input. -/
def tickRisesWrong : ChangeSpec := { name := "tickRises", fn := fun _ => fun
  | [d1, d2, d3] => { results := [.lit (.bool false)], args := [d1, d2, d3] }
  | _ => none }
def TickRisesWrongFalsely : Prop := tickRisesRow.holds Try.pinned (OpenSpec.ofChange tickRisesWrong)

/-- 'compradorlaw02.StampSums': WHATEVER THE INPUT: true; the input reads as it did. -/
def stampSumsSpec : ChangeSpec := { name := "stampSums", fn := fun _ => fun
  | [d] => { results := [.lit (.bool true)], args := [d] }
  | _ => none }
def stampSumsRow : OpenClaim := { program := "ytenaggpgblaalaa", sum := "648dd604edbbbe11eeb50e1ad7e41ef7888e6300a0ae3981360e4049c2490b13", func := "comprador/compradorlaw02.StampSums", spec := "stampSums", apart := false }
def StampSumsSaid : Prop := stampSumsRow.holds Try.pinned (OpenSpec.ofChange stampSumsSpec)

/-- ITS FALSE NEIGHBOUR: 'it returns false'. Refute it at one input. -/
def stampSumsWrong : ChangeSpec := { name := "stampSums", fn := fun _ => fun
  | [d] => { results := [.lit (.bool false)], args := [d] }
  | _ => none }
def StampSumsWrongFalsely : Prop := stampSumsRow.holds Try.pinned (OpenSpec.ofChange stampSumsWrong)

/-- 'compradorlaw02.StampGoes': WHATEVER THE INPUT: true; the input reads as it did. -/
def stampGoesSpec : ChangeSpec := { name := "stampGoes", fn := fun _ => fun
  | [d1, d2] => { results := [.lit (.bool true)], args := [d1, d2] }
  | _ => none }
def stampGoesRow : OpenClaim := { program := "ytenaggpgblaalaa", sum := "648dd604edbbbe11eeb50e1ad7e41ef7888e6300a0ae3981360e4049c2490b13", func := "comprador/compradorlaw02.StampGoes", spec := "stampGoes", apart := false }
def StampGoesSaid : Prop := stampGoesRow.holds Try.pinned (OpenSpec.ofChange stampGoesSpec)

/-- ITS FALSE NEIGHBOUR: 'it returns false'. Refute it at one input. -/
def stampGoesWrong : ChangeSpec := { name := "stampGoes", fn := fun _ => fun
  | [d1, d2] => { results := [.lit (.bool false)], args := [d1, d2] }
  | _ => none }
def StampGoesWrongFalsely : Prop := stampGoesRow.holds Try.pinned (OpenSpec.ofChange stampGoesWrong)

/-- 'compradorlaw02.StampTurned': WHATEVER THE INPUT: true; the input reads as it did. -/
def stampTurnedSpec : ChangeSpec := { name := "stampTurned", fn := fun _ => fun
  | [d1, d2, d3] => { results := [.lit (.bool true)], args := [d1, d2, d3] }
  | _ => none }
def stampTurnedRow : OpenClaim := { program := "ytenaggpgblaalaa", sum := "648dd604edbbbe11eeb50e1ad7e41ef7888e6300a0ae3981360e4049c2490b13", func := "comprador/compradorlaw02.StampTurned", spec := "stampTurned", apart := false }
def StampTurnedSaid : Prop := stampTurnedRow.holds Try.pinned (OpenSpec.ofChange stampTurnedSpec)

/-- ITS FALSE NEIGHBOUR: 'it returns false'. Refute it at one input. -/
def stampTurnedWrong : ChangeSpec := { name := "stampTurned", fn := fun _ => fun
  | [d1, d2, d3] => { results := [.lit (.bool false)], args := [d1, d2, d3] }
  | _ => none }
def StampTurnedWrongFalsely : Prop := stampTurnedRow.holds Try.pinned (OpenSpec.ofChange stampTurnedWrong)

/-- 'compradorlaw33.BackoffWaits': WHATEVER THE INPUT: true; the input reads as it did. -/
def backoffWaitsSpec : ChangeSpec := { name := "backoffWaits", fn := fun _ => fun
  | [d1, d2, d3] => { results := [.lit (.bool true)], args := [d1, d2, d3] }
  | _ => none }
def backoffWaitsRow : OpenClaim := { program := "ytenaggpgblaalaa", sum := "648dd604edbbbe11eeb50e1ad7e41ef7888e6300a0ae3981360e4049c2490b13", func := "comprador/compradorlaw33.BackoffWaits", spec := "backoffWaits", apart := false }
def BackoffWaitsSaid : Prop := backoffWaitsRow.holds Try.pinned (OpenSpec.ofChange backoffWaitsSpec)

/-- ITS FALSE NEIGHBOUR: 'it returns false'. Refute it at one input. -/
def backoffWaitsWrong : ChangeSpec := { name := "backoffWaits", fn := fun _ => fun
  | [d1, d2, d3] => { results := [.lit (.bool false)], args := [d1, d2, d3] }
  | _ => none }
def BackoffWaitsWrongFalsely : Prop := backoffWaitsRow.holds Try.pinned (OpenSpec.ofChange backoffWaitsWrong)

/-- 'compradorlaw33.BackoffRises': WHATEVER THE INPUT: true; the input reads as it did. -/
def backoffRisesSpec : ChangeSpec := { name := "backoffRises", fn := fun _ => fun
  | [d1, d2, d3] => { results := [.lit (.bool true)], args := [d1, d2, d3] }
  | _ => none }
def backoffRisesRow : OpenClaim := { program := "ytenaggpgblaalaa", sum := "648dd604edbbbe11eeb50e1ad7e41ef7888e6300a0ae3981360e4049c2490b13", func := "comprador/compradorlaw33.BackoffRises", spec := "backoffRises", apart := false }
def BackoffRisesSaid : Prop := backoffRisesRow.holds Try.pinned (OpenSpec.ofChange backoffRisesSpec)

/-- ITS FALSE NEIGHBOUR: 'it returns false'. Refute it at one input. -/
def backoffRisesWrong : ChangeSpec := { name := "backoffRises", fn := fun _ => fun
  | [d1, d2, d3] => { results := [.lit (.bool false)], args := [d1, d2, d3] }
  | _ => none }
def BackoffRisesWrongFalsely : Prop := backoffRisesRow.holds Try.pinned (OpenSpec.ofChange backoffRisesWrong)

/-- 'compradorlaw27.PaceSums': WHATEVER THE INPUT: true; the input reads as it did. -/
def paceSumsSpec : ChangeSpec := { name := "paceSums", fn := fun _ => fun
  | [d1, d2] => { results := [.lit (.bool true)], args := [d1, d2] }
  | _ => none }
def paceSumsRow : OpenClaim := { program := "ytenaggpgblaalaa", sum := "648dd604edbbbe11eeb50e1ad7e41ef7888e6300a0ae3981360e4049c2490b13", func := "comprador/compradorlaw27.PaceSums", spec := "paceSums", inPlace := ["sync/atomic.AddInt64", "sync/atomic.LoadInt64"], apart := false }
def PaceSumsSaid : Prop := paceSumsRow.holds Try.pinned (OpenSpec.ofChange paceSumsSpec)

/-- ITS FALSE NEIGHBOUR: 'it returns false'. Refute it at one input. -/
def paceSumsWrong : ChangeSpec := { name := "paceSums", fn := fun _ => fun
  | [d1, d2] => { results := [.lit (.bool false)], args := [d1, d2] }
  | _ => none }
def PaceSumsWrongFalsely : Prop := paceSumsRow.holds Try.pinned (OpenSpec.ofChange paceSumsWrong)

/-- 'compradorlaw03.LabelReads': WHATEVER THE INPUT: true; the input reads as it did. -/
def labelReadsSpec : ChangeSpec := { name := "labelReads", fn := fun _ => fun
  | [d1, d2] => { results := [.lit (.bool true)], args := [d1, d2] }
  | _ => none }
def labelReadsRow : OpenClaim := { program := "ytenaggpgblaalaa", sum := "648dd604edbbbe11eeb50e1ad7e41ef7888e6300a0ae3981360e4049c2490b13", func := "comprador/compradorlaw03.LabelReads", spec := "labelReads", apart := false }
def LabelReadsSaid : Prop := labelReadsRow.holds Try.pinned (OpenSpec.ofChange labelReadsSpec)

/-- ITS FALSE NEIGHBOUR: 'it returns false'. Refute it at one input. -/
def labelReadsWrong : ChangeSpec := { name := "labelReads", fn := fun _ => fun
  | [d1, d2] => { results := [.lit (.bool false)], args := [d1, d2] }
  | _ => none }
def LabelReadsWrongFalsely : Prop := labelReadsRow.holds Try.pinned (OpenSpec.ofChange labelReadsWrong)

/-- 'compradorlaw27.PaceNotes': WHATEVER THE INPUT: true; the input reads as it did. -/
def paceNotesSpec : ChangeSpec := { name := "paceNotes", fn := fun _ => fun
  | [d1, d2, d3] => { results := [.lit (.bool true)], args := [d1, d2, d3] }
  | _ => none }
def paceNotesRow : OpenClaim := { program := "ytenaggpgblaalaa", sum := "648dd604edbbbe11eeb50e1ad7e41ef7888e6300a0ae3981360e4049c2490b13", func := "comprador/compradorlaw27.PaceNotes", spec := "paceNotes", inPlace := ["sync/atomic.AddInt64", "sync/atomic.LoadInt64"], apart := false }
def PaceNotesSaid : Prop := paceNotesRow.holds Try.pinned (OpenSpec.ofChange paceNotesSpec)

/-- ITS FALSE NEIGHBOUR: 'it returns false'. Refute it at one input. -/
def paceNotesWrong : ChangeSpec := { name := "paceNotes", fn := fun _ => fun
  | [d1, d2, d3] => { results := [.lit (.bool false)], args := [d1, d2, d3] }
  | _ => none }
def PaceNotesWrongFalsely : Prop := paceNotesRow.holds Try.pinned (OpenSpec.ofChange paceNotesWrong)

/-- 'compradorlaw03.LabelStands': WHATEVER THE INPUT: true; the input reads as it did. -/
def labelStandsSpec : ChangeSpec := { name := "labelStands", fn := fun _ => fun
  | [d1, d2] => { results := [.lit (.bool true)], args := [d1, d2] }
  | _ => none }
def labelStandsRow : OpenClaim := { program := "ytenaggpgblaalaa", sum := "648dd604edbbbe11eeb50e1ad7e41ef7888e6300a0ae3981360e4049c2490b13", func := "comprador/compradorlaw03.LabelStands", spec := "labelStands", apart := false }
def LabelStandsSaid : Prop := labelStandsRow.holds Try.pinned (OpenSpec.ofChange labelStandsSpec)

/-- ITS FALSE NEIGHBOUR: 'it returns false'. Refute it at one input. -/
def labelStandsWrong : ChangeSpec := { name := "labelStands", fn := fun _ => fun
  | [d1, d2] => { results := [.lit (.bool false)], args := [d1, d2] }
  | _ => none }
def LabelStandsWrongFalsely : Prop := labelStandsRow.holds Try.pinned (OpenSpec.ofChange labelStandsWrong)

/-- 'compradorlaw03.LabelOrder': WHATEVER THE INPUT: true; the input reads as it did. -/
def labelOrderSpec : ChangeSpec := { name := "labelOrder", fn := fun _ => fun
  | [d1, d2, d3] => { results := [.lit (.bool true)], args := [d1, d2, d3] }
  | _ => none }
def labelOrderRow : OpenClaim := { program := "ytenaggpgblaalaa", sum := "648dd604edbbbe11eeb50e1ad7e41ef7888e6300a0ae3981360e4049c2490b13", func := "comprador/compradorlaw03.LabelOrder", spec := "labelOrder", apart := false }
def LabelOrderSaid : Prop := labelOrderRow.holds Try.pinned (OpenSpec.ofChange labelOrderSpec)

/-- ITS FALSE NEIGHBOUR: 'it returns false'. Refute it at one input. -/
def labelOrderWrong : ChangeSpec := { name := "labelOrder", fn := fun _ => fun
  | [d1, d2, d3] => { results := [.lit (.bool false)], args := [d1, d2, d3] }
  | _ => none }
def LabelOrderWrongFalsely : Prop := labelOrderRow.holds Try.pinned (OpenSpec.ofChange labelOrderWrong)

/-- 'compradorlaw34.TimerPlays': WHATEVER THE INPUT: true; the input reads as it did. -/
def timerPlaysSpec : ChangeSpec := { name := "timerPlays", fn := fun _ => fun
  | [d] => { results := [.lit (.bool true)], args := [d] }
  | _ => none }
def timerPlaysRow : OpenClaim := { program := "ytenaggpgblaalaa", sum := "648dd604edbbbe11eeb50e1ad7e41ef7888e6300a0ae3981360e4049c2490b13", func := "comprador/compradorlaw34.TimerPlays", spec := "timerPlays", apart := false }
def TimerPlaysSaid : Prop := timerPlaysRow.holds Try.pinned (OpenSpec.ofChange timerPlaysSpec)

/-- ITS FALSE NEIGHBOUR: 'it returns false'. Refute it at one input. -/
def timerPlaysWrong : ChangeSpec := { name := "timerPlays", fn := fun _ => fun
  | [d] => { results := [.lit (.bool false)], args := [d] }
  | _ => none }
def TimerPlaysWrongFalsely : Prop := timerPlaysRow.holds Try.pinned (OpenSpec.ofChange timerPlaysWrong)

/-- 'compradorlaw34.TimerOnce': WHATEVER THE INPUT: true; the input reads as it did. -/
def timerOnceSpec : ChangeSpec := { name := "timerOnce", fn := fun _ => fun
  | [d1, d2] => { results := [.lit (.bool true)], args := [d1, d2] }
  | _ => none }
def timerOnceRow : OpenClaim := { program := "ytenaggpgblaalaa", sum := "648dd604edbbbe11eeb50e1ad7e41ef7888e6300a0ae3981360e4049c2490b13", func := "comprador/compradorlaw34.TimerOnce", spec := "timerOnce", apart := false }
def TimerOnceSaid : Prop := timerOnceRow.holds Try.pinned (OpenSpec.ofChange timerOnceSpec)

/-- ITS FALSE NEIGHBOUR: 'it returns false'. Refute it at one input. -/
def timerOnceWrong : ChangeSpec := { name := "timerOnce", fn := fun _ => fun
  | [d1, d2] => { results := [.lit (.bool false)], args := [d1, d2] }
  | _ => none }
def TimerOnceWrongFalsely : Prop := timerOnceRow.holds Try.pinned (OpenSpec.ofChange timerOnceWrong)

/- THE SECOND FORM. 'bulk': how many values and letters a reading holds, each counted each time it is reached (what is shared counts as often as it is met; a slice's spare places count too). A statement '..UptoSaid' is the law's where the arguments, and the package variables that the reading takes, are together of bulk at most 1048576: NARROWER than '..Said'. Prove '..Said' where nothing that the law and all that it calls make is longer than what came in: it says more and counts as full. Else prove '..UptoSaid'. A law counts once. -/
mutual
def uptoBulk {H : Type} : DataW H → Nat
  | .lit (.string bytes) => bytes.length + 1
  | .lit _ => 1
  | .nil => 1
  | .ptr d => uptoBulk d + 1
  | .slice elems spare => uptoBulkAll elems + uptoBulkAll spare + 1
  | .agg parts => uptoBulkAll parts + 1
  | .iface _ d => uptoBulk d + 1
  | .map entries => uptoBulkEntries entries + 1
  | .held _ => 1
def uptoBulkAll {H : Type} : List (DataW H) → Nat
  | [] => 0
  | d :: r => uptoBulk d + uptoBulkAll r
def uptoBulkEntries {H : Type} : List (Lit × DataW H) → Nat
  | [] => 0
  | x :: r => uptoBulkEntry x + uptoBulkEntries r
def uptoBulkEntry {H : Type} : Lit × DataW H → Nat
  | (.string bytes, d) => bytes.length + uptoBulk d + 1
  | (_, d) => uptoBulk d + 1
 end
def uptoSmall : (H : Type) → List (DataW H) → Bool := fun _ ds => decide (uptoBulkAll ds ≤ 1048576)
def OpenSpec.upto (s : _root_.Go.ChangeSpec) : _root_.Go.OpenSpec := { _root_.Go.OpenSpec.ofChange s with cond := some uptoSmall }

/-- 'compradorlaw04.TickCounts', WHERE WHAT IT READS IS OF BULK AT MOST 1048576: true; the input reads as it did. -/
def tickCountsUptoRow : OpenClaim := { program := "ytenaggpgblaalaa", sum := "648dd604edbbbe11eeb50e1ad7e41ef7888e6300a0ae3981360e4049c2490b13", func := "comprador/compradorlaw04.TickCounts", spec := "tickCounts", apart := false, narrowed := true }
def TickCountsUptoSaid : Prop := tickCountsUptoRow.holds Try.pinned (OpenSpec.upto tickCountsSpec)

/-- 'compradorlaw04.TickRises', WHERE WHAT IT READS IS OF BULK AT MOST 1048576: true; the input reads as it did. -/
def tickRisesUptoRow : OpenClaim := { program := "ytenaggpgblaalaa", sum := "648dd604edbbbe11eeb50e1ad7e41ef7888e6300a0ae3981360e4049c2490b13", func := "comprador/compradorlaw04.TickRises", spec := "tickRises", apart := false, narrowed := true }
def TickRisesUptoSaid : Prop := tickRisesUptoRow.holds Try.pinned (OpenSpec.upto tickRisesSpec)

/-- 'compradorlaw02.StampSums', WHERE WHAT IT READS IS OF BULK AT MOST 1048576: true; the input reads as it did. -/
def stampSumsUptoRow : OpenClaim := { program := "ytenaggpgblaalaa", sum := "648dd604edbbbe11eeb50e1ad7e41ef7888e6300a0ae3981360e4049c2490b13", func := "comprador/compradorlaw02.StampSums", spec := "stampSums", apart := false, narrowed := true }
def StampSumsUptoSaid : Prop := stampSumsUptoRow.holds Try.pinned (OpenSpec.upto stampSumsSpec)

/-- 'compradorlaw02.StampGoes', WHERE WHAT IT READS IS OF BULK AT MOST 1048576: true; the input reads as it did. -/
def stampGoesUptoRow : OpenClaim := { program := "ytenaggpgblaalaa", sum := "648dd604edbbbe11eeb50e1ad7e41ef7888e6300a0ae3981360e4049c2490b13", func := "comprador/compradorlaw02.StampGoes", spec := "stampGoes", apart := false, narrowed := true }
def StampGoesUptoSaid : Prop := stampGoesUptoRow.holds Try.pinned (OpenSpec.upto stampGoesSpec)

/-- 'compradorlaw02.StampTurned', WHERE WHAT IT READS IS OF BULK AT MOST 1048576: true; the input reads as it did. -/
def stampTurnedUptoRow : OpenClaim := { program := "ytenaggpgblaalaa", sum := "648dd604edbbbe11eeb50e1ad7e41ef7888e6300a0ae3981360e4049c2490b13", func := "comprador/compradorlaw02.StampTurned", spec := "stampTurned", apart := false, narrowed := true }
def StampTurnedUptoSaid : Prop := stampTurnedUptoRow.holds Try.pinned (OpenSpec.upto stampTurnedSpec)

/-- 'compradorlaw33.BackoffWaits', WHERE WHAT IT READS IS OF BULK AT MOST 1048576: true; the input reads as it did. -/
def backoffWaitsUptoRow : OpenClaim := { program := "ytenaggpgblaalaa", sum := "648dd604edbbbe11eeb50e1ad7e41ef7888e6300a0ae3981360e4049c2490b13", func := "comprador/compradorlaw33.BackoffWaits", spec := "backoffWaits", apart := false, narrowed := true }
def BackoffWaitsUptoSaid : Prop := backoffWaitsUptoRow.holds Try.pinned (OpenSpec.upto backoffWaitsSpec)

/-- 'compradorlaw33.BackoffRises', WHERE WHAT IT READS IS OF BULK AT MOST 1048576: true; the input reads as it did. -/
def backoffRisesUptoRow : OpenClaim := { program := "ytenaggpgblaalaa", sum := "648dd604edbbbe11eeb50e1ad7e41ef7888e6300a0ae3981360e4049c2490b13", func := "comprador/compradorlaw33.BackoffRises", spec := "backoffRises", apart := false, narrowed := true }
def BackoffRisesUptoSaid : Prop := backoffRisesUptoRow.holds Try.pinned (OpenSpec.upto backoffRisesSpec)

/-- 'compradorlaw27.PaceSums', WHERE WHAT IT READS IS OF BULK AT MOST 1048576: true; the input reads as it did. -/
def paceSumsUptoRow : OpenClaim := { program := "ytenaggpgblaalaa", sum := "648dd604edbbbe11eeb50e1ad7e41ef7888e6300a0ae3981360e4049c2490b13", func := "comprador/compradorlaw27.PaceSums", spec := "paceSums", inPlace := ["sync/atomic.AddInt64", "sync/atomic.LoadInt64"], apart := false, narrowed := true }
def PaceSumsUptoSaid : Prop := paceSumsUptoRow.holds Try.pinned (OpenSpec.upto paceSumsSpec)

/-- 'compradorlaw03.LabelReads', WHERE WHAT IT READS IS OF BULK AT MOST 1048576: true; the input reads as it did. -/
def labelReadsUptoRow : OpenClaim := { program := "ytenaggpgblaalaa", sum := "648dd604edbbbe11eeb50e1ad7e41ef7888e6300a0ae3981360e4049c2490b13", func := "comprador/compradorlaw03.LabelReads", spec := "labelReads", apart := false, narrowed := true }
def LabelReadsUptoSaid : Prop := labelReadsUptoRow.holds Try.pinned (OpenSpec.upto labelReadsSpec)

/-- 'compradorlaw27.PaceNotes', WHERE WHAT IT READS IS OF BULK AT MOST 1048576: true; the input reads as it did. -/
def paceNotesUptoRow : OpenClaim := { program := "ytenaggpgblaalaa", sum := "648dd604edbbbe11eeb50e1ad7e41ef7888e6300a0ae3981360e4049c2490b13", func := "comprador/compradorlaw27.PaceNotes", spec := "paceNotes", inPlace := ["sync/atomic.AddInt64", "sync/atomic.LoadInt64"], apart := false, narrowed := true }
def PaceNotesUptoSaid : Prop := paceNotesUptoRow.holds Try.pinned (OpenSpec.upto paceNotesSpec)

/-- 'compradorlaw03.LabelStands', WHERE WHAT IT READS IS OF BULK AT MOST 1048576: true; the input reads as it did. -/
def labelStandsUptoRow : OpenClaim := { program := "ytenaggpgblaalaa", sum := "648dd604edbbbe11eeb50e1ad7e41ef7888e6300a0ae3981360e4049c2490b13", func := "comprador/compradorlaw03.LabelStands", spec := "labelStands", apart := false, narrowed := true }
def LabelStandsUptoSaid : Prop := labelStandsUptoRow.holds Try.pinned (OpenSpec.upto labelStandsSpec)

/-- 'compradorlaw03.LabelOrder', WHERE WHAT IT READS IS OF BULK AT MOST 1048576: true; the input reads as it did. -/
def labelOrderUptoRow : OpenClaim := { program := "ytenaggpgblaalaa", sum := "648dd604edbbbe11eeb50e1ad7e41ef7888e6300a0ae3981360e4049c2490b13", func := "comprador/compradorlaw03.LabelOrder", spec := "labelOrder", apart := false, narrowed := true }
def LabelOrderUptoSaid : Prop := labelOrderUptoRow.holds Try.pinned (OpenSpec.upto labelOrderSpec)

/-- 'compradorlaw34.TimerPlays', WHERE WHAT IT READS IS OF BULK AT MOST 1048576: true; the input reads as it did. -/
def timerPlaysUptoRow : OpenClaim := { program := "ytenaggpgblaalaa", sum := "648dd604edbbbe11eeb50e1ad7e41ef7888e6300a0ae3981360e4049c2490b13", func := "comprador/compradorlaw34.TimerPlays", spec := "timerPlays", apart := false, narrowed := true }
def TimerPlaysUptoSaid : Prop := timerPlaysUptoRow.holds Try.pinned (OpenSpec.upto timerPlaysSpec)

/-- 'compradorlaw34.TimerOnce', WHERE WHAT IT READS IS OF BULK AT MOST 1048576: true; the input reads as it did. -/
def timerOnceUptoRow : OpenClaim := { program := "ytenaggpgblaalaa", sum := "648dd604edbbbe11eeb50e1ad7e41ef7888e6300a0ae3981360e4049c2490b13", func := "comprador/compradorlaw34.TimerOnce", spec := "timerOnce", apart := false, narrowed := true }
def TimerOnceUptoSaid : Prop := timerOnceUptoRow.holds Try.pinned (OpenSpec.upto timerOnceSpec)

end Rows
end Go.Proofs.Ytenaggpgblaalaa
