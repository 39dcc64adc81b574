/- The walk of TopTimes, part 1. No condition but what each theorem names. -/
import Derived.Test.YtceffpgcbihckaaGreatProg
import Derived.Test.YtceffpgcbihckaaGreatX0
import Derived.Below
import Derived.Deep.Draws
import Derived.Deep.AppendLies
import Derived.Maps.AppendAt
import Derived.OwnWalk
import Derived.Laws.BytesArg
import Derived.Laws.MakeOwn
import Derived.Laws.OwnMore
import Derived.Deep.OwnRows
import Derived.Tactics
import Derived.Lib.ConvBytes
import Derived.Laws.Slices
import Derived.WalkKit
import Derived.KernelRfl
import Derived.RowKit3
import Derived.Deep.LoopGhost
import Derived.Deep.QuietTactic
import Derived.BigQuiet
import Derived.WideLaws
import Derived.Deep.DeepCutAuto
import Derived.Deep.CutBlock
import Derived.Deep.RegionHeld3
import Derived.Laws.Rows
import Derived.Lib.AppendStr
import Derived.ArgAppend
import Derived.Laws.IdiomCopy
import Derived.OrdersHeld
import Derived.Laws.BitsLemmas
import Derived.RowKit
import Derived.BigRegion
import Derived.WalkLawsBesides
import Derived.Defers
import Derived.Lib.Strings
import Derived.Maps.OwnSet
import Derived.Shelf.SlIter.Collect
import Derived.Shelf.SlIter.Keys
import Derived.OpenShut
import Derived.Lib.DecodeN
import Derived.Laws.RangeAny
import Derived.Lib.SliceRun
set_option linter.unusedVariables false
set_option linter.unusedSimpArgs false
namespace Go.Proofs.YtceffpgcbihckaaGreat.Base
open Go.RowKit
def errW : Option Int → Value
 | none => .nilIface
 | some c => .iface 0 (.int .i64 c)
theorem errW_none : errW none = .nilIface := rfl
theorem errW_some (c : Int) : errW (some c) = .iface 0 (.int .i64 c) := rfl
theorem infoU8 : (Tryz.prog.info? 5).map (fun i => (i.zero, i.size, i.bytes)) = some (some (.int .u8 0), 1, 1) := by kernel_rfl
theorem infoInt : (Tryz.prog.info? 3).map (fun i => (i.zero, i.size, i.bytes)) = some (some (.int .i64 0), 1, 8) := by kernel_rfl
theorem infoI32 : (Tryz.prog.info? 21).map (fun i => (i.zero, i.size, i.bytes)) = some (some (.int .i32 0), 1, 4) := by kernel_rfl
theorem infoStr : (Tryz.prog.info? 9).map (fun i => (i.zero, i.size, i.bytes)) = some (some (.string ⟨#[]⟩), 1, 16) := by kernel_rfl
theorem below_of_grown {N0 g : Nat} {w w' : World} (hg : w.grownBy w' (some g)) (h : N0 ≤ g) (hn : N0 ≤ w.heap.size) : Below N0 w w' :=
 ⟨hg.os, hg.tape, hg.output, hg.size, fun k hk => hg.block k (by omega) (by intro e; injection e with e; omega)⟩
theorem below_go {N0 : Nat} {w a b : World} (h : Below N0 w a) (k : Below N0 a b) : Below N0 w b := h.trans k
theorem wrap_id {n : Int} (h0 : -9223372036854775808 ≤ n) (h1 : n ≤ 9223372036854775807) : wrap64 n = n := by unfold wrap64; omega
theorem toList_ne {x y : ByteArray} (h : x ≠ y) : x.toList ≠ y.toList := fun e => h (by
 rw [Lib.toList_data, Lib.toList_data] at e
 have e2 : x.data = y.data := Array.toList_inj.1 e
 cases x; cases y; simp_all)
theorem grown_set (w : World) (g j : Nat) (v : Value) : w.grownBy (w.setCell ⟨g, j, none⟩ v) (some g) :=
 ⟨(Below.refl 0 w |>.setCell (Nat.zero_le _) v).os, (Below.refl 0 w |>.setCell (p := ⟨g, j, none⟩) (Nat.zero_le _) v).tape, (Below.refl 0 w |>.setCell (p := ⟨g, j, none⟩) (Nat.zero_le _) v).output, (Below.refl 0 w |>.setCell (p := ⟨g, j, none⟩) (Nat.zero_le _) v).size, fun i _ hi => Below.heap_setCell w ⟨g, j, none⟩ v i (fun e => hi (by rw [e]))⟩
theorem _root_.Go.World.grownBy.trans_row {a b c : World} {r : Option Nat} (h : a.grownBy b r) (k : b.grownBy c r) : a.grownBy c r :=
 ⟨k.os.trans h.os, k.tape.trans h.tape, k.output.trans h.output, Nat.le_trans h.size k.size, fun i hi hn => (k.block i (Nat.lt_of_lt_of_le hi h.size) hn).trans (h.block i hi hn)⟩
theorem _root_.Go.World.grownBy.drew_ {a b : World} {r : Option Nat} (h : a.grownBy b r) : a.grownBy b.drew r := ⟨h.os, h.tape, h.output, h.size, h.block⟩
end Go.Proofs.YtceffpgcbihckaaGreat.Base
namespace Go.Proofs.YtceffpgcbihckaaGreat.Top
open Go.RowKit Go.Proofs.YtceffpgcbihckaaGreatW.PrintWords Go.Proofs.YtceffpgcbihckaaGreatW.PrintLast Go.Proofs.YtceffpgcbihckaaGreatW.PrintMore Go.Proofs.YtceffpgcbihckaaGreat.Base
theorem PN : (∀ (a : Act) (v : Value), a.put none v = a) ∧ (∀ (a : Act) (n : Nat) (v : Value), a.put (some n) v = { a with tmps := a.tmps.setIfInBounds n v }) ∧ (∀ (l : List Value) (i : Nat) (a : Value), l.toArray.setIfInBounds i a = (l.set i a).toArray) ∧ (∀ (a b : Value) (l : List Value), (a :: l).set 0 b = b :: l) ∧ (∀ (a b : Value) (l : List Value) (n : Nat), (a :: l).set (n + 1) b = a :: l.set n b) ∧ (∀ n : Int, IntKind.i64.wrap n = wrap64 n) := ⟨fun _ _ => rfl, fun _ _ _ => rfl, fun l i a => List.setIfInBounds_toArray l i a, fun _ _ _ => rfl, fun _ _ _ _ => rfl, fun n => i64_w n⟩
abbrev Y : Bool := true
abbrev O : Bool := false
section
variable {P : Program} {ops : Array Oper} {Q : Exit → Act → World → Prop}
theorem goesF_ {oi : Oper} {N : Option Tmp} {a : Act} {w : World} {K : Act → World → Prop} {f : FuncId} {fn : Func} {x : Operand} {cap : Array Value} {ax : Array Operand} {ts : Array TypeId} (hf : P.funcs[f]? = some fn) (hname : (fn.name == "runtime.NumGoroutine") = false) (hb : fn.body.isSome = true) (args : Array Value)
  (hx : a.eval x = .func (.func f) #[] cap) (hw : Region.wanted oi (yielded ops a.tmps) = true) (hN : oi.dst = N) (hop : oi.op = .call { callee := .value x, args := ax, argTypes := ts }) (hargs : ax.map a.eval = args)
  (h : Calls P f (args ++ cap) w fun e w' => ∃ v, e = .returned v ∧ K (a.put N v) w') : if Region.wanted oi (yielded ops a.tmps) = true then Oper.wp P oi a w K Q else K (a.put N undef) w := by
 refine call_ f (args ++ cap) hw hN ?_ h
 have he := enters_ hf hname hb (args ++ cap) w
 unfold execOp
 simp [hop, resolve, Deferred.ofValue, invoke, hargs, he, hx]
theorem goesFL_ {rest : List Oper} {oi : Oper} {a : Act} {w : World} (N : Option Tmp) (hd : oi.dst = N) (hg : oi.guard = none) {f : FuncId} {fn : Func} {x : Operand} {cap : Array Value} {ax : Array Operand} {ts : Array TypeId} (hf : P.funcs[f]? = some fn) (hname : (fn.name == "runtime.NumGoroutine") = false) (hb : fn.body.isSome = true) (args : Array Value)
  (hop : oi.op = .call { callee := .value x, args := ax, argTypes := ts }) (hx : a.eval x = .func (.func f) #[] cap) (hargs : ax.map a.eval = args)
  (h : Calls P f (args ++ cap) w fun e w' => ∃ v, e = .returned v ∧ wpList P ops Q rest (a.put N v) w') : wpList P ops Q (oi :: rest) a w := by
 refine wpList_plain hg fun K hK => ?_
 have he := enters_ hf hname hb (args ++ cap) w
 have hrun : (execOp a.eval oi).run P w = .ok (.enter f (args ++ cap)) w := by
  unfold execOp
  simp [hop, resolve, Deferred.ofValue, invoke, hargs, he, hx]
 unfold Oper.wp
 rw [hrun, Oper.upon_enter]
 refine h.mono fun e w'' hh => ?_
 obtain ⟨v, rfl, hk⟩ := hh
 subst hd
 exact hK _ _ hk
theorem goesU_ {oi : Oper} {a : Act} {w : World} {K : Act → World → Prop} {f : FuncId} {fn : Func} (hf : P.funcs[f]? = some fn) (hname : (fn.name == "runtime.NumGoroutine") = false) (hb : fn.body.isSome = true) (args : Array Value)
  (h : Calls P f args w fun e w' => ∃ v, e = .returned v ∧ K (a.put oi.dst v) w') : Oper.upon P oi a K Q ((callFunc f args).run P w) := by
 rw [enters_ hf hname hb args w, Oper.upon_enter]
 refine h.mono fun e w'' hh => ?_
 obtain ⟨v, rfl, hk⟩ := hh
 exact hk
end
theorem _root_.Go.World.grownBy.far {a b c : World} {r : Option Nat} {g : Nat} (h : a.grownBy b r) (k : b.grownBy c (some g)) (hl : a.heap.size ≤ g) : a.grownBy c r :=
 ⟨k.os.trans h.os, k.tape.trans h.tape, k.output.trans h.output, Nat.le_trans h.size k.size, fun i hi hn => (k.block i (Nat.lt_of_lt_of_le hi h.size) (fun e => by injection e with e; omega)).trans (h.block i hi hn)⟩
theorem makeFn (fn : Fn) (first cap : Array Value) (w : World) : (Instr.makeFunc fn first cap).run Tryz.prog w = .ok (.func fn first cap) w := rfl
def INS4.T4 : Bool × List (List Nat × List Nat) := (true, [([], []), ([], []), ([0, 1], [0, 1]), ([2], [2]), ([3], [3]), ([3], [3]), ([3], [3]), ([5, 6, 3], [3, 5, 6]), ([7, 3], [3, 7]), ([3], [3]), ([3], [3]), ([10, 3], [3, 10]), ([9, 11, 3], [3, 9, 11]), ([12, 3], [3, 12]), ([4, 8, 13, 3, 3], [3, 4, 8, 13]), ([14, 3], [3, 14]), ([3, 15], [3, 15])])
def INS4.B4 : List Nat := [0, 0, 3, 7, 15, 15, 15, 111, 239, 15, 15, 1039, 3599, 7695, 16383, 32767, 65535]
theorem INS4.tab4 : rtab .any (opsOf Tryz.f228 4) = INS4.T4 := by kernel_rfl
theorem INS4.bits4 : waitsOk INS4.T4.2 INS4.B4 = true := by kernel_rfl
set_option maxHeartbeats 4000000 in
set_option maxRecDepth 100000 in
theorem ins.calls {w : World} {gr c base : Nat} {ok : Nat → Prop} {xs : List Int} (hr : (Kd.int .i64).R 3 w base ok (.slice (some ⟨gr, 0, none⟩) xs.length c) xs) (hn : xs.length ≤ 1000)
  {f : FuncId} {fn : Func} {cap : Array Value} (hf : Tryz.prog.funcs[f]? = some fn) (hname : (fn.name == "runtime.NumGoroutine") = false) (hb : fn.body.isSome = true)
  (I : World → Prop) (hI : I w) (hIg : ∀ a b, I a → a.grownBy b (some gr) → I b)
  (hcmp : ∀ (w' : World) (x y : Int), x ∈ xs → y ∈ xs → I w' → Calls Tryz.prog f (#[.int .i64 x, .int .i64 y] ++ cap) w' fun e w'' => ∃ r : Int, e = .returned (.int .i64 r) ∧ Below w'.heap.size w' w'') :
  Calls Tryz.prog 228 #[.slice (some ⟨gr, 0, none⟩) xs.length c, .int .i64 0, .int .i64 (xs.length : Int), .func (.func f) #[] cap] w fun e w' => e = .returned (.tuple #[]) ∧ ∃ ys : List Int, ys.Perm xs ∧ (Kd.int .i64).R 3 w' base ok (.slice (some ⟨gr, 0, none⟩) xs.length c) ys ∧ I w' ∧ w.grownBy w' (some gr) := by
 have HR0 := Aside0.mk hr
 have HN := Aside0.mk hn
 have HI0 := Aside0.mk hI
 clear hr hn hI
 go_enter Tryz.func228, Tryz.ntmps228
 go_wp2
 go_loopw [8] (fun iv wr => ∃ (i : Nat) (ys : List Int), iv = .int .i64 (i : Int) ∧ 1 ≤ i ∧ Aside0 (ys.Perm xs) ∧ Aside0 ((Kd.int .i64).R 3 wr base ok (.slice (some ⟨gr, 0, none⟩) xs.length c) ys) ∧ Aside0 (I wr) ∧ Aside0 (w.grownBy wr (some gr))) (fun iv _ => xs.length - (intOf iv).toNat)
 case atStart => exact ⟨1, xs, by go_num, Nat.le_refl _, ⟨List.Perm.refl _⟩, HR0, HI0, ⟨grown_of_below (Below.refl _ _) _⟩⟩
 case round =>
  clear HR0 HI0
  obtain ⟨i, ys, rfl, hi, HP, HR, HI, HG⟩ := hrel
  by_cases hil : i < xs.length
  ·have q0 : decide ((i : Int) < (xs.length : Int)) = true := decide_eq_true (by omega)
   go_wp2
   go_loopw [9] (fun jv wq => ∃ (j : Nat) (zs : List Int), jv = .int .i64 (j : Int) ∧ j ≤ i ∧ Aside0 (zs.Perm xs) ∧ Aside0 ((Kd.int .i64).R 3 wq base ok (.slice (some ⟨gr, 0, none⟩) xs.length c) zs) ∧ Aside0 (I wq) ∧ Aside0 (w.grownBy wq (some gr))) (fun jv _ => (intOf jv).toNat)
   case atStart => exact ⟨i, ys, rfl, Nat.le_refl _, HP, HR, HI, HG⟩
   case round =>
    clear HP HR HI HG
    obtain ⟨j, zs, rfl, hj, HP, HR, HI, HG⟩ := hrel
    have hn1 := HN.out
    have a0 : wrap64 ((i : Int) + 1) = (i : Int) + 1 := wrap_id (by omega) (by omega)
    by_cases hj0 : j = 0
    ·subst hj0
     have q1 : decide ((0 : Int) < ((0 : Nat) : Int)) = false := by simp
     go_wp2
     go_quiet (fail)
     go_wp2
     go_roundw
     case rel => exact ⟨i + 1, zs, by go_num, by omega, HP, ⟨Kd.R_drewN HR.out _⟩, ⟨hIg _ _ HI.out (grown_of_below (pw_below_drewN (Below.refl _ _) _) _)⟩, ⟨HG.out.trans_row (grown_of_below (pw_below_drewN (Below.refl _ _) _) _)⟩⟩
     case measure => simp [intOf]; omega
    ·obtain ⟨k, rfl⟩ : ∃ k, j = k + 1 := ⟨j - 1, by omega⟩
     clear hj0
     have hzl := HP.out.length_eq
     have q1 : decide ((0 : Int) < ((k + 1 : Nat) : Int)) = true := decide_eq_true (by omega)
     have r0 : (0 : Int) ≤ ((k + 1 : Nat) : Int) := by omega
     have r1 : ((k + 1 : Nat) : Int) < (xs.length : Int) := by omega
     have r2 : (0 : Int) ≤ (k : Int) := by omega
     have r3 : (k : Int) < (xs.length : Int) := by omega
     have s0 : (0 : Int) ≤ (k : Int) + 1 := by omega
     have s1 : (k : Int) + 1 < (xs.length : Int) := by omega
     have w0 : wrap64 (k : Int) = (k : Int) := wrap_id (by omega) (by omega)
     obtain ⟨ca, fa⟩ := Kd.R_celln (0 : Int) HR.out ((k + 1 : Nat) : Int) r0 r1
     obtain ⟨cb, fb⟩ := Kd.R_celln (0 : Int) HR.out (k : Int) r2 r3
     rw [Int.toNat_natCast] at ca cb fa fb
     have hmx : rdOf (0 : Int) zs ((k + 1 : Nat) : Int) ∈ xs ∧ rdOf (0 : Int) zs (k : Int) ∈ xs := by
      constructor
      ·refine HP.out.mem_iff.1 ?_
       unfold rdOf
       rw [Int.toNat_natCast, List.getD_eq_getElem?_getD, List.getElem?_eq_getElem (by omega)]
       exact List.getElem_mem _
      ·refine HP.out.mem_iff.1 ?_
       unfold rdOf
       rw [Int.toNat_natCast, List.getD_eq_getElem?_getD, List.getElem?_eq_getElem (by omega)]
       exact List.getElem_mem _
     have hsw : ((zs.set (k + 1) (rdOf (0 : Int) zs (k : Int))).set k (rdOf (0 : Int) zs ((k + 1 : Nat) : Int))).Perm xs := by
      have e1 : rdOf (0 : Int) zs (k : Int) = zs[k]'(by omega) := by unfold rdOf; rw [Int.toNat_natCast, List.getD_eq_getElem?_getD, List.getElem?_eq_getElem (by omega)]; rfl
      have e2 : rdOf (0 : Int) zs ((k + 1 : Nat) : Int) = zs[k + 1]'(by omega) := by unfold rdOf; rw [Int.toNat_natCast, List.getD_eq_getElem?_getD, List.getElem?_eq_getElem (by omega)]; rfl
      rw [e1, e2]
      exact (List.set_set_perm (by omega) (by omega)).trans HP.out
     generalize rdOf (0 : Int) zs ((k + 1 : Nat) : Int) = x at ca hmx hsw
     generalize rdOf (0 : Int) zs (k : Int) = y at cb hmx hsw
     have HXY := Aside0.mk hmx
     have HSW := Aside0.mk hsw
     have HA := Aside0.mk (And.intro ca cb)
     clear ca cb fa fb hmx hsw
     go_wp2
     have n0_ := Aside0.mk (Kd.R_below HR.out (below_drew (Below.refl _ _)))
     have n1_ := Aside0.mk (hIg _ _ HI.out (grown_of_below (below_drew (Below.refl _ _)) _))
     have n2_ := Aside0.mk (HG.out.trans_row (grown_of_below (below_drew (Below.refl _ _)) _))
     have n3_ := Aside0.mk (show wr.drew.cell? _ = _ ∧ wr.drew.cell? _ = _ from HA.out)
     clear HR HI HG HA
     have HR := n0_
     have HI := n1_
     have HG := n2_
     have HA := n3_
     clear n0_ n1_ n2_ n3_
     refine start_ (n := 17) (S := fun w' => w'.cell? ⟨gr, k + 1, none⟩ = some (.int .i64 x) ∧ w'.cell? ⟨gr, k, none⟩ = some (.int .i64 y)) (ds := []) #[O,O,O,O,O,O,O,O,O,O,O,O,O,O,O,O,O] (by kernel_rfl) rfl rfl ⟨HA.out.1, HA.out.2⟩ (fun hHeld => ?_)
     refine with_tabW INS4.tab4 INS4.bits4 (fun HT_ HW_ => ?_)
     refine pure_ (i := 0) (N := some 18) (v := ?_) (a' := ?_) #[Y,O,O,O,O,O,O,O,O,O,O,O,O,O,O,O,O] rfl rfl (any_of HT_.out (by kernel_rfl)) (fun _ _ _ h => h) (Or.inl ⟨by rfl, ?_⟩) ?_ ?_
     rotate_left
     ·intro w'
      go_simp
      with_reducible rfl
     rotate_left
     ·simp only [PN]
      rfl
     refine pure_ (i := 1) (N := some 19) (v := ?_) (a' := ?_) #[Y,Y,O,O,O,O,O,O,O,O,O,O,O,O,O,O,O] rfl rfl (any_of HT_.out (by kernel_rfl)) (fun _ _ _ h => h) (Or.inl ⟨by rfl, ?_⟩) ?_ ?_
     rotate_left
     ·intro w'
      go_simp
      with_reducible rfl
     rotate_left
     ·simp only [PN]
      rfl
     refine pure_ (i := 2) (N := some 20) (v := ?_) (a' := ?_) #[Y,Y,Y,O,O,O,O,O,O,O,O,O,O,O,O,O,O] rfl rfl (any_of HT_.out (by kernel_rfl)) (fun _ _ _ h => h) (Or.inl ⟨by rfl, ?_⟩) ?_ ?_
     rotate_left
     ·intro w'
      go_simp
      with_reducible rfl
     rotate_left
     ·simp only [PN]
      rfl
     refine pure_ (i := 3) (N := some 21) (v := ?_) (a' := ?_) #[Y,Y,Y,Y,O,O,O,O,O,O,O,O,O,O,O,O,O] rfl rfl (any_of HT_.out (by kernel_rfl)) (fun _ _ _ h => h) (Or.inl ⟨by rfl, ?_⟩) ?_ ?_
     rotate_left
     ·intro w'
      go_simp
      with_reducible rfl
     rotate_left
     ·simp only [PN]
      rfl
     refine pure_ (i := 4) (N := some 22) (v := ?_) (a' := ?_) #[Y,Y,Y,Y,Y,O,O,O,O,O,O,O,O,O,O,O,O] rfl rfl (any_of HT_.out (by kernel_rfl)) (fun _ _ _ h => h) (Or.inl ⟨by rfl, ?_⟩) ?_ ?_
     rotate_left
     ·intro w'
      go_simp
      with_reducible rfl
     rotate_left
     ·simp only [PN]
      rfl
     refine pure_ (i := 5) (N := some 23) (v := ?_) (a' := ?_) #[Y,Y,Y,Y,Y,Y,O,O,O,O,O,O,O,O,O,O,O] rfl rfl (any_of HT_.out (by kernel_rfl)) (fun _ _ _ h => h) (Or.inl ⟨by rfl, ?_⟩) ?_ ?_
     rotate_left
     ·intro w'
      go_simp
      with_reducible rfl
     rotate_left
     ·simp only [PN]
      rfl
     refine pure_ (i := 6) (N := some 24) (v := ?_) (a' := ?_) #[Y,Y,Y,Y,Y,Y,Y,O,O,O,O,O,O,O,O,O,O] rfl rfl (any_of HT_.out (by kernel_rfl)) (fun _ _ _ h => h) (Or.inl ⟨by rfl, ?_⟩) ?_ ?_
     rotate_left
     ·intro w'
      go_simp
      with_reducible rfl
     rotate_left
     ·simp only [PN]
      rfl
     refine pure_ (i := 7) (N := some 25) (v := ?_) (a' := ?_) #[Y,Y,Y,Y,Y,Y,Y,Y,O,O,O,O,O,O,O,O,O] rfl rfl (any_of HT_.out (by kernel_rfl)) (fun _ _ _ h => h) (Or.inl ⟨by rfl, ?_⟩) ?_ ?_
     rotate_left
     ·intro w'
      go_simp
      with_reducible rfl
     rotate_left
     ·simp only [PN]
      rfl
     refine pure_ (i := 9) (N := some 27) (v := ?_) (a' := ?_) #[Y,Y,Y,Y,Y,Y,Y,Y,O,Y,O,O,O,O,O,O,O] rfl rfl (any_of HT_.out (by kernel_rfl)) (fun _ _ _ h => h) (Or.inl ⟨by rfl, ?_⟩) ?_ ?_
     rotate_left
     ·intro w'
      go_simp
      with_reducible rfl
     rotate_left
     ·simp only [PN]
      rfl
     refine pure_ (i := 10) (N := some 28) (v := ?_) (a' := ?_) #[Y,Y,Y,Y,Y,Y,Y,Y,O,Y,Y,O,O,O,O,O,O] rfl rfl (any_of HT_.out (by kernel_rfl)) (fun _ _ _ h => h) (Or.inl ⟨by rfl, ?_⟩) ?_ ?_
     rotate_left
     ·intro w'
      go_simp
      with_reducible rfl
     rotate_left
     ·simp only [PN]
      rfl
     refine pure_ (i := 11) (N := some 29) (v := ?_) (a' := ?_) #[Y,Y,Y,Y,Y,Y,Y,Y,O,Y,Y,Y,O,O,O,O,O] rfl rfl (any_of HT_.out (by kernel_rfl)) (fun _ _ _ h => h) (Or.inl ⟨by rfl, ?_⟩) ?_ ?_
     rotate_left
     ·intro w'
      go_simp
      with_reducible rfl
     rotate_left
     ·simp only [PN]
      rfl
     refine pure_ (i := 12) (N := some 30) (v := ?_) (a' := ?_) #[Y,Y,Y,Y,Y,Y,Y,Y,O,Y,Y,Y,Y,O,O,O,O] rfl rfl (any_of HT_.out (by kernel_rfl)) (fun _ _ _ h => h) (Or.inl ⟨by rfl, ?_⟩) ?_ ?_
     rotate_left
     ·intro w'
      go_simp
      with_reducible rfl
     rotate_left
     ·simp only [PN]
      rfl
     refine take_ (i := 8) (N := some 26) (v := ?_) (a' := ?_) #[Y,Y,Y,Y,Y,Y,Y,Y,Y,Y,Y,Y,Y,O,O,O,O] rfl rfl (take_ofW HT_.out HW_.out (by kernel_rfl)) (fun _ _ _ h => h) (Or.inl ⟨by rfl, ?_⟩) hHeld ?_ ?_
     rotate_left
     ·rintro w' ⟨s0, s1⟩
      go_simp
      with_reducible rfl
     rotate_left
     ·simp only [PN]
      rfl
     refine take_ (i := 13) (N := some 31) (v := ?_) (a' := ?_) #[Y,Y,Y,Y,Y,Y,Y,Y,Y,Y,Y,Y,Y,Y,O,O,O] rfl rfl (take_ofW HT_.out HW_.out (by kernel_rfl)) (fun _ _ _ h => h) (Or.inl ⟨by rfl, ?_⟩) hHeld ?_ ?_
     rotate_left
     ·rintro w' ⟨s0, s1⟩
      go_simp
      with_reducible rfl
     rotate_left
     ·simp only [PN]
      rfl
     refine one_ (i := 14) (N := some 32) #[Y,Y,Y,Y,Y,Y,Y,Y,Y,Y,Y,Y,Y,Y,Y,O,O] rfl rfl (one_of HT_.out (by kernel_rfl)) (by decide) (fun K hK => ?_)
     refine goesF_ hf hname hb #[.int .i64 x, .int .i64 y] (by rfl) (by rfl) rfl rfl (by (try simp only [List.map_toArray, List.map_cons, List.map_nil]); first | done | rfl) ?_
     refine (hcmp _ x y HXY.out.1 HXY.out.2 HI.out).mono ?_
     rintro e w5 ⟨r, rfl, hb5⟩
     refine ⟨_, rfl, ?_⟩
     have n0_ := Aside0.mk (Kd.R_below HR.out hb5)
     have n1_ := Aside0.mk (hIg _ _ HI.out (grown_of_below hb5 _))
     have n2_ := Aside0.mk (HG.out.trans_row (grown_of_below hb5 _))
     have n3_ := Aside0.mk (And.intro ((hb5.cell (World.block_lt_of_cell? _ _ HA.out.1)).trans HA.out.1) ((hb5.cell (World.block_lt_of_cell? _ _ HA.out.2)).trans HA.out.2))
     clear HR HI HG HA hb5
     have HR := n0_
     have HI := n1_
     have HG := n2_
     have HA := n3_
     clear n0_ n1_ n2_ n3_
     refine hK.out _ _ ⟨HA.out.1, HA.out.2⟩ (fun hHeld => ?_)
     clear hK K
     refine norm_ (a' := ?_) ?_ ?_
     rotate_left
     ·show Act.put _ (some 32) _ = _
      simp only [PN]
      rfl
     refine pure_ (i := 15) (N := some 33) (v := ?_) (a' := ?_) #[Y,Y,Y,Y,Y,Y,Y,Y,Y,Y,Y,Y,Y,Y,Y,Y,O] rfl rfl (any_of HT_.out (by kernel_rfl)) (fun _ _ _ h => h) (Or.inl ⟨by rfl, ?_⟩) ?_ ?_
     rotate_left
     ·intro w'
      go_simp
      with_reducible rfl
     rotate_left
     ·simp only [PN]
      rfl
     refine pure_ (i := 16) (N := some 34) (v := ?_) (a' := ?_) #[Y,Y,Y,Y,Y,Y,Y,Y,Y,Y,Y,Y,Y,Y,Y,Y,Y] rfl rfl (any_of HT_.out (by kernel_rfl)) (fun _ _ _ h => h) (Or.inl ⟨by rfl, ?_⟩) ?_ ?_
     rotate_left
     ·intro w'
      go_simp
      with_reducible rfl
     rotate_left
     ·simp only [PN]
      rfl
     refine done_ (done_of HT_.out (by kernel_rfl)) ?_
     clear hHeld
     by_cases hrn : r < 0
     ·have t0 : decide (r < 0) = true := decide_eq_true hrn
      have c0 := HA.out.1
      have c1 := HA.out.2
      have f0 := Kd.R_celln (0 : Int) HR.out ((k + 1 : Nat) : Int) r0 r1
      have f1 := Kd.R_celln (0 : Int) HR.out (k : Int) r2 r3
      rw [Int.toNat_natCast] at f0 f1
      have g0 := f0.2
      have g1 := f1.2
      clear f0 f1
      have p1 := Kd.R_putg HR.out ((k + 1 : Nat) : Int) y
      have p2 := Kd.R_putg p1.1 (k : Int) x
      rw [Int.toNat_natCast, Int.toNat_natCast] at p2
      rw [Int.toNat_natCast] at p1
      have n0_ := Aside0.mk p2.1
      have n1_ := Aside0.mk (p1.2.trans_row p2.2)
      clear p1 p2
      go_wp2
      go_region
      go_wp2
      go_roundw
      case rel => exact ⟨k, _, by go_num, by omega, HSW, ⟨Kd.R_drew n0_.out⟩, ⟨hIg _ _ HI.out n1_.out.drew_⟩, ⟨(HG.out.trans_row n1_.out).drew_⟩⟩
      case measure => simp [intOf]
     ·have t0 : decide (r < 0) = false := decide_eq_false hrn
      go_wp2
      go_roundw
      case rel => exact ⟨i + 1, zs, by go_num, by omega, HP, HR, HI, HG⟩
      case measure => simp [intOf]; omega
  ·have q0 : decide ((i : Int) < (xs.length : Int)) = false := decide_eq_false (by omega)
   go_wp2
   go_end0
   exact ⟨rfl, ys, HP.out, HR.out, HI.out, HG.out⟩
set_option maxHeartbeats 4000000 in
set_option maxRecDepth 100000 in
theorem pdq.calls {w : World} {gr c base : Nat} {ok : Nat → Prop} {xs : List Int} (hr : (Kd.int .i64).R 3 w base ok (.slice (some ⟨gr, 0, none⟩) xs.length c) xs) (hn : xs.length ≤ 12)
  {f : FuncId} {fn : Func} {cap : Array Value} (hf : Tryz.prog.funcs[f]? = some fn) (hname : (fn.name == "runtime.NumGoroutine") = false) (hb : fn.body.isSome = true)
  (I : World → Prop) (hI : I w) (hIg : ∀ a b, I a → a.grownBy b (some gr) → I b) (lim : Int)
  (hcmp : ∀ (w' : World) (x y : Int), x ∈ xs → y ∈ xs → I w' → Calls Tryz.prog f (#[.int .i64 x, .int .i64 y] ++ cap) w' fun e w'' => ∃ r : Int, e = .returned (.int .i64 r) ∧ Below w'.heap.size w' w'') :
  Calls Tryz.prog 166 #[.slice (some ⟨gr, 0, none⟩) xs.length c, .int .i64 0, .int .i64 (xs.length : Int), .int .i64 lim, .func (.func f) #[] cap] w fun e w' => e = .returned (.tuple #[]) ∧ ∃ ys : List Int, ys.Perm xs ∧ (Kd.int .i64).R 3 w' base ok (.slice (some ⟨gr, 0, none⟩) xs.length c) ys ∧ I w' ∧ w.grownBy w' (some gr) := by
 have HR := Aside0.mk hr
 have HI := Aside0.mk hI
 have hl : wrap64 ((xs.length : Int) - 0) = (xs.length : Int) := wrap_id (by omega) (by omega)
 have hl0 : wrap64 (xs.length : Int) = (xs.length : Int) := wrap_id (by omega) (by omega)
 have q0 : decide ((xs.length : Int) ≤ 12) = true := decide_eq_true (by omega)
 have q1 : decide (wrap64 (xs.length : Int) ≤ 12) = true := by rw [hl0]; exact q0
 clear hr hI
 go_enter Tryz.func166, Tryz.ntmps166
 go_wp2_with fail
 go_loopw [1, 2] (fun v1 v2 wr => v1 = .int .i64 0 ∧ v2 = .int .i64 (xs.length : Int) ∧ wr = w) (fun _ _ _ => 0)
 case atStart => exact ⟨rfl, rfl, rfl⟩
 case round =>
  obtain ⟨rfl, rfl, rfl⟩ := hrel
  go_wp2_with fail
  refine (ins.calls HR.out (by omega) hf hname hb I HI.out hIg hcmp).mono ?_
  rintro e w5 ⟨rfl, ys, hp, hr2, hi2, hg2⟩
  have HF := Aside0.mk (show ∃ ys : List Int, ys.Perm xs ∧ (Kd.int .i64).R 3 w5 base ok (.slice (some ⟨gr, 0, none⟩) xs.length c) ys ∧ I w5 ∧ _ from ⟨ys, hp, hr2, hi2, hg2⟩)
  clear hp hr2 hi2 hg2
  go_wp2
  refine bodyPost_ret (results_none rfl _ _ _) rfl ?_
  exact ⟨rfl, HF.out⟩
set_option maxRecDepth 100000 in
set_option maxHeartbeats 2000000 in
theorem len64.calls (n : Int) (h0 : 0 ≤ n) (h1 : n ≤ 12) (w : World) : Calls Tryz.prog 178 #[.int .u64 n] w fun e w' => (∃ r : Int, e = .returned (.int .i64 r)) ∧ Below w.heap.size w w' := by
 have q1 : decide ((4294967296 : Int) ≤ n) = false := decide_eq_false (by omega)
 have q2 : decide ((65536 : Int) ≤ n) = false := decide_eq_false (by omega)
 have q3 : decide ((256 : Int) ≤ n) = false := decide_eq_false (by omega)
 have q4 : n < 256 := by omega
 go_enter Tryz.func178, Tryz.ntmps178
 go_wp2
 go_ret
 exact ⟨⟨_, rfl⟩, Below.refl _ _⟩
theorem len.calls (n : Int) (h0 : 0 ≤ n) (h1 : n ≤ 12) (w : World) : Calls Tryz.prog 118 #[.int .u64 n] w fun e w' => (∃ r : Int, e = .returned (.int .i64 r)) ∧ Below w.heap.size w w' := by
 go_enter Tryz.func118, Tryz.ntmps118
 go_wp2_with fail
 refine (len64.calls n h0 h1 w).mono ?_
 rintro e w4 ⟨⟨r, rfl⟩, hb⟩
 have HB := Aside0.mk hb
 clear hb
 go_wp2
 go_ret
 exact ⟨⟨_, rfl⟩, HB.out⟩
theorem sortI.calls {w : World} {gr c base : Nat} {ok : Nat → Prop} {xs : List Int} (hr : (Kd.int .i64).R 3 w base ok (.slice (some ⟨gr, 0, none⟩) xs.length c) xs) (hn : xs.length ≤ 12)
  {f : FuncId} {fn : Func} {cap : Array Value} (hf : Tryz.prog.funcs[f]? = some fn) (hname : (fn.name == "runtime.NumGoroutine") = false) (hb : fn.body.isSome = true)
  (I : World → Prop) (hI : I w) (hIg : ∀ a b, I a → a.grownBy b (some gr) → I b)
  (hcmp : ∀ (w' : World) (x y : Int), x ∈ xs → y ∈ xs → I w' → Calls Tryz.prog f (#[.int .i64 x, .int .i64 y] ++ cap) w' fun e w'' => ∃ r : Int, e = .returned (.int .i64 r) ∧ Below w'.heap.size w' w'') :
  Calls Tryz.prog 114 #[.slice (some ⟨gr, 0, none⟩) xs.length c, .func (.func f) #[] cap] w fun e w' => e = .returned (.tuple #[]) ∧ ∃ ys : List Int, ys.Perm xs ∧ (Kd.int .i64).R 3 w' base ok (.slice (some ⟨gr, 0, none⟩) xs.length c) ys ∧ I w' ∧ w.grownBy w' (some gr) := by
 have HR := Aside0.mk hr
 have HI := Aside0.mk hI
 clear hr hI
 go_enter Tryz.func114, Tryz.ntmps114
 go_wp2_with fail
 refine (len.calls (xs.length : Int) (by omega) (by omega) w).mono ?_
 rintro e w4 ⟨⟨r, rfl⟩, hb4⟩
 have n0_ := Aside0.mk (Kd.R_below HR.out hb4)
 have n1_ := Aside0.mk (hIg _ _ HI.out (grown_of_below hb4 _))
 have n2_ := Aside0.mk (show w.grownBy w4 (some gr) from grown_of_below hb4 _)
 clear HR HI hb4
 go_wp2_with fail
 refine (pdq.calls n0_.out hn hf hname hb I n1_.out hIg r hcmp).mono ?_
 rintro e w5 ⟨rfl, ys, hp, hr2, hi2, hg2⟩
 have HF := Aside0.mk (show ∃ ys : List Int, ys.Perm xs ∧ (Kd.int .i64).R 3 w5 base ok (.slice (some ⟨gr, 0, none⟩) xs.length c) ys ∧ I w5 ∧ w.grownBy w5 (some gr) from ⟨ys, hp, hr2, hi2, n2_.out.trans_row hg2⟩)
 clear hp hr2 hi2 hg2
 go_wp2
 go_end0
 exact ⟨rfl, HF.out⟩
def INOI.T4 : Bool × List (List Nat × List Nat) := (true, [([], []), ([], []), ([0, 1], [0, 1]), ([2], [2]), ([3], [3]), ([3], [3]), ([4, 5, 3], [3, 4, 5]), ([6, 3], [3, 6]), ([3], [3]), ([3], [3]), ([9, 3], [3, 9]), ([8, 10, 3], [3, 8, 10]), ([11, 3], [3, 11]), ([7, 12, 3, 3], [3, 7, 12]), ([3, 13], [3, 13])])
def INOI.B4 : List Nat := [0, 0, 3, 7, 15, 15, 63, 127, 15, 15, 527, 1807, 3855, 8191, 16383]
theorem INOI.tab4 : rtab .any (opsOf Tryz.f168 4) = INOI.T4 := by kernel_rfl
theorem INOI.bits4 : waitsOk INOI.T4.2 INOI.B4 = true := by kernel_rfl
theorem lessI.calls (x y : Int) (w : World) : Calls Tryz.prog 174 #[.int .i64 x, .int .i64 y] w fun e w' => (∃ b : Bool, e = .returned (.bool b)) ∧ Below w.heap.size w w' := by
 have e0 : ∀ (w : World), Calls Tryz.prog 167 #[.int .i64 x] w fun e w' => e = .returned (.bool false) ∧ w' = w := by
  intro w
  have q : (x != x) = false := bne_self_eq_false _
  go_enter Tryz.func167, Tryz.ntmps167
  go_wp2
  go_ret
  exact ⟨rfl, rfl⟩
 go_enter Tryz.func174, Tryz.ntmps174
 go_wp2_with fail
 refine (e0 w).mono ?_
 rintro e w4 ⟨rfl, rfl⟩
 go_wp2
 go_ret
 exact ⟨⟨_, rfl⟩, Below.refl _ _⟩
set_option maxHeartbeats 4000000 in
set_option maxRecDepth 100000 in
theorem insOI.calls {w : World} {gr c base : Nat} {ok : Nat → Prop} {xs : List Int} (hr : (Kd.int .i64).R 3 w base ok (.slice (some ⟨gr, 0, none⟩) xs.length c) xs) (hn : xs.length ≤ 1000) :
  Calls Tryz.prog 168 #[.slice (some ⟨gr, 0, none⟩) xs.length c, .int .i64 0, .int .i64 (xs.length : Int)] w fun e w' => e = .returned (.tuple #[]) ∧ ∃ ys : List Int, ys.Perm xs ∧ (Kd.int .i64).R 3 w' base ok (.slice (some ⟨gr, 0, none⟩) xs.length c) ys ∧ w.grownBy w' (some gr) := by
 have HR0 := Aside0.mk hr
 have HN := Aside0.mk hn
 clear hr hn
 go_enter Tryz.func168, Tryz.ntmps168
 go_wp2
 go_loopw [6] (fun iv wr => ∃ (i : Nat) (ys : List Int), iv = .int .i64 (i : Int) ∧ 1 ≤ i ∧ Aside0 (ys.Perm xs) ∧ Aside0 ((Kd.int .i64).R 3 wr base ok (.slice (some ⟨gr, 0, none⟩) xs.length c) ys) ∧ Aside0 (w.grownBy wr (some gr))) (fun iv _ => xs.length - (intOf iv).toNat)
 case atStart => exact ⟨1, xs, by go_num, Nat.le_refl _, ⟨List.Perm.refl _⟩, HR0, ⟨grown_of_below (Below.refl _ _) _⟩⟩
 case round =>
  clear HR0
  obtain ⟨i, ys, rfl, hi, HP, HR, HG⟩ := hrel
  by_cases hil : i < xs.length
  ·have q0 : decide ((i : Int) < (xs.length : Int)) = true := decide_eq_true (by omega)
   go_wp2
   go_loopw [7] (fun jv wq => ∃ (j : Nat) (zs : List Int), jv = .int .i64 (j : Int) ∧ j ≤ i ∧ Aside0 (zs.Perm xs) ∧ Aside0 ((Kd.int .i64).R 3 wq base ok (.slice (some ⟨gr, 0, none⟩) xs.length c) zs) ∧ Aside0 (w.grownBy wq (some gr))) (fun jv _ => (intOf jv).toNat)
   case atStart => exact ⟨i, ys, rfl, Nat.le_refl _, HP, HR, HG⟩
   case round =>
    clear HP HR HG
    obtain ⟨j, zs, rfl, hj, HP, HR, HG⟩ := hrel
    have hn1 := HN.out
    have a0 : wrap64 ((i : Int) + 1) = (i : Int) + 1 := wrap_id (by omega) (by omega)
    by_cases hj0 : j = 0
    ·subst hj0
     have q1 : decide ((0 : Int) < ((0 : Nat) : Int)) = false := by simp
     go_wp2
     go_quiet (fail)
     go_wp2
     go_roundw
     case rel => exact ⟨i + 1, zs, by go_num, by omega, HP, ⟨Kd.R_drewN HR.out _⟩, ⟨HG.out.trans_row (grown_of_below (pw_below_drewN (Below.refl _ _) _) _)⟩⟩
     case measure => simp [intOf]; omega
    ·obtain ⟨k, rfl⟩ : ∃ k, j = k + 1 := ⟨j - 1, by omega⟩
     clear hj0
     have hzl := HP.out.length_eq
     have q1 : decide ((0 : Int) < ((k + 1 : Nat) : Int)) = true := decide_eq_true (by omega)
     have r0 : (0 : Int) ≤ ((k + 1 : Nat) : Int) := by omega
     have r1 : ((k + 1 : Nat) : Int) < (xs.length : Int) := by omega
     have r2 : (0 : Int) ≤ (k : Int) := by omega
     have r3 : (k : Int) < (xs.length : Int) := by omega
     have s0 : (0 : Int) ≤ (k : Int) + 1 := by omega
     have s1 : (k : Int) + 1 < (xs.length : Int) := by omega
     have w0 : wrap64 (k : Int) = (k : Int) := wrap_id (by omega) (by omega)
     obtain ⟨ca, fa⟩ := Kd.R_celln (0 : Int) HR.out ((k + 1 : Nat) : Int) r0 r1
     obtain ⟨cb, fb⟩ := Kd.R_celln (0 : Int) HR.out (k : Int) r2 r3
     rw [Int.toNat_natCast] at ca cb fa fb
     have hmx : rdOf (0 : Int) zs ((k + 1 : Nat) : Int) ∈ xs ∧ rdOf (0 : Int) zs (k : Int) ∈ xs := by
      constructor
      ·refine HP.out.mem_iff.1 ?_
       unfold rdOf
       rw [Int.toNat_natCast, List.getD_eq_getElem?_getD, List.getElem?_eq_getElem (by omega)]
       exact List.getElem_mem _
      ·refine HP.out.mem_iff.1 ?_
       unfold rdOf
       rw [Int.toNat_natCast, List.getD_eq_getElem?_getD, List.getElem?_eq_getElem (by omega)]
       exact List.getElem_mem _
     have hsw : ((zs.set (k + 1) (rdOf (0 : Int) zs (k : Int))).set k (rdOf (0 : Int) zs ((k + 1 : Nat) : Int))).Perm xs := by
      have e1 : rdOf (0 : Int) zs (k : Int) = zs[k]'(by omega) := by unfold rdOf; rw [Int.toNat_natCast, List.getD_eq_getElem?_getD, List.getElem?_eq_getElem (by omega)]; rfl
      have e2 : rdOf (0 : Int) zs ((k + 1 : Nat) : Int) = zs[k + 1]'(by omega) := by unfold rdOf; rw [Int.toNat_natCast, List.getD_eq_getElem?_getD, List.getElem?_eq_getElem (by omega)]; rfl
      rw [e1, e2]
      exact (List.set_set_perm (by omega) (by omega)).trans HP.out
     generalize rdOf (0 : Int) zs ((k + 1 : Nat) : Int) = x at ca hmx hsw
     generalize rdOf (0 : Int) zs (k : Int) = y at cb hmx hsw
     have HXY := Aside0.mk hmx
     have HSW := Aside0.mk hsw
     have HA := Aside0.mk (And.intro ca cb)
     clear ca cb fa fb hmx hsw
     go_wp2
     have n0_ := Aside0.mk (Kd.R_below HR.out (below_drew (Below.refl _ _)))
     have n2_ := Aside0.mk (HG.out.trans_row (grown_of_below (below_drew (Below.refl _ _)) _))
     have n3_ := Aside0.mk (show wr.drew.cell? _ = _ ∧ wr.drew.cell? _ = _ from HA.out)
     clear HR HG HA
     have HR := n0_
     have HG := n2_
     have HA := n3_
     clear n0_ n2_ n3_
     refine start_ (n := 15) (S := fun w' => w'.cell? ⟨gr, k + 1, none⟩ = some (.int .i64 x) ∧ w'.cell? ⟨gr, k, none⟩ = some (.int .i64 y)) (ds := []) #[O,O,O,O,O,O,O,O,O,O,O,O,O,O,O] (by kernel_rfl) rfl rfl ⟨HA.out.1, HA.out.2⟩ (fun hHeld => ?_)
     refine with_tabW INOI.tab4 INOI.bits4 (fun HT_ HW_ => ?_)
     refine pure_ (i := 0) (N := some 16) (v := ?_) (a' := ?_) #[Y,O,O,O,O,O,O,O,O,O,O,O,O,O,O] rfl rfl (any_of HT_.out (by kernel_rfl)) (fun _ _ _ h => h) (Or.inl ⟨by rfl, ?_⟩) ?_ ?_
     rotate_left
     ·intro w'
      go_simp
      with_reducible rfl
     rotate_left
     ·simp only [PN]
      rfl
     refine pure_ (i := 1) (N := some 17) (v := ?_) (a' := ?_) #[Y,Y,O,O,O,O,O,O,O,O,O,O,O,O,O] rfl rfl (any_of HT_.out (by kernel_rfl)) (fun _ _ _ h => h) (Or.inl ⟨by rfl, ?_⟩) ?_ ?_
     rotate_left
     ·intro w'
      go_simp
      with_reducible rfl
     rotate_left
     ·simp only [PN]
      rfl
     refine pure_ (i := 2) (N := some 18) (v := ?_) (a' := ?_) #[Y,Y,Y,O,O,O,O,O,O,O,O,O,O,O,O] rfl rfl (any_of HT_.out (by kernel_rfl)) (fun _ _ _ h => h) (Or.inl ⟨by rfl, ?_⟩) ?_ ?_
     rotate_left
     ·intro w'
      go_simp
      with_reducible rfl
     rotate_left
     ·simp only [PN]
      rfl
     refine pure_ (i := 3) (N := some 19) (v := ?_) (a' := ?_) #[Y,Y,Y,Y,O,O,O,O,O,O,O,O,O,O,O] rfl rfl (any_of HT_.out (by kernel_rfl)) (fun _ _ _ h => h) (Or.inl ⟨by rfl, ?_⟩) ?_ ?_
     rotate_left
     ·intro w'
      go_simp
      with_reducible rfl
     rotate_left
     ·simp only [PN]
      rfl
     refine pure_ (i := 4) (N := some 20) (v := ?_) (a' := ?_) #[Y,Y,Y,Y,Y,O,O,O,O,O,O,O,O,O,O] rfl rfl (any_of HT_.out (by kernel_rfl)) (fun _ _ _ h => h) (Or.inl ⟨by rfl, ?_⟩) ?_ ?_
     rotate_left
     ·intro w'
      go_simp
      with_reducible rfl
     rotate_left
     ·simp only [PN]
      rfl
     refine pure_ (i := 5) (N := some 21) (v := ?_) (a' := ?_) #[Y,Y,Y,Y,Y,Y,O,O,O,O,O,O,O,O,O] rfl rfl (any_of HT_.out (by kernel_rfl)) (fun _ _ _ h => h) (Or.inl ⟨by rfl, ?_⟩) ?_ ?_
     rotate_left
     ·intro w'
      go_simp
      with_reducible rfl
     rotate_left
     ·simp only [PN]
      rfl
     refine pure_ (i := 6) (N := some 22) (v := ?_) (a' := ?_) #[Y,Y,Y,Y,Y,Y,Y,O,O,O,O,O,O,O,O] rfl rfl (any_of HT_.out (by kernel_rfl)) (fun _ _ _ h => h) (Or.inl ⟨by rfl, ?_⟩) ?_ ?_
     rotate_left
     ·intro w'
      go_simp
      with_reducible rfl
     rotate_left
     ·simp only [PN]
      rfl
     refine pure_ (i := 8) (N := some 24) (v := ?_) (a' := ?_) #[Y,Y,Y,Y,Y,Y,Y,O,Y,O,O,O,O,O,O] rfl rfl (any_of HT_.out (by kernel_rfl)) (fun _ _ _ h => h) (Or.inl ⟨by rfl, ?_⟩) ?_ ?_
     rotate_left
     ·intro w'
      go_simp
      with_reducible rfl
     rotate_left
     ·simp only [PN]
      rfl
     refine pure_ (i := 9) (N := some 25) (v := ?_) (a' := ?_) #[Y,Y,Y,Y,Y,Y,Y,O,Y,Y,O,O,O,O,O] rfl rfl (any_of HT_.out (by kernel_rfl)) (fun _ _ _ h => h) (Or.inl ⟨by rfl, ?_⟩) ?_ ?_
     rotate_left
     ·intro w'
      go_simp
      with_reducible rfl
     rotate_left
     ·simp only [PN]
      rfl
     refine pure_ (i := 10) (N := some 26) (v := ?_) (a' := ?_) #[Y,Y,Y,Y,Y,Y,Y,O,Y,Y,Y,O,O,O,O] rfl rfl (any_of HT_.out (by kernel_rfl)) (fun _ _ _ h => h) (Or.inl ⟨by rfl, ?_⟩) ?_ ?_
     rotate_left
     ·intro w'
      go_simp
      with_reducible rfl
     rotate_left
     ·simp only [PN]
      rfl
     refine pure_ (i := 11) (N := some 27) (v := ?_) (a' := ?_) #[Y,Y,Y,Y,Y,Y,Y,O,Y,Y,Y,Y,O,O,O] rfl rfl (any_of HT_.out (by kernel_rfl)) (fun _ _ _ h => h) (Or.inl ⟨by rfl, ?_⟩) ?_ ?_
     rotate_left
     ·intro w'
      go_simp
      with_reducible rfl
     rotate_left
     ·simp only [PN]
      rfl
     refine take_ (i := 7) (N := some 23) (v := ?_) (a' := ?_) #[Y,Y,Y,Y,Y,Y,Y,Y,Y,Y,Y,Y,O,O,O] rfl rfl (take_ofW HT_.out HW_.out (by kernel_rfl)) (fun _ _ _ h => h) (Or.inl ⟨by rfl, ?_⟩) hHeld ?_ ?_
     rotate_left
     ·rintro w' ⟨s0, s1⟩
      go_simp
      with_reducible rfl
     rotate_left
     ·simp only [PN]
      rfl
     refine take_ (i := 12) (N := some 28) (v := ?_) (a' := ?_) #[Y,Y,Y,Y,Y,Y,Y,Y,Y,Y,Y,Y,Y,O,O] rfl rfl (take_ofW HT_.out HW_.out (by kernel_rfl)) (fun _ _ _ h => h) (Or.inl ⟨by rfl, ?_⟩) hHeld ?_ ?_
     rotate_left
     ·rintro w' ⟨s0, s1⟩
      go_simp
      with_reducible rfl
     rotate_left
     ·simp only [PN]
      rfl
     refine one_ (i := 13) (N := some 29) #[Y,Y,Y,Y,Y,Y,Y,Y,Y,Y,Y,Y,Y,Y,O] rfl rfl (one_of HT_.out (by kernel_rfl)) (by decide) (fun K hK => ?_)
     refine goes_ Tryz.func174 (by kernel_rfl) rfl #[.int .i64 x, .int .i64 y] (by rfl) rfl rfl (by (try simp only [List.map_toArray, List.map_cons, List.map_nil]); first | done | rfl) ?_
     with_reducible refine (lessI.calls x y _).mono ?_
     rintro e w5 ⟨⟨r, rfl⟩, hb5⟩
     refine ⟨_, rfl, ?_⟩
     have n0_ := Aside0.mk (Kd.R_below HR.out hb5)
     have n2_ := Aside0.mk (HG.out.trans_row (grown_of_below hb5 _))
     have n3_ := Aside0.mk (And.intro ((hb5.cell (World.block_lt_of_cell? _ _ HA.out.1)).trans HA.out.1) ((hb5.cell (World.block_lt_of_cell? _ _ HA.out.2)).trans HA.out.2))
     clear HR HG HA hb5
     have HR := n0_
     have HG := n2_
     have HA := n3_
     clear n0_ n2_ n3_
     refine hK.out _ _ ⟨HA.out.1, HA.out.2⟩ (fun hHeld => ?_)
     clear hK K
     refine norm_ (a' := ?_) ?_ ?_
     rotate_left
     ·show Act.put _ (some 29) _ = _
      simp only [PN]
      rfl
     refine pure_ (i := 14) (N := some 30) (v := ?_) (a' := ?_) #[Y,Y,Y,Y,Y,Y,Y,Y,Y,Y,Y,Y,Y,Y,Y] rfl rfl (any_of HT_.out (by kernel_rfl)) (fun _ _ _ h => h) (Or.inl ⟨by rfl, ?_⟩) ?_ ?_
     rotate_left
     ·intro w'
      go_simp
      with_reducible rfl
     rotate_left
     ·simp only [PN]
      rfl
     refine done_ (done_of HT_.out (by kernel_rfl)) ?_
     clear hHeld
     cases r with
     | true =>
      have c0 := HA.out.1
      have c1 := HA.out.2
      have f0 := Kd.R_celln (0 : Int) HR.out ((k + 1 : Nat) : Int) r0 r1
      have f1 := Kd.R_celln (0 : Int) HR.out (k : Int) r2 r3
      rw [Int.toNat_natCast] at f0 f1
      have g0 := f0.2
      have g1 := f1.2
      clear f0 f1
      have p1 := Kd.R_putg HR.out ((k + 1 : Nat) : Int) y
      have p2 := Kd.R_putg p1.1 (k : Int) x
      rw [Int.toNat_natCast, Int.toNat_natCast] at p2
      rw [Int.toNat_natCast] at p1
      have n0_ := Aside0.mk p2.1
      have n1_ := Aside0.mk (p1.2.trans_row p2.2)
      clear p1 p2
      go_wp2
      go_region
      go_wp2
      go_roundw
      case rel => exact ⟨k, _, by go_num, by omega, HSW, ⟨Kd.R_drew n0_.out⟩, ⟨(HG.out.trans_row n1_.out).drew_⟩⟩
      case measure => simp [intOf]
     | false =>
      go_wp2
      go_roundw
      case rel => exact ⟨i + 1, zs, by go_num, by omega, HP, HR, HG⟩
      case measure => simp [intOf]; omega
  ·have q0 : decide ((i : Int) < (xs.length : Int)) = false := decide_eq_false (by omega)
   go_wp2
   go_end0
   exact ⟨rfl, ys, HP.out, HR.out, HG.out⟩
theorem insOI.nil (w : World) : Calls Tryz.prog 168 #[.slice none 0 0, .int .i64 0, .int .i64 0] w fun e w' => e = .returned (.tuple #[]) ∧ w' = w := by
 go_enter Tryz.func168, Tryz.ntmps168
 go_wp2
 go_loopw [6] (fun iv wr => iv = .int .i64 1 ∧ wr = w) (fun _ _ => 0)
 case atStart => exact ⟨rfl, rfl⟩
 case round =>
  obtain ⟨rfl, rfl⟩ := hrel
  go_wp2
  go_end0
  exact ⟨rfl, rfl⟩
set_option maxHeartbeats 4000000 in
set_option maxRecDepth 100000 in
theorem sortOI.calls {w : World} {v : Value} {base : Nat} {ok : Nat → Prop} {xs : List Int} (hr : (Kd.int .i64).R 3 w base ok v xs) (hv : xs = [] → v = .slice none 0 0) (hn : xs.length ≤ 12) :
  Calls Tryz.prog 67 #[v] w fun e w' => e = .returned (.tuple #[]) ∧ ∃ ys : List Int, ys.Perm xs ∧ (Kd.int .i64).R 3 w' base ok v ys ∧ w.grownBy w' v.ownBlock := by
 have main : ∀ (wa : World), Calls Tryz.prog 67 #[.slice none 0 0] wa fun e w' => e = .returned (.tuple #[]) ∧ Below wa.heap.size wa w' := by
  intro wa
  go_enter Tryz.func67, Tryz.ntmps67
  go_wp2_with fail
  refine (len.calls 0 (by omega) (by omega) wa).mono ?_
  rintro e w4 ⟨⟨r, rfl⟩, hb4⟩
  have HB := Aside0.mk hb4
  clear hb4
  go_wp2_with fail
  have pd : ∀ (lim : Int) (wb : World), Calls Tryz.prog 117 #[.slice none 0 0, .int .i64 0, .int .i64 0, .int .i64 lim] wb fun e w' => e = .returned (.tuple #[]) ∧ w' = wb := by
   intro lim wb
   go_enter Tryz.func117, Tryz.ntmps117
   go_wp2_with fail
   go_loopw [1, 2] (fun v1 v2 wr => v1 = .int .i64 0 ∧ v2 = .int .i64 0 ∧ wr = wb) (fun _ _ _ => 0)
   case atStart => exact ⟨rfl, rfl, rfl⟩
   case round =>
    obtain ⟨rfl, rfl, rfl⟩ := hrel
    go_wp2_with fail
    refine (insOI.nil wr).mono ?_
    rintro e w5 ⟨rfl, rfl⟩
    go_wp2
    refine bodyPost_ret (results_none rfl _ _ _) rfl ?_
    exact ⟨rfl, rfl⟩
  refine (pd r w4).mono ?_
  rintro e w5 ⟨rfl, rfl⟩
  go_wp2
  go_end0
  exact ⟨rfl, HB.out⟩
 cases xs with
 | nil =>
  have e := hv rfl
  subst e
  refine (main w).mono ?_
  rintro e w' ⟨rfl, hb⟩
  exact ⟨rfl, [], List.Perm.refl _, Kd.R_below hr hb, grown_of_below hb _⟩
 | cons x xt =>
  obtain ⟨gr, c, rfl, _⟩ := Kd.R_form hr (by simp)
  have HR := Aside0.mk hr
  have HN := Aside0.mk hn
  have hl0 : wrap64 (((x :: xt).length : Nat) : Int) = (((x :: xt).length : Nat) : Int) := wrap_id (by omega) (by omega)
  generalize hxs : x :: xt = xs at HR HN hl0
  rw [hxs] at hn
  clear hr hv main hxs
  have q0 : decide ((xs.length : Int) ≤ 12) = true := decide_eq_true (by omega)
  have q1 : decide (wrap64 (xs.length : Int) ≤ 12) = true := by rw [hl0]; exact q0
  have pd : ∀ (lim : Int) (wb : World), (Kd.int .i64).R 3 wb base ok (.slice (some ⟨gr, 0, none⟩) xs.length c) xs → Calls Tryz.prog 117 #[.slice (some ⟨gr, 0, none⟩) xs.length c, .int .i64 0, .int .i64 (xs.length : Int), .int .i64 lim] wb fun e w' => e = .returned (.tuple #[]) ∧ ∃ ys : List Int, ys.Perm xs ∧ (Kd.int .i64).R 3 w' base ok (.slice (some ⟨gr, 0, none⟩) xs.length c) ys ∧ wb.grownBy w' (some gr) := by
   intro lim wb hrb
   have HRB := Aside0.mk hrb
   clear hrb
   go_enter Tryz.func117, Tryz.ntmps117
   go_wp2_with fail
   go_loopw [1, 2] (fun v1 v2 wr => v1 = .int .i64 0 ∧ v2 = .int .i64 (xs.length : Int) ∧ wr = wb) (fun _ _ _ => 0)
   case atStart => exact ⟨rfl, rfl, rfl⟩
   case round =>
    obtain ⟨rfl, rfl, rfl⟩ := hrel
    go_wp2_with fail
    refine (insOI.calls HRB.out (by have := HN.out; omega)).mono ?_
    rintro e w5 ⟨rfl, hh⟩
    have HF := Aside0.mk hh
    clear hh
    go_wp2
    refine bodyPost_ret (results_none rfl _ _ _) rfl ?_
    exact ⟨rfl, HF.out⟩
  go_enter Tryz.func67, Tryz.ntmps67
  go_wp2_with fail
  refine (len.calls (xs.length : Int) (by omega) (by omega) w).mono ?_
  rintro e w4 ⟨⟨r, rfl⟩, hb4⟩
  have HR4 := Aside0.mk (Kd.R_below HR.out hb4)
  have HG4 := Aside0.mk (show w.grownBy w4 (some gr) from grown_of_below hb4 _)
  clear hb4 HR
  go_wp2_with fail
  refine (pd r w4 HR4.out).mono ?_
  rintro e w5 ⟨rfl, ys, hp, hr5, hg5⟩
  have HF := Aside0.mk (show ∃ ys : List Int, ys.Perm xs ∧ (Kd.int .i64).R 3 w5 base ok (.slice (some ⟨gr, 0, none⟩) xs.length c) ys ∧ w.grownBy w5 (some gr) from ⟨ys, hp, hr5, HG4.out.trans_row hg5⟩)
  clear hp hr5 hg5
  go_wp2
  go_end0
  exact ⟨rfl, HF.out⟩
def INOS.T4 : Bool × List (List Nat × List Nat) := (true, [([], []), ([], []), ([0, 1], [0, 1]), ([2], [2]), ([3], [3]), ([3], [3]), ([4, 5, 3], [3, 4, 5]), ([6, 3], [3, 6]), ([3], [3]), ([3], [3]), ([9, 3], [3, 9]), ([8, 10, 3], [3, 8, 10]), ([11, 3], [3, 11]), ([7, 12, 3, 3], [3, 7, 12]), ([3, 13], [3, 13])])
def INOS.B4 : List Nat := [0, 0, 3, 7, 15, 15, 63, 127, 15, 15, 527, 1807, 3855, 8191, 16383]
theorem INOS.tab4 : rtab .any (opsOf Tryz.f400 4) = INOS.T4 := by kernel_rfl
theorem INOS.bits4 : waitsOk INOS.T4.2 INOS.B4 = true := by kernel_rfl
theorem lessS.calls (x y : ByteArray) (w : World) : Calls Tryz.prog 406 #[.string x, .string y] w fun e w' => (∃ b : Bool, e = .returned (.bool b)) ∧ Below w.heap.size w w' := by
 have e0 : ∀ (w : World), Calls Tryz.prog 427 #[.string x] w fun e w' => e = .returned (.bool false) ∧ w' = w := by
  intro w
  have q : (x.toList != x.toList) = false := bne_self_eq_false _
  go_enter Tryz.func427, Tryz.ntmps427
  go_wp2
  go_ret
  exact ⟨rfl, rfl⟩
 go_enter Tryz.func406, Tryz.ntmps406
 go_wp2_with fail
 refine (e0 w).mono ?_
 rintro e w4 ⟨rfl, rfl⟩
 go_wp2
 go_ret
 exact ⟨⟨_, rfl⟩, Below.refl _ _⟩
set_option maxHeartbeats 4000000 in
set_option maxRecDepth 100000 in
theorem insOS.calls {w : World} {gr c base : Nat} {ok : Nat → Prop} {xs : List ByteArray} (hr : Kd.string.R 9 w base ok (.slice (some ⟨gr, 0, none⟩) xs.length c) xs) (hn : xs.length ≤ 1000) :
  Calls Tryz.prog 400 #[.slice (some ⟨gr, 0, none⟩) xs.length c, .int .i64 0, .int .i64 (xs.length : Int)] w fun e w' => e = .returned (.tuple #[]) ∧ ∃ ys : List ByteArray, ys.Perm xs ∧ Kd.string.R 9 w' base ok (.slice (some ⟨gr, 0, none⟩) xs.length c) ys ∧ w.grownBy w' (some gr) := by
 have HR0 := Aside0.mk hr
 have HN := Aside0.mk hn
 clear hr hn
 go_enter Tryz.func400, Tryz.ntmps400
 go_wp2
 go_loopw [6] (fun iv wr => ∃ (i : Nat) (ys : List ByteArray), iv = .int .i64 (i : Int) ∧ 1 ≤ i ∧ Aside0 (ys.Perm xs) ∧ Aside0 (Kd.string.R 9 wr base ok (.slice (some ⟨gr, 0, none⟩) xs.length c) ys) ∧ Aside0 (w.grownBy wr (some gr))) (fun iv _ => xs.length - (intOf iv).toNat)
 case atStart => exact ⟨1, xs, by go_num, Nat.le_refl _, ⟨List.Perm.refl _⟩, HR0, ⟨grown_of_below (Below.refl _ _) _⟩⟩
 case round =>
  clear HR0
  obtain ⟨i, ys, rfl, hi, HP, HR, HG⟩ := hrel
  by_cases hil : i < xs.length
  ·have q0 : decide ((i : Int) < (xs.length : Int)) = true := decide_eq_true (by omega)
   go_wp2
   go_loopw [7] (fun jv wq => ∃ (j : Nat) (zs : List ByteArray), jv = .int .i64 (j : Int) ∧ j ≤ i ∧ Aside0 (zs.Perm xs) ∧ Aside0 (Kd.string.R 9 wq base ok (.slice (some ⟨gr, 0, none⟩) xs.length c) zs) ∧ Aside0 (w.grownBy wq (some gr))) (fun jv _ => (intOf jv).toNat)
   case atStart => exact ⟨i, ys, rfl, Nat.le_refl _, HP, HR, HG⟩
   case round =>
    clear HP HR HG
    obtain ⟨j, zs, rfl, hj, HP, HR, HG⟩ := hrel
    have hn1 := HN.out
    have a0 : wrap64 ((i : Int) + 1) = (i : Int) + 1 := wrap_id (by omega) (by omega)
    by_cases hj0 : j = 0
    ·subst hj0
     have q1 : decide ((0 : Int) < ((0 : Nat) : Int)) = false := by simp
     go_wp2
     go_quiet (fail)
     go_wp2
     go_roundw
     case rel => exact ⟨i + 1, zs, by go_num, by omega, HP, ⟨Kd.R_drewN HR.out _⟩, ⟨HG.out.trans_row (grown_of_below (pw_below_drewN (Below.refl _ _) _) _)⟩⟩
     case measure => simp [intOf]; omega
    ·obtain ⟨k, rfl⟩ : ∃ k, j = k + 1 := ⟨j - 1, by omega⟩
     clear hj0
     have hzl := HP.out.length_eq
     have q1 : decide ((0 : Int) < ((k + 1 : Nat) : Int)) = true := decide_eq_true (by omega)
     have r0 : (0 : Int) ≤ ((k + 1 : Nat) : Int) := by omega
     have r1 : ((k + 1 : Nat) : Int) < (xs.length : Int) := by omega
     have r2 : (0 : Int) ≤ (k : Int) := by omega
     have r3 : (k : Int) < (xs.length : Int) := by omega
     have s0 : (0 : Int) ≤ (k : Int) + 1 := by omega
     have s1 : (k : Int) + 1 < (xs.length : Int) := by omega
     have w0 : wrap64 (k : Int) = (k : Int) := wrap_id (by omega) (by omega)
     obtain ⟨ca, fa⟩ := Kd.R_celln ByteArray.empty HR.out ((k + 1 : Nat) : Int) r0 r1
     obtain ⟨cb, fb⟩ := Kd.R_celln ByteArray.empty HR.out (k : Int) r2 r3
     rw [Int.toNat_natCast] at ca cb fa fb
     have hmx : rdOf ByteArray.empty zs ((k + 1 : Nat) : Int) ∈ xs ∧ rdOf ByteArray.empty zs (k : Int) ∈ xs := by
      constructor
      ·refine HP.out.mem_iff.1 ?_
       unfold rdOf
       rw [Int.toNat_natCast, List.getD_eq_getElem?_getD, List.getElem?_eq_getElem (by omega)]
       exact List.getElem_mem _
      ·refine HP.out.mem_iff.1 ?_
       unfold rdOf
       rw [Int.toNat_natCast, List.getD_eq_getElem?_getD, List.getElem?_eq_getElem (by omega)]
       exact List.getElem_mem _
     have hsw : ((zs.set (k + 1) (rdOf ByteArray.empty zs (k : Int))).set k (rdOf ByteArray.empty zs ((k + 1 : Nat) : Int))).Perm xs := by
      have e1 : rdOf ByteArray.empty zs (k : Int) = zs[k]'(by omega) := by unfold rdOf; rw [Int.toNat_natCast, List.getD_eq_getElem?_getD, List.getElem?_eq_getElem (by omega)]; rfl
      have e2 : rdOf ByteArray.empty zs ((k + 1 : Nat) : Int) = zs[k + 1]'(by omega) := by unfold rdOf; rw [Int.toNat_natCast, List.getD_eq_getElem?_getD, List.getElem?_eq_getElem (by omega)]; rfl
      rw [e1, e2]
      exact (List.set_set_perm (by omega) (by omega)).trans HP.out
     generalize rdOf ByteArray.empty zs ((k + 1 : Nat) : Int) = x at ca hmx hsw
     generalize rdOf ByteArray.empty zs (k : Int) = y at cb hmx hsw
     have HXY := Aside0.mk hmx
     have HSW := Aside0.mk hsw
     have HA := Aside0.mk (And.intro ca cb)
     clear ca cb fa fb hmx hsw
     go_wp2
     have n0_ := Aside0.mk (Kd.R_below HR.out (below_drew (Below.refl _ _)))
     have n2_ := Aside0.mk (HG.out.trans_row (grown_of_below (below_drew (Below.refl _ _)) _))
     have n3_ := Aside0.mk (show wr.drew.cell? _ = _ ∧ wr.drew.cell? _ = _ from HA.out)
     clear HR HG HA
     have HR := n0_
     have HG := n2_
     have HA := n3_
     clear n0_ n2_ n3_
     refine start_ (n := 15) (S := fun w' => w'.cell? ⟨gr, k + 1, none⟩ = some (.string x) ∧ w'.cell? ⟨gr, k, none⟩ = some (.string y)) (ds := []) #[O,O,O,O,O,O,O,O,O,O,O,O,O,O,O] (by kernel_rfl) rfl rfl ⟨HA.out.1, HA.out.2⟩ (fun hHeld => ?_)
     refine with_tabW INOS.tab4 INOS.bits4 (fun HT_ HW_ => ?_)
     refine pure_ (i := 0) (N := some 16) (v := ?_) (a' := ?_) #[Y,O,O,O,O,O,O,O,O,O,O,O,O,O,O] rfl rfl (any_of HT_.out (by kernel_rfl)) (fun _ _ _ h => h) (Or.inl ⟨by rfl, ?_⟩) ?_ ?_
     rotate_left
     ·intro w'
      go_simp
      with_reducible rfl
     rotate_left
     ·simp only [PN]
      rfl
     refine pure_ (i := 1) (N := some 17) (v := ?_) (a' := ?_) #[Y,Y,O,O,O,O,O,O,O,O,O,O,O,O,O] rfl rfl (any_of HT_.out (by kernel_rfl)) (fun _ _ _ h => h) (Or.inl ⟨by rfl, ?_⟩) ?_ ?_
     rotate_left
     ·intro w'
      go_simp
      with_reducible rfl
     rotate_left
     ·simp only [PN]
      rfl
     refine pure_ (i := 2) (N := some 18) (v := ?_) (a' := ?_) #[Y,Y,Y,O,O,O,O,O,O,O,O,O,O,O,O] rfl rfl (any_of HT_.out (by kernel_rfl)) (fun _ _ _ h => h) (Or.inl ⟨by rfl, ?_⟩) ?_ ?_
     rotate_left
     ·intro w'
      go_simp
      with_reducible rfl
     rotate_left
     ·simp only [PN]
      rfl
     refine pure_ (i := 3) (N := some 19) (v := ?_) (a' := ?_) #[Y,Y,Y,Y,O,O,O,O,O,O,O,O,O,O,O] rfl rfl (any_of HT_.out (by kernel_rfl)) (fun _ _ _ h => h) (Or.inl ⟨by rfl, ?_⟩) ?_ ?_
     rotate_left
     ·intro w'
      go_simp
      with_reducible rfl
     rotate_left
     ·simp only [PN]
      rfl
     refine pure_ (i := 4) (N := some 20) (v := ?_) (a' := ?_) #[Y,Y,Y,Y,Y,O,O,O,O,O,O,O,O,O,O] rfl rfl (any_of HT_.out (by kernel_rfl)) (fun _ _ _ h => h) (Or.inl ⟨by rfl, ?_⟩) ?_ ?_
     rotate_left
     ·intro w'
      go_simp
      with_reducible rfl
     rotate_left
     ·simp only [PN]
      rfl
     refine pure_ (i := 5) (N := some 21) (v := ?_) (a' := ?_) #[Y,Y,Y,Y,Y,Y,O,O,O,O,O,O,O,O,O] rfl rfl (any_of HT_.out (by kernel_rfl)) (fun _ _ _ h => h) (Or.inl ⟨by rfl, ?_⟩) ?_ ?_
     rotate_left
     ·intro w'
      go_simp
      with_reducible rfl
     rotate_left
     ·simp only [PN]
      rfl
     refine pure_ (i := 6) (N := some 22) (v := ?_) (a' := ?_) #[Y,Y,Y,Y,Y,Y,Y,O,O,O,O,O,O,O,O] rfl rfl (any_of HT_.out (by kernel_rfl)) (fun _ _ _ h => h) (Or.inl ⟨by rfl, ?_⟩) ?_ ?_
     rotate_left
     ·intro w'
      go_simp
      with_reducible rfl
     rotate_left
     ·simp only [PN]
      rfl
     refine pure_ (i := 8) (N := some 24) (v := ?_) (a' := ?_) #[Y,Y,Y,Y,Y,Y,Y,O,Y,O,O,O,O,O,O] rfl rfl (any_of HT_.out (by kernel_rfl)) (fun _ _ _ h => h) (Or.inl ⟨by rfl, ?_⟩) ?_ ?_
     rotate_left
     ·intro w'
      go_simp
      with_reducible rfl
     rotate_left
     ·simp only [PN]
      rfl
     refine pure_ (i := 9) (N := some 25) (v := ?_) (a' := ?_) #[Y,Y,Y,Y,Y,Y,Y,O,Y,Y,O,O,O,O,O] rfl rfl (any_of HT_.out (by kernel_rfl)) (fun _ _ _ h => h) (Or.inl ⟨by rfl, ?_⟩) ?_ ?_
     rotate_left
     ·intro w'
      go_simp
      with_reducible rfl
     rotate_left
     ·simp only [PN]
      rfl
     refine pure_ (i := 10) (N := some 26) (v := ?_) (a' := ?_) #[Y,Y,Y,Y,Y,Y,Y,O,Y,Y,Y,O,O,O,O] rfl rfl (any_of HT_.out (by kernel_rfl)) (fun _ _ _ h => h) (Or.inl ⟨by rfl, ?_⟩) ?_ ?_
     rotate_left
     ·intro w'
      go_simp
      with_reducible rfl
     rotate_left
     ·simp only [PN]
      rfl
     refine pure_ (i := 11) (N := some 27) (v := ?_) (a' := ?_) #[Y,Y,Y,Y,Y,Y,Y,O,Y,Y,Y,Y,O,O,O] rfl rfl (any_of HT_.out (by kernel_rfl)) (fun _ _ _ h => h) (Or.inl ⟨by rfl, ?_⟩) ?_ ?_
     rotate_left
     ·intro w'
      go_simp
      with_reducible rfl
     rotate_left
     ·simp only [PN]
      rfl
     refine take_ (i := 7) (N := some 23) (v := ?_) (a' := ?_) #[Y,Y,Y,Y,Y,Y,Y,Y,Y,Y,Y,Y,O,O,O] rfl rfl (take_ofW HT_.out HW_.out (by kernel_rfl)) (fun _ _ _ h => h) (Or.inl ⟨by rfl, ?_⟩) hHeld ?_ ?_
     rotate_left
     ·rintro w' ⟨s0, s1⟩
      go_simp
      with_reducible rfl
     rotate_left
     ·simp only [PN]
      rfl
     refine take_ (i := 12) (N := some 28) (v := ?_) (a' := ?_) #[Y,Y,Y,Y,Y,Y,Y,Y,Y,Y,Y,Y,Y,O,O] rfl rfl (take_ofW HT_.out HW_.out (by kernel_rfl)) (fun _ _ _ h => h) (Or.inl ⟨by rfl, ?_⟩) hHeld ?_ ?_
     rotate_left
     ·rintro w' ⟨s0, s1⟩
      go_simp
      with_reducible rfl
     rotate_left
     ·simp only [PN]
      rfl
     refine one_ (i := 13) (N := some 29) #[Y,Y,Y,Y,Y,Y,Y,Y,Y,Y,Y,Y,Y,Y,O] rfl rfl (one_of HT_.out (by kernel_rfl)) (by decide) (fun K hK => ?_)
     refine goes_ Tryz.func406 (by kernel_rfl) rfl #[.string x, .string y] (by rfl) rfl rfl (by (try simp only [List.map_toArray, List.map_cons, List.map_nil]); first | done | rfl) ?_
     with_reducible refine (lessS.calls x y _).mono ?_
     rintro e w5 ⟨⟨r, rfl⟩, hb5⟩
     refine ⟨_, rfl, ?_⟩
     have n0_ := Aside0.mk (Kd.R_below HR.out hb5)
     have n2_ := Aside0.mk (HG.out.trans_row (grown_of_below hb5 _))
     have n3_ := Aside0.mk (And.intro ((hb5.cell (World.block_lt_of_cell? _ _ HA.out.1)).trans HA.out.1) ((hb5.cell (World.block_lt_of_cell? _ _ HA.out.2)).trans HA.out.2))
     clear HR HG HA hb5
     have HR := n0_
     have HG := n2_
     have HA := n3_
     clear n0_ n2_ n3_
     refine hK.out _ _ ⟨HA.out.1, HA.out.2⟩ (fun hHeld => ?_)
     clear hK K
     refine norm_ (a' := ?_) ?_ ?_
     rotate_left
     ·show Act.put _ (some 29) _ = _
      simp only [PN]
      rfl
     refine pure_ (i := 14) (N := some 30) (v := ?_) (a' := ?_) #[Y,Y,Y,Y,Y,Y,Y,Y,Y,Y,Y,Y,Y,Y,Y] rfl rfl (any_of HT_.out (by kernel_rfl)) (fun _ _ _ h => h) (Or.inl ⟨by rfl, ?_⟩) ?_ ?_
     rotate_left
     ·intro w'
      go_simp
      with_reducible rfl
     rotate_left
     ·simp only [PN]
      rfl
     refine done_ (done_of HT_.out (by kernel_rfl)) ?_
     clear hHeld
     cases r with
     | true =>
      have c0 := HA.out.1
      have c1 := HA.out.2
      have f0 := Kd.R_celln ByteArray.empty HR.out ((k + 1 : Nat) : Int) r0 r1
      have f1 := Kd.R_celln ByteArray.empty HR.out (k : Int) r2 r3
      rw [Int.toNat_natCast] at f0 f1
      have g0 := f0.2
      have g1 := f1.2
      clear f0 f1
      have p1 := Kd.R_putg HR.out ((k + 1 : Nat) : Int) y
      have p2 := Kd.R_putg p1.1 (k : Int) x
      rw [Int.toNat_natCast, Int.toNat_natCast] at p2
      rw [Int.toNat_natCast] at p1
      have n0_ := Aside0.mk p2.1
      have n1_ := Aside0.mk (p1.2.trans_row p2.2)
      clear p1 p2
      go_wp2
      go_region
      go_wp2
      go_roundw
      case rel => exact ⟨k, _, by go_num, by omega, HSW, ⟨Kd.R_drew n0_.out⟩, ⟨(HG.out.trans_row n1_.out).drew_⟩⟩
      case measure => simp [intOf]
     | false =>
      go_wp2
      go_roundw
      case rel => exact ⟨i + 1, zs, by go_num, by omega, HP, HR, HG⟩
      case measure => simp [intOf]; omega
  ·have q0 : decide ((i : Int) < (xs.length : Int)) = false := decide_eq_false (by omega)
   go_wp2
   go_end0
   exact ⟨rfl, ys, HP.out, HR.out, HG.out⟩
theorem insOS.nil (w : World) : Calls Tryz.prog 400 #[.slice none 0 0, .int .i64 0, .int .i64 0] w fun e w' => e = .returned (.tuple #[]) ∧ w' = w := by
 go_enter Tryz.func400, Tryz.ntmps400
 go_wp2
 go_loopw [6] (fun iv wr => iv = .int .i64 1 ∧ wr = w) (fun _ _ => 0)
 case atStart => exact ⟨rfl, rfl⟩
 case round =>
  obtain ⟨rfl, rfl⟩ := hrel
  go_wp2
  go_end0
  exact ⟨rfl, rfl⟩
set_option maxHeartbeats 4000000 in
set_option maxRecDepth 100000 in
theorem sortOS.calls {w : World} {v : Value} {base : Nat} {ok : Nat → Prop} {xs : List ByteArray} (hr : Kd.string.R 9 w base ok v xs) (hv : xs = [] → v = .slice none 0 0) (hn : xs.length ≤ 12) :
  Calls Tryz.prog 320 #[v] w fun e w' => e = .returned (.tuple #[]) ∧ ∃ ys : List ByteArray, ys.Perm xs ∧ Kd.string.R 9 w' base ok v ys ∧ w.grownBy w' v.ownBlock := by
 have main : ∀ (wa : World), Calls Tryz.prog 320 #[.slice none 0 0] wa fun e w' => e = .returned (.tuple #[]) ∧ Below wa.heap.size wa w' := by
  intro wa
  go_enter Tryz.func320, Tryz.ntmps320
  go_wp2_with fail
  refine (len.calls 0 (by omega) (by omega) wa).mono ?_
  rintro e w4 ⟨⟨r, rfl⟩, hb4⟩
  have HB := Aside0.mk hb4
  clear hb4
  go_wp2_with fail
  have pd : ∀ (lim : Int) (wb : World), Calls Tryz.prog 362 #[.slice none 0 0, .int .i64 0, .int .i64 0, .int .i64 lim] wb fun e w' => e = .returned (.tuple #[]) ∧ w' = wb := by
   intro lim wb
   go_enter Tryz.func362, Tryz.ntmps362
   go_wp2_with fail
   go_loopw [1, 2] (fun v1 v2 wr => v1 = .int .i64 0 ∧ v2 = .int .i64 0 ∧ wr = wb) (fun _ _ _ => 0)
   case atStart => exact ⟨rfl, rfl, rfl⟩
   case round =>
    obtain ⟨rfl, rfl, rfl⟩ := hrel
    go_wp2_with fail
    refine (insOS.nil wr).mono ?_
    rintro e w5 ⟨rfl, rfl⟩
    go_wp2
    refine bodyPost_ret (results_none rfl _ _ _) rfl ?_
    exact ⟨rfl, rfl⟩
  refine (pd r w4).mono ?_
  rintro e w5 ⟨rfl, rfl⟩
  go_wp2
  go_end0
  exact ⟨rfl, HB.out⟩
 cases xs with
 | nil =>
  have e := hv rfl
  subst e
  refine (main w).mono ?_
  rintro e w' ⟨rfl, hb⟩
  exact ⟨rfl, [], List.Perm.refl _, Kd.R_below hr hb, grown_of_below hb _⟩
 | cons x xt =>
  obtain ⟨gr, c, rfl, _⟩ := Kd.R_form hr (by simp)
  have HR := Aside0.mk hr
  have HN := Aside0.mk hn
  have hl0 : wrap64 (((x :: xt).length : Nat) : Int) = (((x :: xt).length : Nat) : Int) := wrap_id (by omega) (by omega)
  generalize hxs : x :: xt = xs at HR HN hl0
  rw [hxs] at hn
  clear hr hv main hxs
  have q0 : decide ((xs.length : Int) ≤ 12) = true := decide_eq_true (by omega)
  have q1 : decide (wrap64 (xs.length : Int) ≤ 12) = true := by rw [hl0]; exact q0
  have pd : ∀ (lim : Int) (wb : World), Kd.string.R 9 wb base ok (.slice (some ⟨gr, 0, none⟩) xs.length c) xs → Calls Tryz.prog 362 #[.slice (some ⟨gr, 0, none⟩) xs.length c, .int .i64 0, .int .i64 (xs.length : Int), .int .i64 lim] wb fun e w' => e = .returned (.tuple #[]) ∧ ∃ ys : List ByteArray, ys.Perm xs ∧ Kd.string.R 9 w' base ok (.slice (some ⟨gr, 0, none⟩) xs.length c) ys ∧ wb.grownBy w' (some gr) := by
   intro lim wb hrb
   have HRB := Aside0.mk hrb
   clear hrb
   go_enter Tryz.func362, Tryz.ntmps362
   go_wp2_with fail
   go_loopw [1, 2] (fun v1 v2 wr => v1 = .int .i64 0 ∧ v2 = .int .i64 (xs.length : Int) ∧ wr = wb) (fun _ _ _ => 0)
   case atStart => exact ⟨rfl, rfl, rfl⟩
   case round =>
    obtain ⟨rfl, rfl, rfl⟩ := hrel
    go_wp2_with fail
    refine (insOS.calls HRB.out (by have := HN.out; omega)).mono ?_
    rintro e w5 ⟨rfl, hh⟩
    have HF := Aside0.mk hh
    clear hh
    go_wp2
    refine bodyPost_ret (results_none rfl _ _ _) rfl ?_
    exact ⟨rfl, HF.out⟩
  go_enter Tryz.func320, Tryz.ntmps320
  go_wp2_with fail
  refine (len.calls (xs.length : Int) (by omega) (by omega) w).mono ?_
  rintro e w4 ⟨⟨r, rfl⟩, hb4⟩
  have HR4 := Aside0.mk (Kd.R_below HR.out hb4)
  have HG4 := Aside0.mk (show w.grownBy w4 (some gr) from grown_of_below hb4 _)
  clear hb4 HR
  go_wp2_with fail
  refine (pd r w4 HR4.out).mono ?_
  rintro e w5 ⟨rfl, ys, hp, hr5, hg5⟩
  have HF := Aside0.mk (show ∃ ys : List ByteArray, ys.Perm xs ∧ Kd.string.R 9 w5 base ok (.slice (some ⟨gr, 0, none⟩) xs.length c) ys ∧ w.grownBy w5 (some gr) from ⟨ys, hp, hr5, HG4.out.trans_row hg5⟩)
  clear hp hr5 hg5
  go_wp2
  go_end0
  exact ⟨rfl, HF.out⟩
open Go.Maps (Keyed string_keyed int_keyed keyOf_int_mk)
open Go.WideMaps (keyOf_string_mk)
open Go.MapKept (stamped_empty)
def RV : Value → Option (DataW Value × List MemPlace) := fun v => some (.held v, [])
def MV (k : TypeId) (w : World) (m s : Nat) (pl : Lit → Option Value) : Prop := ∃ D : DataW Value, w.ownsMap Tryz.prog k RV m s D ∧ Maps.size D = s ∧ ∀ kl, WideAt.IsKeyLit kl → Maps.has D kl = (pl kl).isSome ∧ ∀ z, D.atKey kl (.held z) = .held ((pl kl).getD z)
open Classical in
noncomputable def updM (pl : Lit → Option Value) (x : Lit) (v : Value) : Lit → Option Value := fun y => if y = x then some v else pl y
section
variable {k : TypeId} {w w' : World} {m s : Nat} {pl : Lit → Option Value}
theorem MV.new (k : TypeId) (w : World) : MV k (w.alloc (.map #[] 0)) w.heap.size 0 (fun _ => none) :=
 ⟨.map [], World.ownsMap_made w _ _ _, rfl, fun x _ => ⟨rfl, fun _ => rfl⟩⟩
theorem MV.blk (h : MV k w m s pl) : ∃ es clock, w.heap[m]? = some (.map es clock) := by
 obtain ⟨D, ⟨es, clock, hb, _⟩, _⟩ := h
 exact ⟨es, clock, hb⟩
theorem MV.lt (h : MV k w m s pl) : m < w.heap.size := by
 obtain ⟨es, clock, hb⟩ := h.blk
 exact blk_lt hb
theorem MV.grown {row : Option Nat} (h : MV k w m s pl) (hg : w.grownBy w' row) (hne : some m ≠ row) : MV k w' m s pl := by
 obtain ⟨D, h1, h2, h3⟩ := h
 exact ⟨D, h1.kept hg hne, h2, h3⟩
theorem MV.below (h : MV k w m s pl) (hb : Below w.heap.size w w') : MV k w' m s pl := h.grown (grown_of_below hb none) (by simp)
theorem MV.look1 {t e : TypeId} (h : MV k w m s pl) (K : Keyed Tryz.prog k) (ht : Tryz.prog.underlying t = some (.map k e)) {z : Value} (hz : ∀ w, (zeroValue e).run Tryz.prog w = .ok z w) {key : Value} {kl : Lit} (hkey : keyOf Tryz.prog k key = some kl) (hk : WideAt.IsKeyLit kl) :
  (Instr.lookup t (.map (some m)) key false).run Tryz.prog w = .ok ((pl kl).getD z) w := by
 obtain ⟨D, h1, h2, h3⟩ := h
 obtain ⟨v, ps, hrun, hv⟩ := h1.lookup K ht (hz w) (zd := .held z) (zp := []) rfl hkey
 rw [(h3 kl hk).2 z] at hv
 simp only [RV, Option.some.injEq, Prod.mk.injEq, DataW.held.injEq] at hv
 replace hv := hv.1
 rw [hrun, hv]
theorem MV.look2 {t e : TypeId} (h : MV k w m s pl) (K : Keyed Tryz.prog k) (ht : Tryz.prog.underlying t = some (.map k e)) {z : Value} (hz : ∀ w, (zeroValue e).run Tryz.prog w = .ok z w) {key : Value} {kl : Lit} (hkey : keyOf Tryz.prog k key = some kl) (hk : WideAt.IsKeyLit kl) :
  (Instr.lookup t (.map (some m)) key true).run Tryz.prog w = .ok (.tuple #[(pl kl).getD z, .bool (pl kl).isSome]) w := by
 obtain ⟨D, h1, h2, h3⟩ := h
 obtain ⟨v, ps, hrun, hv⟩ := h1.look_ok K ht (hz w) (zd := .held z) (zp := []) rfl hkey
 rw [(h3 kl hk).2 z] at hv
 simp only [RV, Option.some.injEq, Prod.mk.injEq, DataW.held.injEq] at hv
 replace hv := hv.1
 rw [hrun, hv, (h3 kl hk).1]
theorem MV.tight {n : Nat} {D : DataW Value} (h : w.ownsMap Tryz.prog k RV m n D) : w.ownsMap Tryz.prog k RV m (Maps.size D) D := by
 obtain ⟨es, clock, hb, F, hn, rfl⟩ := h
 refine ⟨es, clock, hb, F, ?_, rfl⟩
 rw [Maps.size_eq, length_read]
 exact Nat.le_refl _
theorem MV.put {t e : TypeId} (h : MV k w m s pl) (K : Keyed Tryz.prog k) (ht : Tryz.prog.underlying t = some (.map k e)) (hs : s ≤ 1000000) {key : Value} {kl : Lit} (hkey : keyOf Tryz.prog k key = some kl) (hk : WideAt.IsKeyLit kl) (v : Value) :
  ∃ w', (Instr.mapUpdate t (.map (some m)) key v).run Tryz.prog w = .ok () w' ∧ MV k w' m (if (pl kl).isSome then s else s + 1) (updM pl kl v) ∧ w.grownBy w' (some m) := by
 obtain ⟨D, h1, h2, h3⟩ := h
 obtain ⟨w', hrun, hown, hg⟩ := h1.update K ht (by unfold maxLen; omega) hkey (val := v) (d := .held v) (ps := []) rfl
 have htd := h1.tidy K
 have es : Maps.size (D.put kl (.held v)) = if (pl kl).isSome then s else s + 1 := by rw [Maps.size_put htd, (h3 kl hk).1, h2]
 refine ⟨w', hrun, ⟨D.put kl (.held v), ?_, es, ?_⟩, hg⟩
 ·have e2 := MV.tight hown
  rw [es] at e2
  exact e2
 ·intro y hy
  unfold updM
  by_cases e : y = kl
  ·subst e
   rw [if_pos rfl]
   exact ⟨Maps.has_put_same h1.isMap hy _, fun z => Maps.atKey_put_same h1.isMap hy _ _⟩
  ·rw [if_neg e, Maps.has_put_other e]
   exact ⟨(h3 y hy).1, fun z => by rw [Maps.atKey_put_other e]; exact (h3 y hy).2 z⟩
theorem MV.len {t e : TypeId} (h : MV k w m s pl) (ht : Tryz.prog.underlying t = some (.map k e)) (ty : TypeId) : (Builtin.len_ #[t] ty #[.map (some m)]).run Tryz.prog w = .ok (.int .i64 (s : Int)) w := by
 obtain ⟨D, h1, h2, h3⟩ := h
 have := h1.len ht ty
 rw [h2] at this
 exact this
theorem MV.clear {t e : TypeId} (h : MV k w m s pl) (ht : Tryz.prog.underlying t = some (.map k e)) (ty : TypeId) : ∃ w', (Builtin.clear_ #[t] ty #[.map (some m)]).run Tryz.prog w = .ok (.tuple #[]) w' ∧ MV k w' m 0 (fun _ => none) ∧ w.grownBy w' (some m) := by
 obtain ⟨D, ⟨es, clock, hb, F, hn, rfl⟩, h2, h3⟩ := h
 have hset := MapKept.heap_set (o' := Obj.map #[] clock) hb
 refine ⟨{ w with heap := w.heap.setIfInBounds m (.map #[] clock) }, ?_, ⟨.map [], ⟨#[], clock, hset.1, ?_, Nat.le_refl _, rfl⟩, rfl, fun x _ => ⟨rfl, fun _ => rfl⟩⟩, ⟨rfl, rfl, rfl, by simp, fun i _ hi => hset.2 i (fun e => hi (by rw [e]))⟩⟩
 ·simp [Builtin.clear_, run_underlying ht, MapKept.run_getObj_map hb, MapKept.run_setObj_map _ hb, Result.andThen]
 ·exact ⟨by simp, stamped_empty _, by simp⟩
end
abbrev ky (x : ByteArray) : Lit := .string x.data.toList
theorem ky_key (x : ByteArray) : WideAt.IsKeyLit (ky x) := by simp [WideAt.IsKeyLit]
theorem ky_ne {x y : ByteArray} (h : x ≠ y) : ky x ≠ ky y := fun e => h (by
 injection e with e
 have e2 : x.data = y.data := Array.toList_inj.1 e
 cases x; cases y; simp_all)
theorem keyS {x : ByteArray} (h : x.size ≤ 1000) : keyOf Tryz.prog 9 (.string x) = some (ky x) := keyOf_string_mk Tryz.underlying9 (by unfold maxLen; omega)
theorem keyI {a : Int} (h0 : -1000000000000 ≤ a) (h1 : a ≤ 1000000000000) : keyOf Tryz.prog 3 (.int .i64 a) = some (.int .i64 a) := keyOf_int_mk Tryz.underlying3 (by simp [Lit.wf, IntKind.min, IntKind.max, IntKind.signed, IntKind.bits]; omega)
theorem lawS : Keyed Tryz.prog 9 := string_keyed Tryz.underlying9
theorem lawI : Keyed Tryz.prog 3 := int_keyed Tryz.underlying3
open Go.Maps Go.Sort Go.Shelf
def keysRen : Go.Shelf.Ren := ⟨fun | 7 => 358 | 10 => 398 | n => n, fun | 23 => 482 | 26 => 9 | 3 => 401 | 28 => 486 | 0 => 0 | 27 => 485 | 33 => 57 | 4 => 4 | n => n, fun | n => n⟩
theorem keysLay : Go.Proofs.SlLaysZ.n7 Tryz.prog keysRen := {
 mixed := by kernel_rfl
 f7 := ⟨Tryz.f358.name, by decide, Tryz.func358.trans (congrArg some (by kernel_rfl))⟩
 f10 := ⟨Tryz.f398.name, by decide, Tryz.func398.trans (congrArg some (by kernel_rfl))⟩
 t0 := Tryz.underlying0
 a0 := Tryz.isAgg0
 z0 := Tryz.sizeOf0
 v0 := Tryz.zeroValue0
 t4 := Tryz.underlying4
 a4 := Tryz.isAgg4
 z4 := Tryz.sizeOf4
 v4 := Tryz.zeroValue4
 t23 := Tryz.underlying482
 a23 := Tryz.isAgg482
 z23 := Tryz.sizeOf482
 v23 := Tryz.zeroValue482
 t26 := Tryz.underlying9
 a26 := Tryz.isAgg9
 z26 := Tryz.sizeOf9
 v26 := Tryz.zeroValue9
 t27 := Tryz.underlying485
 a27 := Tryz.isAgg485
 z27 := Tryz.sizeOf485
 v27 := Tryz.zeroValue485
 t28 := Tryz.underlying486
 a28 := Tryz.isAgg486
 z28 := Tryz.sizeOf486
 v28 := Tryz.zeroValue486
 t33 := Tryz.underlying57
 a33 := Tryz.isAgg57
 z33 := Tryz.sizeOf57
 v33 := Tryz.zeroValue57 }
def collectRen : Go.Shelf.Ren := ⟨fun | 8 => 397 | 11 => 423 | n => n, fun | 26 => 9 | 28 => 486 | 24 => 193 | 0 => 0 | 33 => 57 | 4 => 4 | n => n, fun | n => n⟩
theorem collectLay : Go.Proofs.SlLaysZ.n8 Tryz.prog collectRen := {
 mixed := by kernel_rfl
 f8 := ⟨Tryz.f397.name, by decide, Tryz.func397.trans (congrArg some (by kernel_rfl))⟩
 f11 := ⟨Tryz.f423.name, by decide, Tryz.func423.trans (congrArg some (by kernel_rfl))⟩
 t0 := Tryz.underlying0
 a0 := Tryz.isAgg0
 z0 := Tryz.sizeOf0
 v0 := Tryz.zeroValue0
 t24 := Tryz.underlying193
 a24 := Tryz.isAgg193
 z24 := Tryz.sizeOf193
 v24 := Tryz.zeroValue193
 t26 := Tryz.underlying9
 a26 := Tryz.isAgg9
 z26 := Tryz.sizeOf9
 v26 := Tryz.zeroValue9
 t28 := Tryz.underlying486
 a28 := Tryz.isAgg486
 z28 := Tryz.sizeOf486
 v28 := Tryz.zeroValue486
 i26 := by kernel_rfl }
theorem keysT.calls (mb : Option Nat) (w : World) : Calls Tryz.prog 358 #[.map mb] w fun e w' => e = .returned (.func (.func 398) #[] #[.pointer (some ⟨w.heap.size, 0, none⟩)]) ∧ w' = w.alloc (.cells #[.map mb] 482) :=
 callsIn_wide.1 (AnyZ.keys_in keysLay Fence.wide 5 trivial rfl mb w)
theorem encs_list (ss : List (List UInt8)) : encs Value.string (ss.map fun l => (⟨l.toArray⟩ : ByteArray)) = ss.map encStr := by
 unfold encs; rw [List.map_map]; rfl
theorem collectT.calls {w : World} {b s : Nat} {pl : Lit → Option Value} (h : MV 9 w b s pl) (hs : s ≤ 12) : Calls Tryz.prog 397 #[.func (.func 398) #[] #[.pointer (some ⟨w.heap.size, 0, none⟩)]] (w.alloc (.cells #[.map (some b)] 482)) fun e w' => ∃ (v : Value) (xs : List ByteArray), e = .returned v ∧ Kd.string.R 9 w' (w.alloc (.cells #[.map (some b)] 482)).heap.size (fun _ => True) v xs ∧ (xs = [] → v = .slice none 0 0) ∧ xs.length ≤ s ∧ (∀ x ∈ xs, (pl (ky x)).isSome = true) ∧ Below (w.alloc (.cells #[.map (some b)] 482)).heap.size (w.alloc (.cells #[.map (some b)] 482)) w' := by
 obtain ⟨D, hown, hsz, hpl⟩ := h
 have hbl := hown.lt
 have hseq : SeqGives Fence.wide 3 Tryz.prog 398 #[.pointer (some ⟨w.heap.size, 0, none⟩)] encStr (fun ss => ss.Perm (strKeys D)) (Maps.size D) (w.alloc (.cells #[.map (some b)] 482)) :=
  AnyZ.keys_gives (ρ := keysRen) { keysLay with } Fence.wide _ trivial rfl (by omega) w.heap.size b s D _ (by simp) (by simp) (by
   obtain ⟨es, clock, hb, Ft, hs, hD⟩ := hown
   exact ⟨es, clock, (Below.heap_alloc _ _ b hbl).trans hb, Ft, hs, hD⟩)
 have hc := callsIn_wide.1 (AnyZ.collect_in collectLay Fence.wide 5 trivial trivial rfl (by omega) 398 #[.pointer (some ⟨w.heap.size, 0, none⟩)] trivial (enters_of Tryz.func398 (by kernel_rfl) rfl) (fun ss => ss.Perm (strKeys D)) (Maps.size D) (by rw [hsz]; exact Nat.le_trans hs (by decide)) (by rw [hsz]; omega) _ hseq)
 refine hc.mono ?_
 rintro e w' ⟨v, ss, rfl, hp, ho, hn, hb⟩
 have hlen : ss.length = s := by
  rw [hp.length_eq, ← hsz]
  obtain ⟨es, rfl, _⟩ := hown.keysOf
  simp [strKeys, Maps.size]
 refine ⟨v, ss.map (fun l => ⟨l.toArray⟩), rfl, Kd.R_of_own (by rw [encs_list, List.length_map]; exact ho) (fun _ _ => trivial), fun hx => hn.2 (by simpa using hx), by simp [hlen], ?_, hb⟩
 intro x hx
 obtain ⟨l, hl, rfl⟩ := List.mem_map.1 hx
 have hm := hp.mem_iff.1 hl
 have h1 := (hpl (ky ⟨l.toArray⟩) (ky_key _)).1
 rw [← h1]
 obtain ⟨es, rfl, hko⟩ := hown.keysOf
 obtain ⟨p, hp2, hpx⟩ := List.mem_map.1 hm
 obtain ⟨y, hy⟩ := hko p hp2
 obtain ⟨z, _, hz, _⟩ := Maps.keyOf_str Tryz.underlying9 hy
 rw [hz] at hpx
 rw [Maps.has_eq, List.any_eq_true]
 refine ⟨p, hp2, ?_⟩
 rw [hz]
 have e : z = l := hpx
 rw [e]
 simp [ky, Lit.sameKey]
theorem sortedT.calls {w : World} {b s : Nat} {pl : Lit → Option Value} (h : MV 9 w b s pl) (hs : s ≤ 12) : Calls Tryz.prog 357 #[.func (.func 398) #[] #[.pointer (some ⟨w.heap.size, 0, none⟩)]] (w.alloc (.cells #[.map (some b)] 482)) fun e w' => ∃ (v : Value) (xs : List ByteArray), e = .returned v ∧ Kd.string.R 9 w' (w.heap.size + 1) (fun _ => True) v xs ∧ xs.length ≤ s ∧ (∀ x ∈ xs, (pl (ky x)).isSome = true) ∧ Below (w.heap.size + 1) (w.alloc (.cells #[.map (some b)] 482)) w' := by
 have hz : (w.alloc (.cells #[.map (some b)] 482)).heap.size = w.heap.size + 1 := by simp
 go_enter Tryz.func357, Tryz.ntmps357
 go_wp2_with fail
 refine (collectT.calls h hs).mono ?_
 rintro _ w1 ⟨v, xs, rfl, hr, hn, hl, ha, hb⟩
 rw [hz] at hr hb
 have HN := Aside0.mk (show xs = [] → v = .slice none 0 0 from hn)
 clear hn
 go_wp2_with fail
 refine (sortOS.calls hr HN.out (Nat.le_trans hl hs)).mono ?_
 rintro _ w2 ⟨rfl, ys, hp, hr2, hg⟩
 have HF := Aside0.mk (show Kd.string.R 9 w2 (w.heap.size + 1) (fun _ => True) v ys ∧ ys.length ≤ s ∧ (∀ x ∈ ys, (pl (ky x)).isSome = true) ∧ Below (w.heap.size + 1) (w.alloc (.cells #[.map (some b)] 482)) w2 from
  ⟨hr2, hp.length_eq ▸ hl, fun x hx => ha x (hp.mem_iff.1 hx), pw_below_grown hb v.ownBlock (by have := hb.size; omega) hg (fun k hk => by obtain ⟨inner, ho⟩ := Kd.R_own hr; exact own_base ho k hk)⟩)
 go_wp2; go_ret
 exact ⟨_, ys, rfl, HF.out⟩
abbrev Sp := Int × Int
abbrev Nd := ByteArray × List Sp
abbrev Rl := Int × List Nd
abbrev Mn := ByteArray × List Rl
abbrev En := ByteArray × List Int
abbrev Tm := ByteArray × (List Sp × Bool)
abbrev St := (Int × (ByteArray × Int)) × (ByteArray × (Int × Int))
def kSp : Kd Sp := Kd.pair (Kd.int .i64) (Kd.int .i64)
def kNd : Kd Nd := Kd.pair Kd.string (Kd.slice 126 kSp)
def kRl : Kd Rl := Kd.pair (Kd.int .i64) (Kd.slice 117 kNd)
def kMn : Kd Mn := Kd.pair Kd.string (Kd.slice 95 kRl)
def kEn : Kd En := Kd.pair Kd.string (Kd.slice 5 (Kd.int .u8))
def kTm : Kd Tm := Kd.pair Kd.string (Kd.pair (Kd.slice 126 kSp) Kd.bool)
def kSt : Kd St := Kd.pair (Kd.pair (Kd.int .i64) (Kd.pair Kd.string (Kd.int .i64))) (Kd.pair Kd.string (Kd.pair (Kd.int .i64) (Kd.int .i64)))
def zSp : Sp := (0, 0)
def zNd : Nd := (⟨#[]⟩, [])
def zRl : Rl := (0, [])
def zMn : Mn := (⟨#[]⟩, [])
def zEn : En := (⟨#[]⟩, [])
def zTm : Tm := (⟨#[]⟩, ([], false))
def zSt : St := ((0, (⟨#[]⟩, 0)), (⟨#[]⟩, (0, 0)))
theorem infoSp : (Tryz.prog.info? 126).map (fun i => (i.zero, i.size, i.bytes)) = some (some (.agg #[.int .i64 0, .int .i64 0]), 2, 16) := by kernel_rfl
theorem infoNd : (Tryz.prog.info? 117).map (fun i => (i.zero, i.size, i.bytes)) = some (some (.agg #[.string ⟨#[]⟩, .slice none 0 0]), 2, 40) := by kernel_rfl
theorem infoRl : (Tryz.prog.info? 95).map (fun i => (i.zero, i.size, i.bytes)) = some (some (.agg #[.int .i64 0, .slice none 0 0]), 2, 32) := by kernel_rfl
theorem infoMn : (Tryz.prog.info? 91).map (fun i => (i.zero, i.size, i.bytes)) = some (some (.agg #[.string ⟨#[]⟩, .slice none 0 0]), 2, 40) := by kernel_rfl
theorem infoEn : (Tryz.prog.info? 59).map (fun i => (i.zero, i.size, i.bytes)) = some (some (.agg #[.string ⟨#[]⟩, .slice none 0 0]), 2, 40) := by kernel_rfl
theorem infoTm : (Tryz.prog.info? 401).map (fun i => (i.zero, i.size, i.bytes)) = some (some (.agg #[.string ⟨#[]⟩, .slice none 0 0, .bool false]), 3, 48) := by kernel_rfl
theorem infoSt : (Tryz.prog.info? 219).map (fun i => (i.zero, i.size, i.bytes)) = some (some (.agg #[.int .i64 0, .string ⟨#[]⟩, .int .i64 0, .string ⟨#[]⟩, .int .i64 0, .int .i64 0]), 6, 64) := by kernel_rfl
section
variable {w : World} {A : Option Addr} {n : Nat} {base : Nat} {ok : Nat → Prop}
theorem kSp_mkM (x : Sp) : kSp.M w base ok x [.int .i64 x.1, .int .i64 x.2] := ⟨[.int .i64 x.1], [.int .i64 x.2], rfl, rfl, rfl⟩
theorem kNd_mkM (x : Nd) {v : Value} (h : kSp.R 126 w base ok v x.2) : kNd.M w base ok x [.string x.1, v] := ⟨[.string x.1], [v], rfl, rfl, ⟨v, rfl, h⟩⟩
theorem kRl_mkM (x : Rl) {v : Value} (h : kNd.R 117 w base ok v x.2) : kRl.M w base ok x [.int .i64 x.1, v] := ⟨[.int .i64 x.1], [v], rfl, rfl, ⟨v, rfl, h⟩⟩
theorem kMn_mkM (x : Mn) {v : Value} (h : kRl.R 95 w base ok v x.2) : kMn.M w base ok x [.string x.1, v] := ⟨[.string x.1], [v], rfl, rfl, ⟨v, rfl, h⟩⟩
theorem kEn_mkM (x : En) {v : Value} (h : (Kd.int .u8).R 5 w base ok v x.2) : kEn.M w base ok x [.string x.1, v] := ⟨[.string x.1], [v], rfl, rfl, ⟨v, rfl, h⟩⟩
theorem kTm_mkM (x : Tm) {v : Value} (h : kSp.R 126 w base ok v x.2.1) : kTm.M w base ok x [.string x.1, v, .bool x.2.2] := ⟨[.string x.1], [v, .bool x.2.2], rfl, rfl, ⟨[v], [.bool x.2.2], rfl, ⟨v, rfl, h⟩, rfl⟩⟩
theorem kSt_mkM (x : St) : kSt.M w base ok x [.int .i64 x.1.1, .string x.1.2.1, .int .i64 x.1.2.2, .string x.2.1, .int .i64 x.2.2.1, .int .i64 x.2.2.2] := ⟨[.int .i64 x.1.1, .string x.1.2.1, .int .i64 x.1.2.2], [.string x.2.1, .int .i64 x.2.2.1, .int .i64 x.2.2.2], rfl, ⟨[_], [_, _], rfl, rfl, ⟨[_], [_], rfl, rfl, rfl⟩⟩, ⟨[_], [_, _], rfl, rfl, ⟨[_], [_], rfl, rfl, rfl⟩⟩⟩
theorem at_Sp {xs : List Sp} (h : kSp.C w A n xs) (i : Nat) (hi : i < n) : ∃ ad, A = some ad ∧ w.cell? (ad.add (i * 2)) = some (.int .i64 (xs.getD i zSp).1) ∧ w.cell? ⟨(ad.add (i * 2)).block, (ad.add (i * 2)).off + 1, none⟩ = some (.int .i64 (xs.getD i zSp).2) := by
 obtain ⟨ad, c, e, _, hK, hc0⟩ := Kd.C_get h zSp (i : Int) (by omega) (by omega)
 have hc : ∀ j u, c[j]? = some u → w.cell? (ad.add (i * 2 + j)) = some u := hc0
 obtain ⟨_, _, rfl, rfl, rfl⟩ := hK
 exact ⟨ad, e, hc 0 _ rfl, by rw [← add_field _ _ 1 (by omega)]; exact hc 1 _ rfl⟩
theorem at_Nd {xs : List Nd} (h : kNd.C w A n xs) (i : Nat) (hi : i < n) : ∃ ad A1 c1, A = some ad ∧ w.cell? (ad.add (i * 2)) = some (.string (xs.getD i zNd).1) ∧ w.cell? ⟨(ad.add (i * 2)).block, (ad.add (i * 2)).off + 1, none⟩ = some (.slice A1 (xs.getD i zNd).2.length c1) ∧ (xs.getD i zNd).2.length ≤ c1 ∧ kSp.C w A1 (xs.getD i zNd).2.length (xs.getD i zNd).2 := by
 obtain ⟨ad, c, e, _, hK, hc0⟩ := Kd.C_get h zNd (i : Int) (by omega) (by omega)
 have hc : ∀ j u, c[j]? = some u → w.cell? (ad.add (i * 2 + j)) = some u := hc0
 obtain ⟨_, _, rfl, rfl, ⟨A1, c1, rfl, l1, g1⟩⟩ := hK
 exact ⟨ad, A1, c1, e, hc 0 _ rfl, by rw [← add_field _ _ 1 (by omega)]; exact hc 1 _ rfl, l1, g1⟩
theorem at_Rl {xs : List Rl} (h : kRl.C w A n xs) (i : Nat) (hi : i < n) : ∃ ad A1 c1, A = some ad ∧ w.cell? (ad.add (i * 2)) = some (.int .i64 (xs.getD i zRl).1) ∧ w.cell? ⟨(ad.add (i * 2)).block, (ad.add (i * 2)).off + 1, none⟩ = some (.slice A1 (xs.getD i zRl).2.length c1) ∧ (xs.getD i zRl).2.length ≤ c1 ∧ kNd.C w A1 (xs.getD i zRl).2.length (xs.getD i zRl).2 := by
 obtain ⟨ad, c, e, _, hK, hc0⟩ := Kd.C_get h zRl (i : Int) (by omega) (by omega)
 have hc : ∀ j u, c[j]? = some u → w.cell? (ad.add (i * 2 + j)) = some u := hc0
 obtain ⟨_, _, rfl, rfl, ⟨A1, c1, rfl, l1, g1⟩⟩ := hK
 exact ⟨ad, A1, c1, e, hc 0 _ rfl, by rw [← add_field _ _ 1 (by omega)]; exact hc 1 _ rfl, l1, g1⟩
theorem at_Mn {xs : List Mn} (h : kMn.C w A n xs) (i : Nat) (hi : i < n) : ∃ ad A1 c1, A = some ad ∧ w.cell? (ad.add (i * 2)) = some (.string (xs.getD i zMn).1) ∧ w.cell? ⟨(ad.add (i * 2)).block, (ad.add (i * 2)).off + 1, none⟩ = some (.slice A1 (xs.getD i zMn).2.length c1) ∧ (xs.getD i zMn).2.length ≤ c1 ∧ kRl.C w A1 (xs.getD i zMn).2.length (xs.getD i zMn).2 := by
 obtain ⟨ad, c, e, _, hK, hc0⟩ := Kd.C_get h zMn (i : Int) (by omega) (by omega)
 have hc : ∀ j u, c[j]? = some u → w.cell? (ad.add (i * 2 + j)) = some u := hc0
 obtain ⟨_, _, rfl, rfl, ⟨A1, c1, rfl, l1, g1⟩⟩ := hK
 exact ⟨ad, A1, c1, e, hc 0 _ rfl, by rw [← add_field _ _ 1 (by omega)]; exact hc 1 _ rfl, l1, g1⟩
theorem at_En {xs : List En} (h : kEn.C w A n xs) (i : Nat) (hi : i < n) : ∃ ad A1 c1, A = some ad ∧ w.cell? (ad.add (i * 2)) = some (.string (xs.getD i zEn).1) ∧ w.cell? ⟨(ad.add (i * 2)).block, (ad.add (i * 2)).off + 1, none⟩ = some (.slice A1 (xs.getD i zEn).2.length c1) ∧ (xs.getD i zEn).2.length ≤ c1 ∧ (Kd.int .u8).C w A1 (xs.getD i zEn).2.length (xs.getD i zEn).2 := by
 obtain ⟨ad, c, e, _, hK, hc0⟩ := Kd.C_get h zEn (i : Int) (by omega) (by omega)
 have hc : ∀ j u, c[j]? = some u → w.cell? (ad.add (i * 2 + j)) = some u := hc0
 obtain ⟨_, _, rfl, rfl, ⟨A1, c1, rfl, l1, g1⟩⟩ := hK
 exact ⟨ad, A1, c1, e, hc 0 _ rfl, by rw [← add_field _ _ 1 (by omega)]; exact hc 1 _ rfl, l1, g1⟩
theorem at_Tm {xs : List Tm} (h : kTm.C w A n xs) (i : Nat) (hi : i < n) : ∃ ad A1 c1, A = some ad ∧ w.cell? (ad.add (i * 3)) = some (.string (xs.getD i zTm).1) ∧ w.cell? ⟨(ad.add (i * 3)).block, (ad.add (i * 3)).off + 1, none⟩ = some (.slice A1 (xs.getD i zTm).2.1.length c1) ∧ w.cell? ⟨(ad.add (i * 3)).block, (ad.add (i * 3)).off + 2, none⟩ = some (.bool (xs.getD i zTm).2.2) ∧ (xs.getD i zTm).2.1.length ≤ c1 ∧ kSp.C w A1 (xs.getD i zTm).2.1.length (xs.getD i zTm).2.1 := by
 obtain ⟨ad, c, e, _, hK, hc0⟩ := Kd.C_get h zTm (i : Int) (by omega) (by omega)
 have hc : ∀ j u, c[j]? = some u → w.cell? (ad.add (i * 3 + j)) = some u := hc0
 obtain ⟨_, _, rfl, rfl, ⟨_, _, rfl, ⟨A1, c1, rfl, l1, g1⟩, rfl⟩⟩ := hK
 exact ⟨ad, A1, c1, e, hc 0 _ rfl, by rw [← add_field _ _ 1 (by omega)]; exact hc 1 _ rfl, by rw [← add_field _ _ 2 (by omega)]; exact hc 2 _ rfl, l1, g1⟩
theorem at_St {xs : List St} (h : kSt.C w A n xs) (i : Nat) (hi : i < n) : ∃ ad, A = some ad ∧ w.cell? (ad.add (i * 6)) = some (.int .i64 (xs.getD i zSt).1.1) ∧ w.cell? ⟨(ad.add (i * 6)).block, (ad.add (i * 6)).off + 1, none⟩ = some (.string (xs.getD i zSt).1.2.1) ∧ w.cell? ⟨(ad.add (i * 6)).block, (ad.add (i * 6)).off + 2, none⟩ = some (.int .i64 (xs.getD i zSt).1.2.2) ∧ w.cell? ⟨(ad.add (i * 6)).block, (ad.add (i * 6)).off + 3, none⟩ = some (.string (xs.getD i zSt).2.1) ∧ w.cell? ⟨(ad.add (i * 6)).block, (ad.add (i * 6)).off + 4, none⟩ = some (.int .i64 (xs.getD i zSt).2.2.1) ∧ w.cell? ⟨(ad.add (i * 6)).block, (ad.add (i * 6)).off + 5, none⟩ = some (.int .i64 (xs.getD i zSt).2.2.2) := by
 obtain ⟨ad, c, e, _, hK, hc0⟩ := Kd.C_get h zSt (i : Int) (by omega) (by omega)
 have hc : ∀ j u, c[j]? = some u → w.cell? (ad.add (i * 6 + j)) = some u := hc0
 obtain ⟨_, _, rfl, ⟨_, _, rfl, rfl, ⟨_, _, rfl, rfl, rfl⟩⟩, ⟨_, _, rfl, rfl, ⟨_, _, rfl, rfl, rfl⟩⟩⟩ := hK
 refine ⟨ad, e, hc 0 _ rfl, ?_, ?_, ?_, ?_, ?_⟩
 ·rw [← add_field _ _ 1 (by omega)]; exact hc 1 _ rfl
 ·rw [← add_field _ _ 2 (by omega)]; exact hc 2 _ rfl
 ·rw [← add_field _ _ 3 (by omega)]; exact hc 3 _ rfl
 ·rw [← add_field _ _ 4 (by omega)]; exact hc 4 _ rfl
 ·rw [← add_field _ _ 5 (by omega)]; exact hc 5 _ rfl
end
theorem meas (n i : Nat) (h : i < n) : ((n : Int) - ((i : Int) + 1)).toNat < ((n : Int) - (i : Int)).toNat := by omega
theorem drop_at {α : Type} (xs : List α) (z : α) (i : Nat) (h : i < xs.length) : xs.drop i = xs.getD i z :: xs.drop (i + 1) := by
 rw [List.drop_eq_getElem_cons h]
 simp [List.getD_eq_getElem?_getD, h]
theorem take_at {α : Type} (xs : List α) (z : α) (i : Nat) (h : i < xs.length) : xs.take (i + 1) = xs.take i ++ [xs.getD i z] := by
 rw [List.take_add_one]
 simp [List.getD_eq_getElem?_getD, h]
theorem getD_mem {α : Type} (xs : List α) (z : α) (i : Nat) (h : i < xs.length) : xs.getD i z ∈ xs := by
 simp [List.getD_eq_getElem?_getD, h]
theorem lit {α : Type} (d : Kd α) (W : World) (base : Nat) (e : TypeId) {xs : List α} {inner : List Value} {ok okp : Nat → Prop} (hrep : Reps (d.M W base okp) d.sz xs inner) (hok : ∀ k, okp k → ok k) (hfresh : ok W.heap.size) (hbase : base ≤ W.heap.size) (hm : xs.length ≤ 9223372036854775807) :
  d.R e (W.alloc (.cells inner.toArray e)) base ok (.slice (some ⟨W.heap.size, 0, none⟩) xs.length xs.length) xs := by
 refine ⟨fun k hk => ?_, inner, ?_, ?_⟩
 ·have : W.heap.size = k := by simpa [Value.ownBlock] using hk
  subst this
  exact hfresh
 ·have h2 := World.ownsRow_lit (base := base) (e := e) (size := d.sz) W inner.toArray xs.length hbase (by simpa [maxLen] using hm) (by simpa using hrep.1)
  simpa using h2
 ·refine hrep.imp_ (fun p c hp => d.M_mono (fun k hk => ⟨hok k hk.1, fun he => ?_⟩) (Kd.M_below (d.M_bound hp) (below_alloc (Below.refl _ _) _)))
  have h3 : k = W.heap.size := by simpa [Value.ownBlock] using he
  have := hk.2.2.1
  omega
theorem lit1 {α : Type} (d : Kd α) (W : World) (base : Nat) (e : TypeId) {x : α} {inner : List Value} {ok okp : Nat → Prop} (h : d.M W base okp x inner) (hok : ∀ k, okp k → ok k) (hfresh : ok W.heap.size) (hbase : base ≤ W.heap.size) :
  d.R e (W.alloc (.cells inner.toArray e)) base ok (.slice (some ⟨W.heap.size, 0, none⟩) 1 1) [x] :=
 lit d W base e (xs := [x]) (by have := (Reps.none (d.M W base okp) d.sz).snoc h (d.K_len (d.K_of_M h)); simpa using this) hok hfresh hbase (by simp)
theorem lit2 {α : Type} (d : Kd α) (W : World) (base : Nat) (e : TypeId) {x y : α} {i1 i2 : List Value} {ok okp : Nat → Prop} (h : d.M W base okp x i1) (h2 : d.M W base okp y i2) (hok : ∀ k, okp k → ok k) (hfresh : ok W.heap.size) (hbase : base ≤ W.heap.size) :
  d.R e (W.alloc (.cells (i1 ++ i2).toArray e)) base ok (.slice (some ⟨W.heap.size, 0, none⟩) 2 2) [x, y] :=
 lit d W base e (xs := [x, y]) (by have := ((Reps.none (d.M W base okp) d.sz).snoc h (d.K_len (d.K_of_M h))).snoc h2 (d.K_len (d.K_of_M h2)); simpa using this) hok hfresh hbase (by simp)
def SpOk : Int → List Sp → Prop
 | _, [] => True
 | e, s :: r => e < s.1 ∧ s.1 < s.2 ∧ s.2 ≤ 1000000000 ∧ SpOk s.2 r
set_option maxRecDepth 100000 in
set_option maxHeartbeats 4000000 in
theorem span.Check.calls {w : World} {A : Option Addr} {c : Nat} {xs : List Sp} (h : kSp.C w A xs.length xs) (hl : xs.length ≤ 1000) (hk : SpOk (-1) xs) : Calls Tryz.prog 49 #[.slice A xs.length c] w fun e w' => e = .returned (.bool true) ∧ Below w.heap.size w w' := by
 have H := Aside0.mk h
 have HL := Aside0.mk hl
 have HK := Aside0.mk hk
 clear h hl hk
 go_enter Tryz.func49, Tryz.ntmps49
 go_wp2
 go_loopw [3, 8] (fun ev iv wr => ∃ (i : Nat) (z : Int), iv = .int .i64 (i : Int) ∧ ev = .int .i64 z ∧ i ≤ xs.length ∧ Aside0 (SpOk z (xs.drop i)) ∧ Aside0 (Below w.heap.size w wr)) (fun _ iv _ => (xs.length - intOf iv).toNat)
 case atStart => exact ⟨0, -1, rfl, rfl, by omega, HK, ⟨Below.refl _ _⟩⟩
 case round =>
  obtain ⟨i, z, rfl, rfl, hi, HZ, HB⟩ := hrel
  have hll := HL.out
  by_cases hlt : i < xs.length
  ·have q0 : decide ((i : Int) < (xs.length : Int)) = true := decide_eq_true (by omega)
   have u0 : (0 : Int) ≤ (i : Int) := by omega
   have u1 : (i : Int) < (xs.length : Int) := by omega
   have a9 : wrap64 ((i : Int) + 1) = (i : Int) + 1 := wrap_id (by omega) (by omega)
   obtain ⟨ad, rfl, c0, c1⟩ := at_Sp (Kd.C_below H.out HB.out) i hlt
   have hd := HZ.out
   rw [drop_at xs zSp i hlt] at hd
   generalize xs.getD i zSp = s at c0 c1 hd
   obtain ⟨h1, h2, h3, h4⟩ := hd
   have q1 : decide (s.1 ≤ z) = false := decide_eq_false (by omega)
   have q2 : decide (s.2 ≤ s.1) = false := decide_eq_false (by omega)
   have q3 : decide (1000000000 < s.2) = false := decide_eq_false (by omega)
   have HN := Aside0.mk h4
   clear h1 h2 h3 h4 HZ hll
   go_wp2
   go_roundw
   case rel => exact ⟨i + 1, s.2, by go_num, rfl, by omega, HN, ⟨by repeat (first | exact HB.out | apply below_alloc)⟩⟩
   case measure => rw [a9]; exact meas _ _ hlt
  ·have q0 : decide ((i : Int) < (xs.length : Int)) = false := decide_eq_false (by omega)
   go_wp2
   go_ret
   exact ⟨rfl, HB.out⟩
theorem span.All.calls (w : World) : Calls Tryz.prog 123 #[] w fun e w' => ∃ v, e = .returned v ∧ kSp.R 126 w' w.heap.size (fun _ => True) v [(0, 1000000000)] ∧ Below w.heap.size w w' := by
 have HR := Aside0.mk (lit1 kSp w w.heap.size 126 (kSp_mkM (w := w) (base := w.heap.size) (ok := fun _ => True) (0, 1000000000)) (ok := fun _ => True) (fun _ h => h) trivial (Nat.le_refl _))
 go_enter Tryz.func123, Tryz.ntmps123
 go_wp2
 go_ret
 exact ⟨_, rfl, HR.out, below_alloc (Below.refl _ _) _⟩
theorem span.One.calls (p : Int) (h0 : 0 ≤ p) (h1 : p < 1000000000) (w : World) : Calls Tryz.prog 125 #[.int .i64 p] w fun e w' => ∃ v, e = .returned v ∧ kSp.R 126 w' w.heap.size (fun _ => True) v [(p, p + 1)] ∧ Below w.heap.size w w' := by
 have q0 : decide (p < 0) = false := decide_eq_false (by omega)
 have q1 : decide (1000000000 ≤ p) = false := decide_eq_false (by omega)
 have a0 : wrap64 (p + 1) = p + 1 := wrap_id (by omega) (by omega)
 have HR := Aside0.mk (lit1 kSp w w.heap.size 126 (kSp_mkM (w := w) (base := w.heap.size) (ok := fun _ => True) (p, p + 1)) (ok := fun _ => True) (fun _ h => h) trivial (Nat.le_refl _))
 clear h0 h1
 go_enter Tryz.func125, Tryz.ntmps125
 go_wp2
 go_ret
 exact ⟨_, rfl, by first | exact HR.out | (rw [a0]; exact HR.out), below_alloc (Below.refl _ _) _⟩
theorem compareG.calls (a b : Int) (h : b < a) (w : World) : Calls Tryz.prog 116 #[.int .i64 a, .int .i64 b] w fun e w' => e = .returned (.int .i64 1) ∧ w' = w := by
 have e0 : ∀ (x : Int) (w : World), Calls Tryz.prog 167 #[.int .i64 x] w fun e w' => e = .returned (.bool false) ∧ w' = w := by
  intro x w
  have q : (x != x) = false := bne_self_eq_false _
  go_enter Tryz.func167, Tryz.ntmps167
  go_wp2
  go_ret
  exact ⟨rfl, rfl⟩
 have q0 : decide (a < b) = false := decide_eq_false (by omega)
 have q1 : decide (b < a) = true := decide_eq_true h
 clear h
 go_enter Tryz.func116, Tryz.ntmps116
 go_wp2_with fail
 refine (e0 a w).mono ?_
 rintro e w4 ⟨rfl, rfl⟩
 go_wp2_with fail
 refine (e0 b w4).mono ?_
 rintro e w5 ⟨rfl, rfl⟩
 go_wp2
 go_ret
 exact ⟨rfl, rfl⟩
theorem spanOf1.calls (a b : Sp) (h : b.1 < a.1) (w : World) : Calls Tryz.prog 182 #[.agg #[.int .i64 a.1, .int .i64 a.2], .agg #[.int .i64 b.1, .int .i64 b.2]] w fun e w' => e = .returned (.int .i64 1) ∧ Below w.heap.size w w' := by
 have HH := Aside0.mk h
 clear h
 go_enter Tryz.func182, Tryz.ntmps182
 go_wp2_with fail
 refine (compareG.calls _ _ HH.out _).mono ?_
 rintro e w4 ⟨rfl, rfl⟩
 go_wp2
 go_ret
 exact ⟨rfl, by repeat (first | exact Below.refl _ _ | apply below_alloc)⟩
def INSS4.T4 : Bool × List (List Nat × List Nat) := (true, [([], []), ([], []), ([0, 1], [0, 1]), ([2], [2]), ([3], [3]), ([3], [3]), ([3], [3]), ([5, 6, 3], [3, 5, 6]), ([7, 3], [3, 7]), ([3], [3]), ([3], [3]), ([10, 3], [3, 10]), ([9, 11, 3], [3, 9, 11]), ([12, 3], [3, 12]), ([4, 8, 13, 3, 3], [3, 4, 8, 13]), ([14, 3], [3, 14]), ([3, 15], [3, 15])])
def INSS4.B4 : List Nat := [0, 0, 3, 7, 15, 15, 15, 111, 239, 15, 15, 1039, 3599, 7695, 16383, 32767, 65535]
theorem INSS4.tab4 : rtab .any (opsOf Tryz.f298 4) = INSS4.T4 := by kernel_rfl
theorem INSS4.bits4 : waitsOk INSS4.T4.2 INSS4.B4 = true := by kernel_rfl
set_option maxHeartbeats 4000000 in
set_option maxRecDepth 100000 in
theorem insSp.calls {w : World} {A : Option Addr} {c : Nat} {xs : List Sp} (h : kSp.C w A xs.length xs) (hs : xs.length ≤ 1 ∨ (xs.length = 2 ∧ (xs.getD 0 zSp).1 < (xs.getD 1 zSp).1)) :
  Calls Tryz.prog 298 #[.slice A xs.length c, .int .i64 0, .int .i64 (xs.length : Int), .func (.func 182) #[] #[]] w fun e w' => e = .returned (.tuple #[]) ∧ Below w.heap.size w w' := by
 have H := Aside0.mk h
 have HS := Aside0.mk hs
 clear h hs
 go_enter Tryz.func298, Tryz.ntmps298
 go_wp2
 go_loopw [8] (fun iv wr => ∃ i : Nat, iv = .int .i64 (i : Int) ∧ 1 ≤ i ∧ Aside0 (Below w.heap.size w wr)) (fun iv _ => ((xs.length : Int) - intOf iv).toNat)
 case atStart => exact ⟨1, by go_num, Nat.le_refl _, ⟨Below.refl _ _⟩⟩
 case round =>
  obtain ⟨i, rfl, hi, HB⟩ := hrel
  by_cases hil : i < xs.length
  ·have q0 : decide ((i : Int) < (xs.length : Int)) = true := decide_eq_true (by omega)
   have HI := Aside0.mk (show xs.length = 2 ∧ (xs.getD 0 zSp).1 < (xs.getD 1 zSp).1 from by rcases HS.out with h | h; omega; exact h)
   have HL := Aside0.mk hil
   have HI1 := Aside0.mk (show i = 1 by have := HI.out.1; omega)
   go_wp2
   go_loopw [9] (fun jv wq => ∃ j : Nat, jv = .int .i64 (j : Int) ∧ Aside0 (j = i) ∧ Aside0 (Below w.heap.size w wq)) (fun jv _ => 0)
   case atStart => exact ⟨i, rfl, ⟨rfl⟩, HB⟩
   case round =>
    clear HB
    obtain ⟨j, rfl, HJ, HB⟩ := hrel
    obtain ⟨k, hk⟩ : ∃ k : Nat, k = 0 := ⟨0, rfl⟩
    have hjk : j = k + 1 := by have := HJ.out; have := HI1.out; omega
    subst hjk
    have HK := Aside0.mk hk
    clear hk
    have hlk : k + 1 < xs.length := by have := HI.out.1; have := HK.out; omega
    have ai : wrap64 ((i : Int) + 1) = (i : Int) + 1 := wrap_id (by have := HI1.out; omega) (by have := HI1.out; omega)
    have hL := HI.out.1
    have q1 : decide ((0 : Int) < ((k + 1 : Nat) : Int)) = true := decide_eq_true (by omega)
    have r0 : (0 : Int) ≤ ((k + 1 : Nat) : Int) := by omega
    have r1 : ((k + 1 : Nat) : Int) < (xs.length : Int) := by omega
    have r2 : (0 : Int) ≤ (k : Int) := by omega
    have r3 : (k : Int) < (xs.length : Int) := by omega
    have s0 : (0 : Int) ≤ (k : Int) + 1 := by omega
    have s1 : (k : Int) + 1 < (xs.length : Int) := by omega
    have w0 : wrap64 (k : Int) = (k : Int) := wrap_id (by omega) (by omega)
    have a9 : wrap64 (((k + 1 : Nat) : Int) + 1) = ((k + 1 : Nat) : Int) + 1 := wrap_id (by omega) (by omega)
    have HC := Aside0.mk (Kd.C_below H.out (HB.out.mono (Nat.le_refl _)))
    obtain ⟨ad, rfl, ca, ca2⟩ := at_Sp HC.out (k + 1) (by omega)
    obtain ⟨ad', e', cb, cb2⟩ := at_Sp HC.out k (by omega)
    injection e' with e'
    subst e'
    have hlt := HI.out.2
    have e0 : xs.getD 0 zSp = xs.getD k zSp := by rw [HK.out]
    have e1 : xs.getD 1 zSp = xs.getD (k + 1) zSp := by rw [HK.out]
    rw [e0, e1] at hlt
    generalize xs.getD (k + 1) zSp = b at ca ca2 hlt
    generalize xs.getD k zSp = a at cb cb2 hlt
    have HAB := Aside0.mk hlt
    clear hlt e0 e1 hL
    go_wp2
    have HA := Aside0.mk (show wr.drew.cell? _ = _ ∧ wr.drew.cell? _ = _ ∧ wr.drew.cell? _ = _ ∧ wr.drew.cell? _ = _ from ⟨ca, ca2, cb, cb2⟩)
    clear ca ca2 cb cb2
    refine start_ (n := 17) (S := fun w' => w'.cell? (ad.add ((k + 1) * 2)) = some (.int .i64 b.1) ∧ w'.cell? ⟨(ad.add ((k + 1) * 2)).block, (ad.add ((k + 1) * 2)).off + 1, none⟩ = some (.int .i64 b.2) ∧ w'.cell? (ad.add (k * 2)) = some (.int .i64 a.1) ∧ w'.cell? ⟨(ad.add (k * 2)).block, (ad.add (k * 2)).off + 1, none⟩ = some (.int .i64 a.2)) (ds := []) #[O,O,O,O,O,O,O,O,O,O,O,O,O,O,O,O,O] (by kernel_rfl) rfl rfl ⟨HA.out.1, HA.out.2.1, HA.out.2.2.1, HA.out.2.2.2⟩ (fun hHeld => ?_)
    refine with_tabW INSS4.tab4 INSS4.bits4 (fun HT_ HW_ => ?_)
    refine pure_ (i := 0) (N := some 18) (v := ?_) (a' := ?_) #[Y,O,O,O,O,O,O,O,O,O,O,O,O,O,O,O,O] rfl rfl (any_of HT_.out (by kernel_rfl)) (fun _ _ _ h => h) (Or.inl ⟨by rfl, ?_⟩) ?_ ?_
    rotate_left
    ·intro w'
     go_simp
     with_reducible rfl
    rotate_left
    ·simp only [PN]
     rfl
    refine pure_ (i := 1) (N := some 19) (v := ?_) (a' := ?_) #[Y,Y,O,O,O,O,O,O,O,O,O,O,O,O,O,O,O] rfl rfl (any_of HT_.out (by kernel_rfl)) (fun _ _ _ h => h) (Or.inl ⟨by rfl, ?_⟩) ?_ ?_
    rotate_left
    ·intro w'
     go_simp
     with_reducible rfl
    rotate_left
    ·simp only [PN]
     rfl
    refine pure_ (i := 2) (N := some 20) (v := ?_) (a' := ?_) #[Y,Y,Y,O,O,O,O,O,O,O,O,O,O,O,O,O,O] rfl rfl (any_of HT_.out (by kernel_rfl)) (fun _ _ _ h => h) (Or.inl ⟨by rfl, ?_⟩) ?_ ?_
    rotate_left
    ·intro w'
     go_simp
     with_reducible rfl
    rotate_left
    ·simp only [PN]
     rfl
    refine pure_ (i := 3) (N := some 21) (v := ?_) (a' := ?_) #[Y,Y,Y,Y,O,O,O,O,O,O,O,O,O,O,O,O,O] rfl rfl (any_of HT_.out (by kernel_rfl)) (fun _ _ _ h => h) (Or.inl ⟨by rfl, ?_⟩) ?_ ?_
    rotate_left
    ·intro w'
     go_simp
     with_reducible rfl
    rotate_left
    ·simp only [PN]
     rfl
    refine pure_ (i := 4) (N := some 22) (v := ?_) (a' := ?_) #[Y,Y,Y,Y,Y,O,O,O,O,O,O,O,O,O,O,O,O] rfl rfl (any_of HT_.out (by kernel_rfl)) (fun _ _ _ h => h) (Or.inl ⟨by rfl, ?_⟩) ?_ ?_
    rotate_left
    ·intro w'
     go_simp
     with_reducible rfl
    rotate_left
    ·simp only [PN]
     rfl
    refine pure_ (i := 5) (N := some 23) (v := ?_) (a' := ?_) #[Y,Y,Y,Y,Y,Y,O,O,O,O,O,O,O,O,O,O,O] rfl rfl (any_of HT_.out (by kernel_rfl)) (fun _ _ _ h => h) (Or.inl ⟨by rfl, ?_⟩) ?_ ?_
    rotate_left
    ·intro w'
     go_simp
     with_reducible rfl
    rotate_left
    ·simp only [PN]
     rfl
    refine pure_ (i := 6) (N := some 24) (v := ?_) (a' := ?_) #[Y,Y,Y,Y,Y,Y,Y,O,O,O,O,O,O,O,O,O,O] rfl rfl (any_of HT_.out (by kernel_rfl)) (fun _ _ _ h => h) (Or.inl ⟨by rfl, ?_⟩) ?_ ?_
    rotate_left
    ·intro w'
     go_simp
     with_reducible rfl
    rotate_left
    ·simp only [PN]
     rfl
    refine pure_ (i := 7) (N := some 25) (v := ?_) (a' := ?_) #[Y,Y,Y,Y,Y,Y,Y,Y,O,O,O,O,O,O,O,O,O] rfl rfl (any_of HT_.out (by kernel_rfl)) (fun _ _ _ h => h) (Or.inl ⟨by rfl, ?_⟩) ?_ ?_
    rotate_left
    ·intro w'
     go_simp
     with_reducible rfl
    rotate_left
    ·simp only [PN]
     rfl
    refine pure_ (i := 9) (N := some 27) (v := ?_) (a' := ?_) #[Y,Y,Y,Y,Y,Y,Y,Y,O,Y,O,O,O,O,O,O,O] rfl rfl (any_of HT_.out (by kernel_rfl)) (fun _ _ _ h => h) (Or.inl ⟨by rfl, ?_⟩) ?_ ?_
    rotate_left
    ·intro w'
     go_simp
     with_reducible rfl
    rotate_left
    ·simp only [PN]
     rfl
    refine pure_ (i := 10) (N := some 28) (v := ?_) (a' := ?_) #[Y,Y,Y,Y,Y,Y,Y,Y,O,Y,Y,O,O,O,O,O,O] rfl rfl (any_of HT_.out (by kernel_rfl)) (fun _ _ _ h => h) (Or.inl ⟨by rfl, ?_⟩) ?_ ?_
    rotate_left
    ·intro w'
     go_simp
     with_reducible rfl
    rotate_left
    ·simp only [PN]
     rfl
    refine pure_ (i := 11) (N := some 29) (v := ?_) (a' := ?_) #[Y,Y,Y,Y,Y,Y,Y,Y,O,Y,Y,Y,O,O,O,O,O] rfl rfl (any_of HT_.out (by kernel_rfl)) (fun _ _ _ h => h) (Or.inl ⟨by rfl, ?_⟩) ?_ ?_
    rotate_left
    ·intro w'
     go_simp
     with_reducible rfl
    rotate_left
    ·simp only [PN]
     rfl
    refine pure_ (i := 12) (N := some 30) (v := ?_) (a' := ?_) #[Y,Y,Y,Y,Y,Y,Y,Y,O,Y,Y,Y,Y,O,O,O,O] rfl rfl (any_of HT_.out (by kernel_rfl)) (fun _ _ _ h => h) (Or.inl ⟨by rfl, ?_⟩) ?_ ?_
    rotate_left
    ·intro w'
     go_simp
     with_reducible rfl
    rotate_left
    ·simp only [PN]
     rfl
    refine take_ (i := 8) (N := some 26) (v := ?_) (a' := ?_) #[Y,Y,Y,Y,Y,Y,Y,Y,Y,Y,Y,Y,Y,O,O,O,O] rfl rfl (take_ofW HT_.out HW_.out (by kernel_rfl)) (fun _ _ _ h => h) (Or.inl ⟨by rfl, ?_⟩) hHeld ?_ ?_
    rotate_left
    ·rintro w' ⟨s0, s1, s2, s3⟩
     go_simp
     with_reducible rfl
    rotate_left
    ·simp only [PN]
     rfl
    refine take_ (i := 13) (N := some 31) (v := ?_) (a' := ?_) #[Y,Y,Y,Y,Y,Y,Y,Y,Y,Y,Y,Y,Y,Y,O,O,O] rfl rfl (take_ofW HT_.out HW_.out (by kernel_rfl)) (fun _ _ _ h => h) (Or.inl ⟨by rfl, ?_⟩) hHeld ?_ ?_
    rotate_left
    ·rintro w' ⟨s0, s1, s2, s3⟩
     go_simp
     with_reducible rfl
    rotate_left
    ·simp only [PN]
     rfl
    refine one_ (i := 14) (N := some 32) #[Y,Y,Y,Y,Y,Y,Y,Y,Y,Y,Y,Y,Y,Y,Y,O,O] rfl rfl (one_of HT_.out (by kernel_rfl)) (by decide) (fun K hK => ?_)
    refine goesF_ Tryz.func182 (by kernel_rfl) rfl #[.agg #[.int .i64 b.1, .int .i64 b.2], .agg #[.int .i64 a.1, .int .i64 a.2]] (by rfl) (by rfl) rfl rfl (by (try simp only [List.map_toArray, List.map_cons, List.map_nil]); first | done | rfl) ?_
    refine (spanOf1.calls b a HAB.out _).mono ?_
    rintro e w5 ⟨rfl, hb5⟩
    refine ⟨_, rfl, ?_⟩
    have HB3 := Aside0.mk (below_go (below_drew (Below.refl wr.heap.size wr)) hb5)
    have HA2 := Aside0.mk (And.intro ((hb5.cell (World.block_lt_of_cell? _ _ HA.out.1)).trans HA.out.1) (And.intro ((hb5.cell (World.block_lt_of_cell? _ _ HA.out.2.1)).trans HA.out.2.1) (And.intro ((hb5.cell (World.block_lt_of_cell? _ _ HA.out.2.2.1)).trans HA.out.2.2.1) ((hb5.cell (World.block_lt_of_cell? _ _ HA.out.2.2.2)).trans HA.out.2.2.2))))
    clear hb5
    refine hK.out _ _ ⟨HA2.out.1, HA2.out.2.1, HA2.out.2.2.1, HA2.out.2.2.2⟩ (fun hHeld => ?_)
    clear hK K
    refine norm_ (a' := ?_) ?_ ?_
    rotate_left
    ·show Act.put _ (some 32) _ = _
     simp only [PN]
     rfl
    refine pure_ (i := 15) (N := some 33) (v := ?_) (a' := ?_) #[Y,Y,Y,Y,Y,Y,Y,Y,Y,Y,Y,Y,Y,Y,Y,Y,O] rfl rfl (any_of HT_.out (by kernel_rfl)) (fun _ _ _ h => h) (Or.inl ⟨by rfl, ?_⟩) ?_ ?_
    rotate_left
    ·intro w'
     go_simp
     with_reducible rfl
    rotate_left
    ·simp only [PN]
     rfl
    refine pure_ (i := 16) (N := some 34) (v := ?_) (a' := ?_) #[Y,Y,Y,Y,Y,Y,Y,Y,Y,Y,Y,Y,Y,Y,Y,Y,Y] rfl rfl (any_of HT_.out (by kernel_rfl)) (fun _ _ _ h => h) (Or.inl ⟨by rfl, ?_⟩) ?_ ?_
    rotate_left
    ·intro w'
     go_simp
     with_reducible rfl
    rotate_left
    ·simp only [PN]
     rfl
    refine done_ (done_of HT_.out (by kernel_rfl)) ?_
    clear hHeld
    have HB5 := Aside0.mk (below_go HB.out (HB3.out.mono (by have := HB.out.size; omega)))
    clear HB HB3 HA HC
    go_wp2
    go_roundw
    case rel => exact ⟨i + 1, by go_num, by omega, HB5⟩
    case measure => rw [ai]; exact meas _ _ HL.out
  ·have q0 : decide ((i : Int) < (xs.length : Int)) = false := decide_eq_false (by omega)
   go_wp2
   go_end0
   exact ⟨rfl, HB.out⟩
theorem pdqSp.calls {w : World} {A : Option Addr} {c : Nat} {xs : List Sp} (h : kSp.C w A xs.length xs) (hs : xs.length ≤ 1 ∨ (xs.length = 2 ∧ (xs.getD 0 zSp).1 < (xs.getD 1 zSp).1)) (lim : Int) :
  Calls Tryz.prog 241 #[.slice A xs.length c, .int .i64 0, .int .i64 (xs.length : Int), .int .i64 lim, .func (.func 182) #[] #[]] w fun e w' => e = .returned (.tuple #[]) ∧ Below w.heap.size w w' := by
 have HC := Aside0.mk h
 have HS := Aside0.mk hs
 have hn : xs.length ≤ 2 := by omega
 have hl : wrap64 ((xs.length : Int) - 0) = (xs.length : Int) := wrap_id (by omega) (by omega)
 have hl0 : wrap64 (xs.length : Int) = (xs.length : Int) := wrap_id (by omega) (by omega)
 have q0 : decide ((xs.length : Int) ≤ 12) = true := decide_eq_true (by omega)
 have q1 : decide (wrap64 (xs.length : Int) ≤ 12) = true := by rw [hl0]; exact q0
 clear h hs
 go_enter Tryz.func241, Tryz.ntmps241
 go_wp2_with fail
 go_loopw [1, 2] (fun v1 v2 wr => v1 = .int .i64 0 ∧ v2 = .int .i64 (xs.length : Int) ∧ wr = w) (fun _ _ _ => 0)
 case atStart => exact ⟨rfl, rfl, rfl⟩
 case round =>
  obtain ⟨rfl, rfl, rfl⟩ := hrel
  go_wp2_with fail
  refine (insSp.calls HC.out HS.out).mono ?_
  rintro e w5 ⟨rfl, hb5⟩
  have HB := Aside0.mk hb5
  clear hb5
  go_wp2
  refine bodyPost_ret (results_none rfl _ _ _) rfl ?_
  exact ⟨rfl, HB.out⟩
theorem sortSp.calls {w : World} {A : Option Addr} {c : Nat} {xs : List Sp} (h : kSp.C w A xs.length xs) (hs : xs.length ≤ 1 ∨ (xs.length = 2 ∧ (xs.getD 0 zSp).1 < (xs.getD 1 zSp).1)) :
  Calls Tryz.prog 181 #[.slice A xs.length c, .func (.func 182) #[] #[]] w fun e w' => e = .returned (.tuple #[]) ∧ Below w.heap.size w w' := by
 have HC := Aside0.mk h
 have HS := Aside0.mk hs
 have hn : xs.length ≤ 2 := by omega
 clear h hs
 go_enter Tryz.func181, Tryz.ntmps181
 go_wp2_with fail
 refine (len.calls (xs.length : Int) (by omega) (by omega) w).mono ?_
 rintro e w4 ⟨⟨r, rfl⟩, hb4⟩
 have HB := Aside0.mk hb4
 clear hb4
 go_wp2_with fail
 refine (pdqSp.calls (Kd.C_below HC.out HB.out) HS.out r).mono ?_
 rintro e w5 ⟨rfl, hb5⟩
 have HB5 := Aside0.mk (below_step HB.out hb5)
 clear hb5
 go_wp2
 go_end0
 exact ⟨rfl, HB5.out⟩
set_option maxRecDepth 100000 in
set_option maxHeartbeats 4000000 in
theorem spanAdd.calls {w : World} {base : Nat} {v : Value} {xs : List Sp} (s : Sp) (hr : kSp.R 126 w base (fun _ => True) v xs) (hb : base ≤ w.heap.size) (hl : xs.length ≤ 1000000000) (hs : ∀ n, xs.length = n + 1 → (xs.getD n zSp).2 < s.1) :
  Calls Tryz.prog 135 #[v, .agg #[.int .i64 s.1, .int .i64 s.2]] w fun e w' => ∃ v', e = .returned v' ∧ kSp.R 126 w' base (fun _ => True) v' (xs ++ [s]) ∧ Below base w w' := by
 cases xs with
 | nil =>
  have HR := Aside0.mk (Kd.R_below hr (below_alloc (Below.refl w.heap.size w) (.cells #[.int .i64 s.1, .int .i64 s.2] 126)))
  have HB := Aside0.mk (Below.alloc (Below.refl base w) hb (.cells #[.int .i64 s.1, .int .i64 s.2] 126))
  obtain ⟨A, c, rfl⟩ := Kd.R_slice hr
  have hbx := blk_new w (.cells #[.int .i64 s.1, .int .i64 s.2] 126)
  have x0 : (w.alloc (.cells #[.int .i64 s.1, .int .i64 s.2] 126)).cell? ⟨w.heap.size, 0, none⟩ = some (.int .i64 s.1) := (blk_cell hbx 0).trans rfl
  have x1 : (w.alloc (.cells #[.int .i64 s.1, .int .i64 s.2] 126)).cell? ⟨w.heap.size, 1, none⟩ = some (.int .i64 s.2) := (blk_cell hbx 1).trans rfl
  have HW1 := Aside0.mk (show base ≤ (w.alloc (.cells #[.int .i64 s.1, .int .i64 s.2] 126)).heap.size by simp; omega)
  have HL := Aside0.mk hl
  clear hr hb hbx hl hs
  go_enter Tryz.func135, Tryz.ntmps135
  go_wp2
  go_quiet (fail)
  have HR2 := Aside0.mk (Kd.R_drewN HR.out nq)
  have HB2 := Aside0.mk (pw_below_drewN HB.out nq)
  have HW2 := Aside0.mk (show base ≤ ((w.alloc (.cells #[.int .i64 s.1, .int .i64 s.2] 126)).drewN nq).heap.size from HW1.out)
  have y0 : ((w.alloc (.cells #[.int .i64 s.1, .int .i64 s.2] 126)).drewN nq).cell? ⟨w.heap.size, 0, none⟩ = some (.int .i64 s.1) := x0
  have y1 : ((w.alloc (.cells #[.int .i64 s.1, .int .i64 s.2] 126)).drewN nq).cell? ⟨w.heap.size, 1, none⟩ = some (.int .i64 s.2) := x1
  clear HR HB HW1 x0 x1
  generalize (w.alloc (.cells #[.int .i64 s.1, .int .i64 s.2] 126)).drewN nq = w2 at HR2 HB2 HW2 y0 y1 ⊢
  generalize w.heap.size = gx at y0 y1 ⊢
  go_wp2_with (first | ((with_reducible refine gate_builtin (b := .append) (xs := #[.tmp 34, .tmp 36]) rfl ?_); at_builtin; refine Kd.R_append kSp (w0 := w) (base) rfl (.tmp 34) (.tmp 36) 115 126 (.agg #[.int .i64 0, .int .i64 0]) 16 rfl Tryz.underlying115 infoSp rfl (by decide) (by omega) (.slice A ([] : List Sp).length c) (([] : List Sp)) (s) [.int .i64 s.1, .int .i64 s.2] (fun _ => True) (fun _ => False) rfl rfl (kSp_mkM _) (fun _ hk => hk.elim) (fun _ _ => trivial) HR2.out HB2.out HW2.out (by have h := HL.out; omega) ?_; intro v9 w9 hr9 hb9 hg9 hat9; have n0_ := Aside0.mk hr9; have n1_ := Aside0.mk hb9; clear hr9 hb9 hg9 hat9))
  go_wp2
  go_ret
  exact ⟨v9, rfl, n0_.out, n1_.out⟩
 | cons y ys =>
  have HR := Aside0.mk (Kd.R_below hr (below_alloc (Below.refl w.heap.size w) (.cells #[.int .i64 s.1, .int .i64 s.2] 126)))
  have HB := Aside0.mk (Below.alloc (Below.refl base w) hb (.cells #[.int .i64 s.1, .int .i64 s.2] 126))
  obtain ⟨A, c, rfl⟩ := Kd.R_slice hr
  have hbx := blk_new w (.cells #[.int .i64 s.1, .int .i64 s.2] 126)
  have x0 : (w.alloc (.cells #[.int .i64 s.1, .int .i64 s.2] 126)).cell? ⟨w.heap.size, 0, none⟩ = some (.int .i64 s.1) := (blk_cell hbx 0).trans rfl
  have x1 : (w.alloc (.cells #[.int .i64 s.1, .int .i64 s.2] 126)).cell? ⟨w.heap.size, 1, none⟩ = some (.int .i64 s.2) := (blk_cell hbx 1).trans rfl
  have HW1 := Aside0.mk (show base ≤ (w.alloc (.cells #[.int .i64 s.1, .int .i64 s.2] 126)).heap.size by simp; omega)
  have HL := Aside0.mk hl
  have hy : ys.length < 1000000000 := by simp at hl; omega
  have a0 : wrap64 ((ys.length : Int)) = (ys.length : Int) := wrap_id (by omega) (by omega)
  have a1 : wrap64 (((ys.length : Int) + 1) - 1) = (ys.length : Int) := by rw [show ((ys.length : Int) + 1) - 1 = (ys.length : Int) from by omega]; exact a0
  have h2 := hs ys.length (by simp)
  obtain ⟨_, hcC⟩ := (Kd.R_reads' HR.out).2
  obtain ⟨ad, rfl, k0, k1⟩ := at_Sp hcC ys.length (by simp)
  have q1 : decide (s.1 ≤ ((y :: ys).getD ys.length zSp).2) = false := decide_eq_false (by omega)
  have HQ := Aside0.mk q1
  generalize ((y :: ys).getD ys.length zSp).2 = hi at k1 q1 HQ
  have u0 : (0 : Int) ≤ (ys.length : Int) := by omega
  have u1 : (ys.length : Int) < (ys.length : Int) + 1 := by omega
  have u2 : decide ((0 : Int) ≤ (ys.length : Int)) = true := decide_eq_true u0
  clear hr hb hbx hl hs h2 hcC
  go_enter Tryz.func135, Tryz.ntmps135
  go_wp2
  go_quiet (fail)
  have HR2 := Aside0.mk (Kd.R_drewN HR.out nq)
  have HB2 := Aside0.mk (pw_below_drewN HB.out nq)
  have HW2 := Aside0.mk (show base ≤ ((w.alloc (.cells #[.int .i64 s.1, .int .i64 s.2] 126)).drewN nq).heap.size from HW1.out)
  have y0 : ((w.alloc (.cells #[.int .i64 s.1, .int .i64 s.2] 126)).drewN nq).cell? ⟨w.heap.size, 0, none⟩ = some (.int .i64 s.1) := x0
  have y1 : ((w.alloc (.cells #[.int .i64 s.1, .int .i64 s.2] 126)).drewN nq).cell? ⟨w.heap.size, 1, none⟩ = some (.int .i64 s.2) := x1
  clear HR HB HW1 x0 x1
  generalize (w.alloc (.cells #[.int .i64 s.1, .int .i64 s.2] 126)).drewN nq = w2 at HR2 HB2 HW2 y0 y1 ⊢
  generalize w.heap.size = gx at y0 y1 ⊢
  go_wp2_with (first | ((with_reducible refine gate_builtin (b := .append) (xs := #[.tmp 34, .tmp 36]) rfl ?_); at_builtin; refine Kd.R_append kSp (w0 := w) (base) rfl (.tmp 34) (.tmp 36) 115 126 (.agg #[.int .i64 0, .int .i64 0]) 16 rfl Tryz.underlying115 infoSp rfl (by decide) (by omega) (.slice (some ad) (y :: ys).length c) ((y :: ys)) (s) [.int .i64 s.1, .int .i64 s.2] (fun _ => True) (fun _ => False) rfl rfl (kSp_mkM _) (fun _ hk => hk.elim) (fun _ _ => trivial) HR2.out HB2.out HW2.out (by have h := HL.out; omega) ?_; intro v9 w9 hr9 hb9 hg9 hat9; have n0_ := Aside0.mk hr9; have n1_ := Aside0.mk hb9; clear hr9 hb9 hg9 hat9))
  go_wp2
  go_ret
  exact ⟨v9, rfl, n0_.out, n1_.out⟩
def ne (xs : List Sp) : List Sp := xs.filter (fun s => decide (s.1 < s.2))
def InLine (ys : List Sp) : Prop := ys.length ≤ 1 ∨ (ys.length = 2 ∧ (ys.getD 0 zSp).1 < (ys.getD 1 zSp).1 ∧ (ys.getD 0 zSp).2 < (ys.getD 1 zSp).1)
set_option maxRecDepth 100000 in
set_option maxHeartbeats 8000000 in
theorem span.Of.calls {w : World} {A : Option Addr} {c : Nat} {xs : List Sp} (h : kSp.C w A xs.length xs) (hl : xs.length ≤ 2) (hb : ∀ s ∈ xs, 0 ≤ s.1 ∧ s.2 ≤ 1000000000) (hi : InLine (ne xs)) :
  Calls Tryz.prog 124 #[.slice A xs.length c] w fun e w' => ∃ v, e = .returned v ∧ kSp.R 126 w' w.heap.size (fun _ => True) v (ne xs) ∧ Below w.heap.size w w' := by
 have HC := Aside0.mk h
 have HL := Aside0.mk hl
 have HX := Aside0.mk hb
 have HI := Aside0.mk hi
 clear h hl hb hi
 go_enter Tryz.func124, Tryz.ntmps124
 go_wp2
 go_loopw [3, 11] (fun ov iv wr => ∃ i : Nat, iv = .int .i64 (i : Int) ∧ i ≤ xs.length ∧ Aside0 (kSp.R 126 wr w.heap.size (fun _ => True) ov (ne (xs.take i))) ∧ Aside0 (Below w.heap.size w wr)) (fun _ iv _ => ((xs.length : Int) - intOf iv).toNat)
 case atStart => exact ⟨0, rfl, by omega, ⟨Kd.R_nil _ _ _ _ _⟩, ⟨Below.refl _ _⟩⟩
 case round =>
  obtain ⟨i, rfl, hi, HR, HB⟩ := hrel
  have hll := HL.out
  by_cases hlt : i < xs.length
  ·have q0 : decide ((i : Int) < (xs.length : Int)) = true := decide_eq_true (by omega)
   have u0 : (0 : Int) ≤ (i : Int) := by omega
   have u1 : (i : Int) < (xs.length : Int) := by omega
   have a9 : wrap64 ((i : Int) + 1) = (i : Int) + 1 := wrap_id (by omega) (by omega)
   obtain ⟨ad, rfl, c0, c1⟩ := at_Sp (Kd.C_below HC.out HB.out) i hlt
   have hm := HX.out _ (getD_mem xs zSp i hlt)
   have HT := Aside0.mk (show ne (xs.take (i + 1)) = ne (xs.take i) ++ (if (xs.getD i zSp).1 < (xs.getD i zSp).2 then [xs.getD i zSp] else []) by
    unfold ne
    rw [take_at xs zSp i hlt, List.filter_append]
    congr 1
    by_cases hz : (xs.getD i zSp).1 < (xs.getD i zSp).2
    ·rw [if_pos hz, List.filter_cons_of_pos (by simpa using hz)]; rfl
    ·rw [if_neg hz, List.filter_cons_of_neg (by simpa using hz)]; rfl)
   have hfl : (ne (xs.take i)).length ≤ i := by
    unfold ne
    refine Nat.le_trans (List.length_filter_le _ _) ?_
    simp
    omega
   have HFL := Aside0.mk hfl
   generalize hs : xs.getD i zSp = s at c0 c1 hm HT
   have m1 : (if s.1 < 0 then 0 else s.1) = s.1 := if_neg (by omega)
   have m2 : (if 1000000000 < s.2 then 1000000000 else s.2) = s.2 := if_neg (by omega)
   clear hm hfl hs
   obtain ⟨A3, c3, rfl⟩ := Kd.R_slice HR.out
   have HR2 := Aside0.mk (Kd.R_below HR.out (below_alloc (Below.refl wr.heap.size wr) (.cells #[.int .i64 s.1, .int .i64 s.2] 126)))
   have HB2 := Aside0.mk (below_alloc HB.out (.cells #[.int .i64 s.1, .int .i64 s.2] 126))
   have hbx := blk_new wr (.cells #[.int .i64 s.1, .int .i64 s.2] 126)
   have x0 : (wr.alloc (.cells #[.int .i64 s.1, .int .i64 s.2] 126)).cell? ⟨wr.heap.size, 0, none⟩ = some (.int .i64 s.1) := (blk_cell hbx 0).trans rfl
   have x1 : (wr.alloc (.cells #[.int .i64 s.1, .int .i64 s.2] 126)).cell? ⟨wr.heap.size, 1, none⟩ = some (.int .i64 s.2) := (blk_cell hbx 1).trans rfl
   clear HR HB hbx
   by_cases hz : s.1 < s.2
   ·have z0 : decide (s.1 < s.2) = true := decide_eq_true hz
    rw [if_pos hz] at HT
    clear hz
    go_upto_region 7 with fail
    have HW2 := Aside0.mk (show w.heap.size ≤ (wr.alloc (.cells #[.int .i64 s.1, .int .i64 s.2] 126)).heap.size from HB2.out.size)
    generalize wr.alloc (.cells #[.int .i64 s.1, .int .i64 s.2] 126) = w2 at HR2 HB2 HW2 x0 x1 ⊢
    generalize wr.heap.size = gx at x0 x1 ⊢
    go_wp2_with (first | ((with_reducible refine gate_builtin (b := .append) (xs := #[.tmp 27, .tmp 29]) rfl ?_); at_builtin; refine Kd.R_append kSp (w0 := w) (w.heap.size) rfl (.tmp 27) (.tmp 29) 115 126 (.agg #[.int .i64 0, .int .i64 0]) 16 rfl Tryz.underlying115 infoSp rfl (by decide) (by omega) (.slice A3 (ne (xs.take i)).length c3) (ne (xs.take i)) (s) [.int .i64 s.1, .int .i64 s.2] (fun _ => True) (fun _ => False) rfl rfl (kSp_mkM _) (fun _ hk => hk.elim) (fun _ _ => trivial) HR2.out HB2.out HW2.out (by have h := HFL.out; have h2 := HL.out; omega) ?_; intro v9 w9 hr9 hb9 hg9 hat9; have n0_ := Aside0.mk hr9; have n1_ := Aside0.mk hb9; clear hr9 hb9 hg9 hat9 HR2 HB2))
    go_roundw
    case rel => exact ⟨i + 1, by go_num, by omega, ⟨by rw [HT.out]; exact n0_.out⟩, n1_⟩
    case measure => first | (rw [a9]; exact meas _ _ hlt) | exact meas _ _ hlt
   ·have z0 : decide (s.1 < s.2) = false := decide_eq_false hz
    rw [if_neg hz, List.append_nil] at HT
    go_wp2
    go_roundw
    case rel => exact ⟨i + 1, by go_num, by omega, ⟨by rw [HT.out]; exact HR2.out⟩, HB2⟩
    case measure => first | (rw [a9]; exact meas _ _ hlt) | exact meas _ _ hlt
  ·have q0 : decide ((i : Int) < (xs.length : Int)) = false := decide_eq_false (by omega)
   have hix : i = xs.length := by omega
   subst hix
   rw [List.take_length] at HR
   obtain ⟨A3, c3, rfl⟩ := Kd.R_slice HR.out
   have HIS := Aside0.mk (show (ne xs).length ≤ 1 ∨ ((ne xs).length = 2 ∧ ((ne xs).getD 0 zSp).1 < ((ne xs).getD 1 zSp).1) from by
    rcases HI.out with h | ⟨h1, h2, h3⟩
    ·exact .inl h
    ·exact .inr ⟨h1, h2⟩)
   have hys : (ne xs).length ≤ 2 := by rcases HIS.out with h | ⟨h, _⟩ <;> omega
   have HYL := Aside0.mk hys
   clear hys
   obtain ⟨ys, hys⟩ : ∃ ys, ne xs = ys := ⟨_, rfl⟩
   have HYS := Aside0.mk hys
   rw [hys] at HR HI HIS HYL ⊢
   clear hys
   go_wp2_with fail
   refine (sortSp.calls (Kd.R_reads' HR.out).2.2 HIS.out).mono ?_
   rintro e w5 ⟨rfl, hb5⟩
   have HR5 := Aside0.mk (Kd.R_below HR.out hb5)
   have HB5 := Aside0.mk (below_step HB.out hb5)
   clear hb5 HR HB
   go_wp2
   have HC5 := Aside0.mk (Kd.R_reads' HR5.out).2.2
   clear HR5
   go_loopw [6, 36] (fun ov iv wr => ∃ i : Nat, iv = .int .i64 (i : Int) ∧ i ≤ ys.length ∧ Aside0 (kSp.R 126 wr w5.heap.size (fun _ => True) ov (ys.take i)) ∧ Aside0 (Below w5.heap.size w5 wr)) (fun _ iv _ => ((ys.length : Int) - intOf iv).toNat)
   case atStart => exact ⟨0, rfl, by omega, ⟨Kd.R_nil _ _ _ _ _⟩, ⟨Below.refl _ _⟩⟩
   case round =>
    obtain ⟨i, rfl, hi, HR, HB⟩ := hrel
    have hyl := HYL.out
    by_cases hlt : i < ys.length
    ·have q0 : decide ((i : Int) < (ys.length : Int)) = true := decide_eq_true (by omega)
     have u0 : (0 : Int) ≤ (i : Int) := by omega
     have u1 : (i : Int) < (ys.length : Int) := by omega
     have a9 : wrap64 ((i : Int) + 1) = (i : Int) + 1 := wrap_id (by omega) (by omega)
     obtain ⟨ad, rfl, c0, c1⟩ := at_Sp (Kd.C_below HC5.out HB.out) i hlt
     have HT := Aside0.mk (take_at ys zSp i hlt)
     have htl : (ys.take i).length = i := by simp; omega
     have hln : ∀ n, (ys.take i).length = n + 1 → ((ys.take i).getD n zSp).2 < (ys.getD i zSp).1 := by
      intro n hn
      have hi1 : i = 1 := by omega
      have hn0 : n = 0 := by omega
      subst hi1
      subst hn0
      rcases HI.out with h | ⟨h1, h2, h3⟩
      ·omega
      ·have e : (ys.take 1).getD 0 zSp = ys.getD 0 zSp := by simp [List.getD_eq_getElem?_getD]
       rw [e]
       exact h3
     generalize hs : ys.getD i zSp = s at c0 c1 hln HT
     have HN := Aside0.mk hln
     have HTL := Aside0.mk (show (ys.take i).length ≤ 1000 by omega)
     clear hs hln htl
     have HR2 := Aside0.mk (Kd.R_below HR.out (below_alloc (Below.refl wr.heap.size wr) (.cells #[.int .i64 s.1, .int .i64 s.2] 126)))
     have HB2 := Aside0.mk (Below.alloc HB.out HB.out.size (.cells #[.int .i64 s.1, .int .i64 s.2] 126))
     clear HR HB
     go_wp2_with fail
     refine (spanAdd.calls s HR2.out HB2.out.size (Nat.le_trans HTL.out (by decide)) HN.out).mono ?_
     rintro e w6 ⟨v6, rfl, hr6, hb6⟩
     have HR6 := Aside0.mk (show kSp.R 126 w6 w5.heap.size (fun _ => True) v6 (ys.take (i + 1)) by rw [HT.out]; exact hr6)
     have HB6 := Aside0.mk (HB2.out.trans hb6)
     clear hr6 hb6 HR2 HB2
     go_wp2
     go_roundw
     case rel => exact ⟨i + 1, by go_num, by omega, HR6, HB6⟩
     case measure => first | (rw [a9]; exact meas _ _ hlt) | exact meas _ _ hlt
    ·have q0 : decide ((i : Int) < (ys.length : Int)) = false := decide_eq_false (by omega)
     have hix : i = ys.length := by omega
     subst hix
     rw [List.take_length] at HR
     obtain ⟨A6, c6, rfl⟩ := Kd.R_slice HR.out
     go_wp2
     go_ret
     exact ⟨.slice A6 ys.length c6, rfl, by rw [HYS.out]; exact Kd.R_lower HR.out HB5.out.size, below_step HB5.out HB.out⟩
def LB (w : World) (g : Nat) (n : Int) : Prop := w.heap[g]? = some (.cells #[.int .u64 n] 85 (0, 0))
theorem LB.put {w : World} {g : Nat} {n : Int} (hb : LB w g n) (v : Int) : LB (w.setCell ⟨g, 0, none⟩ (.int .u64 v)).drew g v ∧ w.grownBy (w.setCell ⟨g, 0, none⟩ (.int .u64 v)).drew (some g) :=
 ⟨blk_put hb 0 _ rfl, (grown_set w g 0 _).drew_⟩
theorem u64_bits (op : BinOp) (x y : Int) : 0 ≤ bits op .u64 x y ∧ bits op .u64 x y < 18446744073709551616 := by
 have h := Go.wf_bits op .u64 x y
 simp [Lit.wf, IntKind.min, IntKind.max, IntKind.signed, IntKind.bits] at h
 omega
set_option maxHeartbeats 2000000 in
theorem lot.New.calls (seed : Int) (w : World) : Calls Tryz.prog 13 #[.int .u64 seed] w fun e w' => e = .returned (.pointer (some ⟨w.heap.size, 0, none⟩)) ∧ (∃ n, LB w' w.heap.size n) ∧ Below w.heap.size w w' := by
 by_cases h : seed = 0
 ·have q0 : (seed == 0) = true := beq_iff_eq.2 h
  go_enter Tryz.func13, Tryz.ntmps13
  go_wp2
  go_ret
  exact ⟨rfl, ⟨_, blk_new w _⟩, below_alloc (Below.refl _ _) _⟩
 ·have q0 : (seed == 0) = false := by simp [h]
  go_enter Tryz.func13, Tryz.ntmps13
  go_wp2
  go_ret
  exact ⟨rfl, ⟨_, blk_new w _⟩, below_alloc (Below.refl _ _) _⟩
section
variable {w : World} {g : Nat} {n : Int}
set_option maxHeartbeats 2000000 in
theorem lot.Next.calls (hb : LB w g n) : Calls Tryz.prog 79 #[.pointer (some ⟨g, 0, none⟩)] w fun e w' => ∃ r, e = .returned (.int .u64 r) ∧ 0 ≤ r ∧ r < 18446744073709551616 ∧ (∃ n', LB w' g n') ∧ w.grownBy w' (some g) := by
 have c0 : w.cell? ⟨g, 0, none⟩ = some (.int .u64 n) := (blk_cell hb 0).trans rfl
 have f0 := blk_frozen hb 0
 go_enter Tryz.func79, Tryz.ntmps79
 go_wp2
 go_region
 generalize (bits BinOp.xor IntKind.u64 n (IntKind.u64.wrap (n * 8192))) = n1
 have h1 := hb.put n1
 generalize (w.setCell ⟨g, 0, none⟩ (.int .u64 n1)).drew = w1 at h1 ⊢
 have hb1 := h1.1
 have hg1 := h1.2
 have c1 : w1.cell? ⟨g, 0, none⟩ = some (.int .u64 n1) := (blk_cell hb1 0).trans rfl
 have f1 := blk_frozen hb1 0
 go_wp2
 go_region
 generalize (bits BinOp.xor IntKind.u64 n1 (n1 / 128)) = n2
 have h2 := hb1.put n2
 generalize (w1.setCell ⟨g, 0, none⟩ (.int .u64 n2)).drew = w2 at h2 ⊢
 have hb2 := h2.1
 have hg2 := hg1.trans_row h2.2
 have c2 : w2.cell? ⟨g, 0, none⟩ = some (.int .u64 n2) := (blk_cell hb2 0).trans rfl
 have f2 := blk_frozen hb2 0
 go_wp2
 go_region
 have hr := u64_bits BinOp.xor n2 (IntKind.u64.wrap (n2 * 131072))
 generalize (bits BinOp.xor IntKind.u64 n2 (IntKind.u64.wrap (n2 * 131072))) = n3 at hr ⊢
 have h3 := hb2.put n3
 generalize (w2.setCell ⟨g, 0, none⟩ (.int .u64 n3)).drew = w3 at h3 ⊢
 have hb3 := h3.1
 have hg3 := hg2.trans_row h3.2
 have c3 : w3.cell? ⟨g, 0, none⟩ = some (.int .u64 n3) := (blk_cell hb3 0).trans rfl
 have HE := Aside0.mk (And.intro hr (And.intro hb3 hg3))
 clear c0 c1 c2 f0 f1 f2 h1 h2 h3 hr hb hb1 hb2 hb3 hg1 hg2 hg3
 go_wp2
 go_ret
 exact ⟨n3, rfl, HE.out.1.1, HE.out.1.2, ⟨n3, HE.out.2.1⟩, HE.out.2.2⟩
set_option maxHeartbeats 2000000 in
theorem lot.Draw.calls (hb : LB w g n) (m : Int) (h1 : 1 ≤ m) (h2 : m ≤ 1000) : Calls Tryz.prog 30 #[.pointer (some ⟨g, 0, none⟩), .int .i64 m] w fun e w' => ∃ r, e = .returned (.int .i64 r) ∧ 0 ≤ r ∧ r < m ∧ (∃ n', LB w' g n') ∧ w.grownBy w' (some g) := by
 have q0 : decide (m < 1) = false := decide_eq_false (by omega)
 have HM := Aside0.mk (And.intro h1 h2)
 have HB := Aside0.mk hb
 have q1 : IntKind.u64.wrap m = m := by simp [IntKind.wrap, IntKind.bits, IntKind.signed]; omega
 have q2 : m % 18446744073709551616 = m := by omega
 have q3 : ¬ m = 0 := by omega
 clear h1 h2 hb
 go_enter Tryz.func30, Tryz.ntmps30
 go_wp2_with fail
 refine (lot.Next.calls HB.out).mono ?_
 rintro e w4 ⟨r, rfl, hr0, hr1, hn, hg⟩
 have HE := Aside0.mk (And.intro hn hg)
 have h3 : r.tmod m = r % m := Int.tmod_eq_emod_of_nonneg hr0
 have h4 : 0 ≤ r % m := Int.emod_nonneg _ q3
 have h5 : r % m < m := Int.emod_lt_of_pos _ (by have := HM.out.1; omega)
 have h6 : wrap64 (r % m) = r % m := wrap_id (by omega) (by have := HM.out.2; omega)
 have HR := Aside0.mk (And.intro h4 (And.intro h5 h6))
 clear hn hg hr0 hr1 h6
 go_wp2
 go_ret
 exact ⟨r % m, by rw [← HR.out.2.2, HR.out.2.2]; exact congrArg (fun z => Ending.returned (Value.int .i64 z)) HR.out.2.2, HR.out.1, HR.out.2.1, HE.out.1, HE.out.2⟩
end
theorem lot.held.calls (n r : Int) (h1 : 1 ≤ n) (h2 : n ≤ 24) (h3 : 1 ≤ r) (h4 : r ≤ 8) (w : World) : Calls Tryz.prog 29 #[.int .i64 n, .int .i64 r] w fun e w' => e = .returned (.tuple #[.int .i64 n, .int .i64 r]) ∧ w' = w := by
 have a1 : (if 24 < n then 24 else n) = n := if_neg (by omega)
 have a2 : (if 1 < n then n else 1) = n := by split <;> omega
 have a3 : (if 8 < r then 8 else r) = r := if_neg (by omega)
 have a4 : (if 1 < r then r else 1) = r := by split <;> omega
 clear h1 h2 h3 h4
 go_enter Tryz.func29, Tryz.ntmps29
 go_wp2
 go_ret2
 exact ⟨rfl, rfl⟩
theorem LB.below {w w' : World} {g : Nat} {n : Int} (h : LB w g n) (hb : Below w.heap.size w w') : LB w' g n := blk_below h hb
theorem mul_id {a : Int} (h0 : 0 ≤ a) (h1 : a ≤ 1000) : wrap64 (a * 1000000) = a * 1000000 := wrap_id (by omega) (by omega)
set_option maxRecDepth 100000 in
set_option maxHeartbeats 8000000 in
theorem lot.in.calls {w : World} {g : Nat} {n : Int} (hb : LB w g n) (r : Int) (h1 : 1 ≤ r) (h2 : r ≤ 8) : Calls Tryz.prog 80 #[.pointer (some ⟨g, 0, none⟩), .int .i64 r] w fun e w' => ∃ v xs, e = .returned v ∧ kSp.R 126 w' w.heap.size (fun _ => True) v xs ∧ SpOk (-1) xs ∧ xs.length ≤ 2 ∧ (∃ n', LB w' g n') ∧ w.grownBy w' (some g) := by
 have HB := Aside0.mk hb
 have HR := Aside0.mk (And.intro h1 h2)
 have a0 : wrap64 (r + 1) = r + 1 := wrap_id (by omega) (by omega)
 clear hb h1 h2
 go_enter Tryz.func80, Tryz.ntmps80
 go_wp2_with fail
 refine (lot.Draw.calls HB.out 5 (by omega) (by omega)).mono ?_
 rintro e w4 ⟨k, rfl, hk0, hk1, ⟨n4, hn4⟩, hg4⟩
 have HB4 := Aside0.mk hn4
 have HG4 := Aside0.mk hg4
 have HK := Aside0.mk (And.intro hk0 hk1)
 clear hn4 hg4 HB hk0 hk1
 go_wp2_with fail
 refine (lot.Draw.calls HB4.out (r + 1) (by have := HR.out; omega) (by have := HR.out; omega)).mono ?_
 rintro e w5 ⟨x, rfl, hx0, hx1, ⟨n5, hn5⟩, hg5⟩
 have HB5 := Aside0.mk hn5
 have HG5 := Aside0.mk (HG4.out.trans_row hg5)
 have HX := Aside0.mk (show 0 ≤ x ∧ x ≤ 8 from ⟨hx0, by have := HR.out; omega⟩)
 have m0 : wrap64 (x * 1000000) = x * 1000000 := mul_id hx0 (by have := HX.out; omega)
 have m1 : wrap64 (x * 1000000 + 1000000) = x * 1000000 + 1000000 := wrap_id (by omega) (by have := HX.out; omega)
 obtain ⟨v, hv⟩ : ∃ v, x * 1000000 = v := ⟨_, rfl⟩
 rw [hv] at m0 m1
 have HV := Aside0.mk (show 0 ≤ v ∧ v ≤ 8000000 by have := HX.out; omega)
 have hvt : wrap64 (x * 1000000) = v := by rw [hv]; exact m0
 clear hn5 hg5 HB4 HG4 hx0 hx1 m0 hv
 obtain ⟨u, hu⟩ : ∃ u, v + 1000000 = u := ⟨_, rfl⟩
 have m2 : wrap64 (v + 1000000) = u := by rw [← hu]; exact m1
 have HU := Aside0.mk hu
 clear m1 hu
 have HW1 := Aside0.mk (below_alloc (below_alloc (Below.refl w5.heap.size w5) (.cells #[.int .i64 v, .int .i64 1000000000] 126)) (.cells #[.int .i64 u, .int .i64 1000000000] 126))
 have hs1 : (w5.alloc (.cells #[.int .i64 v, .int .i64 1000000000] 126)).heap.size = w5.heap.size + 1 := by simp
 have hb1 := blk_below (blk_new w5 (.cells #[.int .i64 v, .int .i64 1000000000] 126)) (below_alloc (Below.refl _ _) (.cells #[.int .i64 u, .int .i64 1000000000] 126))
 have hb2 := blk_new (w5.alloc (.cells #[.int .i64 v, .int .i64 1000000000] 126)) (.cells #[.int .i64 u, .int .i64 1000000000] 126)
 rw [hs1] at hb2
 have HBX := Aside0.mk (And.intro hb1 hb2)
 clear hs1 hb1 hb2
 go_upto_region 5 with fail
 have HL6 := Aside0.mk (HB5.out.below HW1.out)
 have HG6 := Aside0.mk (HG5.out.trans_row (grown_of_below HW1.out _))
 have HS6 := Aside0.mk (Nat.le_trans HG5.out.size HW1.out.size)
 clear HB5 HG5
 generalize w5.heap.size + 1 = g8 at HBX ⊢
 generalize (w5.alloc (.cells #[.int .i64 v, .int .i64 1000000000] 126)).alloc (.cells #[.int .i64 u, .int .i64 1000000000] 126) = w6 at HBX HL6 HG6 HS6 HW1 ⊢
 generalize w5.heap.size = g7 at HBX HW1 ⊢
 have x0 : w6.cell? ⟨g7, 0, none⟩ = some (.int .i64 v) := (blk_cell HBX.out.1 0).trans rfl
 have x1 : w6.cell? ⟨g7, 1, none⟩ = some (.int .i64 1000000000) := (blk_cell HBX.out.1 1).trans rfl
 have y0 : w6.cell? ⟨g8, 0, none⟩ = some (.int .i64 u) := (blk_cell HBX.out.2 0).trans rfl
 have y1 : w6.cell? ⟨g8, 1, none⟩ = some (.int .i64 1000000000) := (blk_cell HBX.out.2 1).trans rfl
 have hfin : ∀ (w7 : World) (vv : Value) (ys : List Sp), kSp.R 126 w7 w6.heap.size (fun _ => True) vv ys → Below w6.heap.size w6 w7 → SpOk (-1) ys → ys.length ≤ 2 → kSp.R 126 w7 w.heap.size (fun _ => True) vv ys ∧ SpOk (-1) ys ∧ ys.length ≤ 2 ∧ (∃ n', LB w7 g n') ∧ w.grownBy w7 (some g) :=
  fun w7 vv ys h1 h2 h3 h4 => ⟨Kd.R_lower h1 HS6.out, h3, h4, ⟨n5, HL6.out.below h2⟩, HG6.out.trans_row (grown_of_below h2 _)⟩
 have HFIN := Aside0.mk hfin
 clear hfin HBX HW1
 have hk := HK.out
 have hv := HV.out
 have hu := HU.out
 rcases (show k = 0 ∨ k = 1 ∨ k = 2 ∨ k = 3 ∨ k = 4 by omega) with rfl | rfl | rfl | rfl | rfl
 ·clear hv hu hk
  go_wp2_with fail
  refine (span.All.calls w6).mono ?_
  rintro e w7 ⟨vv, rfl, hr7, hb7⟩
  have HE := Aside0.mk (HFIN.out w7 vv _ hr7 hb7 ⟨by omega, by omega, by omega, trivial⟩ (by simp))
  clear hr7 hb7 HFIN
  go_wp2
  go_ret
  exact ⟨vv, _, rfl, HE.out⟩
 ·have HSP := Aside0.mk (lit1 kSp w6 w6.heap.size 126 (kSp_mkM (w := w6) (base := w6.heap.size) (ok := fun _ => True) (v, 1000000000)) (ok := fun _ => True) (fun _ h => h) trivial (Nat.le_refl _))
  have HB7 := Aside0.mk (below_alloc (Below.refl w6.heap.size w6) (.cells #[.int .i64 v, .int .i64 1000000000] 126))
  have HNE := Aside0.mk (show ne [(v, 1000000000)] = [(v, 1000000000)] by unfold ne; rw [List.filter_cons_of_pos (by simp; omega)]; rfl)
  have HIN := Aside0.mk (show SpOk (-1) [(v, 1000000000)] from ⟨by simp; omega, by simp; omega, by simp, trivial⟩)
  clear hv hu hk
  go_wp2_with fail
  generalize w6.alloc (.cells #[.int .i64 v, .int .i64 1000000000] 126) = w7 at HSP HB7 ⊢
  refine (span.Of.calls (xs := [(v, 1000000000)]) (Kd.R_reads' HSP.out).2.2 (by simp) (by have := HV.out; simp; omega) (by rw [HNE.out]; exact .inl (by simp))).mono ?_
  rintro e w8 ⟨vv, rfl, hr8, hb8⟩
  rw [HNE.out] at hr8
  have HE := Aside0.mk (HFIN.out w8 vv _ (Kd.R_lower hr8 HB7.out.size) (below_step HB7.out hb8) HIN.out (by simp))
  clear hr8 hb8 HFIN HSP HB7
  go_wp2
  go_ret
  exact ⟨vv, _, rfl, HE.out⟩
 ·have HSP := Aside0.mk (lit1 kSp w6 w6.heap.size 126 (kSp_mkM (w := w6) (base := w6.heap.size) (ok := fun _ => True) (0, u)) (ok := fun _ => True) (fun _ h => h) trivial (Nat.le_refl _))
  have HB7 := Aside0.mk (below_alloc (Below.refl w6.heap.size w6) (.cells #[.int .i64 0, .int .i64 u] 126))
  have HNE := Aside0.mk (show ne [(0, u)] = [(0, u)] by unfold ne; rw [List.filter_cons_of_pos (by simp; omega)]; rfl)
  have HIN := Aside0.mk (show SpOk (-1) [(0, u)] from ⟨by simp, by simp; omega, by simp; omega, trivial⟩)
  have HUL := Aside0.mk (show u ≤ 1000000000 by omega)
  clear hv hu hk
  go_wp2_with fail
  generalize w6.alloc (.cells #[.int .i64 0, .int .i64 u] 126) = w7 at HSP HB7 ⊢
  refine (span.Of.calls (xs := [(0, u)]) (Kd.R_reads' HSP.out).2.2 (by simp) (by have := HUL.out; simp; omega) (by rw [HNE.out]; exact .inl (by simp))).mono ?_
  rintro e w8 ⟨vv, rfl, hr8, hb8⟩
  rw [HNE.out] at hr8
  have HE := Aside0.mk (HFIN.out w8 vv _ (Kd.R_lower hr8 HB7.out.size) (below_step HB7.out hb8) HIN.out (by simp))
  clear hr8 hb8 HFIN HSP HB7
  go_wp2
  go_ret
  exact ⟨vv, _, rfl, HE.out⟩
 ·clear hu hk
  have HIN := Aside0.mk (show SpOk (-1) [(v, v + 1)] from ⟨by simp; omega, by show v < v + 1; omega, by simp; omega, trivial⟩)
  clear hv
  go_wp2_with fail
  refine (span.One.calls _ (by have := HV.out; omega) (by have := HV.out; omega) w6).mono ?_
  rintro e w7 ⟨vv, rfl, hr7, hb7⟩
  have HE := Aside0.mk (HFIN.out w7 vv _ hr7 hb7 HIN.out (by simp))
  clear hr7 hb7 HFIN
  go_wp2
  go_ret
  exact ⟨vv, _, rfl, HE.out⟩
 ·have HSP := Aside0.mk (show kSp.R 126 (w6.alloc (.cells #[.int .i64 0, .int .i64 v, .int .i64 u, .int .i64 1000000000] 126)) w6.heap.size (fun _ => True) (.slice (some ⟨w6.heap.size, 0, none⟩) 2 2) [(0, v), (u, 1000000000)] from lit2 kSp w6 w6.heap.size 126 (kSp_mkM (w := w6) (base := w6.heap.size) (ok := fun _ => True) (0, v)) (kSp_mkM (w := w6) (base := w6.heap.size) (ok := fun _ => True) (u, 1000000000)) (ok := fun _ => True) (fun _ h => h) trivial (Nat.le_refl _))
  have HB7 := Aside0.mk (below_alloc (Below.refl w6.heap.size w6) (.cells #[.int .i64 0, .int .i64 v, .int .i64 u, .int .i64 1000000000] 126))
  have HNE := Aside0.mk (show InLine (ne [(0, v), (u, 1000000000)]) ∧ SpOk (-1) (ne [(0, v), (u, 1000000000)]) ∧ (ne [(0, v), (u, 1000000000)]).length ≤ 2 by
   unfold ne
   by_cases hz : 0 < v
   ·rw [List.filter_cons_of_pos (by simpa using hz), List.filter_cons_of_pos (by simp; omega)]
    refine ⟨.inr ⟨rfl, ?_, ?_⟩, ⟨by simp, by simpa using hz, by simp; omega, ?_⟩, by simp⟩
    ·show (0 : Int) < u; omega
    ·show v < u; omega
    ·exact ⟨by simp; omega, by simp; omega, by simp, trivial⟩
   ·rw [List.filter_cons_of_neg (by simpa using hz), List.filter_cons_of_pos (by simp; omega)]
    exact ⟨.inl (by simp), ⟨by simp; omega, by simp; omega, by simp, trivial⟩, by simp⟩)
  have HUL := Aside0.mk (show 0 ≤ u ∧ v ≤ 1000000000 by omega)
  clear hv hu hk
  go_wp2_with fail
  generalize w6.alloc (.cells #[.int .i64 0, .int .i64 v, .int .i64 u, .int .i64 1000000000] 126) = w7 at HSP HB7 ⊢
  refine (span.Of.calls (xs := [(0, v), (u, 1000000000)]) (Kd.R_reads' HSP.out).2.2 (by simp) (by have := HUL.out; simp; omega) HNE.out.1).mono ?_
  rintro e w8 ⟨vv, rfl, hr8, hb8⟩
  have HE := Aside0.mk (HFIN.out w8 vv _ (Kd.R_lower hr8 HB7.out.size) (below_step HB7.out hb8) HNE.out.2.1 HNE.out.2.2)
  clear hr8 hb8 HFIN HSP HB7
  go_wp2
  go_ret
  exact ⟨vv, _, rfl, HE.out⟩
theorem _root_.Go.World.grownBy.far_ {a b c : World} {r : Option Nat} {q : Option Nat} (h : a.grownBy b r) (k : b.grownBy c q) (hl : ∀ g, q = some g → a.heap.size ≤ g) : a.grownBy c r :=
 ⟨k.os.trans h.os, k.tape.trans h.tape, k.output.trans h.output, Nat.le_trans h.size k.size, fun i hi hn => (k.block i (Nat.lt_of_lt_of_le hi h.size) (fun e => by have := hl i e.symm; omega)).trans (h.block i hi hn)⟩
def letts : ByteArray := ⟨#[97, 98, 99, 100, 101, 102, 103, 104, 105, 106, 107, 108, 109, 110, 111, 112, 113, 114, 115, 116, 117, 118, 119, 120, 121, 122]⟩
def nm (i : Nat) : ByteArray := letts.extract i (i + 1)
def NdOk (lo hi : Nat) : List Nd → Prop
 | [] => True
 | x :: r => ∃ j, lo ≤ j ∧ j < hi ∧ x.1 = nm j ∧ SpOk (-1) x.2 ∧ x.2.length ≤ 2 ∧ NdOk (j + 1) hi r
theorem NdOk_mono {hi hi' : Nat} (h : hi ≤ hi') : ∀ (xs : List Nd) (lo : Nat), NdOk lo hi xs → NdOk lo hi' xs
 | [], _, _ => trivial
 | x :: r, lo, ⟨j, h1, h2, h3, h4, h5, h6⟩ => ⟨j, h1, by omega, h3, h4, h5, NdOk_mono h r _ h6⟩
theorem NdOk_snoc {j hi : Nat} (hj : j < hi) (x : Nd) (hx : x.1 = nm j) (h1 : SpOk (-1) x.2) (h2 : x.2.length ≤ 2) : ∀ (xs : List Nd) (lo : Nat), lo ≤ j → NdOk lo j xs → NdOk lo hi (xs ++ [x])
 | [], lo, hl, _ => ⟨j, hl, hj, hx, h1, h2, trivial⟩
 | y :: r, lo, hl, ⟨k, a1, a2, a3, a4, a5, a6⟩ => ⟨k, a1, by omega, a3, a4, a5, NdOk_snoc hj x hx h1 h2 r _ (by omega) a6⟩
def NDS7.T7 : Bool × List (List Nat × List Nat) := (true, [([], []), ([], []), ([], []), ([2], [2]), ([1, 3], [1, 3]), ([], []), ([], []), ([5, 6], [5, 6]), ([4, 7], [4, 7]), ([8], [8]), ([0, 9, 7], [0, 9]), ([10, 10, 0, 1, 2, 3, 4, 5, 6, 7, 8, 9, 10], [0, 10])])
def NDS7.B7 : List Nat := [0, 0, 0, 4, 14, 0, 0, 96, 254, 510, 1023, 2047]
theorem NDS7.tab7 : rtab .any (opsOf Tryz.f31 7) = NDS7.T7 := by kernel_rfl
theorem NDS7.bits7 : waitsOk NDS7.T7.2 NDS7.B7 = true := by kernel_rfl
set_option maxRecDepth 100000 in
set_option maxHeartbeats 8000000 in
theorem lot.needs.calls {w : World} {g : Nat} {n : Int} (hb : LB w g n) (m : Nat) (r den : Int) (hm : m ≤ 8) (h1 : 1 ≤ r) (h2 : r ≤ 8) (h3 : 1 ≤ den) (h4 : den ≤ 8) : Calls Tryz.prog 31 #[.pointer (some ⟨g, 0, none⟩), .int .i64 (m : Int), .int .i64 r, .int .i64 den] w fun e w' => ∃ v xs, e = .returned v ∧ kNd.R 117 w' w.heap.size (fun _ => True) v xs ∧ NdOk 0 8 xs ∧ xs.length ≤ 6 ∧ (∃ n', LB w' g n') ∧ w.grownBy w' (some g) := by
 have HLB := Aside0.mk hb
 have HGL := Aside0.mk (blk_lt hb)
 have HN := Aside0.mk (And.intro hm (And.intro trivial (And.intro h1 (And.intro h2 (And.intro h3 h4)))))
 clear hb hm h1 h2 h3 h4
 go_enter Tryz.func31, Tryz.ntmps31
 go_wp2
 go_loopw [9, 12] (fun ov iv wr => ∃ (i : Nat) (xs : List Nd), iv = .int .i64 (i : Int) ∧ i ≤ m ∧ Aside0 (kNd.R 117 wr w.heap.size (fun k => k ≠ g) ov xs) ∧ Aside0 (NdOk 0 i xs ∧ xs.length ≤ 6) ∧ Aside0 (∃ n', LB wr g n') ∧ Aside0 (w.grownBy wr (some g))) (fun _ iv _ => ((m : Int) - intOf iv).toNat)
 case atStart => exact ⟨0, [], rfl, by omega, ⟨Kd.R_nil _ _ _ _ _⟩, ⟨trivial, by simp⟩, ⟨_, HLB.out⟩, ⟨grown_of_below (Below.refl _ _) _⟩⟩
 case round =>
  clear HLB
  obtain ⟨i, xs, rfl, hi, HR, HX, HLB, HG⟩ := hrel
  obtain ⟨A3, c3, rfl⟩ := Kd.R_slice HR.out
  have hll := HX.out.2
  have hmm := HN.out.1
  by_cases hlt : i < m
  ·have q0 : decide ((i : Int) < (m : Int)) = true := decide_eq_true (by omega)
   have a9 : wrap64 ((i : Int) + 1) = (i : Int) + 1 := wrap_id (by omega) (by omega)
   by_cases h6 : xs.length = 6
   ·have q1 : ((xs.length : Int) == 6) = true := beq_iff_eq.2 (by omega)
    go_wp2
    go_ret
    exact ⟨.slice A3 xs.length c3, xs, rfl, Kd.R_mono HR.out (fun _ _ => trivial), NdOk_mono (by omega) _ _ HX.out.1, HX.out.2, HLB.out, HG.out⟩
   ·have q1 : ((xs.length : Int) == 6) = false := by simp; omega
    obtain ⟨n', hn'⟩ := HLB.out
    have HLB2 := Aside0.mk hn'
    clear hn'
    go_wp2_with fail
    refine (lot.Draw.calls HLB2.out den (by have := HN.out; omega) (by have := HN.out; omega)).mono ?_
    rintro e w4 ⟨k, rfl, hk0, hk1, ⟨n4, hn4⟩, hg4⟩
    have HR4 := Aside0.mk (Kd.R_grown HR.out hg4 (fun k hk e => by injection e with e; exact hk e))
    have HLB4 := Aside0.mk hn4
    have HG4 := Aside0.mk (HG.out.trans_row hg4)
    clear hn4 hg4 HR HLB HLB2 HG
    by_cases hk : k = 0
    ·have z0 : (k == 0) = true := beq_iff_eq.2 hk
     have b0 : (0 : Int) ≤ (i : Int) := by omega
     have b1 : (i : Int) + 1 ≤ 26 := by omega
     have b2 : (i : Int) ≤ (i : Int) + 1 := by omega
     go_wp2
     have HR2 := Aside0.mk (Kd.R_drewN HR4.out 1)
     have HLB2 := Aside0.mk (show LB w4.drew g n4 from HLB4.out)
     have HG2 := Aside0.mk (show w.grownBy w4.drew (some g) from HG4.out.drew_)
     have HA3 := Aside0.mk (show ∀ kk, some kk = (Value.slice A3 xs.length c3).ownBlock → kk < w4.heap.size from fun kk hkk => by
      obtain ⟨inner, ho⟩ := Kd.R_own HR4.out
      exact own_lt ho kk hkk.symm)
     have HGL4 := Aside0.mk (blk_lt HLB4.out)
     have HW4 := Aside0.mk (show w.heap.size ≤ w4.heap.size from HG4.out.size)
     clear HR4 HLB4 HG4
     refine start_ (n := 12) (S := fun w' => True) (ds := []) #[O,O,O,O,O,O,O,O,O,O,O,O] (by kernel_rfl) rfl rfl trivial (fun hHeld => ?_)
     refine with_tabW NDS7.tab7 NDS7.bits7 (fun HT_ HW_ => ?_)
     refine pure_ (i := 0) (N := some 22) (v := ?_) (a' := ?_) #[Y,O,O,O,O,O,O,O,O,O,O,O] rfl rfl (any_of HT_.out (by kernel_rfl)) (fun _ _ _ h => h) (Or.inl ⟨by rfl, ?_⟩) ?_ ?_
     rotate_left
     ·intro w'
      go_simp
      with_reducible rfl
     rotate_left
     ·simp only [PN]
      rfl
     refine pure_ (i := 1) (N := some 23) (v := ?_) (a' := ?_) #[Y,Y,O,O,O,O,O,O,O,O,O,O] rfl rfl (any_of HT_.out (by kernel_rfl)) (fun _ _ _ h => h) (Or.inl ⟨by rfl, ?_⟩) ?_ ?_
     rotate_left
     ·intro w'
      go_simp
      with_reducible rfl
     rotate_left
     ·simp only [PN]
      rfl
     refine pure_ (i := 2) (N := some 24) (v := ?_) (a' := ?_) #[Y,Y,Y,O,O,O,O,O,O,O,O,O] rfl rfl (any_of HT_.out (by kernel_rfl)) (fun _ _ _ h => h) (Or.inl ⟨by rfl, ?_⟩) ?_ ?_
     rotate_left
     ·intro w'
      go_simp
      with_reducible rfl
     rotate_left
     ·simp only [PN]
      rfl
     refine pure_ (i := 3) (N := some 25) (v := ?_) (a' := ?_) #[Y,Y,Y,Y,O,O,O,O,O,O,O,O] rfl rfl (any_of HT_.out (by kernel_rfl)) (fun _ _ _ h => h) (Or.inl ⟨by rfl, ?_⟩) ?_ ?_
     rotate_left
     ·intro w'
      go_simp
      with_reducible rfl
     rotate_left
     ·simp only [PN]
      rfl
     refine pure_ (i := 4) (N := some 26) (v := ?_) (a' := ?_) #[Y,Y,Y,Y,Y,O,O,O,O,O,O,O] rfl rfl (any_of HT_.out (by kernel_rfl)) (fun _ _ _ h => h) (Or.inl ⟨by rfl, ?_⟩) ?_ ?_
     rotate_left
     ·intro w'
      go_simp
      with_reducible rfl
     rotate_left
     ·simp only [PN]
      rfl
     refine pure_ (i := 5) (N := some 27) (v := ?_) (a' := ?_) #[Y,Y,Y,Y,Y,Y,O,O,O,O,O,O] rfl rfl (any_of HT_.out (by kernel_rfl)) (fun _ _ _ h => h) (Or.inl ⟨by rfl, ?_⟩) ?_ ?_
     rotate_left
     ·intro w'
      go_simp
      with_reducible rfl
     rotate_left
     ·simp only [PN]
      rfl
     refine pure_ (i := 6) (N := some 28) (v := ?_) (a' := ?_) #[Y,Y,Y,Y,Y,Y,Y,O,O,O,O,O] rfl rfl (any_of HT_.out (by kernel_rfl)) (fun _ _ _ h => h) (Or.inl ⟨by rfl, ?_⟩) ?_ ?_
     rotate_left
     ·intro w'
      go_simp
      with_reducible rfl
     rotate_left
     ·simp only [PN]
      rfl
     refine one_ (i := 7) (N := some 29) #[Y,Y,Y,Y,Y,Y,Y,Y,O,O,O,O] rfl rfl (one_of HT_.out (by kernel_rfl)) (by decide) (fun K hK => ?_)
     refine goes_ Tryz.func80 (by kernel_rfl) rfl #[.pointer (some ⟨g, 0, none⟩), .int .i64 r] (by rfl) rfl rfl (by (try simp only [List.map_toArray, List.map_cons, List.map_nil]); first | done | rfl) ?_
     with_reducible refine (lot.in.calls HLB2.out r HN.out.2.2.1 HN.out.2.2.2.1).mono ?_
     rintro e w5 ⟨vv, sp, rfl, hrs, hso, hsl, ⟨n5, hn5⟩, hg5⟩
     refine ⟨_, rfl, ?_⟩
     obtain ⟨A5, c5, rfl⟩ := Kd.R_slice hrs
     have HS5 := Aside0.mk (show kSp.R 126 w5 w.heap.size (fun kk => kk ≠ g ∧ some kk ≠ (Value.slice A3 xs.length c3).ownBlock) (.slice A5 sp.length c5) sp from Kd.R_lower (Kd.R_mono (Kd.R_bound hrs) (fun kk hkk => ⟨fun e => by have h1 := HGL4.out; have h2 : w4.heap.size ≤ kk := hkk.2.1; omega, fun e => by have h1 := HA3.out kk e; have h2 : w4.heap.size ≤ kk := hkk.2.1; omega⟩)) HW4.out)
     have HSO := Aside0.mk (And.intro hso hsl)
     have HLB5 := Aside0.mk hn5
     have HG5 := Aside0.mk (HG2.out.trans_row hg5)
     have HR5 := Aside0.mk (Kd.R_grown HR2.out hg5 (fun kk hkk e => by injection e with e; exact hkk e))
     have HB5 := Aside0.mk (Below.refl w.heap.size w5)
     have HW5 := Aside0.mk (Nat.le_trans HW4.out hg5.size)
     clear hrs hso hsl hn5 hg5
     refine hK.out _ _ trivial (fun hHeld => ?_)
     clear hK K
     refine norm_ (a' := ?_) ?_ ?_
     rotate_left
     ·show Act.put _ (some 29) _ = _
      simp only [PN]
      rfl
     refine pure_ (i := 8) (N := some 30) (v := ?_) (a' := ?_) #[Y,Y,Y,Y,Y,Y,Y,Y,Y,O,O,O] rfl rfl (any_of HT_.out (by kernel_rfl)) (fun _ _ _ h => h) (Or.inl ⟨by rfl, ?_⟩) ?_ ?_
     rotate_left
     ·intro w'
      go_simp
      with_reducible rfl
     rotate_left
     ·simp only [PN]
      rfl
     refine one_ (i := 9) (N := some 31) #[Y,Y,Y,Y,Y,Y,Y,Y,Y,Y,O,O] rfl rfl (one_of HT_.out (by kernel_rfl)) (by decide) (fun K hK => ?_)
     refine value_ (w1 := ?_) (v := ?_) (by rfl) rfl ?_ ?_
     rotate_left 2
     ·go_simp
      constructor
      ·rfl
      ·rfl
     refine hK.out _ _ trivial (fun hHeld => ?_)
     clear hK K
     refine norm_ (a' := ?_) ?_ ?_
     rotate_left
     ·show Act.put _ (some 31) _ = _
      simp only [PN]
      rfl
     refine one_ (i := 10) (N := some 32) #[Y,Y,Y,Y,Y,Y,Y,Y,Y,Y,Y,O] rfl rfl (one_of HT_.out (by kernel_rfl)) (by decide) (fun K hK => ?_)
     refine Kd.R_append_step kNd (w0 := w5) (w.heap.size) (by rfl) (.tmp 22) (.tmp 31) 29 117 (.agg #[.string ⟨#[]⟩, .slice none 0 0]) 40 rfl Tryz.underlying29 infoNd rfl (by decide) (by omega) (.slice A3 xs.length c3) (xs) ((nm i, sp)) [.string (nm i), .slice A5 sp.length c5] (fun kk => kk ≠ g) (fun kk => kk ≠ g ∧ some kk ≠ (Value.slice A3 xs.length c3).ownBlock) rfl rfl (kNd_mkM _ HS5.out) (fun _ hk => hk) (fun kk hkk e => by have h1 := HGL.out; have h2 := HW5.out; omega) HR5.out HB5.out HW5.out (by omega) ?_
     intro v9 w9 hr9 hb9 hg9 hat9
     have n0_ := Aside0.mk hr9
     have n1_ := Aside0.mk (show LB w9 g n5 from blk_grown HLB5.out hg9 (Kd.R_ne HR5.out HLB5.out (by decide)))
     have n2_ := Aside0.mk (show w.grownBy w9 (some g) from HG5.out.far_ hg9 (fun kk hkk => Kd.R_base HR5.out kk hkk))
     clear hr9 hb9 hg9 hat9
     refine hK.out _ _ trivial (fun hHeld => ?_)
     clear hK K
     refine norm_ (a' := ?_) ?_ ?_
     rotate_left
     ·show Act.put _ (some 32) _ = _
      simp only [PN]
      rfl
     refine pure_ (i := 11) (N := some 9) (v := ?_) (a' := ?_) #[Y,Y,Y,Y,Y,Y,Y,Y,Y,Y,Y,Y] rfl rfl (any_of HT_.out (by kernel_rfl)) (fun _ _ _ h => h) (Or.inl ⟨by rfl, ?_⟩) ?_ ?_
     rotate_left
     ·intro w'
      go_simp
      with_reducible rfl
     rotate_left
     ·simp only [PN]
      rfl
     refine done_ (done_of HT_.out (by kernel_rfl)) ?_
     clear hHeld
     have HND := Aside0.mk (NdOk_snoc (j := i) (hi := i + 1) (by omega) (nm i, sp) rfl HSO.out.1 HSO.out.2 xs 0 (by omega) HX.out.1)
     have HXL := Aside0.mk (show xs.length < 6 by omega)
     go_wp2
     go_roundw
     case rel => exact ⟨i + 1, xs ++ [(nm i, sp)], by go_num, by omega, n0_, ⟨HND.out, by have := HXL.out; simp; omega⟩, ⟨_, n1_.out⟩, n2_⟩
     case measure => first | (rw [a9]; exact meas _ _ hlt) | exact meas _ _ hlt
    ·have z0 : (k == 0) = false := by simp [hk]
     go_wp2
     go_roundw
     case rel => exact ⟨i + 1, xs, by go_num, by omega, HR4, ⟨NdOk_mono (by omega) _ _ HX.out.1, HX.out.2⟩, ⟨_, HLB4.out⟩, HG4⟩
     case measure => first | (rw [a9]; exact meas _ _ hlt) | exact meas _ _ hlt
  ·have q0 : decide ((i : Int) < (m : Int)) = false := decide_eq_false (by omega)
   go_wp2
   go_ret
   exact ⟨.slice A3 xs.length c3, xs, rfl, Kd.R_mono HR.out (fun _ _ => trivial), NdOk_mono (by omega) _ _ HX.out.1, HX.out.2, HLB.out, HG.out⟩
set_option maxRecDepth 100000 in
set_option maxHeartbeats 4000000 in
theorem cloneSp.calls {w : World} {A : Option Addr} {c : Nat} {xs : List Sp} (h : kSp.C w A xs.length xs) (hl : xs.length ≤ 1000) : Calls Tryz.prog 55 #[.slice A xs.length c] w fun e w' => ∃ v, e = .returned v ∧ kSp.R 126 w' w.heap.size (fun _ => True) v xs ∧ Below w.heap.size w w' := by
 have HX := Aside0.mk h
 have HL := Aside0.mk hl
 cases A with
 | none =>
  have hn : xs = [] := by
   rcases Nat.eq_zero_or_pos xs.length with h0 | h0
   ·exact List.eq_nil_of_length_eq_zero h0
   ·obtain ⟨ad, h, _⟩ := h.2.2 h0
    cases h
  subst hn
  have e0 := Lib.run_eql_slice_nil (P := Tryz.prog) w 115 126 none 0 c 0 0 Tryz.underlying115
  clear h hl
  go_enter Tryz.func55, Tryz.ntmps55
  go_wp2
  go_ret
  exact ⟨.slice none 0 0, rfl, Kd.R_nil _ _ _ _ _, Below.refl _ _⟩
 | some ad =>
  clear h hl
  have HO := Aside0.mk (show kSp.R 126 (w.alloc (.cells #[] 126)) w.heap.size (fun _ => True) (.slice (some ⟨w.heap.size, 0, none⟩) 0 0) [] from lit kSp w w.heap.size 126 (xs := []) (inner := []) (okp := fun _ => True) (Reps.none _ _) (fun _ h => h) trivial (Nat.le_refl _) (by simp))
  have HX1 := Aside0.mk (Kd.C_below HX.out (below_alloc (Below.refl w.heap.size w) (.cells #[] 126)))
  have HB1 := Aside0.mk (below_alloc (Below.refl w.heap.size w) (.cells #[] 126))
  have HW1 := Aside0.mk (HB1.out.size)
  have e0 := Lib.run_eql_slice_nil (P := Tryz.prog) w 115 126 (some ad) xs.length c 0 0 Tryz.underlying115
  go_enter Tryz.func55, Tryz.ntmps55
  go_upto_region 3 with fail
  go_wp2_with (first | ((with_reducible refine gate_builtin (b := .append) (xs := #[.tmp 5, .tmp 6]) rfl ?_); at_builtin; refine Kd.R_append_rows kSp (w0 := w) (w.heap.size) rfl (.tmp 5) (.tmp 6) 115 126 (.agg #[.int .i64 0, .int .i64 0]) 16 rfl Tryz.underlying115 infoSp rfl (by decide) (by omega) (.slice (some ⟨w.heap.size, 0, none⟩) 0 0) (([] : List Sp)) (xs) (some ad) (xs.length) (c) (fun _ => True) (fun k => some k ≠ (Value.slice (some ⟨w.heap.size, 0, none⟩) 0 0).ownBlock) rfl rfl HO.out HX1.out (fun x cs hk => hk) (fun k hk => ⟨trivial, hk⟩) (fun _ _ => trivial) HB1.out HW1.out (by have h := HL.out; simp; omega) ?_; intro v9 w9 hr9 hb9 hg9 hat9; have n0_ := Aside0.mk hr9; have n1_ := Aside0.mk hb9; clear hr9 hb9 hg9 hat9))
  rw [List.nil_append] at n0_
  go_wp2
  go_ret
  exact ⟨v9, rfl, n0_.out, n1_.out⟩
def kNm (w0 : World) : Kd Nd := Kd.pair Kd.string (Kd.mix 126 kSp kSp w0)
theorem kNm_of (w0 : World) {W : World} {base : Nat} {okp : Nat → Prop} (x : Nd) (cs : List Value) (h : kNd.K w0 x cs) : (kNm w0).M W base okp x cs := by
 obtain ⟨c0, c1, rfl, h0, h1⟩ := h
 exact ⟨c0, c1, rfl, h0, .inl h1⟩
theorem kNm_mkM (w0 : World) {W : World} {base : Nat} {ok : Nat → Prop} (x : Nd) {v : Value} (h : kSp.R 126 W base ok v x.2) : (kNm w0).M W base ok x [.string x.1, v] := ⟨[.string x.1], [v], rfl, rfl, .inr ⟨v, rfl, h⟩⟩
theorem kNm_read {w0 w : World} (hb : Below w0.heap.size w0 w) {A : Option Addr} {n : Nat} {xs : List Nd} (h : (kNm w0).C w A n xs) : kNd.C w A n xs := by
 refine ReadsRow.imp_ h (Below.refl _ _) (fun x cs hp => ?_)
 obtain ⟨c0, c1, rfl, h0, h1⟩ := hp
 obtain ⟨A1, c2, rfl, hl, hc⟩ := Kd.mix_read rfl (fun _ _ h => h) hb h1
 exact ⟨c0, _, rfl, h0, A1, c2, rfl, hl, hc⟩
set_option maxRecDepth 100000 in
set_option maxHeartbeats 4000000 in
theorem merge.calls {w0 w : World} {A : Option Addr} {c : Nat} {xs : List Nd} (h : kNd.C w0 A xs.length xs) (hb : Below w0.heap.size w0 w) (hl : xs.length ≤ 6) : Calls Tryz.prog 52 #[.slice A xs.length c, .slice none 0 0, .func (.func 50) #[] #[], .func (.func 53) #[] #[]] w fun e w' => ∃ v, e = .returned v ∧ (kNm w0).R 117 w' w.heap.size (fun _ => True) v xs ∧ Below w.heap.size w w' := by
 have HX := Aside0.mk (show ReadsRow (kNd.K w0) 2 w A xs.length xs from ReadsRow.imp_ h hb (fun _ _ hp => hp))
 have HL := Aside0.mk hl
 clear h hb hl
 go_enter Tryz.func52, Tryz.ntmps52
 go_wp2
 go_loopw [0, 1, 9] (fun av bv ov wr => av = .slice A xs.length c ∧ bv = .slice none 0 0 ∧ ov = .slice none 0 0 ∧ wr = w) (fun _ _ _ _ => 0)
 case atStart => exact ⟨rfl, rfl, rfl, rfl⟩
 case round =>
  obtain ⟨rfl, rfl, rfl, rfl⟩ := hrel
  by_cases hn : 0 < xs.length
  ·have q0 : decide ((0 : Int) < (xs.length : Int)) = true := decide_eq_true (by omega)
   have q1 : decide (0 < xs.length) = true := decide_eq_true hn
   go_upto_region 9 with fail
   go_wp2_with (first | ((with_reducible refine gate_builtin (b := .append) (xs := #[.tmp 64, .tmp 65]) rfl ?_); at_builtin; refine Kd.R_append_rows (kNm w0) (w0 := wr) (wr.heap.size) rfl (.tmp 64) (.tmp 65) 29 117 (.agg #[.string ⟨#[]⟩, .slice none 0 0]) 40 rfl Tryz.underlying29 infoNd rfl (show 0 < 2 by decide) (by omega) (.slice none 0 0) (([] : List Nd)) (xs) (A) (xs.length) (c) (fun _ => True) (fun k => some k ≠ (Value.slice none 0 0).ownBlock) rfl rfl (Kd.R_nil _ _ _ _ _) HX.out (fun x cs hk => kNm_of w0 x cs hk) (fun k hk => ⟨trivial, hk⟩) (fun _ _ => trivial) (Below.refl wr.heap.size wr) (Nat.le_refl _) (by have h := HL.out; simp; omega) ?_; intro v9 w9 hr9 hb9 hg9 hat9; have n0_ := Aside0.mk hr9; have n1_ := Aside0.mk hb9; clear hr9 hb9 hg9 hat9; rw [List.nil_append] at n0_; obtain ⟨A9, c9, rfl⟩ := Kd.R_slice n0_.out) | ((with_reducible refine gate_builtin (b := .append) (xs := #[.tmp 66, .tmp 67]) rfl ?_); at_builtin; refine Kd.R_append_rows (kNm w0) (w0 := wr) (wr.heap.size) rfl (.tmp 66) (.tmp 67) 29 117 (.agg #[.string ⟨#[]⟩, .slice none 0 0]) 40 rfl Tryz.underlying29 infoNd rfl (show 0 < 2 by decide) (by omega) (.slice A9 xs.length c9) (xs) (([] : List Nd)) (none) (0) (0) (fun _ => True) (fun k => some k ≠ (Value.slice A9 xs.length c9).ownBlock) rfl rfl n0_.out (show ReadsRow (kNd.K w0) 2 w9 none 0 [] from ⟨rfl, Nat.zero_le _, fun h => absurd h (Nat.lt_irrefl 0)⟩) (fun x cs hk => kNm_of w0 x cs hk) (fun k hk => ⟨trivial, hk⟩) (fun _ _ => trivial) n1_.out n1_.out.size (by have h := HL.out; omega) ?_; intro v9 w9 hr9 hb9 hg9 hat9; have m0_ := Aside0.mk hr9; have m1_ := Aside0.mk hb9; clear hr9 hb9 hg9 hat9; rw [List.append_nil] at m0_))
   go_wp2
   go_ret
   exact ⟨v9, rfl, m0_.out, m1_.out⟩
  ·have q0 : decide ((0 : Int) < (xs.length : Int)) = false := decide_eq_false (by omega)
   have q1 : decide (0 < xs.length) = false := decide_eq_false hn
   go_upto_region 9 with fail
   go_wp2_with (first | ((with_reducible refine gate_builtin (b := .append) (xs := #[.tmp 64, .tmp 65]) rfl ?_); at_builtin; refine Kd.R_append_rows (kNm w0) (w0 := wr) (wr.heap.size) rfl (.tmp 64) (.tmp 65) 29 117 (.agg #[.string ⟨#[]⟩, .slice none 0 0]) 40 rfl Tryz.underlying29 infoNd rfl (show 0 < 2 by decide) (by omega) (.slice none 0 0) (([] : List Nd)) (xs) (A) (xs.length) (c) (fun _ => True) (fun k => some k ≠ (Value.slice none 0 0).ownBlock) rfl rfl (Kd.R_nil _ _ _ _ _) HX.out (fun x cs hk => kNm_of w0 x cs hk) (fun k hk => ⟨trivial, hk⟩) (fun _ _ => trivial) (Below.refl wr.heap.size wr) (Nat.le_refl _) (by have h := HL.out; simp; omega) ?_; intro v9 w9 hr9 hb9 hg9 hat9; have n0_ := Aside0.mk hr9; have n1_ := Aside0.mk hb9; clear hr9 hb9 hg9 hat9; rw [List.nil_append] at n0_; obtain ⟨A9, c9, rfl⟩ := Kd.R_slice n0_.out) | ((with_reducible refine gate_builtin (b := .append) (xs := #[.tmp 66, .tmp 67]) rfl ?_); at_builtin; refine Kd.R_append_rows (kNm w0) (w0 := wr) (wr.heap.size) rfl (.tmp 66) (.tmp 67) 29 117 (.agg #[.string ⟨#[]⟩, .slice none 0 0]) 40 rfl Tryz.underlying29 infoNd rfl (show 0 < 2 by decide) (by omega) (.slice A9 xs.length c9) (xs) (([] : List Nd)) (none) (0) (0) (fun _ => True) (fun k => some k ≠ (Value.slice A9 xs.length c9).ownBlock) rfl rfl n0_.out (show ReadsRow (kNd.K w0) 2 w9 none 0 [] from ⟨rfl, Nat.zero_le _, fun h => absurd h (Nat.lt_irrefl 0)⟩) (fun x cs hk => kNm_of w0 x cs hk) (fun k hk => ⟨trivial, hk⟩) (fun _ _ => trivial) n1_.out n1_.out.size (by have h := HL.out; omega) ?_; intro v9 w9 hr9 hb9 hg9 hat9; have m0_ := Aside0.mk hr9; have m1_ := Aside0.mk hb9; clear hr9 hb9 hg9 hat9; rw [List.append_nil] at m0_))
   go_wp2
   go_ret
   exact ⟨v9, rfl, m0_.out, m1_.out⟩
theorem R_blk {α : Type} {d : Kd α} {e : TypeId} {w : World} {base : Nat} {ok : Nat → Prop} {v : Value} {xs : List α} (h : d.R e w base ok v xs) (hd : 0 < d.sz) (hn : 0 < xs.length) : ∃ g c, v = .slice (some ⟨g, 0, none⟩) xs.length c := by
 obtain ⟨_, inner, ho, hr⟩ := h
 rcases ho.2 with ⟨_, hz⟩ | ⟨g, cap, cur, hv, _⟩
 ·have := ho.1
  omega
 ·exact ⟨g, cap, hv⟩
set_option maxRecDepth 100000 in
set_option maxHeartbeats 8000000 in
theorem need.Both.calls {w0 w : World} {A : Option Addr} {c : Nat} {xs : List Nd} (h : kNd.C w0 A xs.length xs) (hb : Below w0.heap.size w0 w) (hl : xs.length ≤ 6) (hs : ∀ x ∈ xs, x.2.length ≤ 1000) : Calls Tryz.prog 21 #[.slice A xs.length c, .slice none 0 0] w fun e w' => ∃ v, e = .returned v ∧ (kNm w0).R 117 w' w.heap.size (fun _ => True) v xs ∧ Below w.heap.size w w' := by
 have HX := Aside0.mk h
 have HB0 := Aside0.mk hb
 have HL := Aside0.mk hl
 have HS := Aside0.mk hs
 clear h hb hl hs
 go_enter Tryz.func21, Tryz.ntmps21
 go_wp2_with fail
 refine (merge.calls HX.out HB0.out HL.out).mono ?_
 rintro e w4 ⟨v4, rfl, hr4, hb4⟩
 have HR4 := Aside0.mk hr4
 have HB4 := Aside0.mk hb4
 obtain ⟨A4, c4, rfl⟩ := Kd.R_slice hr4
 clear hr4 hb4
 go_wp2
 go_loopw [15] (fun iv wr => ∃ i : Nat, iv = .int .i64 (i : Int) ∧ i ≤ xs.length ∧ Aside0 ((kNm w0).R 117 wr w.heap.size (fun _ => True) (.slice A4 xs.length c4) xs) ∧ Aside0 (Below w.heap.size w wr)) (fun iv _ => ((xs.length : Int) - intOf iv).toNat)
 case atStart => exact ⟨0, rfl, by omega, HR4, HB4⟩
 case round =>
  clear HR4 HB4
  obtain ⟨i, rfl, hi, HR, HB⟩ := hrel
  have hll := HL.out
  by_cases hlt : i < xs.length
  ·have q0 : decide ((i : Int) < (xs.length : Int)) = true := decide_eq_true (by omega)
   have u0 : (0 : Int) ≤ (i : Int) := by omega
   have u1 : (i : Int) < (xs.length : Int) := by omega
   have HA9 := Aside0.mk (show wrap64 ((i : Int) + 1) = (i : Int) + 1 from wrap_id (by omega) (by omega))
   obtain ⟨g, c5, hg5⟩ := R_blk HR.out (show 0 < 2 by decide) (by omega)
   injection hg5 with hA hn hc
   subst hA
   have HBw := Aside0.mk (show Below w0.heap.size w0 wr from HB0.out.trans (HB.out.mono HB0.out.size))
   obtain ⟨ad, A1, c1, e1, k0, k1, hlc, hcs⟩ := at_Nd (kNm_read HBw.out (Kd.R_reads' HR.out).2.2) i hlt
   injection e1 with e1
   subst e1
   rw [add_plain] at k0 k1
   replace k1 : wr.cell? ⟨g, i * 2 + 1, none⟩ = _ := k1
   have hset : xs.set i (xs.getD i zNd) = xs := by
    apply List.ext_getElem?
    intro k
    rw [List.getElem?_set]
    by_cases e : i = k
    ·subst e
     simp [hlt, List.getD_eq_getElem?_getD]
    ·rw [if_neg e]
   have hxl := HS.out _ (getD_mem xs zNd i hlt)
   have HSET := Aside0.mk hset
   obtain ⟨x, hx⟩ : ∃ x, xs.getD i zNd = x := ⟨_, rfl⟩
   rw [hx] at k0 k1 hlc hcs hxl HSET
   have HXL := Aside0.mk hxl
   have HBa := Aside0.mk (below_alloc (Below.refl wr.heap.size wr) (.cells #[.string x.1, .slice A1 x.2.length c1] 117))
   have HCS := Aside0.mk (Kd.C_below hcs HBa.out)
   have HR2 := Aside0.mk (Kd.R_below HR.out HBa.out)
   have HB2 := Aside0.mk (below_step HB.out HBa.out)
   have hbx := blk_new wr (.cells #[.string x.1, .slice A1 x.2.length c1] 117)
   have HBX := Aside0.mk hbx
   have HK := Aside0.mk (And.intro ((HBa.out.cell (World.block_lt_of_cell? _ _ k0)).trans k0) ((HBa.out.cell (World.block_lt_of_cell? _ _ k1)).trans k1))
   clear hset hxl hx hlc hcs hc hn hbx HR HB
   go_wp2_with fail
   generalize wr.alloc (.cells #[.string x.1, .slice A1 x.2.length c1] 117) = w5 at HBX HCS HR2 HB2 HK HBa ⊢
   generalize wr.heap.size = gx at HBX HBa ⊢
   refine (cloneSp.calls HCS.out HXL.out).mono ?_
   rintro e w6 ⟨v6, rfl, hr6, hb6⟩
   obtain ⟨A6, c6, rfl⟩ := Kd.R_slice hr6
   have HR6 := Aside0.mk (Kd.R_below HR2.out hb6)
   have HGL := Aside0.mk (World.block_lt_of_cell? _ _ HK.out.1)
   have HY6 := Aside0.mk (show kSp.R 126 w6 w.heap.size (fun k => k ≠ g) (.slice A6 x.2.length c6) x.2 from Kd.R_lower (Kd.R_mono (Kd.R_bound hr6) (fun k hk e => by have h1 : w5.heap.size ≤ k := hk.2.1; rw [e] at h1; exact absurd HGL.out (Nat.not_lt.2 h1))) HB2.out.size)
   have HK6 := Aside0.mk (And.intro ((hb6.cell (World.block_lt_of_cell? _ _ HK.out.1)).trans HK.out.1) ((hb6.cell (World.block_lt_of_cell? _ _ HK.out.2)).trans HK.out.2))
   have HB6 := Aside0.mk (below_step HB2.out hb6)
   have p0 : (0 : Int) ≤ (i : Int) := u0
   clear hr6 hb6 HR2 HB2 HK HCS HBX HBa k0 k1
   go_wp2_with (first | ((with_reducible refine gate_store (t := 115) (p := 26) (v := .tmp 24) rfl ?_); refine Kd.R_store (kNm w0) (w0 := w) w.heap.size rfl rfl 115 (.tmp 26) (.tmp 24) rfl 117 (i : Int) 1 xs x (.slice A6 x.2.length c6) [.slice A6 x.2.length c6] [.string x.1, .slice A1 x.2.length c1] (fun _ => True) (fun k => k ≠ g) rfl (show i * 2 + 1 = ((i : Int)).toNat * 2 + 1 by rw [Int.toNat_natCast]) rfl rfl (by kernel_rfl) (by intro q hq; rw [List.mem_singleton.1 hq]; rfl) HR6.out u0 u1 rfl (by intro j u hj; rw [Int.toNat_natCast]; match j, hj with | 0, hj => (injection hj with hj; rw [← hj]; exact HK6.out.1) | 1, hj => (injection hj with hj; rw [← hj]; exact HK6.out.2)) (Nat.le_refl _) (kNm_mkM w0 x HY6.out) (fun k hk => ⟨trivial, hk⟩) HB6.out ?_; intro w9 hr9 hb9 hg9; rw [Int.toNat_natCast, HSET.out] at hr9; have n0_ := Aside0.mk hr9; have n1_ := Aside0.mk hb9; clear hr9 hb9 hg9 HR6 HB6))
   have a9 := HA9.out
   go_wp2
   go_roundw
   case rel => exact ⟨i + 1, by go_num, hlt, n0_, n1_⟩
   case measure => first | (rw [a9]; exact meas _ _ hlt) | exact meas _ _ hlt
  ·have q0 : decide ((i : Int) < (xs.length : Int)) = false := decide_eq_false (by omega)
   go_wp2
   go_ret
   exact ⟨.slice A4 xs.length c4, rfl, HR.out, HB.out⟩
def aft (s : Sp) (p : Int) : Int := if s.2 ≤ p then -1 else 1
theorem mes1 (i j k : Nat) (h : i ≤ k) (h2 : k < j) : ((j : Int) - ((k : Int) + 1)).toNat < ((j : Int) - (i : Int)).toNat := by omega
theorem mes2 (i j k : Nat) (h : i ≤ k) (h2 : k < j) : ((k : Int) - (i : Int)).toNat < ((j : Int) - (i : Int)).toNat := by omega
theorem after1.calls (s : Sp) (p : Int) (w : World) : Calls Tryz.prog 245 #[.agg #[.int .i64 s.1, .int .i64 s.2], .int .i64 p] w fun e w' => e = .returned (.int .i64 (aft s p)) ∧ Below w.heap.size w w' := by
 by_cases h : s.2 ≤ p
 ·have q0 : decide (s.2 ≤ p) = true := decide_eq_true h
  have HH := Aside0.mk (show aft s p = -1 from if_pos h)
  clear h
  go_enter Tryz.func245, Tryz.ntmps245
  go_wp2
  go_ret
  exact ⟨by rw [HH.out]; rfl, below_alloc (Below.refl _ _) _⟩
 ·have q0 : decide (s.2 ≤ p) = false := decide_eq_false h
  have HH := Aside0.mk (show aft s p = 1 from if_neg h)
  clear h
  go_enter Tryz.func245, Tryz.ntmps245
  go_wp2
  go_ret
  exact ⟨by rw [HH.out]; rfl, below_alloc (Below.refl _ _) _⟩
set_option maxRecDepth 100000 in
set_option maxHeartbeats 8000000 in
theorem bsSp.calls {w : World} {A : Option Addr} {c : Nat} {xs : List Sp} (p : Int) (h : kSp.C w A xs.length xs) (hl : xs.length ≤ 1000) : Calls Tryz.prog 244 #[.slice A xs.length c, .int .i64 p, .func (.func 245) #[] #[]] w fun e w' => ∃ n : Nat, (∃ b : Bool, e = .returned (.tuple #[.int .i64 (n : Int), .bool b])) ∧ n ≤ xs.length ∧ (n < xs.length → p < (xs.getD n zSp).2) ∧ Below w.heap.size w w' := by
 have HX := Aside0.mk h
 have HL := Aside0.mk hl
 clear h hl
 go_enter Tryz.func244, Tryz.ntmps244
 go_wp2
 go_loopw [9, 10] (fun iv jv wr => ∃ i j : Nat, iv = .int .i64 (i : Int) ∧ jv = .int .i64 (j : Int) ∧ i ≤ j ∧ j ≤ xs.length ∧ Aside0 (j < xs.length → p < (xs.getD j zSp).2) ∧ Aside0 (Below w.heap.size w wr)) (fun iv jv _ => (intOf jv - intOf iv).toNat)
 case atStart => exact ⟨0, xs.length, rfl, rfl, by omega, by omega, ⟨fun h => absurd h (Nat.lt_irrefl _)⟩, ⟨Below.refl _ _⟩⟩
 case round =>
  obtain ⟨i, j, rfl, rfl, hij, hj, HP, HB⟩ := hrel
  have hll := HL.out
  by_cases hlt : i < j
  ·have q0 : decide ((i : Int) < (j : Int)) = true := decide_eq_true (by omega)
   obtain ⟨k, hk⟩ : ∃ k : Nat, k = (i + j) / 2 := ⟨_, rfl⟩
   have hki : i ≤ k ∧ k < j := by omega
   have hkx : k < xs.length := by omega
   have w0 : wrap64 ((i : Int) + (j : Int)) = (i : Int) + (j : Int) := wrap_id (by omega) (by omega)
   have w1 : IntKind.u64.wrap ((i : Int) + (j : Int)) = (i : Int) + (j : Int) := by simp [IntKind.wrap, IntKind.bits, IntKind.signed]; omega
   have w2 : ((i : Int) + (j : Int)) % 18446744073709551616 = (i : Int) + (j : Int) := by omega
   have w3 : ((i : Int) + (j : Int)) / 2 = (k : Int) := by omega
   have w4 : wrap64 (k : Int) = (k : Int) := wrap_id (by omega) (by omega)
   have u0 : (0 : Int) ≤ (k : Int) := by omega
   have u1 : (k : Int) < (xs.length : Int) := by omega
   have a9 : wrap64 ((k : Int) + 1) = (k : Int) + 1 := wrap_id (by omega) (by omega)
   have HA9 := Aside0.mk a9
   obtain ⟨ad, rfl, k0, k1⟩ := at_Sp (Kd.C_below HX.out HB.out) k hkx
   have HK := Aside0.mk hki
   generalize hs : xs.getD k zSp = s at k0 k1
   have HS := Aside0.mk hs
   clear hs hk hki a9
   go_wp2_with fail
   refine (after1.calls s p wr).mono ?_
   rintro e w5 ⟨rfl, hb5⟩
   have HB5 := Aside0.mk (below_step HB.out hb5)
   clear hb5 k0 k1
   by_cases hz : s.2 ≤ p
   ·rw [show aft s p = -1 from if_pos hz]
    have a9 := HA9.out
    clear hz
    go_wp2
    go_roundw
    case rel => exact ⟨k + 1, j, by go_num, rfl, HK.out.2, hj, HP, HB5⟩
    case measure => first | exact mes1 i j k HK.out.1 HK.out.2 | (rw [a9]; exact mes1 i j k HK.out.1 HK.out.2)
   ·rw [show aft s p = 1 from if_neg hz]
    have HZ := Aside0.mk hz
    clear hz
    go_wp2
    go_roundw
    case rel => exact ⟨i, k, rfl, rfl, HK.out.1, Nat.le_of_lt (Nat.lt_of_lt_of_le HK.out.2 hj), ⟨fun _ => by rw [HS.out]; exact HZ.out⟩, HB5⟩
    case measure => exact mes2 i j k HK.out.1 HK.out.2
  ·have q0 : decide ((i : Int) < (j : Int)) = false := decide_eq_false (by omega)
   have hji : i = j := by omega
   subst hji
   by_cases hn : i < xs.length
   ·have q1 : decide ((i : Int) < (xs.length : Int)) = true := decide_eq_true (by omega)
    have u0 : (0 : Int) ≤ (i : Int) := by omega
    have u1 : (i : Int) < (xs.length : Int) := by omega
    obtain ⟨ad, rfl, k0, k1⟩ := at_Sp (Kd.C_below HX.out HB.out) i hn
    generalize hs : xs.getD i zSp = s at k0 k1
    clear hs
    go_wp2_with fail
    refine (after1.calls s p wr).mono ?_
    rintro e w5 ⟨rfl, hb5⟩
    have HB5 := Aside0.mk (below_step HB.out hb5)
    clear hb5 k0 k1
    obtain ⟨r, hr⟩ : ∃ r : Int, aft s p = r := ⟨_, rfl⟩
    rw [hr]
    clear hr
    go_wp2
    go_ret2
    exact ⟨i, ⟨_, rfl⟩, hj, HP.out, HB5.out⟩
   ·have q1 : decide ((i : Int) < (xs.length : Int)) = false := decide_eq_false (by omega)
    go_wp2
    go_ret2
    exact ⟨i, ⟨_, rfl⟩, hj, HP.out, HB.out⟩
theorem spanAfter.calls {w : World} {A : Option Addr} {c : Nat} {xs : List Sp} (p : Int) (h : kSp.C w A xs.length xs) (hl : xs.length ≤ 1000) : Calls Tryz.prog 188 #[.slice A xs.length c, .int .i64 p] w fun e w' => ∃ n : Nat, e = .returned (.int .i64 (n : Int)) ∧ n ≤ xs.length ∧ (n < xs.length → p < (xs.getD n zSp).2) ∧ Below w.heap.size w w' := by
 go_enter Tryz.func188, Tryz.ntmps188
 go_wp2_with fail
 refine (bsSp.calls p h hl).mono ?_
 rintro e w5 ⟨n, ⟨b, rfl⟩, h1, h2, h3⟩
 have HE := Aside0.mk (And.intro h1 (And.intro h2 h3))
 clear h1 h2 h3
 go_wp2
 go_ret
 exact ⟨n, rfl, HE.out⟩
set_option maxRecDepth 100000 in
set_option maxHeartbeats 4000000 in
theorem spanNext.calls {w : World} {A : Option Addr} {c : Nat} {xs : List Sp} (p : Int) (hp : p < 1000000000) (h : kSp.C w A xs.length xs) (hl : xs.length ≤ 1000) : Calls Tryz.prog 133 #[.slice A xs.length c, .int .i64 p] w fun e w' => ∃ r, e = .returned (.int .i64 r) ∧ p < r ∧ Below w.heap.size w w' := by
 have HX := Aside0.mk h
 have HL := Aside0.mk hl
 have HP := Aside0.mk hp
 clear h hl hp
 go_enter Tryz.func133, Tryz.ntmps133
 go_wp2_with fail
 refine (spanAfter.calls p HX.out HL.out).mono ?_
 rintro e w5 ⟨n, rfl, h1, h2, hb⟩
 have HB := Aside0.mk hb
 have hll := HL.out
 by_cases hn : n = xs.length
 ·have q0 : ((n : Int) == (xs.length : Int)) = true := beq_iff_eq.2 (by omega)
  clear h1 h2 hb hll hn
  go_wp2
  go_ret
  exact ⟨_, rfl, HP.out, HB.out⟩
 ·have q0 : ((n : Int) == (xs.length : Int)) = false := by simp; omega
  have hlt : n < xs.length := by omega
  have u0 : (0 : Int) ≤ (n : Int) := by omega
  have u1 : (n : Int) < (xs.length : Int) := by omega
  obtain ⟨ad, rfl, k0, k1⟩ := at_Sp (Kd.C_below HX.out hb) n hlt
  have h3 := h2 hlt
  generalize xs.getD n zSp = s at k0 k1 h3
  by_cases hz : p < s.1
  ·have q1 : decide (p < s.1) = true := decide_eq_true hz
   have HZ := Aside0.mk hz
   clear h1 h2 hb hll h3 hz
   go_wp2
   go_ret
   exact ⟨s.1, rfl, HZ.out, HB.out⟩
  ·have q1 : decide (p < s.1) = false := decide_eq_false hz
   have HZ := Aside0.mk h3
   clear h1 h2 hb hll h3 hz
   go_wp2
   go_ret
   exact ⟨s.2, rfl, HZ.out, HB.out⟩
set_option maxRecDepth 100000 in
set_option maxHeartbeats 4000000 in
theorem spanHas.calls {w : World} {A : Option Addr} {c : Nat} {xs : List Sp} (p : Int) (h : kSp.C w A xs.length xs) (hl : xs.length ≤ 1000) : Calls Tryz.prog 134 #[.slice A xs.length c, .int .i64 p] w fun e w' => (∃ b : Bool, e = .returned (.bool b)) ∧ Below w.heap.size w w' := by
 have HX := Aside0.mk h
 have HL := Aside0.mk hl
 clear h hl
 go_enter Tryz.func134, Tryz.ntmps134
 go_wp2_with fail
 refine (spanAfter.calls p HX.out HL.out).mono ?_
 rintro e w5 ⟨n, rfl, h1, h2, hb⟩
 have HB := Aside0.mk hb
 have hll := HL.out
 by_cases hlt : n < xs.length
 ·have q0 : decide ((n : Int) < (xs.length : Int)) = true := decide_eq_true (by omega)
  have u0 : (0 : Int) ≤ (n : Int) := by omega
  have u1 : (n : Int) < (xs.length : Int) := by omega
  obtain ⟨ad, rfl, k0, k1⟩ := at_Sp (Kd.C_below HX.out hb) n hlt
  generalize xs.getD n zSp = s at k0 k1 h2
  clear h1 h2 hb hll
  go_wp2
  go_ret
  exact ⟨⟨_, rfl⟩, HB.out⟩
 ·have q0 : decide ((n : Int) < (xs.length : Int)) = false := decide_eq_false (by omega)
  clear h1 h2 hb hll
  go_wp2
  go_ret
  exact ⟨⟨_, rfl⟩, HB.out⟩
theorem not1.calls (a b : Bool) (w : World) : Calls Tryz.prog 413 #[.bool a, .bool b] w fun e w' => (∃ r : Bool, e = .returned (.bool r)) ∧ w' = w := by
 go_enter Tryz.func413, Tryz.ntmps413
 go_wp2
 go_ret
 exact ⟨⟨_, rfl⟩, rfl⟩
def ADD3.T3 : Bool × List (List Nat × List Nat) := (true, [([], []), ([], []), ([], []), ([], []), ([2, 3], [2, 3]), ([4], [4]), ([5], [5]), ([], []), ([7], [7]), ([6, 8], [6, 8]), ([0, 1, 0, 1, 2, 3, 4, 5, 6, 7, 8, 9], [0, 1]), ([10, 0, 1, 2, 3, 4, 5, 6, 7, 8, 9], [10]), ([11, 9, 0, 1, 2, 3, 4, 5, 6, 7, 8, 9], [9, 11])])
def ADD3.B3 : List Nat := [0, 0, 0, 0, 12, 28, 60, 0, 128, 508, 1023, 2047, 4095]
theorem ADD3.tab3 : rtab .any (opsOf Tryz.f135 3) = ADD3.T3 := by kernel_rfl
theorem ADD3.bits3 : waitsOk ADD3.T3.2 ADD3.B3 = true := by kernel_rfl
set_option maxRecDepth 100000 in
set_option maxHeartbeats 4000000 in
theorem spanAddM.calls {w : World} {base : Nat} {v : Value} {xs : List Sp} (m : Nat) (hm : xs.length = m + 1) (s : Sp) (hr : kSp.R 126 w base (fun _ => True) v xs) (hb : base ≤ w.heap.size) (hl : xs.length ≤ 1000000000) (hs : s.1 ≤ (xs.getD m zSp).2) :
  Calls Tryz.prog 135 #[v, .agg #[.int .i64 s.1, .int .i64 s.2]] w fun e w' => ∃ v' ys, e = .returned v' ∧ kSp.R 126 w' base (fun _ => True) v' ys ∧ ys.length = xs.length ∧ Below base w w' := by
 have HR := Aside0.mk (Kd.R_below hr (below_alloc (Below.refl w.heap.size w) (.cells #[.int .i64 s.1, .int .i64 s.2] 126)))
 have HB := Aside0.mk (Below.alloc (Below.refl base w) hb (.cells #[.int .i64 s.1, .int .i64 s.2] 126))
 obtain ⟨g, c, rfl⟩ := R_blk hr (by decide) (by omega)
 have HWB := Aside0.mk hb
 have hbx := blk_new w (.cells #[.int .i64 s.1, .int .i64 s.2] 126)
 have HBX := Aside0.mk hbx
 obtain ⟨_, hcC⟩ := (Kd.R_reads' HR.out).2
 obtain ⟨ad, e0, k0, k1⟩ := at_Sp hcC m (by omega)
 injection e0 with e0
 subst e0
 rw [add_plain] at k0 k1
 replace k1 : (w.alloc (.cells #[.int .i64 s.1, .int .i64 s.2] 126)).cell? ⟨g, m * 2 + 1, none⟩ = _ := k1
 have q1 : decide (s.1 ≤ (xs.getD m zSp).2) = true := decide_eq_true hs
 obtain ⟨lo, hlo⟩ : ∃ x, (xs.getD m zSp).1 = x := ⟨_, rfl⟩
 obtain ⟨hi, hhi⟩ : ∃ x, (xs.getD m zSp).2 = x := ⟨_, rfl⟩
 rw [hlo] at k0
 rw [hhi] at k1 q1
 have HM := Aside0.mk hm
 have u0 : (0 : Int) ≤ (m : Int) := by omega
 have u1 : (m : Int) < (xs.length : Int) := by omega
 have e9 : (xs.length : Int) - 1 = (m : Int) := by omega
 have a0 : wrap64 (m : Int) = (m : Int) := wrap_id (by omega) (by omega)
 have a1 : wrap64 ((xs.length : Int) - 1) = (m : Int) := by rw [e9]; exact a0
 have u2 : decide ((0 : Int) ≤ (m : Int)) = true := decide_eq_true u0
 have HU := Aside0.mk (And.intro u0 u1)
 have x0 : (w.alloc (.cells #[.int .i64 s.1, .int .i64 s.2] 126)).cell? ⟨w.heap.size, 0, none⟩ = some (.int .i64 s.1) := (blk_cell hbx 0).trans rfl
 have x1 : (w.alloc (.cells #[.int .i64 s.1, .int .i64 s.2] 126)).cell? ⟨w.heap.size, 1, none⟩ = some (.int .i64 s.2) := (blk_cell hbx 1).trans rfl
 clear hr hb hbx hl hs hcC hlo hhi hm
 go_enter Tryz.func135, Tryz.ntmps135
 go_wp2
 go_quiet (fail)
 go_upto_region 3 with fail
 have HR2 := Aside0.mk (Kd.R_drewN HR.out nq)
 have HB2 := Aside0.mk (pw_below_drewN HB.out nq)
 have k2 : ((w.alloc (.cells #[.int .i64 s.1, .int .i64 s.2] 126)).drewN nq).cell? ⟨g, m * 2 + 1, none⟩ = some (.int .i64 hi) := k1
 have k3 : ((w.alloc (.cells #[.int .i64 s.1, .int .i64 s.2] 126)).drewN nq).cell? ⟨g, m * 2, none⟩ = some (.int .i64 lo) := k0
 have x2 : ((w.alloc (.cells #[.int .i64 s.1, .int .i64 s.2] 126)).drewN nq).cell? ⟨w.heap.size, 1, none⟩ = some (.int .i64 s.2) := x1
 clear x0 x1 k0 k1 HR HB HBX
 generalize (w.alloc (.cells #[.int .i64 s.1, .int .i64 s.2] 126)).drewN nq = w2 at HR2 HB2 k2 k3 x2 ⊢
 generalize w.heap.size = gx at x2 ⊢
 have HR3 := Aside0.mk (show kSp.R 126 w2.drew base (fun _ => True) (.slice (some ⟨g, 0, none⟩) xs.length c) xs from Kd.R_drewN HR2.out 1)
 have HB3 := Aside0.mk (show Below base w w2.drew from pw_below_drewN HB2.out 1)
 have HC := Aside0.mk (show w2.drew.cell? ⟨g, m * 2 + 1, none⟩ = some (.int .i64 hi) ∧ w2.drew.cell? ⟨gx, 1, none⟩ = some (.int .i64 s.2) ∧ w2.drew.cell? ⟨g, m * 2, none⟩ = some (.int .i64 lo) from ⟨k2, x2, k3⟩)
 have hfz : w2.drew.frozen? ⟨g, m * 2 + 1, none⟩ = false := by
  obtain ⟨_, inner, ho, _⟩ := HR3.out
  rcases ho.2 with ⟨hv, _⟩ | ⟨g', cap, cur, hv, _, hh, _⟩
  ·cases hv
  ·injection hv with hv
   injection hv with hv
   injection hv with hv
   subst hv
   exact blk_frozen hh _
 have hk2 := HC.out.1
 have HK2 := Aside0.mk (And.intro k3 k2)
 clear k2 k3 x2
 refine start_ (n := 13) (S := fun w' => w'.cell? ⟨g, m * 2 + 1, none⟩ = some (.int .i64 hi) ∧ w'.cell? ⟨gx, 1, none⟩ = some (.int .i64 s.2)) (ds := [12]) #[O,O,O,O,O,O,O,O,O,O,O,O,O] (by kernel_rfl) rfl rfl ⟨HC.out.1, HC.out.2.1⟩ (fun hHeld => ?_)
 refine with_tabW ADD3.tab3 ADD3.bits3 (fun HT_ HW_ => ?_)
 refine pure_ (i := 0) (N := some 21) (v := ?_) (a' := ?_) #[Y,O,O,O,O,O,O,O,O,O,O,O,O] rfl rfl (any_of HT_.out (by kernel_rfl)) (fun _ _ _ h => h) (Or.inl ⟨by rfl, ?_⟩) ?_ ?_
 rotate_left
 ·intro w'
  go_simp
  with_reducible rfl
 rotate_left
 ·simp only [PN]
  rfl
 refine pure_ (i := 1) (N := some 22) (v := ?_) (a' := ?_) #[Y,Y,O,O,O,O,O,O,O,O,O,O,O] rfl rfl (any_of HT_.out (by kernel_rfl)) (fun _ _ _ h => h) (Or.inl ⟨by rfl, ?_⟩) ?_ ?_
 rotate_left
 ·intro w'
  go_simp
  with_reducible rfl
 rotate_left
 ·simp only [PN]
  rfl
 refine pure_ (i := 2) (N := some 23) (v := ?_) (a' := ?_) #[Y,Y,Y,O,O,O,O,O,O,O,O,O,O] rfl rfl (any_of HT_.out (by kernel_rfl)) (fun _ _ _ h => h) (Or.inl ⟨by rfl, ?_⟩) ?_ ?_
 rotate_left
 ·intro w'
  go_simp
  with_reducible rfl
 rotate_left
 ·simp only [PN]
  rfl
 refine pure_ (i := 3) (N := some 24) (v := ?_) (a' := ?_) #[Y,Y,Y,Y,O,O,O,O,O,O,O,O,O] rfl rfl (any_of HT_.out (by kernel_rfl)) (fun _ _ _ h => h) (Or.inl ⟨by rfl, ?_⟩) ?_ ?_
 rotate_left
 ·intro w'
  go_simp
  with_reducible rfl
 rotate_left
 ·simp only [PN]
  rfl
 refine pure_ (i := 4) (N := some 25) (v := ?_) (a' := ?_) #[Y,Y,Y,Y,Y,O,O,O,O,O,O,O,O] rfl rfl (any_of HT_.out (by kernel_rfl)) (fun _ _ _ h => h) (Or.inl ⟨by rfl, ?_⟩) ?_ ?_
 rotate_left
 ·intro w'
  go_simp
  with_reducible rfl
 rotate_left
 ·simp only [PN]
  rfl
 refine pure_ (i := 5) (N := some 26) (v := ?_) (a' := ?_) #[Y,Y,Y,Y,Y,Y,O,O,O,O,O,O,O] rfl rfl (any_of HT_.out (by kernel_rfl)) (fun _ _ _ h => h) (Or.inl ⟨by rfl, ?_⟩) ?_ ?_
 rotate_left
 ·intro w'
  go_simp
  with_reducible rfl
 rotate_left
 ·simp only [PN]
  rfl
 refine pure_ (i := 7) (N := some 28) (v := ?_) (a' := ?_) #[Y,Y,Y,Y,Y,Y,O,Y,O,O,O,O,O] rfl rfl (any_of HT_.out (by kernel_rfl)) (fun _ _ _ h => h) (Or.inl ⟨by rfl, ?_⟩) ?_ ?_
 rotate_left
 ·intro w'
  go_simp
  with_reducible rfl
 rotate_left
 ·simp only [PN]
  rfl
 refine take_ (i := 6) (N := some 27) (v := ?_) (a' := ?_) #[Y,Y,Y,Y,Y,Y,Y,Y,O,O,O,O,O] rfl rfl (take_ofW HT_.out HW_.out (by kernel_rfl)) (fun _ _ _ h => h) (Or.inl ⟨by rfl, ?_⟩) hHeld ?_ ?_
 rotate_left
 ·rintro w' ⟨s0, s1⟩
  go_simp
  with_reducible rfl
 rotate_left
 ·simp only [PN]
  rfl
 refine take_ (i := 8) (N := some 29) (v := ?_) (a' := ?_) #[Y,Y,Y,Y,Y,Y,Y,Y,Y,O,O,O,O] rfl rfl (take_ofW HT_.out HW_.out (by kernel_rfl)) (fun _ _ _ h => h) (Or.inl ⟨by rfl, ?_⟩) hHeld ?_ ?_
 rotate_left
 ·rintro w' ⟨s0, s1⟩
  go_simp
  with_reducible rfl
 rotate_left
 ·simp only [PN]
  rfl
 refine pure_ (i := 9) (N := some 30) (v := ?_) (a' := ?_) #[Y,Y,Y,Y,Y,Y,Y,Y,Y,Y,O,O,O] rfl rfl (any_of HT_.out (by kernel_rfl)) (fun _ _ _ h => h) (Or.inl ⟨by rfl, ?_⟩) ?_ ?_
 rotate_left
 ·intro w'
  go_simp
  with_reducible rfl
 rotate_left
 ·simp only [PN]
  rfl
 refine pure_ (i := 10) (N := some 31) (v := ?_) (a' := ?_) #[Y,Y,Y,Y,Y,Y,Y,Y,Y,Y,Y,O,O] rfl rfl (any_of HT_.out (by kernel_rfl)) (fun _ _ _ h => h) (Or.inl ⟨by rfl, ?_⟩) ?_ ?_
 rotate_left
 ·intro w'
  go_simp
  with_reducible rfl
 rotate_left
 ·simp only [PN]
  rfl
 refine pure_ (i := 11) (N := some 32) (v := ?_) (a' := ?_) #[Y,Y,Y,Y,Y,Y,Y,Y,Y,Y,Y,Y,O] rfl rfl (any_of HT_.out (by kernel_rfl)) (fun _ _ _ h => h) (Or.inl ⟨by rfl, ?_⟩) ?_ ?_
 rotate_left
 ·intro w'
  go_simp
  with_reducible rfl
 rotate_left
 ·simp only [PN]
  rfl
 refine last_ (i := 12) (N := none) #[Y,Y,Y,Y,Y,Y,Y,Y,Y,Y,Y,Y,Y] rfl rfl (one_of HT_.out (by kernel_rfl)) (by decide) (fun K hK => ?_)
 refine skip_ (w1 := ?_) (by rfl) rfl ?_ ?_
 rotate_left
 ·go_simp
  rfl
 refine hK.out _ _ ?_
 clear hK K
 refine done_ (done_of HT_.out (by kernel_rfl)) ?_
 obtain ⟨mx_, hmx⟩ : ∃ x : Int, (if hi < s.2 then s.2 else hi) = x := ⟨_, rfl⟩
 rw [hmx]
 have hseg := Kd.R_seg HR2.out (m : Int) HU.out.1 HU.out.2 (c := [.int .i64 lo, .int .i64 hi]) (seg := [.int .i64 mx_]) (j := 1) rfl (by intro j u hj; rw [Int.toNat_natCast]; match j, hj with | 0, hj => (injection hj with hj; rw [← hj]; exact HK2.out.1) | 1, hj => (injection hj with hj; rw [← hj]; exact HK2.out.2)) (Nat.le_refl _) (x' := (lo, mx_)) (okp := fun k => k ≠ g) (kSp_mkM (lo, mx_)) (fun k hk => ⟨trivial, hk⟩)
 rw [Int.toNat_natCast] at hseg
 have HS := Aside0.mk hseg
 clear hseg hfz hk2
 have HF := Aside0.mk (show kSp.R 126 (w2.setCell ⟨g, m * 2 + 1, none⟩ (.int .i64 mx_)).drew base (fun _ => True) (.slice (some ⟨g, 0, none⟩) xs.length c) (xs.set m (lo, mx_)) from Kd.R_drewN HS.out.1 1)
 have HG := Aside0.mk (show Below base w (w2.setCell ⟨g, m * 2 + 1, none⟩ (.int .i64 mx_)).drew from below_drew (pw_below_grown HB2.out (some g) (Nat.le_trans HWB.out HB2.out.size) HS.out.2 (fun k hk => by injection hk with hk; rw [← hk]; exact Kd.R_base HR2.out g rfl)))
 clear HS HR2 HB2 HR3 HB3 HC HK2 hmx
 generalize (w2.setCell ⟨g, m * 2 + 1, none⟩ (.int .i64 mx_)).drew = w3 at HF HG ⊢
 go_wp2
 go_ret
 exact ⟨.slice (some ⟨g, 0, none⟩) xs.length c, xs.set m (lo, mx_), rfl, HF.out, List.length_set, HG.out⟩
theorem spanAddW.calls {w : World} {base : Nat} {v : Value} {xs : List Sp} (s : Sp) (hr : kSp.R 126 w base (fun _ => True) v xs) (hb : base ≤ w.heap.size) (hl : xs.length ≤ 1000000000) :
  Calls Tryz.prog 135 #[v, .agg #[.int .i64 s.1, .int .i64 s.2]] w fun e w' => ∃ v' ys, e = .returned v' ∧ kSp.R 126 w' base (fun _ => True) v' ys ∧ ys.length ≤ xs.length + 1 ∧ Below base w w' := by
 by_cases h : ∃ m, xs.length = m + 1 ∧ s.1 ≤ (xs.getD m zSp).2
 ·obtain ⟨m, hm, hs⟩ := h
  refine (spanAddM.calls m hm s hr hb hl hs).mono ?_
  rintro e w' ⟨v', ys, h1, h2, h3, h4⟩
  exact ⟨v', ys, h1, h2, by omega, h4⟩
 ·refine (spanAdd.calls s hr hb hl (fun n hn => ?_)).mono ?_
  ·exact Int.not_le.1 (fun hs => h ⟨n, hn, hs⟩)
  ·rintro e w' ⟨v', h1, h2, h4⟩
   exact ⟨v', _, h1, h2, by simp, h4⟩
theorem mesk (p q : Nat) (h : p < q) (h2 : (p : Int) < 1000000000) : (1000000000 - (q : Int)).toNat < (1000000000 - (p : Int)).toNat := by omega
set_option maxRecDepth 100000 in
set_option maxHeartbeats 8000000 in
theorem spanNot.calls {w : World} {A : Option Addr} {c : Nat} {xs : List Sp} (h : kSp.C w A xs.length xs) (hl : xs.length ≤ 1000) : Calls Tryz.prog 95 #[.slice A xs.length c, .slice none 0 0, .func (.func 413) #[] #[]] w fun e w' => ∃ v ys, e = .returned v ∧ kSp.R 126 w' w.heap.size (fun _ => True) v ys ∧ ys.length ≤ 1000000000 ∧ Below w.heap.size w w' := by
 have HX := Aside0.mk h
 have HL := Aside0.mk hl
 clear h hl
 go_enter Tryz.func95, Tryz.ntmps95
 go_wp2
 go_loopw [7, 8] (fun ov av wr => ∃ (p : Nat) (ys : List Sp), av = .int .i64 (p : Int) ∧ Aside0 (kSp.R 126 wr w.heap.size (fun _ => True) ov ys) ∧ Aside0 (p < 1000000000 → ys.length ≤ p) ∧ Aside0 (ys.length ≤ 1000000000) ∧ Aside0 (Below w.heap.size w wr)) (fun _ av _ => (1000000000 - intOf av).toNat)
 case atStart => exact ⟨0, [], rfl, ⟨Kd.R_nil _ _ _ _ _⟩, ⟨fun _ => Nat.zero_le _⟩, ⟨Nat.zero_le _⟩, ⟨Below.refl _ _⟩⟩
 case round =>
  obtain ⟨p, ys, rfl, HR, HY, HYL, HB⟩ := hrel
  by_cases hlt : (p : Int) < 1000000000
  ·have q0 : decide ((p : Int) < 1000000000) = true := decide_eq_true hlt
   have HP := Aside0.mk hlt
   clear hlt
   go_wp2_with fail
   refine (spanNext.calls (p : Int) HP.out (Kd.C_below HX.out HB.out) HL.out).mono ?_
   rintro e w4 ⟨r1, rfl, h1, hb4⟩
   have HB4 := Aside0.mk (below_step HB.out hb4)
   have HR4 := Aside0.mk (Kd.R_below HR.out hb4)
   have H1 := Aside0.mk h1
   clear hb4 h1 HR HB
   go_wp2_with fail
   refine (spanNext.calls (xs := []) (p : Int) HP.out (Kd.C_nil _ _) (by simp)).mono ?_
   rintro e w5 ⟨r2, rfl, h2, hb5⟩
   have HB5 := Aside0.mk (below_step HB4.out hb5)
   have HR5 := Aside0.mk (Kd.R_below HR4.out hb5)
   obtain ⟨tq, htq⟩ : ∃ tq : Int, (if r2 < r1 then r2 else r1) = tq := ⟨_, rfl⟩
   have HT := Aside0.mk (show (p : Int) < tq from by rw [← htq]; split; exact h2; exact H1.out)
   clear hb5 h2 HR4 HB4 H1
   go_wp2_with fail
   refine (spanHas.calls (p : Int) (Kd.C_below HX.out HB5.out) HL.out).mono ?_
   rintro e w6 ⟨⟨b1, rfl⟩, hb6⟩
   have HB6 := Aside0.mk (below_step HB5.out hb6)
   have HR6 := Aside0.mk (Kd.R_below HR5.out hb6)
   clear hb6 HR5 HB5
   go_wp2_with fail
   refine (spanHas.calls (xs := []) (p : Int) (Kd.C_nil _ _) (by simp)).mono ?_
   rintro e w7 ⟨⟨b2, rfl⟩, hb7⟩
   have HB7 := Aside0.mk (below_step HB6.out hb7)
   have HR7 := Aside0.mk (Kd.R_below HR6.out hb7)
   clear hb7 HR6 HB6
   go_wp2_with fail
   refine (not1.calls b1 b2 w7).mono ?_
   rintro e w8 ⟨⟨r, rfl⟩, rfl⟩
   obtain ⟨q, hq⟩ : ∃ q : Nat, tq = (q : Int) := ⟨tq.toNat, by have := HT.out; omega⟩
   have HQ := Aside0.mk (show p < q from by have := HT.out; rw [hq] at this; omega)
   have HQE := Aside0.mk hq
   clear hq
   cases r with
   | false =>
    go_wp2
    go_roundw
    case rel => exact ⟨q, ys, by first | (rw [HQE.out]) | (rw [htq, HQE.out]) | rfl, HR7, ⟨fun h => by have h1 := HY.out; have h2 := HQ.out; have h3 := HP.out; omega⟩, HYL, HB7⟩
    case measure => first | (rw [HQE.out]; exact mesk p q HQ.out HP.out) | (rw [htq, HQE.out]; exact mesk p q HQ.out HP.out)
   | true =>
    obtain ⟨A7, c7, rfl⟩ := Kd.R_slice HR7.out
    go_wp2_with fail
    refine (spanAddW.calls ((p : Int), tq) HR7.out HB7.out.size HYL.out).mono ?_
    rintro e w9 ⟨v9, zs, rfl, hr9, hl9, hb9⟩
    have HR9 := Aside0.mk hr9
    have HB9 := Aside0.mk (HB7.out.trans hb9)
    have HZ := Aside0.mk (show zs.length ≤ p + 1 from by have h1 := HY.out; have h2 := HP.out; omega)
    clear hr9 hl9 hb9
    go_wp2
    go_roundw
    case rel => exact ⟨q, zs, by first | (rw [HQE.out]) | (rw [htq, HQE.out]) | rfl, HR9, ⟨fun h => by have h1 := HZ.out; have h2 := HQ.out; omega⟩, ⟨by have h1 := HZ.out; have h3 := HP.out; omega⟩, HB9⟩
    case measure => first | (rw [HQE.out]; exact mesk p q HQ.out HP.out) | (rw [htq, HQE.out]; exact mesk p q HQ.out HP.out)
  ·have q0 : decide ((p : Int) < 1000000000) = false := decide_eq_false hlt
   obtain ⟨A7, c7, rfl⟩ := Kd.R_slice HR.out
   go_wp2
   go_ret
   exact ⟨.slice A7 ys.length c7, rfl, ys, HR.out, HYL.out, HB.out⟩
theorem span.Not.calls {w : World} {A : Option Addr} {c : Nat} {xs : List Sp} (h : kSp.C w A xs.length xs) (hl : xs.length ≤ 1000) : Calls Tryz.prog 376 #[.slice A xs.length c] w fun e w' => ∃ v, e = .returned v ∧ (∃ ys, kSp.R 126 w' w.heap.size (fun _ => True) v ys ∧ ys.length ≤ 1000000000) ∧ Below w.heap.size w w' := by
 go_enter Tryz.func376, Tryz.ntmps376
 go_wp2_with fail
 refine (spanNot.calls h hl).mono ?_
 rintro e w5 ⟨v, ys, rfl, h1, h2, h3⟩
 have HE := Aside0.mk (show (∃ ys, kSp.R 126 w5 w.heap.size (fun _ => True) v ys ∧ ys.length ≤ 1000000000) ∧ Below w.heap.size w w5 from ⟨⟨ys, h1, h2⟩, h3⟩)
 clear h1 h2 h3
 go_wp2
 go_ret
 exact ⟨v, rfl, HE.out⟩
theorem find1.calls (x : ByteArray) (ns : Value) (A : Option Addr) (n c : Nat) (hn : ns = .slice A n c) (y : ByteArray) (gb : Nat) (w : World) (hb : w.heap[gb]? = some (.cells #[.string y] 9 (0, 0))) : Calls Tryz.prog 355 #[.agg #[.string x, ns], .pointer (some ⟨gb, 0, none⟩)] w fun e w' => (∃ b : Bool, e = .returned (.bool b)) ∧ Below w.heap.size w w' := by
 subst hn
 have h1 := blk_below hb (below_alloc (Below.refl _ _) (.cells #[.string x, .slice A n c] 117))
 have k0 : (w.alloc (.cells #[.string x, .slice A n c] 117)).cell? ⟨gb, 0, none⟩ = some (.string y) := (blk_cell h1 0).trans rfl
 clear h1 hb
 go_enter Tryz.func355, Tryz.ntmps355
 go_wp2
 go_ret
 exact ⟨⟨_, rfl⟩, below_alloc (Below.refl _ _) _⟩
set_option maxRecDepth 100000 in
set_option maxHeartbeats 4000000 in
theorem indexNd.calls {w : World} {A : Option Addr} {c : Nat} {xs : List Nd} (y : ByteArray) (gb : Nat) (hb : w.heap[gb]? = some (.cells #[.string y] 9 (0, 0))) (h : kNd.C w A xs.length xs) (hl : xs.length ≤ 6) : Calls Tryz.prog 354 #[.slice A xs.length c, .func (.func 355) #[] #[.pointer (some ⟨gb, 0, none⟩)]] w fun e w' => ∃ r : Int, e = .returned (.int .i64 r) ∧ -1 ≤ r ∧ r < (xs.length : Int) ∧ Below w.heap.size w w' := by
 have HX := Aside0.mk h
 have HL := Aside0.mk hl
 have HG := Aside0.mk hb
 clear h hl hb
 go_enter Tryz.func354, Tryz.ntmps354
 go_wp2
 go_loopw [8] (fun iv wr => ∃ i : Nat, iv = .int .i64 (i : Int) ∧ i ≤ xs.length ∧ Aside0 (Below w.heap.size w wr)) (fun iv _ => ((xs.length : Int) - intOf iv).toNat)
 case atStart => exact ⟨0, rfl, by omega, ⟨Below.refl _ _⟩⟩
 case round =>
  obtain ⟨i, rfl, hi, HB⟩ := hrel
  have hll := HL.out
  by_cases hlt : i < xs.length
  ·have q0 : decide ((i : Int) < (xs.length : Int)) = true := decide_eq_true (by omega)
   have u0 : (0 : Int) ≤ (i : Int) := by omega
   have u1 : (i : Int) < (xs.length : Int) := by omega
   have HI := Aside0.mk (show -1 ≤ (i : Int) ∧ (i : Int) < (xs.length : Int) by omega)
   have HA9 := Aside0.mk (show wrap64 ((i : Int) + 1) = (i : Int) + 1 from wrap_id (by omega) (by omega))
   obtain ⟨ad, A1, c1, rfl, k0, k1, hlc, hcs⟩ := at_Nd (Kd.C_below HX.out HB.out) i hlt
   generalize xs.getD i zNd = x at k0 k1 hlc hcs
   clear hlc hcs
   go_wp2_with fail
   refine (find1.calls x.1 _ A1 x.2.length c1 rfl y gb wr (blk_below HG.out HB.out)).mono ?_
   rintro e w5 ⟨⟨b, rfl⟩, hb5⟩
   have HB5 := Aside0.mk (below_step HB.out hb5)
   clear hb5 k0 k1
   cases b with
   | true =>
    go_wp2
    go_ret
    exact ⟨(i : Int), rfl, HI.out.1, HI.out.2, HB5.out⟩
   | false =>
    have a9 := HA9.out
    go_wp2
    go_roundw
    case rel => exact ⟨i + 1, by go_num, hlt, HB5⟩
    case measure => first | (rw [a9]; exact meas _ _ hlt) | exact meas _ _ hlt
  ·have q0 : decide ((i : Int) < (xs.length : Int)) = false := decide_eq_false (by omega)
   go_wp2
   go_ret
   exact ⟨-1, rfl, by omega, by omega, HB.out⟩
set_option maxRecDepth 100000 in
set_option maxHeartbeats 4000000 in
theorem need.Find.calls {w : World} {A : Option Addr} {c : Nat} {xs : List Nd} (y : ByteArray) (h : kNd.C w A xs.length xs) (hl : xs.length ≤ 6) (hs : ∀ x ∈ xs, x.2.length ≤ 1000) : Calls Tryz.prog 308 #[.slice A xs.length c, .string y] w fun e w' => ∃ v, (∃ b : Bool, e = .returned (.tuple #[v, .bool b])) ∧ (∃ ys, kSp.R 126 w' w.heap.size (fun _ => True) v ys ∧ ys.length ≤ 1000) ∧ Below w.heap.size w w' := by
 have HB1 := Aside0.mk (below_alloc (Below.refl w.heap.size w) (.cells #[.string y] 9))
 have HG := Aside0.mk (blk_new w (.cells #[.string y] 9))
 have HX := Aside0.mk (Kd.C_below h HB1.out)
 have HL := Aside0.mk hl
 have HS := Aside0.mk hs
 clear h hl hs
 go_enter Tryz.func308, Tryz.ntmps308
 go_wp2_with fail
 refine (indexNd.calls y w.heap.size HG.out HX.out HL.out).mono ?_
 rintro e w5 ⟨r, rfl, hr0, hr1, hb5⟩
 have HB5 := Aside0.mk (below_step HB1.out hb5)
 have HX5 := Aside0.mk (Kd.C_below HX.out hb5)
 by_cases hz : r < 0
 ·have q0 : decide (r < 0) = true := decide_eq_true hz
  clear hr0 hr1 hb5 hz
  go_wp2
  go_ret2
  exact ⟨.slice none 0 0, ⟨_, rfl⟩, ⟨[], Kd.R_nil _ _ _ _ _, by simp⟩, HB5.out⟩
 ·have q0 : decide (r < 0) = false := decide_eq_false hz
  obtain ⟨i, rfl⟩ : ∃ i : Nat, r = (i : Int) := ⟨r.toNat, by omega⟩
  have hlt : i < xs.length := by omega
  have u0 : (0 : Int) ≤ (i : Int) := by omega
  obtain ⟨ad, A1, c1, rfl, k0, k1, hlc, hcs⟩ := at_Nd HX5.out i hlt
  have hx := HS.out _ (getD_mem xs zNd i hlt)
  generalize xs.getD i zNd = x at k0 k1 hlc hcs hx
  have HC := Aside0.mk hcs
  have HXL := Aside0.mk hx
  clear hr0 hb5 hz hlc hcs hx
  go_wp2_with fail
  refine (cloneSp.calls HC.out HXL.out).mono ?_
  rintro e w6 ⟨v, rfl, hr6, hb6⟩
  have HE := Aside0.mk (show (∃ ys, kSp.R 126 w6 w.heap.size (fun _ => True) v ys ∧ ys.length ≤ 1000) ∧ Below w.heap.size w w6 from ⟨⟨x.2, Kd.R_lower hr6 HB5.out.size, HXL.out⟩, below_step HB5.out hb6⟩)
  clear hr6 hb6
  go_wp2
  go_ret2
  exact ⟨v, ⟨_, rfl⟩, HE.out⟩
set_option maxRecDepth 100000 in
set_option maxHeartbeats 4000000 in
theorem span.Count.calls {w : World} {A : Option Addr} {c : Nat} {xs : List Sp} (h : kSp.C w A xs.length xs) (hl : xs.length ≤ 1000000000) : Calls Tryz.prog 399 #[.slice A xs.length c] w fun e w' => (∃ r : Int, e = .returned (.int .i64 r)) ∧ Below w.heap.size w w' := by
 have HX := Aside0.mk h
 have HL := Aside0.mk hl
 clear h hl
 go_enter Tryz.func399, Tryz.ntmps399
 go_wp2
 go_loopw [3, 8] (fun sv iv wr => ∃ (i : Nat) (z : Int), iv = .int .i64 (i : Int) ∧ sv = .int .i64 z ∧ i ≤ xs.length ∧ Aside0 (Below w.heap.size w wr)) (fun _ iv _ => ((xs.length : Int) - intOf iv).toNat)
 case atStart => exact ⟨0, 0, rfl, rfl, by omega, ⟨Below.refl _ _⟩⟩
 case round =>
  obtain ⟨i, z, rfl, rfl, hi, HB⟩ := hrel
  have hll := HL.out
  by_cases hlt : i < xs.length
  ·have q0 : decide ((i : Int) < (xs.length : Int)) = true := decide_eq_true (by omega)
   have u0 : (0 : Int) ≤ (i : Int) := by omega
   have u1 : (i : Int) < (xs.length : Int) := by omega
   have a9 : wrap64 ((i : Int) + 1) = (i : Int) + 1 := wrap_id (by omega) (by omega)
   obtain ⟨ad, rfl, c0, c1⟩ := at_Sp (Kd.C_below HX.out HB.out) i hlt
   generalize xs.getD i zSp = s at c0 c1
   have HB2 := Aside0.mk (below_alloc HB.out (.cells #[.int .i64 s.1, .int .i64 s.2] 126))
   clear hll
   go_wp2
   go_roundw
   case rel => exact ⟨i + 1, _, by go_num, rfl, hlt, HB2⟩
   case measure => first | (rw [a9]; exact meas _ _ hlt) | exact meas _ _ hlt
  ·have q0 : decide ((i : Int) < (xs.length : Int)) = false := decide_eq_false (by omega)
   go_wp2
   go_ret
   exact ⟨⟨_, rfl⟩, HB.out⟩
theorem term.Empty.calls (x : ByteArray) (A : Option Addr) (n c : Nat) (b : Bool) (w : World) : Calls Tryz.prog 359 #[.agg #[.string x, .slice A n c, .bool b]] w fun e w' => (∃ r : Bool, e = .returned (.bool r)) ∧ Below w.heap.size w w' := by
 cases b with
 | true =>
  go_enter Tryz.func359, Tryz.ntmps359
  go_wp2
  go_ret
  exact ⟨⟨_, rfl⟩, below_alloc (Below.refl _ _) _⟩
 | false =>
  go_enter Tryz.func359, Tryz.ntmps359
  go_wp2
  go_ret
  exact ⟨⟨_, rfl⟩, below_alloc (Below.refl _ _) _⟩
set_option maxHeartbeats 4000000 in
theorem term.Full.calls {w : World} {A : Option Addr} {c : Nat} {xs : List Sp} (x : ByteArray) (b : Bool) (h : kSp.C w A xs.length xs) (hl : xs.length ≤ 1000000000) : Calls Tryz.prog 360 #[.agg #[.string x, .slice A xs.length c, .bool b]] w fun e w' => (∃ r : Bool, e = .returned (.bool r)) ∧ Below w.heap.size w w' := by
 have HB1 := Aside0.mk (below_alloc (Below.refl w.heap.size w) (.cells #[.string x, .slice A xs.length c, .bool b] 401))
 have HX := Aside0.mk (Kd.C_below h HB1.out)
 have HL := Aside0.mk hl
 clear h hl
 cases b with
 | true =>
  go_enter Tryz.func360, Tryz.ntmps360
  go_wp2_with fail
  refine (span.Count.calls HX.out HL.out).mono ?_
  rintro e w5 ⟨⟨r, rfl⟩, hb5⟩
  have HB5 := Aside0.mk (below_step HB1.out hb5)
  clear hb5
  go_wp2
  go_ret
  exact ⟨⟨_, rfl⟩, HB5.out⟩
 | false =>
  go_enter Tryz.func360, Tryz.ntmps360
  go_wp2
  go_ret
  exact ⟨⟨_, rfl⟩, HB1.out⟩
def TNT1.T1 : Bool × List (List Nat × List Nat) := (true, [([], []), ([0], [0]), ([], []), ([2], [2]), ([3], [3]), ([], []), ([5], [5]), ([6], [6]), ([1, 4, 7], [1, 4, 7]), ([8, 4, 0, 1, 2, 3, 4, 5, 6, 7, 8], [8])])
def TNT1.B1 : List Nat := [0, 1, 0, 4, 12, 0, 32, 96, 255, 511]
theorem TNT1.tab1 : rtab .any (opsOf Tryz.f332 1) = TNT1.T1 := by kernel_rfl
theorem TNT1.bits1 : waitsOk TNT1.T1.2 TNT1.B1 = true := by kernel_rfl
set_option maxRecDepth 100000 in
set_option maxHeartbeats 4000000 in
theorem term.Not.calls {w : World} {A : Option Addr} {c : Nat} {xs : List Sp} (x : ByteArray) (b : Bool) (h : kSp.C w A xs.length xs) (hl : xs.length ≤ 1000) : Calls Tryz.prog 332 #[.agg #[.string x, .slice A xs.length c, .bool b]] w fun e w' => ∃ v, e = .returned (.agg #[.string x, v, .bool (!b)]) ∧ (∃ ys, kSp.R 126 w' w.heap.size (fun _ => True) v ys ∧ ys.length ≤ 1000000000) ∧ Below w.heap.size w w' := by
 have HB2 := Aside0.mk (below_alloc (below_alloc (Below.refl w.heap.size w) (.cells #[.string x, .slice A xs.length c, .bool b] 401)) (.cells #[.string ⟨#[]⟩, .slice none 0 0, .bool false] 401))
 have hs1 : (w.alloc (.cells #[.string x, .slice A xs.length c, .bool b] 401)).heap.size = w.heap.size + 1 := by simp
 have hy := blk_below (blk_new w (.cells #[.string x, .slice A xs.length c, .bool b] 401)) (below_alloc (Below.refl _ _) (.cells #[.string ⟨#[]⟩, .slice none 0 0, .bool false] 401))
 have hz := blk_new (w.alloc (.cells #[.string x, .slice A xs.length c, .bool b] 401)) (.cells #[.string ⟨#[]⟩, .slice none 0 0, .bool false] 401)
 rw [hs1] at hz
 have HY := Aside0.mk hy
 have HZ := Aside0.mk hz
 have HX := Aside0.mk (Kd.C_below h HB2.out)
 have HL := Aside0.mk hl
 clear h hl hs1 hy hz
 go_enter Tryz.func332, Tryz.ntmps332
 go_upto_region 1 with fail
 generalize (w.alloc (.cells #[.string x, .slice A xs.length c, .bool b] 401)).alloc (.cells #[.string ⟨#[]⟩, .slice none 0 0, .bool false] 401) = w4 at HY HZ HB2 HX ⊢
 generalize hg2 : w.heap.size + 1 = g2 at HZ ⊢
 obtain ⟨g1, hg1⟩ : ∃ g1, w.heap.size = g1 := ⟨_, rfl⟩
 have HNE := Aside0.mk (show g1 ≠ g2 from by rw [← hg2, ← hg1]; exact (Nat.succ_ne_self _).symm)
 have HG2 := Aside0.mk (show w.heap.size ≤ g2 from by rw [← hg2]; exact Nat.le_succ _)
 rw [hg1] at HY ⊢
 clear hg1 hg2
 have HC := Aside0.mk (show w4.drew.cell? ⟨g1, 0, none⟩ = some (.string x) ∧ w4.drew.cell? ⟨g1, 1, none⟩ = some (.slice A xs.length c) ∧ w4.drew.cell? ⟨g1, 2, none⟩ = some (.bool b) from ⟨show w4.cell? _ = _ from (blk_cell HY.out 0).trans rfl, show w4.cell? _ = _ from (blk_cell HY.out 1).trans rfl, show w4.cell? _ = _ from (blk_cell HY.out 2).trans rfl⟩)
 have HX2 := Aside0.mk (show kSp.C w4.drew A xs.length xs from Kd.C_below HX.out (below_drew (Below.refl _ _)))
 refine start_ (n := 10) (S := fun w' => w'.cell? ⟨g1, 0, none⟩ = some (.string x) ∧ w'.cell? ⟨g1, 1, none⟩ = some (.slice A xs.length c) ∧ w'.cell? ⟨g1, 2, none⟩ = some (.bool b)) (ds := []) #[O,O,O,O,O,O,O,O,O,O] (by kernel_rfl) rfl rfl ⟨HC.out.1, HC.out.2.1, HC.out.2.2⟩ (fun hHeld => ?_)
 refine with_tabW TNT1.tab1 TNT1.bits1 (fun HT_ HW_ => ?_)
 refine pure_ (i := 0) (N := some 3) (v := ?_) (a' := ?_) #[Y,O,O,O,O,O,O,O,O,O] rfl rfl (any_of HT_.out (by kernel_rfl)) (fun _ _ _ h => h) (Or.inl ⟨by rfl, ?_⟩) ?_ ?_
 rotate_left
 ·intro w'
  go_simp
  with_reducible rfl
 rotate_left
 ·simp only [PN]
  rfl
 refine pure_ (i := 2) (N := some 5) (v := ?_) (a' := ?_) #[Y,O,Y,O,O,O,O,O,O,O] rfl rfl (any_of HT_.out (by kernel_rfl)) (fun _ _ _ h => h) (Or.inl ⟨by rfl, ?_⟩) ?_ ?_
 rotate_left
 ·intro w'
  go_simp
  with_reducible rfl
 rotate_left
 ·simp only [PN]
  rfl
 refine pure_ (i := 5) (N := some 8) (v := ?_) (a' := ?_) #[Y,O,Y,O,O,Y,O,O,O,O] rfl rfl (any_of HT_.out (by kernel_rfl)) (fun _ _ _ h => h) (Or.inl ⟨by rfl, ?_⟩) ?_ ?_
 rotate_left
 ·intro w'
  go_simp
  with_reducible rfl
 rotate_left
 ·simp only [PN]
  rfl
 refine take_ (i := 1) (N := some 4) (v := ?_) (a' := ?_) #[Y,Y,Y,O,O,Y,O,O,O,O] rfl rfl (take_ofW HT_.out HW_.out (by kernel_rfl)) (fun _ _ _ h => h) (Or.inl ⟨by rfl, ?_⟩) hHeld ?_ ?_
 rotate_left
 ·rintro w' ⟨s0, s1, s2⟩
  go_simp
  with_reducible rfl
 rotate_left
 ·simp only [PN]
  rfl
 refine take_ (i := 3) (N := some 6) (v := ?_) (a' := ?_) #[Y,Y,Y,Y,O,Y,O,O,O,O] rfl rfl (take_ofW HT_.out HW_.out (by kernel_rfl)) (fun _ _ _ h => h) (Or.inl ⟨by rfl, ?_⟩) hHeld ?_ ?_
 rotate_left
 ·rintro w' ⟨s0, s1, s2⟩
  go_simp
  with_reducible rfl
 rotate_left
 ·simp only [PN]
  rfl
 refine take_ (i := 6) (N := some 9) (v := ?_) (a' := ?_) #[Y,Y,Y,Y,O,Y,Y,O,O,O] rfl rfl (take_ofW HT_.out HW_.out (by kernel_rfl)) (fun _ _ _ h => h) (Or.inl ⟨by rfl, ?_⟩) hHeld ?_ ?_
 rotate_left
 ·rintro w' ⟨s0, s1, s2⟩
  go_simp
  with_reducible rfl
 rotate_left
 ·simp only [PN]
  rfl
 refine pure_ (i := 7) (N := some 10) (v := ?_) (a' := ?_) #[Y,Y,Y,Y,O,Y,Y,Y,O,O] rfl rfl (any_of HT_.out (by kernel_rfl)) (fun _ _ _ h => h) (Or.inl ⟨by rfl, ?_⟩) ?_ ?_
 rotate_left
 ·intro w'
  go_simp
  with_reducible rfl
 rotate_left
 ·simp only [PN]
  rfl
 refine one_ (i := 4) (N := some 7) #[Y,Y,Y,Y,Y,Y,Y,Y,O,O] rfl rfl (one_of HT_.out (by kernel_rfl)) (by decide) (fun K hK => ?_)
 refine goes_ Tryz.func376 (by kernel_rfl) rfl #[.slice A xs.length c] (by rfl) rfl rfl (by (try simp only [List.map_toArray, List.map_cons, List.map_nil]); first | done | rfl) ?_
 refine (span.Not.calls HX2.out HL.out).mono ?_
 rintro e w5 ⟨v5, rfl, ⟨ys, hr5, hl5⟩, hb5⟩
 refine ⟨_, rfl, ?_⟩
 obtain ⟨A5, c5, rfl⟩ := Kd.R_slice hr5
 have HR5 := Aside0.mk (And.intro hr5 hl5)
 have HB5 := Aside0.mk hb5
 have HY5 := Aside0.mk (show w5.heap[g1]? = some (.cells #[.string x, .slice A xs.length c, .bool b] 401 (0, 0)) from blk_below (show w4.drew.heap[g1]? = _ from HY.out) hb5)
 have hz5 := blk_below (show w4.drew.heap[g2]? = _ from HZ.out) hb5
 have HZ5 := Aside0.mk hz5
 have z0 : w5.cell? ⟨g2, 0, none⟩ = some (.string ⟨#[]⟩) := (blk_cell hz5 0).trans rfl
 have z1 : w5.cell? ⟨g2, 1, none⟩ = some (.slice none 0 0) := (blk_cell hz5 1).trans rfl
 have z2 : w5.cell? ⟨g2, 2, none⟩ = some (.bool false) := (blk_cell hz5 2).trans rfl
 have f0 := blk_frozen hz5 0
 have f1 := blk_frozen hz5 1
 have f2 := blk_frozen hz5 2
 clear hr5 hl5 hb5 hz5
 refine hK.out _ _ ⟨((blk_cell HY5.out 0).trans rfl), ((blk_cell HY5.out 1).trans rfl), ((blk_cell HY5.out 2).trans rfl)⟩ (fun hHeld => ?_)
 clear hK K
 refine norm_ (a' := ?_) ?_ ?_
 rotate_left
 ·show Act.put _ (some 7) _ = _
  simp only [PN]
  rfl
 refine pure_ (i := 8) (N := some 11) (v := ?_) (a' := ?_) #[Y,Y,Y,Y,Y,Y,Y,Y,Y,O] rfl rfl (any_of HT_.out (by kernel_rfl)) (fun _ _ _ h => h) (Or.inl ⟨by rfl, ?_⟩) ?_ ?_
 rotate_left
 ·intro w'
  go_simp
  with_reducible rfl
 rotate_left
 ·simp only [PN]
  rfl
 refine one_ (i := 9) (N := none) #[Y,Y,Y,Y,Y,Y,Y,Y,Y,Y] rfl rfl (one_of HT_.out (by kernel_rfl)) (by decide) (fun K hK => ?_)
 refine skip_ (w1 := ?_) (by rfl) rfl ?_ ?_
 rotate_left
 ·go_simp
  rfl
 refine hK.out _ _ ⟨((blk_cell (blk_far (blk_far (blk_far HY5.out HNE.out _) HNE.out _) HNE.out _) 0).trans rfl), ((blk_cell (blk_far (blk_far (blk_far HY5.out HNE.out _) HNE.out _) HNE.out _) 1).trans rfl), ((blk_cell (blk_far (blk_far (blk_far HY5.out HNE.out _) HNE.out _) HNE.out _) 2).trans rfl)⟩ (fun hHeld => ?_)
 clear hK K
 refine done_ (done_of HT_.out (by kernel_rfl)) ?_
 clear hHeld z0 z1 z2 f0 f1 f2
 have HBF := Aside0.mk (below_step HB2.out (below_go (below_drew (Below.refl w4.heap.size w4)) HB5.out))
 have hle : w.heap.size ≤ g2 := HG2.out
 have HP := Aside0.mk (blk_put (blk_put (blk_put HZ5.out 0 (.string x) rfl) 1 (.slice A5 ys.length c5) rfl) 2 (.bool (!b)) rfl)
 have HQ := Aside0.mk (((HBF.out.setCell (p := ⟨g2, 0, none⟩) hle (.string x)).setCell (p := ⟨g2, 1, none⟩) hle (.slice A5 ys.length c5)).setCell (p := ⟨g2, 2, none⟩) hle (.bool (!b)))
 have HRF := Aside0.mk (Kd.R_set (Kd.R_set (Kd.R_set (Kd.R_lower HR5.out.1 (Nat.le_trans HB2.out.size (Nat.le_refl _))) HZ5.out (by decide) 0 (.string x)) (blk_put HZ5.out 0 (.string x) rfl) (by decide) 1 (.slice A5 ys.length c5)) (blk_put (blk_put HZ5.out 0 (.string x) rfl) 1 (.slice A5 ys.length c5) rfl) (by decide) 2 (.bool (!b)))
 have HRL := Aside0.mk HR5.out.2
 clear hle HR5
 generalize ((w5.setCell ⟨g2, 0, none⟩ (.string x)).setCell ⟨g2, 1, none⟩ (.slice A5 ys.length c5)).setCell ⟨g2, 2, none⟩ (.bool (!b)) = w6 at HP HQ HRF ⊢
 go_wp2
 refine bodyPost_ret (results_single rfl (.cell g2 401 #[.string x, .slice A5 ys.length c5, .bool (!b)] (0, 0) _ rfl HP.out Tryz.underlying401 rfl (by kernel_rfl) .nil)) rfl ?_
 exact ⟨.slice A5 ys.length c5, rfl, ⟨ys, HRF.out, HRL.out⟩, HQ.out⟩
set_option maxRecDepth 100000 in
set_option maxHeartbeats 4000000 in
theorem fact.unmet.calls {w : World} {A : Option Addr} {c : Nat} {xs : List Sp} (x : ByteArray) (h : kSp.C w A xs.length xs) (hl : xs.length ≤ 1000) : Calls Tryz.prog 310 #[.string x, .slice A xs.length c] w fun e w' => ∃ v, e = .returned (.agg #[.string x, v, .bool true]) ∧ (∃ ys, kSp.R 126 w' w.heap.size (fun _ => True) v ys ∧ ys.length ≤ 1000000000) ∧ Below w.heap.size w w' := by
 have HB1 := Aside0.mk (below_alloc (Below.refl w.heap.size w) (.cells #[.string ⟨#[]⟩, .slice none 0 0, .bool false] 401))
 have HZ := Aside0.mk (blk_new w (.cells #[.string ⟨#[]⟩, .slice none 0 0, .bool false] 401))
 have HX := Aside0.mk (Kd.C_below h HB1.out)
 have HL := Aside0.mk hl
 clear h hl
 go_enter Tryz.func310, Tryz.ntmps310
 go_wp2_with fail
 generalize w.alloc (.cells #[.string ⟨#[]⟩, .slice none 0 0, .bool false] 401) = w4 at HZ HB1 HX ⊢
 obtain ⟨g2, hg2⟩ : ∃ g2, w.heap.size = g2 := ⟨_, rfl⟩
 have HG2 := Aside0.mk (show w.heap.size ≤ g2 from Nat.le_of_eq hg2)
 rw [hg2] at HZ ⊢
 clear hg2
 refine (term.Not.calls x false HX.out HL.out).mono ?_
 rintro e w5 ⟨v5, rfl, ⟨ys, hr5, hl5⟩, hb5⟩
 obtain ⟨A5, c5, rfl⟩ := Kd.R_slice hr5
 have hz5 := blk_below HZ.out hb5
 have HZ5 := Aside0.mk hz5
 have z0 : w5.cell? ⟨g2, 0, none⟩ = some (.string ⟨#[]⟩) := (blk_cell hz5 0).trans rfl
 have z1 : w5.cell? ⟨g2, 1, none⟩ = some (.slice none 0 0) := (blk_cell hz5 1).trans rfl
 have z2 : w5.cell? ⟨g2, 2, none⟩ = some (.bool false) := (blk_cell hz5 2).trans rfl
 have f0 := blk_frozen hz5 0
 have f1 := blk_frozen hz5 1
 have f2 := blk_frozen hz5 2
 have HBF := Aside0.mk (below_step HB1.out hb5)
 have hle : w.heap.size ≤ g2 := HG2.out
 have HP := Aside0.mk (blk_put (blk_put (blk_put HZ5.out 0 (.string x) rfl) 1 (.slice A5 ys.length c5) rfl) 2 (.bool true) rfl)
 have HQ := Aside0.mk (((HBF.out.setCell (p := ⟨g2, 0, none⟩) hle (.string x)).setCell (p := ⟨g2, 1, none⟩) hle (.slice A5 ys.length c5)).setCell (p := ⟨g2, 2, none⟩) hle (.bool true))
 have HRF := Aside0.mk (Kd.R_set (Kd.R_set (Kd.R_set (Kd.R_lower hr5 HB1.out.size) HZ5.out (by decide) 0 (.string x)) (blk_put HZ5.out 0 (.string x) rfl) (by decide) 1 (.slice A5 ys.length c5)) (blk_put (blk_put HZ5.out 0 (.string x) rfl) 1 (.slice A5 ys.length c5) rfl) (by decide) 2 (.bool true))
 have HRL := Aside0.mk hl5
 clear hr5 hl5 hb5 hz5 hle
 go_wp2
 refine bodyPost_ret (results_single rfl (.cell g2 401 #[.string x, .slice A5 ys.length c5, .bool true] (0, 0) _ rfl HP.out Tryz.underlying401 rfl (by kernel_rfl) .nil)) rfl ?_
 exact ⟨.slice A5 ys.length c5, rfl, ⟨ys, HRF.out, HRL.out⟩, HQ.out⟩
theorem at_S {w : World} {A : Option Addr} {n : Nat} {xs : List ByteArray} (h : Kd.string.C w A n xs) (i : Nat) (hi : i < n) : ∃ ad, A = some ad ∧ w.cell? (ad.add i) = some (.string (xs.getD i ⟨#[]⟩)) := by
 obtain ⟨ad, c, e, _, hK, hc0⟩ := Kd.C_get h ⟨#[]⟩ (i : Int) (by omega) (by omega)
 have hc : ∀ j u, c[j]? = some u → w.cell? (ad.add (i * 1 + j)) = some u := hc0
 have hK2 : c = [.string (xs.getD i ⟨#[]⟩)] := hK
 subst hK2
 exact ⟨ad, e, by have := hc 0 _ rfl; simpa using this⟩
theorem zeroT (w : World) : (zeroValue 401).run Tryz.prog w = .ok (.agg #[.string ⟨#[]⟩, .slice none 0 0, .bool false]) w := by kernel_rfl
set_option maxRecDepth 100000 in
set_option maxHeartbeats 4000000 in
theorem cloneSpB.calls {w : World} {A : Option Addr} {c : Nat} {xs : List Sp} (h : kSp.C w A xs.length xs) (hl : xs.length ≤ 1000000000) : Calls Tryz.prog 55 #[.slice A xs.length c] w fun e w' => ∃ v, e = .returned v ∧ kSp.R 126 w' w.heap.size (fun _ => True) v xs ∧ Below w.heap.size w w' := by
 have HX := Aside0.mk h
 have HL := Aside0.mk hl
 cases A with
 | none =>
  have hn : xs = [] := by
   rcases Nat.eq_zero_or_pos xs.length with h0 | h0
   ·exact List.eq_nil_of_length_eq_zero h0
   ·obtain ⟨ad, h, _⟩ := h.2.2 h0
    cases h
  subst hn
  have e0 := Lib.run_eql_slice_nil (P := Tryz.prog) w 115 126 none 0 c 0 0 Tryz.underlying115
  clear h hl
  go_enter Tryz.func55, Tryz.ntmps55
  go_wp2
  go_ret
  exact ⟨.slice none 0 0, rfl, Kd.R_nil _ _ _ _ _, Below.refl _ _⟩
 | some ad =>
  clear h hl
  have HO := Aside0.mk (show kSp.R 126 (w.alloc (.cells #[] 126)) w.heap.size (fun _ => True) (.slice (some ⟨w.heap.size, 0, none⟩) 0 0) [] from lit kSp w w.heap.size 126 (xs := []) (inner := []) (okp := fun _ => True) (Reps.none _ _) (fun _ h => h) trivial (Nat.le_refl _) (by simp))
  have HX1 := Aside0.mk (Kd.C_below HX.out (below_alloc (Below.refl w.heap.size w) (.cells #[] 126)))
  have HB1 := Aside0.mk (below_alloc (Below.refl w.heap.size w) (.cells #[] 126))
  have HW1 := Aside0.mk (HB1.out.size)
  have e0 := Lib.run_eql_slice_nil (P := Tryz.prog) w 115 126 (some ad) xs.length c 0 0 Tryz.underlying115
  go_enter Tryz.func55, Tryz.ntmps55
  go_upto_region 3 with fail
  go_wp2_with (first | ((with_reducible refine gate_builtin (b := .append) (xs := #[.tmp 5, .tmp 6]) rfl ?_); at_builtin; refine Kd.R_append_rows kSp (w0 := w) (w.heap.size) rfl (.tmp 5) (.tmp 6) 115 126 (.agg #[.int .i64 0, .int .i64 0]) 16 rfl Tryz.underlying115 infoSp rfl (by decide) (by omega) (.slice (some ⟨w.heap.size, 0, none⟩) 0 0) (([] : List Sp)) (xs) (some ad) (xs.length) (c) (fun _ => True) (fun k => some k ≠ (Value.slice (some ⟨w.heap.size, 0, none⟩) 0 0).ownBlock) rfl rfl HO.out HX1.out (fun x cs hk => hk) (fun k hk => ⟨trivial, hk⟩) (fun _ _ => trivial) HB1.out HW1.out (by have h := HL.out; simp; omega) ?_; intro v9 w9 hr9 hb9 hg9 hat9; have n0_ := Aside0.mk hr9; have n1_ := Aside0.mk hb9; clear hr9 hb9 hg9 hat9))
  rw [List.nil_append] at n0_
  go_wp2
  go_ret
  exact ⟨v9, rfl, n0_.out, n1_.out⟩
def Tm1 (x : ByteArray) (xs : List Tm) : Prop := xs.length ≤ 1 ∧ ∀ t ∈ xs, t.1 = x ∧ t.2.1.length ≤ 1000000000
def CLM18.T18 : Bool × List (List Nat × List Nat) := (true, [([], []), ([], []), ([], []), ([2], [2]), ([3], [3]), ([], []), ([5], [5]), ([1, 4, 6], [1, 4, 6]), ([7], [7]), ([0, 8, 4], [0, 8]), ([9, 9, 0, 1, 2, 3, 4, 5, 6, 7, 8, 9], [0, 9])])
def CLM18.B18 : List Nat := [0, 0, 0, 4, 12, 0, 32, 126, 254, 511, 1023]
theorem CLM18.tab18 : rtab .any (opsOf Tryz.f309 18) = CLM18.T18 := by kernel_rfl
theorem CLM18.bits18 : waitsOk CLM18.T18.2 CLM18.B18 = true := by kernel_rfl
set_option maxRecDepth 100000 in
set_option maxHeartbeats 8000000 in
theorem clash.Make.calls {w : World} {A : Option Addr} {c : Nat} (x : ByteArray) (sp : List Sp) (b : Bool) (h : kTm.C w A 1 [(x, (sp, b))]) (hx : x.size ≤ 1000) (hl : sp.length ≤ 1000000000) : Calls Tryz.prog 309 #[.slice A 1 c] w fun e w' => ∃ v xs, (∃ r : Bool, e = .returned (.tuple #[v, .bool r])) ∧ kTm.R 401 w' w.heap.size (fun _ => True) v xs ∧ Tm1 x xs ∧ Below w.heap.size w w' := by
 obtain ⟨ad, A1, c1, rfl, k0, k1, k2, hlc, hcs⟩ := at_Tm h 0 (by omega)
 have ead : ad.add (0 * 3) = ad := by cases ad; rfl
 rw [ead] at k0 k1 k2
 replace k0 : w.cell? ad = some (.string x) := k0
 replace k1 : w.cell? ⟨ad.block, ad.off + 1, none⟩ = some (.slice A1 sp.length c1) := k1
 replace k2 : w.cell? ⟨ad.block, ad.off + 2, none⟩ = some (.bool b) := k2
 have HK := Aside0.mk (And.intro k0 (And.intro k1 k2))
 have HS := Aside0.mk (show kSp.C w A1 sp.length sp from hcs)
 have HN := Aside0.mk hx
 have HL := Aside0.mk hl
 have hmm := @run_makeMap Tryz.prog
 have HM := Aside0.mk (MV.new 9 w)
 have HB1 := Aside0.mk (below_alloc (Below.refl w.heap.size w) (.map #[] 0))
 clear h hcs hx hl k0 k1 k2 hlc ead
 go_enter Tryz.func309, Tryz.ntmps309
 go_wp2
 generalize w.alloc (.map #[] 0) = w1 at HM HB1 ⊢
 go_loopw [16] (fun iv wr => ∃ (i : Nat), iv = .int .i64 (i : Int) ∧ i ≤ 1 ∧ Aside0 ((i = 0 ∧ MV 9 wr w.heap.size 0 (fun _ => none)) ∨ (i = 1 ∧ MV 9 wr w.heap.size 1 (updM (fun _ => none) (ky x) (.agg #[.string x, .slice A1 sp.length c1, .bool b])))) ∧ Aside0 (Below w.heap.size w wr)) (fun iv _ => ((1 : Int) - intOf iv).toNat)
 case atStart => exact ⟨0, rfl, by omega, ⟨.inl ⟨rfl, HM.out⟩⟩, ⟨HB1.out⟩⟩
 case round =>
  clear HM HB1
  obtain ⟨i, rfl, hi, HO, HB⟩ := hrel
  rcases HO.out with ⟨rfl, hm⟩ | ⟨rfl, hm⟩
  ·have k0 := (HB.out.cell (World.block_lt_of_cell? _ _ HK.out.1)).trans HK.out.1
   have k1 := (HB.out.cell (World.block_lt_of_cell? _ _ HK.out.2.1)).trans HK.out.2.1
   have k2 := (HB.out.cell (World.block_lt_of_cell? _ _ HK.out.2.2)).trans HK.out.2.2
   have HA1 := Aside0.mk (below_alloc (below_alloc (Below.refl wr.heap.size wr) (.cells #[.string x, .slice A1 sp.length c1, .bool b] 401)) (.cells #[.string ⟨#[]⟩, .slice none 0 0, .bool false] 401))
   have hm2 := hm.below HA1.out
   have l0 := (hm.below (below_alloc (Below.refl wr.heap.size wr) (.cells #[.string x, .slice A1 sp.length c1, .bool b] 401))).look2 lawS Tryz.underlying482 zeroT (keyS HN.out) (ky_key x)
   simp only [Option.getD_none, Option.isSome_none] at l0
   obtain ⟨w6, r6, m6, g6⟩ := hm2.put lawS Tryz.underlying482 (by omega) (keyS HN.out) (ky_key x) (.agg #[.string x, .slice A1 sp.length c1, .bool b])
   simp only [Option.isSome_none] at m6
   have HM6 := Aside0.mk m6
   have HB6 := Aside0.mk (below_go (below_step HB.out HA1.out) (below_of_grown g6 (Nat.le_refl _) (Nat.le_trans HB.out.size HA1.out.size)))
   clear hm hm2 m6 g6 hi
   go_wp2
   go_roundw
   case rel => exact ⟨1, rfl, by omega, ⟨.inr ⟨rfl, HM6.out⟩⟩, HB6⟩
   case measure => simp [intOf]
  ·have HMV := Aside0.mk hm
   clear hm HO hi
   go_wp2_with fail
   refine (keysT.calls (some w.heap.size) wr).mono ?_
   rintro e w3 ⟨rfl, rfl⟩
   go_wp2_with fail
   refine (sortedT.calls HMV.out (by omega)).mono ?_
   rintro e w7 ⟨v7, ns, rfl, hr7, hl7, ha7, hb7⟩
   have HB7w := Aside0.mk (show Below wr.heap.size wr w7 from below_go (below_alloc (Below.refl wr.heap.size wr) (.cells #[.map (some w.heap.size)] 482)) (hb7.mono (Nat.le_succ _)))
   have HB7 := Aside0.mk (below_step HB.out HB7w.out)
   have HM7 := Aside0.mk (HMV.out.below HB7w.out)
   obtain ⟨AK, cK, rfl⟩ := Kd.R_slice hr7
   have HK7 := Aside0.mk (Kd.R_reads' hr7).2.2
   have HN7 := Aside0.mk (show ∀ y ∈ ns, y = x from fun y hy => by
    have h1 := ha7 y hy
    unfold updM at h1
    by_cases e : ky y = ky x
    ·by_cases e2 : y = x
     ·exact e2
     ·exact absurd e (ky_ne e2)
    ·rw [if_neg e] at h1
     cases h1)
   clear hr7 ha7 hb7 HMV HB7w
   go_wp2
   go_loopw [9, 40] (fun ov iv wq => ∃ (i : Nat) (xs : List Tm), iv = .int .i64 (i : Int) ∧ i ≤ ns.length ∧ xs.length ≤ i ∧ Aside0 (∀ t ∈ xs, t.1 = x ∧ t.2.1.length ≤ 1000000000) ∧ Aside0 (kTm.R 401 wq w7.heap.size (fun _ => True) ov xs) ∧ Aside0 (Below w7.heap.size w7 wq)) (fun _ iv _ => ((ns.length : Int) - intOf iv).toNat)
   case atStart => exact ⟨0, [], rfl, by omega, by simp, ⟨by simp⟩, ⟨Kd.R_nil _ _ _ _ _⟩, ⟨Below.refl _ _⟩⟩
   case round =>
    obtain ⟨i, xs, rfl, hi2, hxl, HX2, HR, HBq⟩ := hrel
    by_cases hlt : i < ns.length
    ·have q0 : decide ((i : Int) < (ns.length : Int)) = true := decide_eq_true (by omega)
     have u0 : (0 : Int) ≤ (i : Int) := by omega
     have u1 : (i : Int) < (ns.length : Int) := by omega
     have HA9 := Aside0.mk (show wrap64 ((i : Int) + 1) = (i : Int) + 1 from wrap_id (by omega) (by omega))
     obtain ⟨adk, rfl, k0⟩ := at_S (Kd.C_below HK7.out HBq.out) i hlt
     rw [HN7.out _ (getD_mem ns _ i hlt)] at k0
     have l0 := (HM7.out.below HBq.out).look1 lawS Tryz.underlying482 zeroT (keyS HN.out) (ky_key x)
     simp only [updM, if_pos, Option.getD_some] at l0
     have HBA := Aside0.mk (below_alloc (Below.refl wr.heap.size wr) (.cells #[.string x, .slice A1 sp.length c1, .bool b] 401))
     have HGX := Aside0.mk (blk_new wr (.cells #[.string x, .slice A1 sp.length c1, .bool b] 401))
     have HRA := Aside0.mk (Kd.R_below HR.out HBA.out)
     have HBB := Aside0.mk (below_step HBq.out HBA.out)
     clear hi2 HR HBq
     go_wp2_with fail
     generalize wr.alloc (.cells #[.string x, .slice A1 sp.length c1, .bool b] 401) = w8 at HBA HGX HRA HBB ⊢
     generalize wr.heap.size = gx at HBA HGX ⊢
     refine (term.Empty.calls x A1 sp.length c1 b w8).mono ?_
     rintro e w9 ⟨⟨r9, rfl⟩, hb9⟩
     have HB9 := Aside0.mk (below_step HBB.out hb9)
     have HR9 := Aside0.mk (Kd.R_below HRA.out hb9)
     have HG9 := Aside0.mk (blk_below HGX.out hb9)
     clear hb9 HBB HRA HGX HBA k0 l0
     cases r9 with
     | true =>
      go_wp2
      go_ret2
      exact ⟨.slice none 0 0, [], ⟨false, rfl⟩, Kd.R_nil _ _ _ _ _, ⟨by simp, by simp⟩, below_step HB7.out HB9.out⟩
     | false =>
      have HS9 := Aside0.mk (Kd.C_below (Kd.C_below HS.out HB7.out) HB9.out)
      have k0 : w9.cell? ⟨gx, 0, none⟩ = some (.string x) := (blk_cell HG9.out 0).trans rfl
      have k1 : w9.cell? ⟨gx, 1, none⟩ = some (.slice A1 sp.length c1) := (blk_cell HG9.out 1).trans rfl
      have k2 : w9.cell? ⟨gx, 2, none⟩ = some (.bool b) := (blk_cell HG9.out 2).trans rfl
      go_wp2_with fail
      refine (term.Full.calls x b HS9.out HL.out).mono ?_
      rintro e w10 ⟨⟨r10, rfl⟩, hb10⟩
      have HB10 := Aside0.mk (below_step HB9.out hb10)
      have HR10 := Aside0.mk (Kd.R_below HR9.out hb10)
      have HG10 := Aside0.mk (blk_below HG9.out hb10)
      have HS10 := Aside0.mk (Kd.C_below HS9.out hb10)
      clear hb10 HB9 HR9 HG9 HS9 k0 k1 k2
      cases r10 with
      | true =>
       have a9 := HA9.out
       go_wp2
       go_roundw
       case rel => exact ⟨i + 1, xs, by go_num, hlt, by omega, HX2, HR10, HB10⟩
       case measure => first | (rw [a9]; exact meas _ _ hlt) | exact meas _ _ hlt
      | false =>
       obtain ⟨A3, c3, rfl⟩ := Kd.R_slice HR10.out
       go_wp2
       have HA3 := Aside0.mk (show ∀ kk, some kk = (Value.slice A3 xs.length c3).ownBlock → kk < w10.heap.size from fun kk hkk => Kd.R_lt HR10.out kk hkk.symm)
       have HR11 := Aside0.mk (Kd.R_drewN HR10.out 1)
       have HS11 := Aside0.mk (show kSp.C w10.drew A1 sp.length sp from Kd.C_below HS10.out (below_drew (Below.refl _ _)))
       have HG11 := Aside0.mk (show w10.drew.heap[gx]? = _ from HG10.out)
       have HB11 := Aside0.mk (below_drew HB10.out)
       have HW11 := Aside0.mk (show w7.heap.size ≤ w10.drew.heap.size from HB11.out.size)
       replace HA3 := Aside0.mk (show ∀ kk, some kk = (Value.slice A3 xs.length c3).ownBlock → kk < w10.drew.heap.size from HA3.out)
       replace HR11 := Aside0.mk (show kTm.R 401 w10.drew w7.heap.size (fun _ => True) (.slice A3 xs.length c3) xs from HR11.out)
       clear HR10 HS10 HG10 HB10
       refine start_ (n := 11) (S := fun w' => w'.cell? ⟨gx, 1, none⟩ = some (.slice A1 sp.length c1) ∧ w'.cell? ⟨gx, 2, none⟩ = some (.bool b)) (ds := [8, 9]) #[O,O,O,O,O,O,O,O,O,O,O] (by kernel_rfl) rfl rfl ⟨((blk_cell HG11.out 1).trans rfl), ((blk_cell HG11.out 2).trans rfl)⟩ (fun hHeld => ?_)
       refine with_tabW CLM18.tab18 CLM18.bits18 (fun HT_ HW_ => ?_)
       refine pure_ (i := 0) (N := some 52) (v := ?_) (a' := ?_) #[Y,O,O,O,O,O,O,O,O,O,O] rfl rfl (any_of HT_.out (by kernel_rfl)) (fun _ _ _ h => h) (Or.inl ⟨by rfl, ?_⟩) ?_ ?_
       rotate_left
       ·intro w'
        go_simp
        with_reducible rfl
       rotate_left
       ·simp only [PN]
        rfl
       refine pure_ (i := 1) (N := some 53) (v := ?_) (a' := ?_) #[Y,Y,O,O,O,O,O,O,O,O,O] rfl rfl (any_of HT_.out (by kernel_rfl)) (fun _ _ _ h => h) (Or.inl ⟨by rfl, ?_⟩) ?_ ?_
       rotate_left
       ·intro w'
        go_simp
        with_reducible rfl
       rotate_left
       ·simp only [PN]
        rfl
       refine pure_ (i := 2) (N := some 54) (v := ?_) (a' := ?_) #[Y,Y,Y,O,O,O,O,O,O,O,O] rfl rfl (any_of HT_.out (by kernel_rfl)) (fun _ _ _ h => h) (Or.inl ⟨by rfl, ?_⟩) ?_ ?_
       rotate_left
       ·intro w'
        go_simp
        with_reducible rfl
       rotate_left
       ·simp only [PN]
        rfl
       refine pure_ (i := 5) (N := some 57) (v := ?_) (a' := ?_) #[Y,Y,Y,O,O,Y,O,O,O,O,O] rfl rfl (any_of HT_.out (by kernel_rfl)) (fun _ _ _ h => h) (Or.inl ⟨by rfl, ?_⟩) ?_ ?_
       rotate_left
       ·intro w'
        go_simp
        with_reducible rfl
       rotate_left
       ·simp only [PN]
        rfl
       refine take_ (i := 3) (N := some 55) (v := ?_) (a' := ?_) #[Y,Y,Y,Y,O,Y,O,O,O,O,O] rfl rfl (take_ofW HT_.out HW_.out (by kernel_rfl)) (fun _ _ _ h => h) (Or.inl ⟨by rfl, ?_⟩) hHeld ?_ ?_
       rotate_left
       ·rintro w' ⟨s0, s1⟩
        go_simp
        with_reducible rfl
       rotate_left
       ·simp only [PN]
        rfl
       refine take_ (i := 6) (N := some 58) (v := ?_) (a' := ?_) #[Y,Y,Y,Y,O,Y,Y,O,O,O,O] rfl rfl (take_ofW HT_.out HW_.out (by kernel_rfl)) (fun _ _ _ h => h) (Or.inl ⟨by rfl, ?_⟩) hHeld ?_ ?_
       rotate_left
       ·rintro w' ⟨s0, s1⟩
        go_simp
        with_reducible rfl
       rotate_left
       ·simp only [PN]
        rfl
       refine one_ (i := 4) (N := some 56) #[Y,Y,Y,Y,Y,Y,Y,O,O,O,O] rfl rfl (one_of HT_.out (by kernel_rfl)) (by decide) (fun K hK => ?_)
       refine goes_ Tryz.func55 (by kernel_rfl) rfl #[.slice A1 sp.length c1] (by rfl) rfl rfl (by (try simp only [List.map_toArray, List.map_cons, List.map_nil]); first | done | rfl) ?_
       with_reducible refine (cloneSpB.calls HS11.out HL.out).mono ?_
       rintro e w12 ⟨v12, rfl, hr12, hb12⟩
       refine ⟨_, rfl, ?_⟩
       obtain ⟨A12, c12, rfl⟩ := Kd.R_slice hr12
       have HY12 := Aside0.mk (show kSp.R 126 w12 w7.heap.size (fun kk => kk < w12.heap.size ∧ some kk ≠ (Value.slice A3 xs.length c3).ownBlock) (.slice A12 sp.length c12) sp from Kd.R_lower (Kd.R_mono (Kd.R_bound hr12) (fun kk hkk => ⟨hkk.2.2.1, fun e => by have h1 := HA3.out kk e; have h2 : w10.drew.heap.size ≤ kk := hkk.2.1; omega⟩)) HW11.out)
       have HR12 := Aside0.mk (Kd.R_below HR11.out hb12)
       have HB12 := Aside0.mk (below_step HB11.out hb12)
       have HG12 := Aside0.mk (blk_below HG11.out hb12)
       have HW12 := Aside0.mk HB12.out.size
       clear hr12 hb12
       refine hK.out _ _ ⟨((blk_cell HG12.out 1).trans rfl), ((blk_cell HG12.out 2).trans rfl)⟩ (fun hHeld => ?_)
       clear hK K
       refine norm_ (a' := ?_) ?_ ?_
       rotate_left
       ·show Act.put _ (some 56) _ = _
        simp only [PN]
        rfl
       refine pure_ (i := 7) (N := some 59) (v := ?_) (a' := ?_) #[Y,Y,Y,Y,Y,Y,Y,Y,O,O,O] rfl rfl (any_of HT_.out (by kernel_rfl)) (fun _ _ _ h => h) (Or.inl ⟨by rfl, ?_⟩) ?_ ?_
       rotate_left
       ·intro w'
        go_simp
        with_reducible rfl
       rotate_left
       ·simp only [PN]
        rfl
       refine last_ (i := 8) (N := some 60) #[Y,Y,Y,Y,Y,Y,Y,Y,Y,O,O] rfl rfl (one_of HT_.out (by kernel_rfl)) (by decide) (fun K hK => ?_)
       refine value_ (w1 := ?_) (v := ?_) (by rfl) rfl ?_ ?_
       rotate_left 2
       ·go_simp
        constructor
        ·rfl
        ·rfl
       refine hK.out _ _ ?_
       clear hK K
       refine norm_ (a' := ?_) ?_ ?_
       rotate_left
       ·show Act.put _ (some 60) _ = _
        simp only [PN]
        rfl
       refine last_ (i := 9) (N := some 61) #[Y,Y,Y,Y,Y,Y,Y,Y,Y,Y,O] rfl rfl (one_of HT_.out (by kernel_rfl)) (by decide) (fun K hK => ?_)
       refine Kd.R_append_step kTm (w0 := w7) (w7.heap.size) (by rfl) (.tmp 52) (.tmp 60) 310 401 (.agg #[.string ⟨#[]⟩, .slice none 0 0, .bool false]) 48 rfl Tryz.underlying310 infoTm rfl (by decide) (by omega) (.slice A3 xs.length c3) (xs) ((x, (sp, b))) [.string x, .slice A12 sp.length c12, .bool b] (fun _ => True) (fun kk => kk < w12.heap.size ∧ some kk ≠ (Value.slice A3 xs.length c3).ownBlock) rfl rfl (kTm_mkM _ HY12.out) (fun kk hk => ⟨trivial, hk.2⟩) (fun _ _ => trivial) HR12.out HB12.out HW12.out (by omega) ?_
       intro v9 w9 hr9 hb9 hg9 hat9
       have n0_ := Aside0.mk hr9
       have n1_ := Aside0.mk hb9
       clear hr9 hb9 hg9 hat9
       refine hK.out _ _ ?_
       clear hK K
       refine norm_ (a' := ?_) ?_ ?_
       rotate_left
       ·show Act.put _ (some 61) _ = _
        simp only [PN]
        rfl
       refine pure_ (i := 10) (N := some 9) (v := ?_) (a' := ?_) #[Y,Y,Y,Y,Y,Y,Y,Y,Y,Y,Y] rfl rfl (any_of HT_.out (by kernel_rfl)) (fun _ _ _ h => h) (Or.inl ⟨by rfl, ?_⟩) ?_ ?_
       rotate_left
       ·intro w'
        go_simp
        with_reducible rfl
       rotate_left
       ·simp only [PN]
        rfl
       refine done_ (done_of HT_.out (by kernel_rfl)) ?_
       clear hHeld
       have HXN := Aside0.mk (show ∀ t ∈ xs ++ [(x, (sp, b))], t.1 = x ∧ t.2.1.length ≤ 1000000000 from fun t ht => by
        rcases List.mem_append.1 ht with h | h
        ·exact HX2.out t h
        ·have := List.mem_singleton.1 h
         subst this
         exact ⟨rfl, HL.out⟩)
       have a9 := HA9.out
       go_wp2
       go_roundw
       case rel => exact ⟨i + 1, xs ++ [(x, (sp, b))], by go_num, hlt, by simp; omega, HXN, n0_, n1_⟩
       case measure => first | (rw [a9]; exact meas _ _ hlt) | exact meas _ _ hlt
    ·have q0 : decide ((i : Int) < (ns.length : Int)) = false := decide_eq_false (by omega)
     have HF := Aside0.mk (show xs.length ≤ 1 by omega)
     clear hi2
     go_wp2
     go_ret2
     exact ⟨_, xs, ⟨true, rfl⟩, Kd.R_lower HR.out HB7.out.size, ⟨HF.out, HX2.out⟩, below_step HB7.out HBq.out⟩
theorem fact.Asked.calls {w : World} {A : Option Addr} {c : Nat} {xs : List Nd} (x : ByteArray) (h : kNd.C w A xs.length xs) (hl : xs.length ≤ 6) (hs : ∀ y ∈ xs, y.2.length ≤ 1000) (hx : x.size ≤ 1000) : Calls Tryz.prog 248 #[.slice A xs.length c, .string x] w fun e w' => ∃ v ts, (∃ r : Bool, e = .returned (.tuple #[v, .bool r])) ∧ kTm.R 401 w' w.heap.size (fun _ => True) v ts ∧ Tm1 x ts ∧ Below w.heap.size w w' := by
 have HX := Aside0.mk hx
 go_enter Tryz.func248, Tryz.ntmps248
 go_wp2_with fail
 refine (need.Find.calls x h hl hs).mono ?_
 rintro e w4 ⟨v4, ⟨b4, rfl⟩, ⟨ys, hr4, hl4⟩, hb4⟩
 obtain ⟨A4, c4, rfl⟩ := Kd.R_slice hr4
 have HB4 := Aside0.mk hb4
 have HR4 := Aside0.mk (And.intro hr4 hl4)
 clear h hl hs hx hr4 hl4 hb4
 cases b4 with
 | false =>
  go_wp2
  go_ret2
  exact ⟨.slice none 0 0, [], ⟨false, rfl⟩, Kd.R_nil _ _ _ _ _, ⟨by simp, by simp⟩, HB4.out⟩
 | true =>
  go_wp2_with fail
  refine (fact.unmet.calls x (Kd.R_reads' HR4.out.1).2.2 HR4.out.2).mono ?_
  rintro e w5 ⟨v5, rfl, ⟨zs, hr5, hl5⟩, hb5⟩
  obtain ⟨A5, c5, rfl⟩ := Kd.R_slice hr5
  have HB5 := Aside0.mk (below_step HB4.out hb5)
  have HR5 := Aside0.mk (And.intro (Kd.R_lower hr5 HB4.out.size) hl5)
  clear hr5 hl5 hb5
  have HBA := Aside0.mk (below_step HB5.out (below_alloc (Below.refl w5.heap.size w5) (.cells #[.string x, .slice A5 zs.length c5, .bool true] 401)))
  have HC := Aside0.mk (Kd.R_reads' (lit1 kTm w5 w.heap.size 401 (ok := fun _ => True) (kTm_mkM (x, (zs, true)) HR5.out.1) (fun _ h => h) trivial HB5.out.size)).2.2
  go_wp2_with fail
  refine (clash.Make.calls x zs true HC.out HX.out HR5.out.2).mono ?_
  rintro e w6 ⟨v6, ts, ⟨b6, rfl⟩, hr6, ht6, hb6⟩
  have HF := Aside0.mk (And.intro (Kd.R_lower hr6 HBA.out.size) (And.intro ht6 (below_step HBA.out hb6)))
  clear hr6 ht6 hb6
  go_wp2
  go_ret2
  exact ⟨v6, ts, ⟨b6, rfl⟩, HF.out.1, HF.out.2.1, HF.out.2.2⟩
end Go.Proofs.YtceffpgcbihckaaGreat.Top
