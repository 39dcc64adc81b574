/- TopTimes: each request that has an end is told something by then, once, though nothing is ever replied; one that comes to a full table is told so at once. No condition. -/
import Derived.Test.YtceffpgcbihckaaGreatRows
import Derived.Test.YtceffpgcbihckaaGreatX6
import Derived.Test.YtceffpgcbihckaaGreatXF
import Derived.ProofKit
import Derived.OpenShut
import Derived.ShutString
import Derived.ChangeOld
import Derived.SizedLaws
import Derived.SliceStrings
import Derived.ChangeSlices
set_option linter.unusedVariables false
namespace Go.Proofs.YtceffpgcbihckaaGreat.topTimes
open Go.ChangeShapes Go.WideShapes Go.ChangeAt Go.RowKit
open Go.ChangeMaps (open_string shut_string)
open Go.Proofs.YtceffpgcbihckaaGreatW.PrintWords
theorem own : ownKnob Tryz.prog.godebug = none := by kernel_rfl
theorem laidOut : laidOutB Tryz.prog = true := f_laid
def IsRow (k : IntKind) (w : World) (a : Option Addr) (len cap : Nat) (zs : List Int) : Prop :=
 (a = none ∧ len = 0 ∧ cap = 0 ∧ zs = []) ∨
 ∃ x, a = some x ∧ len ≤ cap ∧ cap ≤ maxLen ∧ zs.length = cap ∧ (∀ i, i < zs.length → w.cell? (x.add i) = some (.int k (zs.getD i 0))) ∧ ∀ n ∈ zs, (Lit.int k n).wf = true
theorem array3 {α : Type} {cs : Array α} (h : cs.size = 3) : ∃ c0 c1 c2, cs = #[c0, c1, c2] := by
 obtain ⟨l⟩ := cs
 match l, h with
 | [c0, c1, c2], _ => exact ⟨c0, c1, c2, rfl⟩
theorem array7 {α : Type} {cs : Array α} (h : cs.size = 7) : ∃ c0 c1 c2 c3 c4 c5 c6, cs = #[c0, c1, c2, c3, c4, c5, c6] := by
 obtain ⟨l⟩ := cs
 match l, h with
 | [c0, c1, c2, c3, c4, c5, c6], _ => exact ⟨c0, c1, c2, c3, c4, c5, c6, rfl⟩
theorem get_some {α : Type} {xs : List α} {n i : Nat} (h : xs.length = n) (hi : i < n) : ∃ x, xs[i]? = some x := ⟨xs[i]'(by omega), List.getElem?_eq_getElem _⟩
set_option maxRecDepth 100000 in
theorem openD {H : Type} {enc : TypeId × Value → H} {W : World} {base b0 : Nat} {r : Reach} {sp : Nat → Bool} {held : Bool} {v : Value} {d : DataW H} {p : List MemPlace} (hv : Value.okWide Tryz.prog W r b0 24 v) (h : DataW.Trod enc Tryz.prog W base sp held 24 v d p) : ∃ a b c : Int, v = .agg #[.int .u64 a, .int .u8 b, .int .u8 c] ∧ (0 ≤ b ∧ b ≤ 255) ∧ (0 ≤ c ∧ c ≤ 255) := by
 obtain ⟨cs, rfl, hsz⟩ := okWide_struct Tryz.underlying24 hv
 obtain ⟨c0, c1, c2, rfl⟩ := array3 (hsz.trans (by kernel_rfl))
 obtain ⟨fuel, hf⟩ := h
 obtain ⟨xs, n, _, _, _, hl, hfl⟩ := DataW.trod_struct Tryz.underlying24 hf
 have z0 := hfl 0 _ rfl
 have z1 := hfl 1 _ rfl
 have z2 := hfl 2 _ rfl
 obtain ⟨x0, e0⟩ := get_some hl (i := 0) (by decide)
 obtain ⟨x1, e1⟩ := get_some hl (i := 1) (by decide)
 obtain ⟨x2, e2⟩ := get_some hl (i := 2) (by decide)
 rw [e0] at z0
 rw [e1] at z1
 rw [e2] at z2
 obtain ⟨a, h0, _, w0⟩ := DataW.trod_int Tryz.underlying22 z0
 obtain ⟨b, h1, _, w1⟩ := DataW.trod_int Tryz.underlying5 z1
 obtain ⟨c, h2, _, w2⟩ := DataW.trod_int Tryz.underlying5 z2
 have i1 : Tryz.prog.cellsOf 22 = 1 := by kernel_rfl
 have i2 : Tryz.prog.cellsOf 5 = 1 := by kernel_rfl
 simp [Value.cells, i1] at h0
 simp [Value.cells, i2] at h1
 simp [Value.cells, i2] at h2
 subst h0 h1 h2
 refine ⟨a, b, c, rfl, ?_, ?_⟩
 ·simp [Lit.wf, IntKind.min, IntKind.max, IntKind.signed, IntKind.bits] at w1; omega
 ·simp [Lit.wf, IntKind.min, IntKind.max, IntKind.signed, IntKind.bits] at w2; omega
set_option maxRecDepth 100000 in
theorem openP {H : Type} {enc : TypeId × Value → H} {W : World} {base b0 : Nat} {r : Reach} {sp : Nat → Bool} {held : Bool} {v : Value} {d : DataW H} {p : List MemPlace} (hv : Value.okWide Tryz.prog W r b0 26 v) (h : DataW.Trod enc Tryz.prog W base sp held 26 v d p) : ∃ (t m b c : Int) (ah : Bool) (rs kp : Int), v = .agg #[.int .i64 t, .int .i64 m, .int .i64 b, .int .i64 c, .bool ah, .int .i64 rs, .int .i64 kp] := by
 obtain ⟨cs, rfl, hsz⟩ := okWide_struct Tryz.underlying26 hv
 obtain ⟨c0, c1, c2, c3, c4, c5, c6, rfl⟩ := array7 (hsz.trans (by kernel_rfl))
 obtain ⟨fuel, hf⟩ := h
 obtain ⟨xs, n, _, _, _, hl, hfl⟩ := DataW.trod_struct Tryz.underlying26 hf
 have i1 : Tryz.prog.cellsOf 3 = 1 := by kernel_rfl
 have i2 : Tryz.prog.cellsOf 4 = 1 := by kernel_rfl
 have z0 := hfl 0 _ rfl
 obtain ⟨x0, e0⟩ := get_some hl (i := 0) (by decide)
 rw [e0] at z0
 obtain ⟨a0, h0, _, _⟩ := DataW.trod_int Tryz.underlying3 z0
 simp [Value.cells, i1] at h0
 have z1 := hfl 1 _ rfl
 obtain ⟨x1, e1⟩ := get_some hl (i := 1) (by decide)
 rw [e1] at z1
 obtain ⟨a1, h1, _, _⟩ := DataW.trod_int Tryz.underlying3 z1
 simp [Value.cells, i1] at h1
 have z2 := hfl 2 _ rfl
 obtain ⟨x2, e2⟩ := get_some hl (i := 2) (by decide)
 rw [e2] at z2
 obtain ⟨a2, h2, _, _⟩ := DataW.trod_int Tryz.underlying3 z2
 simp [Value.cells, i1] at h2
 have z3 := hfl 3 _ rfl
 obtain ⟨x3, e3⟩ := get_some hl (i := 3) (by decide)
 rw [e3] at z3
 obtain ⟨a3, h3, _, _⟩ := DataW.trod_int Tryz.underlying3 z3
 simp [Value.cells, i1] at h3
 have z4 := hfl 4 _ rfl
 obtain ⟨x4, e4⟩ := get_some hl (i := 4) (by decide)
 rw [e4] at z4
 obtain ⟨a4, h4, _⟩ := DataW.trod_bool Tryz.underlying4 z4
 simp [Value.cells, i2] at h4
 have z5 := hfl 5 _ rfl
 obtain ⟨x5, e5⟩ := get_some hl (i := 5) (by decide)
 rw [e5] at z5
 obtain ⟨a5, h5, _, _⟩ := DataW.trod_int Tryz.underlying3 z5
 simp [Value.cells, i1] at h5
 have z6 := hfl 6 _ rfl
 obtain ⟨x6, e6⟩ := get_some hl (i := 6) (by decide)
 rw [e6] at z6
 obtain ⟨a6, h6, _, _⟩ := DataW.trod_int Tryz.underlying3 z6
 simp [Value.cells, i1] at h6
 subst h0 h1 h2 h3 h4 h5 h6
 exact ⟨a0, a1, a2, a3, a4, a5, a6, rfl⟩
set_option maxRecDepth 100000 in
theorem lifted (os : Os) (started : os.Started) (H : Type) (enc : TypeId × Value → H) :
  ReturnsInHanded {} Tryz.checked os 3 .any (Rows.topTimesSpec.pre6 enc Tryz.prog Tryz.f3 Rows.topTimesRow.domain false) (Rows.topTimesSpec.post enc Tryz.prog Tryz.f3 false true false false) := by
 refine returnsInHanded_of_change_sized (C := Tryz.checked) own started (by kernel_rfl) Tryz.func3
  (ChangeSpec.witness6 (enc := enc) (C := Tryz.checked) false ⟨#[], #[.agg #[.int .u64 0, .int .u8 0, .int .u8 0], .agg #[.int .i64 0, .int .i64 0, .int .i64 0, .int .i64 0, .bool false, .int .i64 0, .int .i64 0], .slice none 0 0], []⟩ 8 (by kernel_rfl) (by kernel_rfl) (by kernel_rfl) (by kernel_rfl)) ?_
 intro W base args ds gs before hval0 hW hcnd hsz0 _
 have hval : ∀ (j : Nat) t v, Tryz.f3.params[j]? = some t → args[j]? = some v → Value.okWide Tryz.prog W .any base t v := hval0
 have hW' := hW
 obtain ⟨p, q, hA0, hV, rfl, hfz, hnd⟩ := hW
 have hA : DataW.TrodAll enc Tryz.prog W 0 (fun _ => true) true Tryz.f3.params.toList args.toList ds p := hA0
 rw [Tryz.params3] at hA hval
 obtain ⟨v0, vs0, d0, ds0, p0, q0, hargs, rfl, rfl, h0, r0⟩ := trodAll_cons hA
 obtain ⟨v1, vs1, d1, ds1, p1, q1, rfl, rfl, rfl, h1, r1⟩ := trodAll_cons r0
 obtain ⟨v2, vs2, d2, ds2, p2, q2, rfl, rfl, rfl, h2, r2⟩ := trodAll_cons r1
 obtain ⟨rfl, rfl, rfl⟩ := trodAll_nil r2
 obtain rfl : args = #[v0, v1, v2] := by cases args; simp_all
 obtain ⟨rfl, rfl⟩ := trodVars_none hV
 have k0 := h0
 have lt0 : ∀ x ∈ p0, x.block < W.heap.size := by obtain ⟨m, hm⟩ := k0; exact DataW.trod_lt m _ _ _ hm
 have k1 := h1
 have lt1 : ∀ x ∈ p1, x.block < W.heap.size := by obtain ⟨m, hm⟩ := k1; exact DataW.trod_lt m _ _ _ hm
 obtain ⟨sd, nn, rl, rfl, hnn, hrl⟩ := openD (hval 0 24 v0 rfl rfl) h0
 obtain ⟨t, m, b, c, ah, rs, kp, rfl⟩ := openP (hval 1 26 v1 rfl rfl) h1
 obtain ⟨a2, len2, cap2, rfl⟩ := okWide_slice Tryz.underlying27 (hval 2 27 v2 rfl rfl)
 have k2 := h2
 have lt2 : ∀ x ∈ p2, x.block < W.heap.size := by obtain ⟨m, hm⟩ := k2; exact DataW.trod_lt m _ _ _ hm
 obtain ⟨z2, w2⟩ : ∃ zs, IsRow .u8 W a2 len2 cap2 zs := by
  obtain ⟨fuel, hf⟩ := h2
  rcases open_ints Tryz.underlying27 Tryz.underlying5 (by kernel_rfl) hf with ⟨hcs, _⟩ | ⟨x, l, c, zs, hcs, _, hl, hm, hz, _, hcell, hwz⟩
  ·simp [Value.cells] at hcs
   obtain ⟨rfl, rfl, rfl⟩ := hcs
   exact ⟨[], .inl ⟨rfl, rfl, rfl, rfl⟩⟩
  ·simp [Value.cells] at hcs
   obtain ⟨rfl, rfl, rfl⟩ := hcs
   exact ⟨zs, .inr ⟨_, rfl, hl, hm, by simpa using hz, hcell, hwz⟩⟩
 obtain ⟨l2, e2, hr2, hm2, hw2, hc2⟩ := ReadsInt.ofRowC w2
 clear hA0 hval0 hsz0
 subst e2
 refine (Top.TopTimes.calls sd nn rl t m b c ah rs kp hnn hrl (ls := l2) (Kd.C_of_reads (d := (0 : Int)) (h1 := fun _ => rfl) hr2) (fun i hi => by
  have hmem : rd l2 (i : Int) ∈ l2 := by unfold rd; rw [Int.toNat_natCast]; exact Top.getD_mem l2 0 i hi
  have h := hw2 _ hmem
  simp [Lit.wf, IntKind.min, IntKind.max, IntKind.signed, IntKind.bits] at h
  omega)).mono fun e W' ⟨he, bel⟩ => ?_
 subst he
 exact ⟨_, rfl, _, _, _, [], _, [], hW', trodAll_mk1 (shut_bool Tryz.underlying4 _), (trodAll_cons_mk (Below.trod laidOut (by kernel_rfl) (of_decide_eq_true (by kernel_rfl)) k0 bel lt0) (trodAll_cons_mk (Below.trod laidOut (by kernel_rfl) (of_decide_eq_true (by kernel_rfl)) k1 bel lt1) (trodAll_cons_mk (Below.trod laidOut (by kernel_rfl) (of_decide_eq_true (by kernel_rfl)) k2 bel lt2) trodAll_mk0))), rfl, bel.frame _, fun h => by cases h⟩
theorem over : Rows.topTimesRow.holds Tryz.pinned (OpenSpec.ofChange Rows.topTimesSpec) :=
 OpenClaim.holds_of_wide 3 Tryz.f3 rfl rfl rfl rfl rfl rfl rfl ⟨rfl, rfl, rfl, rfl, rfl⟩ rfl rfl rfl rfl rfl f_fn Tryz.func3 f_join f_inst f_wrap
  (fun os started H enc _ => lifted os started H enc)
theorem proved : Rows.TopTimesSaid := over
end Go.Proofs.YtceffpgcbihckaaGreat.topTimes
namespace Go.Proofs.YtceffpgcbihckaaGreat
theorem topTimes_holds : Rows.TopTimesSaid := topTimes.proved
end Go.Proofs.YtceffpgcbihckaaGreat
