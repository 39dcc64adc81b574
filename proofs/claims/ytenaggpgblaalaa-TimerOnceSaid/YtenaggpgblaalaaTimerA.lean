/- The timer's blocks in the model: its block, its row of items, its map; what turns. No condition. -/
import Derived.Test.YtenaggpgblaalaaPTimerPlaysx1
import Derived.Maps.OwnSet
import Derived.ScopeJumps
import Derived.WalkMore
namespace Go.Proofs.Ytenaggpgblaalaa.Timer
open Go.RowKit Go.Proofs.Ytenaggpgblaalaa.PTimerPlays Go.Proofs.YtenaggpgblaalaaW.PrintWords Go.Proofs.YtenaggpgblaalaaW.PrintLast Go.Proofs.YtenaggpgblaalaaW.PrintMore
open Go.Maps (Keyed string_keyed)
open Go.WideMaps (keyOf_string_mk)
set_option linter.unusedVariables false
set_option linter.unusedSimpArgs false

structure S106 where
  f0 : ByteArray
  f1 : Int
  f2 : Int
def z106 : S106 := ⟨(⟨#[]⟩ : ByteArray), (0 : Int), (0 : Int)⟩
def k106 : Kd S106 := Kd.iso (Kd.pair Kd.string (Kd.pair (Kd.int .i64) (Kd.int .i64))) (fun x : S106 => (x.f0, x.f1, x.f2))
theorem k106_open {w : World} {x : S106} {cs : List Value} (h : k106.K w x cs) : cs = [.string x.f0, .int .i64 x.f1, .int .i64 x.f2] := by
  obtain ⟨_, _, rfl, rfl, ⟨_, _, rfl, rfl, rfl⟩⟩ := h
  exact rfl
theorem k106_mkM (w : World) (base : Nat) (ok : Nat → Prop) (x : S106)  : k106.M w base ok x [.string x.f0, .int .i64 x.f1, .int .i64 x.f2] := ⟨[.string x.f0], [.int .i64 x.f1, .int .i64 x.f2], rfl, rfl, ⟨[.int .i64 x.f1], [.int .i64 x.f2], rfl, rfl, rfl⟩⟩
def itm (L : List S106) (i : Nat) : S106 := L.getD i z106
def rd_T106 (xs : List S106) (i : Int) : S106 := xs.getD i.toNat z106
theorem at_T106 {w : World} {A : Option Addr} {n : Nat} {xs : List S106} (h : Kd.C k106 w A n xs) (i : Int) (h0 : 0 ≤ i) (h1 : i < n) : ∃ ad , A = some ad ∧ w.cell? (ad.add (i.toNat * 3)) = some (.string (rd_T106 xs i).f0) ∧ w.cell? ⟨(ad.add (i.toNat * 3)).block, (ad.add (i.toNat * 3)).off + 1, none⟩ = some (.int .i64 (rd_T106 xs i).f1) ∧ w.cell? ⟨(ad.add (i.toNat * 3)).block, (ad.add (i.toNat * 3)).off + 2, none⟩ = some (.int .i64 (rd_T106 xs i).f2) := by
  obtain ⟨ad, c, e, _, hK, hc0⟩ := Kd.C_get h z106 i h0 h1
  have hc : ∀ j u, c[j]? = some u → w.cell? (ad.add (i.toNat * 3 + j)) = some u := hc0
  obtain rfl := k106_open hK
  exact ⟨ad, e, hc 0 _ rfl, by rw [← add_field _ _ 1 (by omega)]; exact hc 1 _ rfl, by rw [← add_field _ _ 2 (by omega)]; exact hc 2 _ rfl⟩

theorem law9 : Keyed Try.prog 9 := string_keyed Try.underlying9
theorem zero3 (w : World) : (zeroValue 3).run Try.prog w = .ok (.int .i64 0) w := by kernel_rfl
/-- The key that a name reads as. -/
abbrev ky (x : ByteArray) : Lit := .string x.data.toList
theorem ky_ne {x y : ByteArray} (h : x ≠ y) : ky x ≠ ky y := fun e => h (by
  injection e with e
  have e2 : x.data = y.data := Array.toList_inj.1 e
  cases x; cases y; simp_all)
theorem ky_key (x : ByteArray) : WideAt.IsKeyLit (ky x) := by simp [WideAt.IsKeyLit]
theorem hkey {x : ByteArray} (h : x.size ≤ 1000) : keyOf Try.prog 9 (.string x) = some (ky x) := keyOf_string_mk Try.underlying9 (by unfold maxLen; omega)
/-- Block m is a map of s entries that reads as pl. -/
def MP (w : World) (m s : Nat) (pl : ByteArray → Option Int) : Prop := ∃ D : DataW Unit, w.ownsMap Try.prog 9 (plainElem Try.prog 3) m s D ∧ Maps.size D = s ∧ ∀ x : ByteArray, Maps.has D (ky x) = (pl x).isSome ∧ D.atKey (ky x) (.lit (.int .i64 0)) = .lit (.int .i64 ((pl x).getD 0))
def upd (pl : ByteArray → Option Int) (x : ByteArray) (k : Int) : ByteArray → Option Int := fun y => if y = x then some k else pl y
def era (pl : ByteArray → Option Int) (x : ByteArray) : ByteArray → Option Int := fun y => if y = x then none else pl y
theorem tight {w : World} {m n : Nat} {D : DataW Unit} (h : w.ownsMap Try.prog 9 (plainElem Try.prog 3) m n D) : w.ownsMap Try.prog 9 (plainElem Try.prog 3) m (Maps.size D) D := by
  obtain ⟨es, clock, hb, F, hn, rfl⟩ := h
  refine ⟨es, clock, hb, F, ?_, rfl⟩
  rw [Maps.size_eq, length_read]
  exact Nat.le_refl _
theorem MP.new (w : World) : MP (w.alloc (.map #[] 0)) w.heap.size 0 (fun _ => none) :=
  ⟨.map [], World.ownsMap_made w _ _ _, rfl, fun x => ⟨rfl, rfl⟩⟩
theorem MP.grown {w w' : World} {m s : Nat} {pl : ByteArray → Option Int} {row : Option Nat} (h : MP w m s pl) (hg : w.grownBy w' row) (hne : some m ≠ row) : MP w' m s pl := by
  obtain ⟨D, h1, h2, h3⟩ := h
  exact ⟨D, h1.kept hg hne, h2, h3⟩
theorem MP.put {w w' : World} {m s n : Nat} {pl : ByteArray → Option Int} {D : DataW Unit} {x : ByteArray} {k : Int} (h1 : w.ownsMap Try.prog 9 (plainElem Try.prog 3) m s D) (h2 : Maps.size D = s) (h3 : ∀ x : ByteArray, Maps.has D (ky x) = (pl x).isSome ∧ D.atKey (ky x) (.lit (.int .i64 0)) = .lit (.int .i64 ((pl x).getD 0)))
    (h : w'.ownsMap Try.prog 9 (plainElem Try.prog 3) m n (D.put (ky x) (.lit (.int .i64 k)))) : MP w' m (if (pl x).isSome then s else s + 1) (upd pl x k) := by
  have ht := h1.tidy law9
  refine ⟨D.put (ky x) (.lit (.int .i64 k)), ?_, ?_, ?_⟩
  · have e := Maps.size_put (k := ky x) ht (DataW.lit (.int .i64 k) : DataW Unit)
    have e2 := tight h
    rw [e, (h3 x).1, h2] at e2
    exact e2
  · rw [Maps.size_put ht, (h3 x).1, h2]
  · intro y
    unfold upd
    by_cases hy : y = x
    · subst hy
      rw [if_pos rfl]
      exact ⟨Maps.has_put_same h1.isMap (ky_key y) _, Maps.atKey_put_same h1.isMap (ky_key y) _ _⟩
    · rw [if_neg hy, Maps.has_put_other (ky_ne hy), Maps.atKey_put_other (ky_ne hy)]
      exact h3 y
theorem MP.del {w w' : World} {m s n : Nat} {pl : ByteArray → Option Int} {D : DataW Unit} {x : ByteArray} (h1 : w.ownsMap Try.prog 9 (plainElem Try.prog 3) m s D) (h2 : Maps.size D = s) (h3 : ∀ x : ByteArray, Maps.has D (ky x) = (pl x).isSome ∧ D.atKey (ky x) (.lit (.int .i64 0)) = .lit (.int .i64 ((pl x).getD 0)))
    (hx : (pl x).isSome = true) (h : w'.ownsMap Try.prog 9 (plainElem Try.prog 3) m n (D.del (ky x))) : MP w' m (s - 1) (era pl x) := by
  have ht := h1.tidy law9
  have e := Maps.size_del (k := ky x) ht
  rw [(h3 x).1, hx, h2, if_pos rfl] at e
  have es : Maps.size (D.del (ky x)) = s - 1 := by omega
  refine ⟨D.del (ky x), ?_, es, ?_⟩
  · have e2 := tight h
    rw [es] at e2
    exact e2
  · intro y
    unfold era
    by_cases hy : y = x
    · subst hy
      rw [if_pos rfl]
      exact ⟨Maps.has_del_same, Maps.atKey_del_same _⟩
    · rw [if_neg hy, Maps.has_del_other (ky_ne hy), Maps.atKey_del_other (ky_ne hy)]
      exact h3 y
/-- Is an object one of those that a timer writes? -/
def touch : Obj → Bool
  | .cells _ t _ => t == 104 || t == 106
  | .map _ _ => true
  | _ => false
/-- From block N0 on timers' objects may have turned; nothing else has. -/
structure Turn (N0 : Nat) (w w' : World) : Prop where
  os : w'.os = w.os
  tape : w'.tape = w.tape
  output : w'.output = w.output
  size : w.heap.size ≤ w'.heap.size
  keep : ∀ k o, w.heap[k]? = some o → (k < N0 ∨ touch o = false) → w'.heap[k]? = some o
theorem Turn.refl (N0 : Nat) (w : World) : Turn N0 w w := ⟨rfl, rfl, rfl, Nat.le_refl _, fun _ _ h _ => h⟩
theorem Turn.trans {N0 : Nat} {a b c : World} (h : Turn N0 a b) (k : Turn N0 b c) : Turn N0 a c :=
  ⟨k.os.trans h.os, k.tape.trans h.tape, k.output.trans h.output, Nat.le_trans h.size k.size, fun i o hi ho => k.keep i o (h.keep i o hi ho) ho⟩
theorem Turn.below {N0 : Nat} {w w' : World} (h : Below w.heap.size w w') : Turn N0 w w' :=
  ⟨h.os, h.tape, h.output, h.size, fun k o hk _ => blk_below hk h⟩
theorem Turn.grown {N0 g : Nat} {w w' : World} {o : Obj} (hg : w.heap[g]? = some o) (ho : touch o = true) (hn : N0 ≤ g) (h : w.grownBy w' (some g)) : Turn N0 w w' :=
  ⟨h.os, h.tape, h.output, h.size, fun k o' hk hko => by
    refine blk_grown hk h ?_
    intro e
    injection e with e
    subst e
    rw [hg] at hk
    injection hk with hk
    subst hk
    rcases hko with hko | hko
    · omega
    · rw [ho] at hko; cases hko⟩
theorem Turn.toBelow {w w' : World} (h : Turn w.heap.size w w') : Below w.heap.size w w' := ⟨h.os, h.tape, h.output, h.size, fun k hk => by
  obtain ⟨o, ho⟩ : ∃ o, w.heap[k]? = some o := ⟨_, Array.getElem?_eq_getElem hk⟩
  rw [ho, h.keep k o ho (.inl hk)]⟩
/-- A timer: its block g, its row, its map gm; L its items, S its count, pl its places, s how many. -/
structure TM (N0 : Nat) (w : World) (g : Nat) (A : Option Addr) (c gm : Nat) (L : List S106) (S : Int) (pl : ByteArray → Option Int) (s : Nat) : Prop where
  hg : N0 ≤ g
  hgm : N0 ≤ gm
  blk : w.heap[g]? = some (.cells #[.slice A L.length c, .map (some gm), .int .i64 S] 104 (0, 0))
  row : k106.R 106 w N0 (fun _ => True) (.slice A L.length c) L
  map : MP w gm s pl
theorem TM.below {N0 : Nat} {w w' : World} {g : Nat} {A : Option Addr} {c gm : Nat} {L : List S106} {S : Int} {pl : ByteArray → Option Int} {s : Nat} (h : TM N0 w g A c gm L S pl s) (hb : Below w.heap.size w w') : TM N0 w' g A c gm L S pl s :=
  ⟨h.hg, h.hgm, blk_below h.blk hb, Kd.R_below h.row hb, h.map.grown (grown_of_below hb none) (by simp)⟩
section
variable {N0 : Nat} {w : World} {g : Nat} {A : Option Addr} {c gm : Nat} {L : List S106} {S : Int} {pl : ByteArray → Option Int} {s : Nat}
theorem TM.c0 (h : TM N0 w g A c gm L S pl s) : w.cell? ⟨g, 0, none⟩ = some (.slice A L.length c) := (blk_cell h.blk 0).trans rfl
theorem TM.c1 (h : TM N0 w g A c gm L S pl s) : w.cell? ⟨g, 1, none⟩ = some (.map (some gm)) := (blk_cell h.blk 1).trans rfl
theorem TM.c2 (h : TM N0 w g A c gm L S pl s) : w.cell? ⟨g, 2, none⟩ = some (.int .i64 S) := (blk_cell h.blk 2).trans rfl
theorem TM.f (h : TM N0 w g A c gm L S pl s) (i : Nat) : w.frozen? ⟨g, i, none⟩ = false := blk_frozen h.blk i
/-- Where the row lies, and what its cells at an item are. -/
theorem TM.form (h : TM N0 w g A c gm L S pl s) (hp : 0 < L.length) : ∃ gr, A = some ⟨gr, 0, none⟩ ∧ N0 ≤ gr ∧ gr < w.heap.size ∧ ∃ cells, w.heap[gr]? = some (.cells cells 106 (0, 0)) := by
  obtain ⟨gr, cap, e, h1, h2, h3⟩ := Kd.R_form h.row hp
  injection e with e1 e2 e3
  exact ⟨gr, e1, h1, h2, h3⟩
theorem TM.at {gr : Nat} (h : TM N0 w g (some ⟨gr, 0, none⟩) c gm L S pl s) (i : Nat) (hi : i < L.length) : w.cell? ⟨gr, i * 3, none⟩ = some (.string (itm L i).f0) ∧ w.cell? ⟨gr, i * 3 + 1, none⟩ = some (.int .i64 (itm L i).f1) ∧ w.cell? ⟨gr, i * 3 + 2, none⟩ = some (.int .i64 (itm L i).f2) := by
  obtain ⟨ad, ea, hx0, hx1, hx2⟩ := at_T106 (Kd.R_reads' h.row).2.2 (i : Int) (by omega) (by omega)
  obtain rfl := Option.some.inj ea
  have e : (⟨gr, 0, none⟩ : Addr).add ((i : Int).toNat * 3) = ⟨gr, i * 3, none⟩ := by
    simp [Addr.add]
    try omega
  rw [e] at hx0 hx1 hx2
  have e2 : rd_T106 L (i : Int) = itm L i := by unfold rd_T106 itm; rw [Int.toNat_natCast]
  rw [e2] at hx0 hx1 hx2
  exact ⟨hx0, hx1, hx2⟩
theorem TM.len (h : TM N0 w g A c gm L S pl s) : L.length ≤ c := (Kd.R_reads' h.row).2.1
end
theorem New.calls (w : World) : Calls Try.prog 64 #[] w fun e w' => ∃ g gm, e = .returned (.pointer (some ⟨g, 0, none⟩)) ∧ TM w.heap.size w' g none 0 gm [] 0 (fun _ => none) 0 ∧ Below w.heap.size w w' := by
  have hmm := @run_makeMap Try.prog
  go_enter Try.func64, Try.ntmps64
  go_wp2
  go_ret
  refine ⟨w.heap.size + 1, w.heap.size, rfl, ⟨by omega, Nat.le_refl _, ?_, Kd.R_nil _ _ _ _ _, ?_⟩, below_alloc (below_alloc (Below.refl _ _) _) _⟩
  · have h := blk_new (w.alloc (.map #[] 0)) (.cells #[.slice none 0 0, .map (some w.heap.size), .int .i64 0] 104)
    rw [show (w.alloc (.map #[] 0)).heap.size = w.heap.size + 1 from by simp only [World.alloc, Array.size_push]] at h
    exact h
  · exact (MP.new w).grown (grown_of_below (below_alloc (Below.refl _ _) _) none) (by simp)
end Go.Proofs.Ytenaggpgblaalaa.Timer
