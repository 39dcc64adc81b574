/- The walk of TopTimes, part 2. No condition but what each theorem names. -/
import Derived.Test.YtceffpgcbihckaaGreatX1
set_option linter.unusedVariables false
set_option linter.unusedSimpArgs false
namespace Go.Proofs.YtceffpgcbihckaaGreat.Top
open Go.RowKit Go.Proofs.YtceffpgcbihckaaGreatW.PrintWords Go.Proofs.YtceffpgcbihckaaGreatW.PrintLast Go.Proofs.YtceffpgcbihckaaGreatW.PrintMore Go.Proofs.YtceffpgcbihckaaGreat.Base
def kTL : Kd (List Tm) := Kd.slice 401 kTm
theorem infoTL : (Tryz.prog.info? 310).map (fun i => (i.zero, i.size, i.bytes)) = some (some (.slice none 0 0), 1, 24) := by kernel_rfl
def Facts (xs : List Nd) (l : List (List Tm)) : Prop := l.length ≤ xs.length ∧ ∀ i, i < l.length → Tm1 (xs.getD i zNd).1 (l.getD i [])
theorem Facts.snoc {xs : List Nd} {l : List (List Tm)} {ts : List Tm} (h : Facts xs l) (hl : l.length < xs.length) (ht : Tm1 (xs.getD l.length zNd).1 ts) : Facts xs (l ++ [ts]) := by
 refine ⟨by simp; omega, fun i hi => ?_⟩
 by_cases e : i < l.length
 ·have := h.2 i e
  simpa [List.getD_eq_getElem?_getD, List.getElem?_append, e] using this
 ·have : i = l.length := by simp at hi; omega
  subst this
  simpa [List.getD_eq_getElem?_getD] using ht
theorem reads1 {α : Type} {w : World} {g : Nat} {cells : Array Value} {e : TypeId} (x : α) (h : w.heap[g]? = some (.cells cells e (0, 0))) : ReadsRow (fun y cs => y = x ∧ cs = cells.toList) cells.size w (some ⟨g, 0, none⟩) 1 [x] := by
 refine ⟨rfl, by decide, fun _ => ⟨_, rfl, fun j p hp => ?_⟩⟩
 have hj : j = 0 := by
  rcases j with _ | j
  ·rfl
  ·simp at hp
 subst hj
 have hp2 : x = p := by simpa using hp
 subst hp2
 refine ⟨cells.toList, by simp, ⟨rfl, rfl⟩, fun i u hu => ?_⟩
 have h2 := blk_cell h i
 have e1 : (⟨g, 0, none⟩ : Addr).add (0 * cells.size + i) = ⟨g, i, none⟩ := by simp [Addr.add]; exact fun h => h.symm
 rw [e1, h2]
 simpa using hu
def FRT7.T7 : Bool × List (List Nat × List Nat) := (true, [([], []), ([], []), ([1], [1]), ([0, 2], [0, 2]), ([], []), ([], []), ([5], [5]), ([6], [6]), ([7], [7]), ([4, 8, 3], [4, 8]), ([3, 9, 0, 1, 2, 3], [0, 3]), ([9, 10, 0, 1, 2, 3, 4, 5, 6, 7, 8, 9, 10], [4, 9])])
def FRT7.B7 : List Nat := [0, 0, 2, 7, 0, 0, 32, 96, 224, 511, 1023, 2047]
theorem FRT7.tab7 : rtab .any (opsOf Tryz.f195 7) = FRT7.T7 := by kernel_rfl
theorem FRT7.bits7 : waitsOk FRT7.T7.2 FRT7.B7 = true := by kernel_rfl
set_option maxRecDepth 100000 in
set_option maxHeartbeats 8000000 in
theorem fact.Root.calls {w : World} {A : Option Addr} {c : Nat} {xs : List Nd} (h : kNd.C w A xs.length xs) (hl : xs.length ≤ 6) (hs : ∀ x ∈ xs, x.2.length ≤ 1000 ∧ x.1.size ≤ 1000) : Calls Tryz.prog 195 #[.slice A xs.length c] w fun e w' => ∃ v l u S, e = .returned (.tuple #[v, u]) ∧ kTL.R 310 w' w.heap.size (fun _ => True) v l ∧ Facts xs l ∧ kSt.R 219 w' w.heap.size (fun _ => True) u S ∧ S.length = l.length ∧ l.length = xs.length ∧ Below w.heap.size w w' := by
 have HX := Aside0.mk h
 have HL := Aside0.mk (And.intro hl hs)
 clear h hl hs
 go_enter Tryz.func195, Tryz.ntmps195
 go_wp2
 go_loopw [4, 5, 12] (fun ov uv iv wr => ∃ (i : Nat) (L : List (List Tm)) (S : List St), iv = .int .i64 (i : Int) ∧ i ≤ xs.length ∧ L.length = i ∧ S.length = i ∧ Aside0 (Facts xs L) ∧ Aside0 (kTL.R 310 wr w.heap.size (fun _ => True) ov L) ∧ Aside0 (kSt.R 219 wr w.heap.size (fun _ => True) uv S) ∧ Aside0 (Below w.heap.size w wr)) (fun _ _ iv _ => ((xs.length : Int) - intOf iv).toNat)
 case atStart => exact ⟨0, [], [], rfl, by omega, rfl, rfl, ⟨by simp [Facts]⟩, ⟨Kd.R_nil _ _ _ _ _⟩, ⟨Kd.R_nil _ _ _ _ _⟩, ⟨Below.refl _ _⟩⟩
 case round =>
  obtain ⟨i, L, S, rfl, hi, hL, hS, HF, HRL, HRS, HB⟩ := hrel
  have hll := HL.out.1
  obtain ⟨Al, cl, rfl⟩ := Kd.R_slice HRL.out
  obtain ⟨As, cs, rfl⟩ := Kd.R_slice HRS.out
  by_cases hlt : i < xs.length
  ·have q0 : decide ((i : Int) < (xs.length : Int)) = true := decide_eq_true (by omega)
   have u0 : (0 : Int) ≤ (i : Int) := by omega
   have u1 : (i : Int) < (xs.length : Int) := by omega
   have HA9 := Aside0.mk (show wrap64 ((i : Int) + 1) = (i : Int) + 1 from wrap_id (by omega) (by omega))
   obtain ⟨ad, A1, c1, rfl, k0, k1, hlc, hcs⟩ := at_Nd (Kd.C_below HX.out HB.out) i hlt
   have hxx := HL.out.2 _ (getD_mem xs zNd i hlt)
   have HXI := Aside0.mk (rfl : xs.getD i zNd = xs.getD i zNd)
   generalize hx : xs.getD i zNd = x at k0 k1 hlc hcs hxx
   have HXE := Aside0.mk hx
   have HXX := Aside0.mk hxx
   have HBA := Aside0.mk (below_alloc HB.out (.cells #[.string x.1, .slice A1 x.2.length c1] 117))
   have hba := below_alloc (Below.refl wr.heap.size wr) (.cells #[.string x.1, .slice A1 x.2.length c1] 117)
   have HRLa := Aside0.mk (Kd.R_below HRL.out hba)
   have HRSa := Aside0.mk (Kd.R_below HRS.out hba)
   have HGX := Aside0.mk (blk_new wr (.cells #[.string x.1, .slice A1 x.2.length c1] 117))
   have HLL := Aside0.mk (And.intro hL (And.intro hS (And.intro hi hll)))
   clear hlc hcs hx hxx hba HRL HRS HB HXI hL hS hi hll
   go_wp2_with fail
   generalize wr.alloc (.cells #[.string x.1, .slice A1 x.2.length c1] 117) = w4 at HBA HRLa HRSa HGX ⊢
   generalize wr.heap.size = gx at HGX ⊢
   refine (fact.Asked.calls x.1 (Kd.C_below HX.out HBA.out) HL.out.1 (fun x hx => (HL.out.2 x hx).1) HXX.out.2).mono ?_
   rintro e w6 ⟨v6, ts, ⟨b6, rfl⟩, hr6, ht6, hb6⟩
   obtain ⟨A6, c6, rfl⟩ := Kd.R_slice hr6
   have HRl0 := Aside0.mk (Kd.R_below HRLa.out hb6)
   have HRs0 := Aside0.mk (Kd.R_below HRSa.out hb6)
   have HT0 := Aside0.mk (Kd.R_lower hr6 HBA.out.size)
   have HB0 := Aside0.mk (below_step HBA.out hb6)
   have HG0 := Aside0.mk (blk_below HGX.out hb6)
   have HTS := Aside0.mk ht6
   clear hr6 ht6 hb6 HRLa HRSa HBA HGX k0 k1
   go_wp2
   have HRl := Aside0.mk (show kTL.R 310 w6.drew w.heap.size (fun _ => True) (.slice Al L.length cl) L from Kd.R_drewN HRl0.out 1)
   have HRs := Aside0.mk (show kSt.R 219 w6.drew w.heap.size (fun _ => True) (.slice As S.length cs) S from Kd.R_drewN HRs0.out 1)
   have HT := Aside0.mk (show kTm.R 401 w6.drew w.heap.size (fun _ => True) (.slice A6 ts.length c6) ts from Kd.R_drewN HT0.out 1)
   have HB := Aside0.mk (below_drew HB0.out)
   have HW := Aside0.mk (show w.heap.size ≤ w6.drew.heap.size from HB0.out.size)
   have HG := Aside0.mk (show w6.drew.heap[gx]? = some (.cells #[.string x.1, .slice A1 x.2.length c1] 117 (0, 0)) from HG0.out)
   have hLb : L.length ≤ 6 ∧ S.length ≤ 6 := by have := HLL.out; omega
   clear HRl0 HRs0 HT0 HB0 HG0
   refine start_ (n := 12) (S := fun w' => w'.cell? ⟨gx, 0, none⟩ = some (.string x.1)) (ds := [9]) #[O,O,O,O,O,O,O,O,O,O,O,O] (by kernel_rfl) rfl rfl (((blk_cell HG.out 0).trans rfl)) (fun hHeld => ?_)
   refine with_tabW FRT7.tab7 FRT7.bits7 (fun HT_ HW_ => ?_)
   refine pure_ (i := 0) (N := some 23) (v := ?_) (a' := ?_) #[Y,O,O,O,O,O,O,O,O,O,O,O] rfl rfl (any_of HT_.out (by kernel_rfl)) (fun _ _ _ h => h) (Or.inl ⟨by rfl, ?_⟩) ?_ ?_
   rotate_left
   ·intro w'
    go_simp
    with_reducible rfl
   rotate_left
   ·simp only [PN]
    rfl
   refine pure_ (i := 1) (N := some 24) (v := ?_) (a' := ?_) #[Y,Y,O,O,O,O,O,O,O,O,O,O] rfl rfl (any_of HT_.out (by kernel_rfl)) (fun _ _ _ h => h) (Or.inl ⟨by rfl, ?_⟩) ?_ ?_
   rotate_left
   ·intro w'
    go_simp
    with_reducible rfl
   rotate_left
   ·simp only [PN]
    rfl
   refine pure_ (i := 4) (N := some 27) (v := ?_) (a' := ?_) #[Y,Y,O,O,Y,O,O,O,O,O,O,O] rfl rfl (any_of HT_.out (by kernel_rfl)) (fun _ _ _ h => h) (Or.inl ⟨by rfl, ?_⟩) ?_ ?_
   rotate_left
   ·intro w'
    go_simp
    with_reducible rfl
   rotate_left
   ·simp only [PN]
    rfl
   refine pure_ (i := 5) (N := some 28) (v := ?_) (a' := ?_) #[Y,Y,O,O,Y,Y,O,O,O,O,O,O] rfl rfl (any_of HT_.out (by kernel_rfl)) (fun _ _ _ h => h) (Or.inl ⟨by rfl, ?_⟩) ?_ ?_
   rotate_left
   ·intro w'
    go_simp
    with_reducible rfl
   rotate_left
   ·simp only [PN]
    rfl
   refine take_ (i := 6) (N := some 29) (v := ?_) (a' := ?_) #[Y,Y,O,O,Y,Y,Y,O,O,O,O,O] rfl rfl (take_ofW HT_.out HW_.out (by kernel_rfl)) (fun _ _ _ h => h) (Or.inl ⟨by rfl, ?_⟩) hHeld ?_ ?_
   rotate_left
   ·intro w' s0
    go_simp
    with_reducible rfl
   rotate_left
   ·simp only [PN]
    rfl
   refine pure_ (i := 7) (N := some 30) (v := ?_) (a' := ?_) #[Y,Y,O,O,Y,Y,Y,Y,O,O,O,O] rfl rfl (any_of HT_.out (by kernel_rfl)) (fun _ _ _ h => h) (Or.inl ⟨by rfl, ?_⟩) ?_ ?_
   rotate_left
   ·intro w'
    go_simp
    with_reducible rfl
   rotate_left
   ·simp only [PN]
    rfl
   refine join_ (σ := Nat × (Value × Nat)) 3 #[Y,Y,Y,Y,Y,Y,Y,Y,Y,O,O,O] (fun s => [(25, .slice (some ⟨s.1, 0, none⟩) 1 1), (26, s.2.1), (31, .slice (some ⟨s.2.2, 0, none⟩) 1 1)]) (fun s w' => w'.cell? ⟨gx, 0, none⟩ = some (.string x.1) ∧ w'.heap[gx]? = some (.cells #[.string x.1, .slice A1 x.2.length c1] 117 (0, 0)) ∧ kTL.R 310 w' w.heap.size (fun _ => True) s.2.1 (L ++ [ts]) ∧ kSt.R 219 w' w.heap.size (fun _ => True) (.slice As S.length cs) S ∧ Below w.heap.size w w' ∧ w'.heap[s.2.2]? = some (.cells #[.int .i64 1, .string x.1, .int .i64 0, .string ⟨#[]⟩, .int .i64 0, .int .i64 0] 219 (0, 0))) ?_ ?_
   rotate_left
   ·intro hCont
    refine two_ (i := 2) (j := 8) (Ni := some 25) (Nj := some 31) #[Y,Y,Y,O,Y,Y,Y,Y,O,O,O,O] #[Y,Y,O,O,Y,Y,Y,Y,Y,O,O,O] rfl rfl rfl rfl (two_of HT_.out (by kernel_rfl)) (by decide) (by decide) (fun K hK => ?_) (fun K hK => ?_)
    ·skip
     have hba_ := below_alloc (Below.refl w6.drew.heap.size w6.drew) (.cells #[.slice A6 ts.length c6] 310)
     replace HRs := Aside0.mk (Kd.R_below HRs.out hba_)
     replace HRl := Aside0.mk (Kd.R_below HRl.out hba_)
     replace HB := Aside0.mk (below_step HB.out hba_)
     replace HW := Aside0.mk (Nat.le_trans HW.out hba_.size)
     replace HG := Aside0.mk (blk_below HG.out hba_)
     replace HT := Aside0.mk (Kd.R_below HT.out hba_)
     have hcn_ := blk_new w6.drew (.cells #[.slice A6 ts.length c6] 310)
     have HC2 := Aside0.mk (show (w6.drew.alloc (.cells #[.slice A6 ts.length c6] 310)).heap[w6.heap.size]? = some (.cells #[.slice A6 ts.length c6] 310 (0, 0)) from hcn_)
     clear hcn_ hba_
     refine value_ (w1 := ?_) (v := ?_) (by rfl) rfl ?_ ?_
     rotate_left 2
     ·go_simp
      constructor
      ·rfl
      ·rfl
     refine hK.out _ _ (((blk_cell HG.out 0).trans rfl)) (fun hHeld => ?_)
     clear hK K
     refine norm_ (a' := ?_) ?_ ?_
     rotate_left
     ·show Act.put _ (some 25) _ = _
      simp only [PN]
      rfl
     refine two_ (i := 3) (j := 8) (Ni := some 26) (Nj := some 31) #[Y,Y,Y,Y,Y,Y,Y,Y,O,O,O,O] #[Y,Y,Y,O,Y,Y,Y,Y,Y,O,O,O] rfl rfl rfl rfl (two_of HT_.out (by kernel_rfl)) (by decide) (by decide) (fun K hK => ?_) (fun K hK => ?_)
     ·skip
      have HTA := Aside0.mk (Kd.R_apartR HT.out HRl.out (by decide))
      refine Kd.R_append_rows_step kTL (w0 := w) (w.heap.size) (by rfl) (.tmp 23) (.tmp 25) 307 310 (.slice none 0 0) 24 rfl Tryz.underlying307 infoTL rfl (by decide) (by omega) (.slice Al L.length cl) (L) [ts] (some ⟨w6.heap.size, 0, none⟩) 1 1 (fun _ => True) (fun kk => True ∧ some kk ≠ (Value.slice Al L.length cl).ownBlock) rfl rfl HRl.out (reads1 ts HC2.out) (fun _ _ hk => by obtain ⟨rfl, rfl⟩ := hk; exact ⟨_, rfl, HTA.out⟩) (fun _ hk => hk) (fun _ _ => trivial) HB.out HW.out (by omega) ?_
      intro vA wA hrA hbA hgA hatA
      replace HRs := Aside0.mk (Kd.R_mono (Kd.R_grown (Kd.R_apartR HRs.out HRl.out (by decide)) hgA (fun kk hk => hk.2)) (fun _ _ => trivial))
      replace HG := Aside0.mk (blk_grown HG.out hgA (Kd.R_ne HRl.out HG.out (by decide)))
      replace HRl := Aside0.mk hrA
      replace HB := Aside0.mk hbA
      replace HW := Aside0.mk hbA.size
      clear hrA hbA hgA hatA HTA
      refine hK.out _ _ (((blk_cell HG.out 0).trans rfl)) (fun hHeld => ?_)
      clear hK K
      refine norm_ (a' := ?_) ?_ ?_
      rotate_left
      ·show Act.put _ (some 26) _ = _
       simp only [PN]
       rfl
      refine one_ (i := 8) (N := some 31) #[Y,Y,Y,Y,Y,Y,Y,Y,Y,O,O,O] rfl rfl (one_of HT_.out (by kernel_rfl)) (by decide) (fun K hK => ?_)
      have hba_ := below_alloc (Below.refl wA.heap.size wA) (.cells #[.int .i64 1, .string x.1, .int .i64 0, .string ⟨#[]⟩, .int .i64 0, .int .i64 0] 219)
      replace HRs := Aside0.mk (Kd.R_below HRs.out hba_)
      replace HRl := Aside0.mk (Kd.R_below HRl.out hba_)
      replace HB := Aside0.mk (below_step HB.out hba_)
      replace HW := Aside0.mk (Nat.le_trans HW.out hba_.size)
      replace HG := Aside0.mk (blk_below HG.out hba_)
      have hcn_ := blk_new wA (.cells #[.int .i64 1, .string x.1, .int .i64 0, .string ⟨#[]⟩, .int .i64 0, .int .i64 0] 219)
      have HC8 := Aside0.mk (show (wA.alloc (.cells #[.int .i64 1, .string x.1, .int .i64 0, .string ⟨#[]⟩, .int .i64 0, .int .i64 0] 219)).heap[wA.heap.size]? = some (.cells #[.int .i64 1, .string x.1, .int .i64 0, .string ⟨#[]⟩, .int .i64 0, .int .i64 0] 219 (0, 0)) from hcn_)
      clear hcn_ hba_
      refine value_ (w1 := ?_) (v := ?_) (by rfl) rfl ?_ ?_
      rotate_left 2
      ·go_simp
       constructor
       ·rfl
       ·rfl
      refine hK.out _ _ (((blk_cell HG.out 0).trans rfl)) (fun hHeld => ?_)
      clear hK K
      refine norm_ (a' := ?_) ?_ ?_
      rotate_left
      ·show Act.put _ (some 31) _ = _
       simp only [PN]
       rfl
      exact norm_ (by simp only [putAll, PN]) (hCont (w6.heap.size, (vA, wA.heap.size)) _ ⟨(blk_cell HG.out 0).trans rfl, HG.out, HRl.out, HRs.out, HB.out, HC8.out⟩)
     ·skip
      have hba_ := below_alloc (Below.refl (w6.drew.alloc (.cells #[.slice A6 ts.length c6] 310)).heap.size (w6.drew.alloc (.cells #[.slice A6 ts.length c6] 310))) (.cells #[.int .i64 1, .string x.1, .int .i64 0, .string ⟨#[]⟩, .int .i64 0, .int .i64 0] 219)
      replace HRs := Aside0.mk (Kd.R_below HRs.out hba_)
      replace HRl := Aside0.mk (Kd.R_below HRl.out hba_)
      replace HB := Aside0.mk (below_step HB.out hba_)
      replace HW := Aside0.mk (Nat.le_trans HW.out hba_.size)
      replace HG := Aside0.mk (blk_below HG.out hba_)
      replace HT := Aside0.mk (Kd.R_below HT.out hba_)
      replace HC2 := Aside0.mk (blk_below HC2.out hba_)
      have hcn_ := blk_new (w6.drew.alloc (.cells #[.slice A6 ts.length c6] 310)) (.cells #[.int .i64 1, .string x.1, .int .i64 0, .string ⟨#[]⟩, .int .i64 0, .int .i64 0] 219)
      rw [show ((w6.drew.alloc (.cells #[.slice A6 ts.length c6] 310))).heap.size = w6.heap.size + 1 from (by simp : ((w6.drew.alloc (.cells #[.slice A6 ts.length c6] 310))).heap.size = w6.drew.heap.size + 1)] at hcn_
      have HC8 := Aside0.mk (show ((w6.drew.alloc (.cells #[.slice A6 ts.length c6] 310)).alloc (.cells #[.int .i64 1, .string x.1, .int .i64 0, .string ⟨#[]⟩, .int .i64 0, .int .i64 0] 219)).heap[w6.heap.size + 1]? = some (.cells #[.int .i64 1, .string x.1, .int .i64 0, .string ⟨#[]⟩, .int .i64 0, .int .i64 0] 219 (0, 0)) from hcn_)
      clear hcn_ hba_
      refine value_ (w1 := ?_) (v := ?_) (by rfl) rfl ?_ ?_
      rotate_left 2
      ·go_simp
       constructor
       ·rfl
       ·rfl
      refine hK.out _ _ (((blk_cell HG.out 0).trans rfl)) (fun hHeld => ?_)
      clear hK K
      refine norm_ (a' := ?_) ?_ ?_
      rotate_left
      ·show Act.put _ (some 31) _ = _
       simp only [PN]
       rfl
      refine one_ (i := 3) (N := some 26) #[Y,Y,Y,Y,Y,Y,Y,Y,Y,O,O,O] rfl rfl (one_of HT_.out (by kernel_rfl)) (by decide) (fun K hK => ?_)
      have HTA := Aside0.mk (Kd.R_apartR HT.out HRl.out (by decide))
      refine Kd.R_append_rows_step kTL (w0 := w) (w.heap.size) (by rfl) (.tmp 23) (.tmp 25) 307 310 (.slice none 0 0) 24 rfl Tryz.underlying307 infoTL rfl (by decide) (by omega) (.slice Al L.length cl) (L) [ts] (some ⟨w6.heap.size, 0, none⟩) 1 1 (fun _ => True) (fun kk => True ∧ some kk ≠ (Value.slice Al L.length cl).ownBlock) rfl rfl HRl.out (reads1 ts HC2.out) (fun _ _ hk => by obtain ⟨rfl, rfl⟩ := hk; exact ⟨_, rfl, HTA.out⟩) (fun _ hk => hk) (fun _ _ => trivial) HB.out HW.out (by omega) ?_
      intro vA wA hrA hbA hgA hatA
      replace HRs := Aside0.mk (Kd.R_mono (Kd.R_grown (Kd.R_apartR HRs.out HRl.out (by decide)) hgA (fun kk hk => hk.2)) (fun _ _ => trivial))
      replace HG := Aside0.mk (blk_grown HG.out hgA (Kd.R_ne HRl.out HG.out (by decide)))
      replace HC8 := Aside0.mk (blk_grown HC8.out hgA (Kd.R_ne HRl.out HC8.out (by decide)))
      replace HRl := Aside0.mk hrA
      replace HB := Aside0.mk hbA
      replace HW := Aside0.mk hbA.size
      clear hrA hbA hgA hatA HTA
      refine hK.out _ _ (((blk_cell HG.out 0).trans rfl)) (fun hHeld => ?_)
      clear hK K
      refine norm_ (a' := ?_) ?_ ?_
      rotate_left
      ·show Act.put _ (some 26) _ = _
       simp only [PN]
       rfl
      exact norm_ (by simp only [putAll, PN]) (hCont (w6.heap.size, (vA, w6.heap.size + 1)) _ ⟨(blk_cell HG.out 0).trans rfl, HG.out, HRl.out, HRs.out, HB.out, HC8.out⟩)
    ·skip
     have hba_ := below_alloc (Below.refl w6.drew.heap.size w6.drew) (.cells #[.int .i64 1, .string x.1, .int .i64 0, .string ⟨#[]⟩, .int .i64 0, .int .i64 0] 219)
     replace HRs := Aside0.mk (Kd.R_below HRs.out hba_)
     replace HRl := Aside0.mk (Kd.R_below HRl.out hba_)
     replace HB := Aside0.mk (below_step HB.out hba_)
     replace HW := Aside0.mk (Nat.le_trans HW.out hba_.size)
     replace HG := Aside0.mk (blk_below HG.out hba_)
     replace HT := Aside0.mk (Kd.R_below HT.out hba_)
     have hcn_ := blk_new w6.drew (.cells #[.int .i64 1, .string x.1, .int .i64 0, .string ⟨#[]⟩, .int .i64 0, .int .i64 0] 219)
     have HC8 := Aside0.mk (show (w6.drew.alloc (.cells #[.int .i64 1, .string x.1, .int .i64 0, .string ⟨#[]⟩, .int .i64 0, .int .i64 0] 219)).heap[w6.heap.size]? = some (.cells #[.int .i64 1, .string x.1, .int .i64 0, .string ⟨#[]⟩, .int .i64 0, .int .i64 0] 219 (0, 0)) from hcn_)
     clear hcn_ hba_
     refine value_ (w1 := ?_) (v := ?_) (by rfl) rfl ?_ ?_
     rotate_left 2
     ·go_simp
      constructor
      ·rfl
      ·rfl
     refine hK.out _ _ (((blk_cell HG.out 0).trans rfl)) (fun hHeld => ?_)
     clear hK K
     refine norm_ (a' := ?_) ?_ ?_
     rotate_left
     ·show Act.put _ (some 31) _ = _
      simp only [PN]
      rfl
     refine one_ (i := 2) (N := some 25) #[Y,Y,Y,O,Y,Y,Y,Y,Y,O,O,O] rfl rfl (one_of HT_.out (by kernel_rfl)) (by decide) (fun K hK => ?_)
     have hba_ := below_alloc (Below.refl (w6.drew.alloc (.cells #[.int .i64 1, .string x.1, .int .i64 0, .string ⟨#[]⟩, .int .i64 0, .int .i64 0] 219)).heap.size (w6.drew.alloc (.cells #[.int .i64 1, .string x.1, .int .i64 0, .string ⟨#[]⟩, .int .i64 0, .int .i64 0] 219))) (.cells #[.slice A6 ts.length c6] 310)
     replace HRs := Aside0.mk (Kd.R_below HRs.out hba_)
     replace HRl := Aside0.mk (Kd.R_below HRl.out hba_)
     replace HB := Aside0.mk (below_step HB.out hba_)
     replace HW := Aside0.mk (Nat.le_trans HW.out hba_.size)
     replace HG := Aside0.mk (blk_below HG.out hba_)
     replace HT := Aside0.mk (Kd.R_below HT.out hba_)
     replace HC8 := Aside0.mk (blk_below HC8.out hba_)
     have hcn_ := blk_new (w6.drew.alloc (.cells #[.int .i64 1, .string x.1, .int .i64 0, .string ⟨#[]⟩, .int .i64 0, .int .i64 0] 219)) (.cells #[.slice A6 ts.length c6] 310)
     rw [show ((w6.drew.alloc (.cells #[.int .i64 1, .string x.1, .int .i64 0, .string ⟨#[]⟩, .int .i64 0, .int .i64 0] 219))).heap.size = w6.heap.size + 1 from (by simp : ((w6.drew.alloc (.cells #[.int .i64 1, .string x.1, .int .i64 0, .string ⟨#[]⟩, .int .i64 0, .int .i64 0] 219))).heap.size = w6.drew.heap.size + 1)] at hcn_
     have HC2 := Aside0.mk (show ((w6.drew.alloc (.cells #[.int .i64 1, .string x.1, .int .i64 0, .string ⟨#[]⟩, .int .i64 0, .int .i64 0] 219)).alloc (.cells #[.slice A6 ts.length c6] 310)).heap[w6.heap.size + 1]? = some (.cells #[.slice A6 ts.length c6] 310 (0, 0)) from hcn_)
     clear hcn_ hba_
     refine value_ (w1 := ?_) (v := ?_) (by rfl) rfl ?_ ?_
     rotate_left 2
     ·go_simp
      constructor
      ·rfl
      ·rfl
     refine hK.out _ _ (((blk_cell HG.out 0).trans rfl)) (fun hHeld => ?_)
     clear hK K
     refine norm_ (a' := ?_) ?_ ?_
     rotate_left
     ·show Act.put _ (some 25) _ = _
      simp only [PN]
      rfl
     refine one_ (i := 3) (N := some 26) #[Y,Y,Y,Y,Y,Y,Y,Y,Y,O,O,O] rfl rfl (one_of HT_.out (by kernel_rfl)) (by decide) (fun K hK => ?_)
     have HTA := Aside0.mk (Kd.R_apartR HT.out HRl.out (by decide))
     refine Kd.R_append_rows_step kTL (w0 := w) (w.heap.size) (by rfl) (.tmp 23) (.tmp 25) 307 310 (.slice none 0 0) 24 rfl Tryz.underlying307 infoTL rfl (by decide) (by omega) (.slice Al L.length cl) (L) [ts] (some ⟨w6.heap.size + 1, 0, none⟩) 1 1 (fun _ => True) (fun kk => True ∧ some kk ≠ (Value.slice Al L.length cl).ownBlock) rfl rfl HRl.out (reads1 ts HC2.out) (fun _ _ hk => by obtain ⟨rfl, rfl⟩ := hk; exact ⟨_, rfl, HTA.out⟩) (fun _ hk => hk) (fun _ _ => trivial) HB.out HW.out (by omega) ?_
     intro vA wA hrA hbA hgA hatA
     replace HRs := Aside0.mk (Kd.R_mono (Kd.R_grown (Kd.R_apartR HRs.out HRl.out (by decide)) hgA (fun kk hk => hk.2)) (fun _ _ => trivial))
     replace HG := Aside0.mk (blk_grown HG.out hgA (Kd.R_ne HRl.out HG.out (by decide)))
     replace HC8 := Aside0.mk (blk_grown HC8.out hgA (Kd.R_ne HRl.out HC8.out (by decide)))
     replace HRl := Aside0.mk hrA
     replace HB := Aside0.mk hbA
     replace HW := Aside0.mk hbA.size
     clear hrA hbA hgA hatA HTA
     refine hK.out _ _ (((blk_cell HG.out 0).trans rfl)) (fun hHeld => ?_)
     clear hK K
     refine norm_ (a' := ?_) ?_ ?_
     rotate_left
     ·show Act.put _ (some 26) _ = _
      simp only [PN]
      rfl
     exact norm_ (by simp only [putAll, PN]) (hCont (w6.heap.size + 1, (vA, w6.heap.size)) _ ⟨(blk_cell HG.out 0).trans rfl, HG.out, HRl.out, HRs.out, HB.out, HC8.out⟩)
   rintro ⟨p1, vA, p2⟩ w7 ⟨hHeld, hg7, hl7, hs7, hb7, hc7⟩
   dsimp only at hl7 hc7
   dsimp only
   have HL7 := Aside0.mk hl7
   have HS7 := Aside0.mk hs7
   have HB7 := Aside0.mk hb7
   have HG7 := Aside0.mk hg7
   have HC7 := Aside0.mk hc7
   have HW7 := Aside0.mk hb7.size
   clear hl7 hs7 hb7 hg7 hc7
   refine norm_ (a' := ?_) ?_ ?_
   rotate_left
   ·simp only [putAll, PN]
    rfl
   refine last_ (i := 9) (N := some 32) #[Y,Y,Y,Y,Y,Y,Y,Y,Y,Y,O,O] rfl rfl (one_of HT_.out (by kernel_rfl)) (by decide) (fun K hK => ?_)
   refine Kd.R_append_rows_step kSt (w0 := w) (w.heap.size) (by rfl) (.tmp 27) (.tmp 31) 47 219 (.agg #[.int .i64 0, .string ⟨#[]⟩, .int .i64 0, .string ⟨#[]⟩, .int .i64 0, .int .i64 0]) 64 rfl Tryz.underlying47 infoSt rfl (by decide) (by omega) (.slice As S.length cs) (S) [((1, (x.1, 0)), ((⟨#[]⟩ : ByteArray), ((0 : Int), (0 : Int))))] (some ⟨p2, 0, none⟩) 1 1 (fun _ => True) (fun _ => False) rfl rfl HS7.out (reads1 ((1, (x.1, 0)), ((⟨#[]⟩ : ByteArray), ((0 : Int), (0 : Int)))) HC7.out) (fun _ _ hk => by obtain ⟨rfl, rfl⟩ := hk; exact (kSt_mkM _)) (fun _ hk => hk.elim) (fun _ _ => trivial) HB7.out HW7.out (by omega) ?_
   intro vB wB hrB hbB hgB hatB
   have HL8 := Aside0.mk (Kd.R_mono (Kd.R_grown (Kd.R_apartR HL7.out HS7.out (by decide)) hgB (fun kk hk => hk.2)) (fun _ _ => trivial))
   have HS8 := Aside0.mk hrB
   have HB8 := Aside0.mk hbB
   clear hrB hbB hgB hatB HL7 HS7 HB7 HG7 HC7
   refine hK.out _ _ ?_
   clear hK K
   refine norm_ (a' := ?_) ?_ ?_
   rotate_left
   ·show Act.put _ (some 32) _ = _
    simp only [PN]
    rfl
   refine pure_ (i := 10) (N := some 4) (v := ?_) (a' := ?_) #[Y,Y,Y,Y,Y,Y,Y,Y,Y,Y,Y,O] rfl rfl (any_of HT_.out (by kernel_rfl)) (fun _ _ _ h => h) (Or.inl ⟨by rfl, ?_⟩) ?_ ?_
   rotate_left
   ·intro w'
    go_simp
    with_reducible rfl
   rotate_left
   ·simp only [PN]
    rfl
   refine pure_ (i := 11) (N := some 5) (v := ?_) (a' := ?_) #[Y,Y,Y,Y,Y,Y,Y,Y,Y,Y,Y,Y] rfl rfl (any_of HT_.out (by kernel_rfl)) (fun _ _ _ h => h) (Or.inl ⟨by rfl, ?_⟩) ?_ ?_
   rotate_left
   ·intro w'
    go_simp
    with_reducible rfl
   rotate_left
   ·simp only [PN]
    rfl
   refine done_ (done_of HT_.out (by kernel_rfl)) ?_
   clear hHeld hLb
   have HFN := Aside0.mk (HF.out.snoc (by have := HLL.out; omega) (by rw [HLL.out.1, HXE.out]; exact HTS.out))
   have a9 := HA9.out
   go_wp2
   go_roundw
   case rel => exact ⟨i + 1, L ++ [ts], _, by go_num, hlt, by have := HLL.out; simp; omega, by have := HLL.out; simp; omega, HFN, HL8, HS8, HB8⟩
   case measure => first | (rw [a9]; exact meas _ _ hlt) | exact meas _ _ hlt
  ·have q0 : decide ((i : Int) < (xs.length : Int)) = false := decide_eq_false (by omega)
   have HE := Aside0.mk (show S.length = L.length ∧ L.length = xs.length by omega)
   clear hi hL hS hll
   go_wp2
   go_ret2
   exact ⟨_, L, _, S, rfl, HRL.out, HF.out, HRS.out, HE.out.1, HE.out.2, HB.out⟩
structure Frm (F : Nat → Prop) (w w' : World) : Prop where
 os : w'.os = w.os
 tape : w'.tape = w.tape
 output : w'.output = w.output
 size : w.heap.size ≤ w'.heap.size
 keep : ∀ k, k < w.heap.size → ¬ F k → w'.heap[k]? = w.heap[k]?
theorem Frm.refl (F : Nat → Prop) (w : World) : Frm F w w := ⟨rfl, rfl, rfl, Nat.le_refl _, fun _ _ _ => rfl⟩
theorem Frm.below {F : Nat → Prop} {w w' : World} (h : Below w.heap.size w w') : Frm F w w' := ⟨h.os, h.tape, h.output, h.size, fun k hk _ => h.block k hk⟩
theorem Frm.grown {F : Nat → Prop} {w w' : World} {r : Option Nat} (h : w.grownBy w' r) (hr : ∀ k, r = some k → F k) : Frm F w w' := ⟨h.os, h.tape, h.output, h.size, fun k hk hn => h.block k hk (fun e => hn (hr k e.symm))⟩
theorem Frm.trans {F G : Nat → Prop} {a b c : World} (h : Frm F a b) (k : Frm G b c) (hG : ∀ i, i < a.heap.size → G i → F i) : Frm F a c :=
 ⟨k.os.trans h.os, k.tape.trans h.tape, k.output.trans h.output, Nat.le_trans h.size k.size, fun i hi hn => (k.keep i (Nat.lt_of_lt_of_le hi h.size) (fun e => hn (hG i hi e))).trans (h.keep i hi hn)⟩
theorem Frm.blk {F : Nat → Prop} {w w' : World} {g : Nat} {o : Obj} (h : Frm F w w') (hb : w.heap[g]? = some o) (hg : ¬ F g) : w'.heap[g]? = some o := (h.keep g (blk_lt hb) hg).trans hb
def qcs (v : Nat → Value) : Array Value := #[v 0, v 1, v 2, v 3, v 4, v 5, v 6, v 7, v 8]
structure TQ (N0 : Nat) (w : World) (g gq : Nat) (v : Nat → Value) (q : Nat → List ByteArray) (last : Int) : Prop where
 hg : N0 ≤ g
 hq : N0 ≤ gq
 blk : w.heap[g]? = some (.cells #[.slice (some ⟨gq, 0, none⟩) 9 9, .int .i64 last] 232 (0, 0))
 row : w.heap[gq]? = some (.cells (qcs v) 324 (0, 0))
 own : ∀ i, i < 9 → Kd.string.Q 9 w N0 (fun _ => True) (v i) (q i)
 sep : ∀ i j, i < 9 → j < 9 → i ≠ j → ∀ k, (v i).ownBlock = some k → (v j).ownBlock ≠ some k
 l0 : 0 ≤ last
 l8 : last ≤ 8
def TQ.foot (g gq : Nat) (v : Nat → Value) (k : Nat) : Prop := k = g ∨ k = gq ∨ ∃ i, i < 9 ∧ (v i).ownBlock = some k
section
variable {N0 : Nat} {w w' : World} {g gq : Nat} {v : Nat → Value} {q : Nat → List ByteArray} {last : Int}
theorem TQ.frm {F : Nat → Prop} (h : TQ N0 w g gq v q last) (hf : Frm F w w') (hF : ∀ k, TQ.foot g gq v k → ¬ F k) : TQ N0 w' g gq v q last :=
 ⟨h.hg, h.hq, hf.blk h.blk (hF _ (.inl rfl)), hf.blk h.row (hF _ (.inr (.inl rfl))), fun i hi => by
  refine Kd.Q_mono (Kd.Q_move (Kd.Q_bound (Kd.Q_tight rfl (h.own i hi))) (fun k hk => hf.keep k hk.2.2.1 (hF k (.inr (.inr ⟨i, hi, hk.1.symm⟩))))) (fun _ _ => trivial), h.sep, h.l0, h.l8⟩
theorem TQ.below (h : TQ N0 w g gq v q last) (hb : Below w.heap.size w w') : TQ N0 w' g gq v q last := h.frm (F := fun _ => False) (Frm.below hb) (fun _ _ h => h)
theorem TQ.at (h : TQ N0 w g gq v q last) (i : Nat) (hi : i < 9) : w.cell? ⟨gq, i, none⟩ = some (v i) := by
 rcases (show i = 0 ∨ i = 1 ∨ i = 2 ∨ i = 3 ∨ i = 4 ∨ i = 5 ∨ i = 6 ∨ i = 7 ∨ i = 8 by omega) with rfl | rfl | rfl | rfl | rfl | rfl | rfl | rfl | rfl <;> exact (blk_cell h.row _).trans rfl
def updV (v : Nat → Value) (i : Nat) (x : Value) : Nat → Value := fun j => if j = i then x else v j
def updQ (q : Nat → List ByteArray) (i : Nat) (x : List ByteArray) : Nat → List ByteArray := fun j => if j = i then x else q j
theorem qcs_set (v : Nat → Value) (i : Nat) (hi : i < 9) (x : Value) : (qcs v).setIfInBounds i x = qcs (updV v i x) := by
 rcases (show i = 0 ∨ i = 1 ∨ i = 2 ∨ i = 3 ∨ i = 4 ∨ i = 5 ∨ i = 6 ∨ i = 7 ∨ i = 8 by omega) with rfl | rfl | rfl | rfl | rfl | rfl | rfl | rfl | rfl <;> rfl
theorem turn.at.calls (h : TQ N0 w g gq v q last) (i : Nat) (hi : i < 9) : Calls Tryz.prog 201 #[.pointer (some ⟨g, 0, none⟩), .int .i64 (i : Int)] w fun e w' => e = .returned (.pointer (some ⟨gq, i, none⟩)) ∧ w' = w := by
 have c0 := (blk_cell h.blk 0).trans rfl
 have q0 : decide ((i : Int) < 0) = false := decide_eq_false (by omega)
 have q1 : decide ((9 : Int) ≤ (i : Int)) = false := decide_eq_false (by omega)
 have q2 : (0 : Int) ≤ (i : Int) := by omega
 have q3 : (i : Int) < 9 := by omega
 clear h
 go_enter Tryz.func201, Tryz.ntmps201
 go_wp2
 go_ret
 exact ⟨rfl, rfl⟩
theorem TQ.put (h : TQ N0 w g gq v q last) (i : Nat) (hi : i < 9) (x : Value) (xs : List ByteArray) (hx : Kd.string.Q 9 w N0 (fun _ => True) x xs) (hs : ∀ j, j < 9 → j ≠ i → ∀ k, x.ownBlock = some k → (v j).ownBlock ≠ some k) : TQ N0 (w.setCell ⟨gq, i, none⟩ x) g gq (updV v i x) (updQ q i xs) last ∧ w.grownBy (w.setCell ⟨gq, i, none⟩ x) (some gq) := by
 have hgr := grown_set w gq i x
 have hne : g ≠ gq := blk_ne h.blk h.row (by decide)
 refine ⟨⟨h.hg, h.hq, blk_grown h.blk hgr (fun e => by injection e with e; exact hne e), blk_put h.row i x (qcs_set v i hi x), ?_, ?_, h.l0, h.l8⟩, hgr⟩
 ·intro j hj
  unfold updV updQ
  by_cases e : j = i
  ·rw [if_pos e, if_pos e]
   exact Kd.Q_set hx h.row (by decide) i x
  ·rw [if_neg e, if_neg e]
   exact Kd.Q_set (h.own j hj) h.row (by decide) i x
 ·intro a b ha hb hab k hk
  unfold updV at hk ⊢
  by_cases ea : a = i
  ·rw [if_pos ea] at hk
   rw [if_neg (by omega)]
   exact hs b hb (by omega) k hk
  ·rw [if_neg ea] at hk
   by_cases eb : b = i
   ·rw [if_pos eb]
    intro e
    exact hs a ha ea k e hk
   ·rw [if_neg eb]
    exact h.sep a b ha hb hab k hk
theorem TQ.app {w9 : World} {v9 : Value} {xs : List ByteArray} (h : TQ N0 w g gq v q last) (i : Nat) (hi : i < 9) (hx : Kd.string.Q 9 w9 N0 (fun _ => True) v9 xs) (hg9 : w.grownBy w9 (v i).ownBlock) (hat : v9.ownBlock = (v i).ownBlock ∨ ∃ b, v9.ownBlock = some b ∧ w.heap.size ≤ b) :
  w9.cell? ⟨gq, i, none⟩ = some (v i) ∧ w9.frozen? ⟨gq, i, none⟩ = false ∧ TQ N0 (w9.setCell ⟨gq, i, none⟩ v9) g gq (updV v i v9) (updQ q i xs) last ∧ Frm (TQ.foot g gq v) w (w9.setCell ⟨gq, i, none⟩ v9) := by
 have hgr := grown_set w9 gq i v9
 have hne : g ≠ gq := blk_ne h.blk h.row (by decide)
 have b1 := blk_grown h.blk hg9 (Kd.Q_ne (h.own i hi) h.blk (by decide))
 have b2 := blk_grown h.row hg9 (Kd.Q_ne (h.own i hi) h.row (by decide))
 have ho : ∀ j, j < 9 → j ≠ i → Kd.string.Q 9 w9 N0 (fun _ => True) (v j) (q j) := fun j hj hji => by
  refine Kd.Q_mono (Kd.Q_grown (Kd.Q_tight rfl (h.own j hj)) hg9 (fun k hk => ?_)) (fun _ _ => trivial)
  intro e
  exact h.sep i j hi hj (Ne.symm hji) k e.symm hk.symm
 have hs : ∀ j, j < 9 → j ≠ i → ∀ k, v9.ownBlock = some k → (v j).ownBlock ≠ some k := by
  intro j hj hji k hk
  rcases hat with hat | ⟨b, hb, hle⟩
  ·exact h.sep i j hi hj (Ne.symm hji) k (hat ▸ hk)
  ·intro e
   have := Kd.Q_lt (h.own j hj) k e
   rw [hb] at hk
   injection hk with hk
   omega
 have c9 : w9.cell? ⟨gq, i, none⟩ = some (v i) := by
  rcases (show i = 0 ∨ i = 1 ∨ i = 2 ∨ i = 3 ∨ i = 4 ∨ i = 5 ∨ i = 6 ∨ i = 7 ∨ i = 8 by omega) with rfl | rfl | rfl | rfl | rfl | rfl | rfl | rfl | rfl <;> exact (blk_cell b2 _).trans rfl
 refine ⟨c9, blk_frozen b2 i, ⟨h.hg, h.hq, blk_grown b1 hgr (fun e => by injection e with e; exact hne e), blk_put b2 i v9 (qcs_set v i hi v9), ?_, ?_, h.l0, h.l8⟩, ?_⟩
 ·intro j hj
  unfold updV updQ
  by_cases e : j = i
  ·rw [if_pos e, if_pos e]
   exact Kd.Q_set hx b2 (by decide) i v9
  ·rw [if_neg e, if_neg e]
   exact Kd.Q_set (ho j hj e) b2 (by decide) i v9
 ·intro a b ha hb hab k hk
  unfold updV at hk ⊢
  by_cases ea : a = i
  ·rw [if_pos ea] at hk
   rw [if_neg (by omega)]
   exact hs b hb (by omega) k hk
  ·rw [if_neg ea] at hk
   by_cases eb : b = i
   ·rw [if_pos eb]
    intro e
    exact hs a ha ea k e hk
   ·rw [if_neg eb]
    exact h.sep a b ha hb hab k hk
 ·exact (Frm.grown (F := TQ.foot g gq v) hg9 (fun k hk => .inr (.inr ⟨i, hi, hk⟩))).trans (Frm.grown (F := TQ.foot g gq v) hgr (fun k hk => by injection hk with hk; exact .inr (.inl hk.symm))) (fun _ _ h => h)
theorem strAt (l : List ByteArray) (i : Nat) (h : i < l.length) : rdOf ByteArray.empty l (i : Int) = l[i] := by
 unfold rdOf; simp [List.getD, h]
theorem idxStr.calls (A : Option Addr) (c : Nat) (l : List ByteArray) (x : ByteArray) (w : World) (hr : Kd.C Kd.string w A l.length l) (hl : l.length ≤ 100000) : Calls Tryz.prog 314 #[.slice A l.length c, .string x] w fun e w' => (∃ r : Int, e = .returned (.int .i64 r)) ∧ Below w.heap.size w w' := by
 have HR := Aside0.mk hr
 have HL := Aside0.mk hl
 clear hr hl
 go_enter Tryz.func314, Tryz.ntmps314
 go_wp2
 go_loopw [8] (fun iv wr => ∃ i : Nat, iv = .int .i64 (i : Int) ∧ i ≤ l.length ∧ wr = w) (fun iv _ => l.length - (intOf iv).toNat)
 case atStart => exact ⟨0, rfl, by omega, rfl⟩
 case round =>
  obtain ⟨i, rfl, hi, rfl⟩ := hrel
  by_cases hil : i < l.length
  ·have q0 : decide ((i : Int) < (l.length : Int)) = true := decide_eq_true (by omega)
   have r0 : (0 : Int) ≤ (i : Int) := by omega
   have r1 : (i : Int) < (l.length : Int) := by omega
   have hl1 := HL.out
   have a9 : wrap64 ((i : Int) + 1) = (i : Int) + 1 := wrap_id (by omega) (by omega)
   obtain ⟨ad, ea, hx⟩ := Kd.at_string HR.out (i : Int) r0 r1
   cases ea
   rw [Int.toNat_natCast] at hx
   generalize rdOf ByteArray.empty l (i : Int) = y at hx
   by_cases he : x = y
   ·have e1 : (x.toList == y.toList) = true := by rw [he]; exact beq_self_eq_true _
    clear he
    go_wp2
    go_ret
    exact ⟨⟨_, rfl⟩, Below.refl _ _⟩
   ·have e1 : (x.toList == y.toList) = false := beq_eq_false_iff_ne.2 (toList_ne he)
    clear he
    go_wp2
    go_roundw
    case rel => exact ⟨i + 1, by go_num, by omega, trivial⟩
    case measure => simp [intOf]; omega
  ·have q0 : decide ((i : Int) < (l.length : Int)) = false := decide_eq_false (by omega)
   go_wp2
   go_ret
   exact ⟨⟨_, rfl⟩, Below.refl _ _⟩
theorem contains.calls (A : Option Addr) (c : Nat) (l : List ByteArray) (x : ByteArray) (w : World) (hr : Kd.C Kd.string w A l.length l) (hl : l.length ≤ 100000) : Calls Tryz.prog 255 #[.slice A l.length c, .string x] w fun e w' => (∃ b : Bool, e = .returned (.bool b)) ∧ Below w.heap.size w w' := by
 go_enter Tryz.func255, Tryz.ntmps255
 go_wp2_with fail
 refine (idxStr.calls A c l x w hr hl).mono ?_
 rintro e w4 ⟨⟨r, rfl⟩, hb⟩
 have HB := Aside0.mk hb
 clear hb hr
 go_wp2
 go_ret
 exact ⟨⟨_, rfl⟩, HB.out⟩
set_option maxHeartbeats 4000000 in
set_option maxRecDepth 100000 in
theorem turn.push.calls (h : TQ N0 w g gq v q last) (i : Nat) (hi : i < 9) (hql : (q i).length ≤ 90000) (x : ByteArray) : Calls Tryz.prog 202 #[.pointer (some ⟨gq, i, none⟩), .string x] w fun e w' => (∃ b : Bool, e = .returned (.bool b)) ∧ (∃ v' q', TQ N0 w' g gq v' q' last ∧ (∀ j, j < 9 → (q' j).length ≤ (q j).length + 1 ∧ ∀ z ∈ q' j, z ∈ q j ∨ z = x) ∧ (∀ j, j < 9 → ∀ k, (v' j).ownBlock = some k → TQ.foot g gq v k ∨ w.heap.size ≤ k)) ∧ Frm (TQ.foot g gq v) w w' := by
 have H := Aside0.mk h
 have HL := Aside0.mk hql
 have hN := Nat.le_trans h.hg (Nat.le_of_lt (blk_lt h.blk))
 have c0 := h.at i hi
 obtain ⟨A, c, e, hl⟩ := Kd.Q_slice (h.own i hi)
 have HE := Aside0.mk e
 rw [e] at c0
 have HRD := Aside0.mk (show Kd.C Kd.string w A (q i).length (q i) from by have h2 := h.own i hi; rw [e] at h2; exact (Kd.Q_reads' h2).2.2)
 clear h e hql
 go_enter Tryz.func202, Tryz.ntmps202
 go_wp2_with fail
 refine (contains.calls A c (q i) x w HRD.out (by have := HL.out; omega)).mono ?_
 rintro e w4 ⟨⟨b, rfl⟩, hb4⟩
 have HT := Aside0.mk (H.out.below hb4)
 have HF4 := Aside0.mk (Frm.below (F := TQ.foot g gq v) hb4)
 have HB0 := Aside0.mk (show Below N0 w4 w4 from Below.refl _ _)
 have HN4 := Aside0.mk (Nat.le_trans hN hb4.size)
 have HO := Aside0.mk (show Kd.string.Q 9 w4 N0 (fun _ => True) (.slice A (q i).length c) (q i) from by have h2 := HT.out.own i hi; rw [HE.out] at h2; exact h2)
 have c4 := HT.out.at i hi
 rw [HE.out] at c4
 clear hb4 c0 hl HRD
 cases b with
 | true =>
  go_wp2
  go_ret
  exact ⟨⟨_, rfl⟩, ⟨v, q, HT.out, fun j _ => ⟨by omega, fun z hz => .inl hz⟩, fun j hj k hk => .inl (.inr (.inr ⟨j, hj, hk⟩))⟩, HF4.out⟩
 | false =>
  go_wp2_with (first | ((with_reducible refine gate_builtin (b := .append) (xs := #[.tmp 15, .tmp 17]) rfl ?_); at_builtin; refine Kd.Q_append Kd.string (w0 := w4) N0 rfl (.tmp 15) (.tmp 17) 193 9 (.string ⟨#[]⟩) 16 rfl Tryz.underlying193 infoStr rfl (by decide) (by omega) (.slice A (q i).length c) (q i) x [.string x] (fun _ => True) (fun _ => False) rfl rfl rfl (fun _ hk => hk.elim) (fun _ _ => trivial) HO.out HB0.out HN4.out (by have := HL.out; simp; omega) ?_; intro v9 w9 hr9 hb9 hg9 hat9; obtain ⟨A9, c10, e9, hl9⟩ := Kd.Q_slice hr9; subst e9; rw [← HE.out] at hg9 hat9; obtain ⟨c9, f9, ht9, hm9⟩ := HT.out.app i hi hr9 hg9 hat9; rw [HE.out] at c9; have n2_ := Aside0.mk hat9; have n0_ := Aside0.mk ht9; have n1_ := Aside0.mk hm9; clear hr9 hb9 hg9 hat9 ht9 hm9))
  go_ret
  have h0 := n0_.out
  have h1 := n1_.out
  have h2 := n2_.out
  simp only [List.length_append, List.length_singleton] at h0 h1 h2
  refine ⟨⟨_, rfl⟩, ⟨_, _, h0, ?_, ?_⟩, HF4.out.trans h1 (fun _ _ h => h)⟩
  ·intro j hj
   unfold updQ
   by_cases e : j = i
   ·rw [if_pos e, e]
    refine ⟨by simp, fun z hz => ?_⟩
    rcases List.mem_append.1 hz with hz | hz
    ·exact .inl hz
    ·exact .inr (List.mem_singleton.1 hz)
   ·rw [if_neg e]
    exact ⟨by omega, fun z hz => .inl hz⟩
  ·intro j hj k hk
   unfold updV at hk
   by_cases e : j = i
   ·rw [if_pos e] at hk
    rcases h2 with hh | ⟨b, hb, hle⟩
    ·exact .inl (.inr (.inr ⟨i, hi, hh ▸ hk⟩))
    ·rw [hb] at hk
     injection hk with hk
     have := HF4.out.size
     exact .inr (by omega)
   ·rw [if_neg e] at hk
    exact .inl (.inr (.inr ⟨j, hj, hk⟩))
theorem turn.Push.calls (h : TQ N0 w g gq v q last) (i : Nat) (hi : i < 9) (hql : (q i).length ≤ 90000) (x : ByteArray) : Calls Tryz.prog 148 #[.pointer (some ⟨g, 0, none⟩), .int .i64 (i : Int), .string x] w fun e w' => (∃ b : Bool, e = .returned (.bool b)) ∧ (∃ v' q', TQ N0 w' g gq v' q' last ∧ (∀ j, j < 9 → (q' j).length ≤ (q j).length + 1 ∧ ∀ z ∈ q' j, z ∈ q j ∨ z = x) ∧ (∀ j, j < 9 → ∀ k, (v' j).ownBlock = some k → TQ.foot g gq v k ∨ w.heap.size ≤ k)) ∧ Frm (TQ.foot g gq v) w w' := by
 have H := Aside0.mk h
 have HL := Aside0.mk hql
 clear h hql
 go_enter Tryz.func148, Tryz.ntmps148
 go_wp2_with fail
 refine (turn.at.calls H.out i hi).mono ?_
 rintro e w4 ⟨rfl, rfl⟩
 go_wp2_with fail
 refine (turn.push.calls H.out i hi HL.out x).mono ?_
 rintro e w5 ⟨⟨b, rfl⟩, hh⟩
 have HF := Aside0.mk hh
 clear hh
 go_wp2
 go_ret
 exact ⟨⟨_, rfl⟩, HF.out⟩
theorem turn.pop.calls (h : TQ N0 w g gq v q last) (i : Nat) (hi : i < 9) (x : ByteArray) (xs : List ByteArray) (hx : q i = x :: xs) : Calls Tryz.prog 225 #[.pointer (some ⟨gq, i, none⟩)] w fun e w' => e = .returned (.string x) ∧ (∃ v', TQ N0 w' g gq v' (updQ q i xs) last ∧ (∀ j, j < 9 → ∀ k, (v' j).ownBlock = some k → TQ.foot g gq v k)) ∧ w.grownBy w' (some gq) := by
 have ho := h.own i hi
 rw [hx] at ho
 obtain ⟨gr, o, c, e, hg1, hg2, cells, hc⟩ := Kd.Q_form ho (by simp)
 rw [e] at ho
 have hdr := Kd.Q_drop (k := 1) ho (by simp)
 have hcell := (Kd.Q_cell ByteArray.empty ho 0 (by omega) (by simp)).1
 rw [show rdOf ByteArray.empty (x :: xs) 0 = x from rfl, show o + (0 : Int).toNat = o from rfl] at hcell
 have hlc : (1 : Int) ≤ (c : Int) := by have := (Kd.Q_reads' ho).2.1; simp at this; omega
 have hlx : (1 : Int) ≤ (xs.length : Int) + 1 := by omega
 have c0 := h.at i hi
 rw [e] at c0
 have f0 := blk_frozen h.row i
 have hob : (v i).ownBlock = some gr := by rw [e]; rfl
 have hend : ∀ (o' c' : Nat), Kd.string.Q 9 w N0 (fun _ => True) (.slice (some ⟨gr, o', none⟩) xs.length c') xs → ∃ v', TQ N0 (w.setCell ⟨gq, i, none⟩ (.slice (some ⟨gr, o', none⟩) xs.length c')) g gq v' (updQ q i xs) last ∧ (∀ j, j < 9 → ∀ k, (v' j).ownBlock = some k → TQ.foot g gq v k) := by
  intro o' c' hq
  refine ⟨_, (h.put i hi _ xs hq (fun j hj hji k hk => h.sep i j hi hj (Ne.symm hji) k (hob.trans hk))).1, ?_⟩
  intro j hj k hk
  unfold updV at hk
  by_cases ej : j = i
  ·rw [if_pos ej] at hk
   exact .inr (.inr ⟨i, hi, hob.trans hk⟩)
  ·rw [if_neg ej] at hk
   exact .inr (.inr ⟨j, hj, hk⟩)
 have HEND := Aside0.mk hend
 have HD := Aside0.mk hdr
 clear hdr e ho h hc hg1 hg2 hend hob
 by_cases hc1 : c = 1
 ·subst hc1
  have hd : Kd.string.Q 9 w N0 (fun _ => True) (.slice (some ⟨gr, o, none⟩) xs.length 0) xs := by
   have h := HD.out
   simpa using h
  have HF := Aside0.mk (HEND.out _ _ hd)
  have HG := Aside0.mk (grown_set w gq i (.slice (some ⟨gr, o, none⟩) xs.length 0))
  clear hd HD
  go_enter Tryz.func225, Tryz.ntmps225
  go_wp2
  go_ret
  exact ⟨rfl, HF.out, HG.out⟩
 ·have hd : Kd.string.Q 9 w N0 (fun _ => True) (.slice (some ⟨gr, o + 1, none⟩) xs.length (c - 1)) xs := by
   have h := HD.out
   rw [if_neg hc1] at h
   simpa [Addr.add, Kd.string, Kd.scalar] using h
  have HF := Aside0.mk (HEND.out _ _ hd)
  have HG := Aside0.mk (grown_set w gq i (.slice (some ⟨gr, o + 1, none⟩) xs.length (c - 1)))
  clear hd HD
  have hne : ¬ (1 : Int) = (c : Int) := by omega
  go_enter Tryz.func225, Tryz.ntmps225
  go_wp2
  go_ret
  exact ⟨rfl, HF.out, HG.out⟩
theorem turn.clear.calls (h : TQ N0 w g gq v q last) (i : Nat) (hi : i < 9) : Calls Tryz.prog 250 #[.pointer (some ⟨gq, i, none⟩)] w fun e w' => e = .returned (.int .i64 ((q i).length : Int)) ∧ TQ N0 w' g gq (updV v i (.slice none 0 0)) (updQ q i []) last ∧ w.grownBy w' (some gq) := by
 have HP := Aside0.mk (h.put i hi (.slice none 0 0) [] (Kd.Q_nil _ _ _ _ _) (fun j _ _ k hk => by simp [Value.ownBlock] at hk))
 have c0 := h.at i hi
 have f0 := blk_frozen h.row i
 obtain ⟨A, c, e, hl⟩ := Kd.Q_slice (h.own i hi)
 rw [e] at c0
 clear h e
 go_enter Tryz.func250, Tryz.ntmps250
 go_wp2
 go_ret
 exact ⟨rfl, HP.out⟩
theorem turn.Clear.calls (h : TQ N0 w g gq v q last) (i : Nat) (hi : i < 9) : Calls Tryz.prog 198 #[.pointer (some ⟨g, 0, none⟩), .int .i64 (i : Int)] w fun e w' => (∃ r : Int, e = .returned (.int .i64 r)) ∧ TQ N0 w' g gq (updV v i (.slice none 0 0)) (updQ q i []) last ∧ w.grownBy w' (some gq) := by
 have H := Aside0.mk h
 clear h
 go_enter Tryz.func198, Tryz.ntmps198
 go_wp2_with fail
 refine (turn.at.calls H.out i hi).mono ?_
 rintro e w4 ⟨rfl, rfl⟩
 go_wp2_with fail
 refine (turn.clear.calls H.out i hi).mono ?_
 rintro e w5 ⟨rfl, hh⟩
 have HF := Aside0.mk hh
 clear hh
 go_wp2
 go_ret
 exact ⟨⟨_, rfl⟩, HF.out⟩
theorem TQ.turned (h : TQ N0 w g gq v q last) (l : Int) (h0 : 0 ≤ l) (h8 : l ≤ 8) : TQ N0 (w.setCell ⟨g, 1, none⟩ (.int .i64 l)) g gq v q l := by
 have hgr := grown_set w g 1 (.int .i64 l)
 have hne : g ≠ gq := blk_ne h.blk h.row (by decide)
 exact ⟨h.hg, h.hq, blk_put h.blk 1 _ rfl, blk_grown h.row hgr (fun e => by injection e with e; exact hne e.symm), fun i hi => Kd.Q_set (h.own i hi) h.blk (by decide) 1 _, h.sep, h0, h8⟩
set_option maxHeartbeats 4000000 in
set_option maxRecDepth 100000 in
theorem turn.Pop.calls (h : TQ N0 w g gq v q last) : Calls Tryz.prog 164 #[.pointer (some ⟨g, 0, none⟩)] w fun e w' =>
  (e = .returned (.tuple #[.int .i64 0, .string ⟨#[]⟩, .bool false]) ∧ Below w.heap.size w w') ∨
  (∃ (c : Nat) (x : ByteArray) (xs : List ByteArray), c < 9 ∧ q c = x :: xs ∧ e = .returned (.tuple #[.int .i64 (c : Int), .string x, .bool true]) ∧ (∃ v', TQ N0 w' g gq v' (updQ q c xs) (c : Int) ∧ (∀ j, j < 9 → ∀ k, (v' j).ownBlock = some k → TQ.foot g gq v k)) ∧ Frm (TQ.foot g gq v) w w') := by
 have H := Aside0.mk h
 have c0 := (blk_cell h.blk 0).trans rfl
 clear h
 go_enter Tryz.func164, Tryz.ntmps164
 go_wp2
 clear c0
 go_loopw [14] (fun iv wr => ∃ i k : Nat, iv = .int .i64 (i : Int) ∧ i ≤ 9 ∧ wr = w.drewN k) (fun iv _ => 9 - (intOf iv).toNat)
 case atStart => exact ⟨0, 0, rfl, by omega, rfl⟩
 case round =>
  obtain ⟨i, k, rfl, hi, rfl⟩ := hrel
  have HB := Aside0.mk (show Below w.heap.size w (w.drewN k) from pw_below_drewN (Below.refl _ _) _)
  by_cases hil : i < 9
  ·have q0 : decide ((i : Int) < 9) = true := decide_eq_true (by omega)
   have b0 := (blk_cell H.out.blk 0).trans rfl
   have b1 := (blk_cell H.out.blk 1).trans rfl
   have hl0 := H.out.l0
   have hl8 := H.out.l8
   obtain ⟨c, hc⟩ : ∃ c : Nat, (last + 1 + (i : Int)).tmod 9 = (c : Int) := ⟨((last + 1 + (i : Int)).tmod 9).toNat, by rw [Int.tmod_eq_emod_of_nonneg (by omega)]; omega⟩
   have hc9 : c < 9 := by rw [Int.tmod_eq_emod_of_nonneg (by omega)] at hc; omega
   have a1 : wrap64 (last + 1) = last + 1 := wrap_id (by omega) (by omega)
   have a2 : wrap64 (last + 1 + (i : Int)) = last + 1 + (i : Int) := wrap_id (by omega) (by omega)
   have a3 : IntKind.i64.wrap (c : Int) = (c : Int) := by rw [IntKind.wrap_i64]; omega
   have a4 : wrap64 (c : Int) = (c : Int) := wrap_id (by omega) (by omega)
   have a9 : wrap64 ((i : Int) + 1) = (i : Int) + 1 := wrap_id (by omega) (by omega)
   have r0 : (0 : Int) ≤ (c : Int) := by omega
   have r1 : (c : Int) < 9 := by omega
   obtain ⟨A, cp, e, hl⟩ := Kd.Q_slice (H.out.own c hc9)
   have d0 := H.out.at c hc9
   rw [e] at d0
   clear hl0 hl8 e
   go_wp2
   go_quiet (fail)
   have HB2 := Aside0.mk (show Below w.heap.size w ((w.drewN k).drewN nq) from pw_below_drewN HB.out _)
   clear a1 a2 hc HB
   cases hq : q c with
   | nil =>
    rw [hq] at d0
    have t0 : decide (0 < (([] : List ByteArray).length : Int)) = false := rfl
    go_wp2
    go_roundw
    case rel => exact ⟨i + 1, k + nq, by go_num, by omega, rfl⟩
    case measure => simp [intOf]; omega
   | cons x xs =>
    rw [hq] at d0
    have t0 : decide ((0 : Int) < (((x :: xs).length : Nat) : Int)) = true := decide_eq_true (by simp)
    have HT := Aside0.mk (H.out.below HB2.out)
    have HT2 := Aside0.mk (HT.out.turned (c : Int) (by omega) (by omega))
    have HFR := Aside0.mk ((Frm.below (F := TQ.foot g gq v) HB2.out).trans (Frm.grown (F := TQ.foot g gq v) (grown_set ((w.drewN k).drewN nq) g 1 (.int .i64 (c : Int))) (fun k hk => by injection hk with hk; exact .inl hk.symm)) (fun _ _ h => h))
    have HQ := Aside0.mk hq
    have f1 := blk_frozen H.out.blk 1
    have hne : g ≠ gq := blk_ne H.out.blk H.out.row (by decide)
    have e0 := (blk_cell HT2.out.blk 0).trans rfl
    clear hq
    go_upto_region 9 with fail
    have HT3 := Aside0.mk (show TQ N0 ((w.drewN (k + nq)).setCell ⟨g, 1, none⟩ (.int .i64 (c : Int))) g gq v q (c : Int) from (H.out.below (pw_below_drewN (Below.refl _ _) _)).turned (c : Int) (by omega) (by omega))
    have HF3 := Aside0.mk (show Frm (TQ.foot g gq v) w ((w.drewN (k + nq)).setCell ⟨g, 1, none⟩ (.int .i64 (c : Int))) from (Frm.below (pw_below_drewN (Below.refl _ _) _)).trans (Frm.grown (F := TQ.foot g gq v) (grown_set _ g 1 (.int .i64 (c : Int))) (fun k hk => by injection hk with hk; exact .inl hk.symm)) (fun _ _ h => h))
    clear e0 f1 d0 b0 b1 HFR HT2 HT HB2
    revert HT3 HF3
    generalize (w.drewN (k + nq)).setCell ⟨g, 1, none⟩ (.int .i64 (c : Int)) = w3
    intro HT3 HF3
    have e0 := (blk_cell HT3.out.blk 0).trans rfl
    go_wp2_with fail
    refine (turn.pop.calls HT3.out c hc9 x xs HQ.out).mono ?_
    rintro e w4 ⟨rfl, hv, hg⟩
    have HV := Aside0.mk hv
    have HG := Aside0.mk hg
    clear hv hg e0
    go_wp2
    go_ret3
    exact .inr ⟨c, x, xs, hc9, HQ.out, rfl, HV.out, HF3.out.trans (Frm.grown (F := TQ.foot g gq v) HG.out (fun k hk => by injection hk with hk; exact .inr (.inl hk.symm))) (fun _ _ h => h)⟩
  ·have q0 : decide ((i : Int) < 9) = false := decide_eq_false (by omega)
   go_wp2
   go_ret3
   exact .inl ⟨rfl, HB.out⟩
theorem turn.make9 (W : World) : (Instr.makeSlice 230 (.int .i64 9) (.int .i64 9)).run Tryz.prog W = .ok (.slice (some ⟨W.heap.size, 0, none⟩) 9 9) (W.alloc (.cells (qcs fun _ => .slice none 0 0) 324 (0, 0))) := by
 kernel_rfl
theorem turn.New.calls (w : World) : Calls Tryz.prog 86 #[.int .i64 9] w fun e w' => ∃ g gq, e = .returned (.pointer (some ⟨g, 0, none⟩)) ∧ TQ w.heap.size w' g gq (fun _ => .slice none 0 0) (fun _ => []) 8 ∧ Below w.heap.size w w' := by
 have hmk := turn.make9
 go_enter Tryz.func86, Tryz.ntmps86
 go_wp2
 go_ret
 have h0 := blk_new w (.cells (qcs fun _ => .slice none 0 0) 324 (0, 0))
 refine ⟨w.heap.size + 1, w.heap.size, rfl, ⟨by omega, by omega, (by have := blk_new (w.alloc (.cells (qcs fun _ => .slice none 0 0) 324 (0, 0))) (.cells #[.slice (some ⟨w.heap.size, 0, none⟩) 9 9, .int .i64 8] 232 (0, 0)); rwa [show (w.alloc (.cells (qcs fun _ => .slice none 0 0) 324 (0, 0))).heap.size = w.heap.size + 1 from by simp] at this), blk_below h0 (below_alloc (Below.refl _ _) _), fun i hi => Kd.Q_nil _ _ _ _ _, fun i j _ _ _ k hk => by simp [Value.ownBlock] at hk, by omega, by omega⟩, below_alloc (below_alloc (Below.refl _ _) _) _⟩
end
def IX (w : World) (g : Nat) : Prop := ∃ m, w.heap[g]? = some (.cells #[.map (some m)] 157 (0, 0)) ∧ MV 9 w m 0 (fun _ => none)
theorem IX.below {w w' : World} {g : Nat} (h : IX w g) (hb : Below w.heap.size w w') : IX w' g := by
 obtain ⟨m, h1, h2⟩ := h
 exact ⟨m, blk_below h1 hb, h2.below hb⟩
theorem zeroK (w : World) : (zeroValue 265).run Tryz.prog w = .ok .nilIface w := by kernel_rfl
theorem index.New.calls (w : World) : Calls Tryz.prog 36 #[] w fun e w' => ∃ g, e = .returned (.pointer (some ⟨g, 0, none⟩)) ∧ w.heap.size ≤ g ∧ IX w' g ∧ Below w.heap.size w w' := by
 have hmm := @run_makeMap Tryz.prog
 go_enter Tryz.func36, Tryz.ntmps36
 go_wp2
 go_ret
 have h1 := MV.new 9 w
 have hb1 := below_alloc (Below.refl w.heap.size w) (.map #[] 0)
 have hb2 := below_alloc (Below.refl _ (w.alloc (.map #[] 0))) (.cells #[.map (some w.heap.size)] 157)
 have hs : (w.alloc (.map #[] 0)).heap.size = w.heap.size + 1 := by simp
 have hn := blk_new (w.alloc (.map #[] 0)) (.cells #[.map (some w.heap.size)] 157)
 rw [hs] at hn
 exact ⟨_, rfl, by omega, ⟨_, hn, h1.below hb2⟩, below_step hb1 hb2⟩
theorem index.Has.calls {w : World} {g : Nat} (h : IX w g) (x : ByteArray) (hx : x.size ≤ 1000) : Calls Tryz.prog 154 #[.pointer (some ⟨g, 0, none⟩), .string x] w fun e w' => e = .returned (.bool false) ∧ w' = w := by
 obtain ⟨m, h1, h2⟩ := h
 have c0 := (blk_cell h1 0).trans rfl
 have hl := h2.look2 lawS Tryz.underlying155 zeroK (keyS hx) (ky_key x)
 clear h1 h2
 go_enter Tryz.func154, Tryz.ntmps154
 go_wp2
 go_ret
 exact ⟨rfl, rfl⟩
theorem index.Len.calls {w : World} {g : Nat} (h : IX w g) : Calls Tryz.prog 156 #[.pointer (some ⟨g, 0, none⟩)] w fun e w' => e = .returned (.int .i64 0) ∧ w' = w := by
 obtain ⟨m, h1, h2⟩ := h
 have c0 := (blk_cell h1 0).trans rfl
 have hl := h2.len Tryz.underlying155
 clear h1 h2
 go_enter Tryz.func156, Tryz.ntmps156
 go_wp2
 go_ret
 exact ⟨rfl, rfl⟩
def fcs (s : Nat → Int × ByteArray) (n gv : Int) : Array Value := #[.int .i64 (s 0).1, .string (s 0).2, .int .i64 (s 1).1, .string (s 1).2, .int .i64 (s 2).1, .string (s 2).2, .int .i64 (s 3).1, .string (s 3).2, .int .i64 (s 4).1, .string (s 4).2, .int .i64 (s 5).1, .string (s 5).2, .int .i64 (s 6).1, .string (s 6).2, .int .i64 (s 7).1, .string (s 7).2, .int .i64 n, .int .i64 gv]
def FB (w : World) (g : Nat) (s : Nat → Int × ByteArray) (n gv : Int) : Prop := w.heap[g]? = some (.cells (fcs s n gv) 229 (0, 0))
section
variable {w w' : World} {g : Nat} {s : Nat → Int × ByteArray} {n gv : Int}
theorem FB.below (h : FB w g s n gv) (hb : Below w.heap.size w w') : FB w' g s n gv := blk_below h hb
theorem FB.size (h : FB w g s n gv) : w.cell? ⟨g, 16, none⟩ = some (.int .i64 n) := (blk_cell h 16).trans rfl
theorem FB.given (h : FB w g s n gv) : w.cell? ⟨g, 17, none⟩ = some (.int .i64 gv) := (blk_cell h 17).trans rfl
theorem FB.at (h : FB w g s n gv) (i : Nat) (hi : i < 8) : w.cell? ⟨g, i * 2, none⟩ = some (.int .i64 (s i).1) ∧ w.cell? ⟨g, i * 2 + 1, none⟩ = some (.string (s i).2) := by
 match i, hi with
 | 0, _ => exact ⟨(blk_cell h 0).trans rfl, (blk_cell h 1).trans rfl⟩
 | 1, _ => exact ⟨(blk_cell h 2).trans rfl, (blk_cell h 3).trans rfl⟩
 | 2, _ => exact ⟨(blk_cell h 4).trans rfl, (blk_cell h 5).trans rfl⟩
 | 3, _ => exact ⟨(blk_cell h 6).trans rfl, (blk_cell h 7).trans rfl⟩
 | 4, _ => exact ⟨(blk_cell h 8).trans rfl, (blk_cell h 9).trans rfl⟩
 | 5, _ => exact ⟨(blk_cell h 10).trans rfl, (blk_cell h 11).trans rfl⟩
 | 6, _ => exact ⟨(blk_cell h 12).trans rfl, (blk_cell h 13).trans rfl⟩
 | 7, _ => exact ⟨(blk_cell h 14).trans rfl, (blk_cell h 15).trans rfl⟩
def updS (s : Nat → Int × ByteArray) (i : Nat) (v : Int × ByteArray) : Nat → Int × ByteArray := fun j => if j = i then v else s j
theorem FB.put (h : FB w g s n gv) (i : Nat) (hi : i < 8) (v : Int × ByteArray) : FB ((w.setCell ⟨g, i * 2, none⟩ (.int .i64 v.1)).setCell ⟨g, i * 2 + 1, none⟩ (.string v.2)) g (updS s i v) n gv := by
 refine blk_put (blk_put h (i * 2) _ rfl) (i * 2 + 1) _ ?_
 match i, hi with
 | 0, _ => rfl
 | 1, _ => rfl
 | 2, _ => rfl
 | 3, _ => rfl
 | 4, _ => rfl
 | 5, _ => rfl
 | 6, _ => rfl
 | 7, _ => rfl
theorem flight.New.calls (n : Int) (h1 : 1 ≤ n) (h2 : n ≤ 8) (w : World) : Calls Tryz.prog 85 #[.int .i64 n] w fun e w' => e = .returned (.pointer (some ⟨w.heap.size, 0, none⟩)) ∧ FB w' w.heap.size (fun _ => (0, ⟨#[]⟩)) n 0 ∧ Below w.heap.size w w' := by
 have q1 : decide (n < 1) = false := decide_eq_false (by omega)
 have q2 : decide ((8 : Int) < n) = false := decide_eq_false (by omega)
 go_enter Tryz.func85, Tryz.ntmps85
 go_wp2
 go_ret
 exact ⟨rfl, blk_new w _, below_alloc (Below.refl _ _) _⟩
def sidx (p : Int × ByteArray → Bool) (s : Nat → Int × ByteArray) : Nat → Nat → Option Nat
 | 0, _ => none
 | d + 1, i => if p (s i) = true then some i else sidx p s d (i + 1)
def sidxV (p : Int × ByteArray → Bool) (s : Nat → Int × ByteArray) (m : Nat) : Int := match sidx p s m 0 with | some i => (i : Int) | none => -1
theorem sidx_succ (p : Int × ByteArray → Bool) (s : Nat → Int × ByteArray) (d i : Nat) : sidx p s (d + 1) i = if p (s i) = true then some i else sidx p s d (i + 1) := rfl
theorem sidx_some (p : Int × ByteArray → Bool) (s : Nat → Int × ByteArray) (d : Nat) : ∀ i k, sidx p s d i = some k → i ≤ k ∧ k < i + d ∧ p (s k) = true := by
 induction d with
 | zero => intro i k h; cases h
 | succ d ih =>
  intro i k h
  rw [sidx_succ] at h
  by_cases hz : p (s i) = true
  ·rw [if_pos hz] at h
   injection h with h
   subst h
   exact ⟨Nat.le_refl _, by omega, hz⟩
  ·rw [if_neg hz] at h
   obtain ⟨h1, h2, h3⟩ := ih _ _ h
   exact ⟨by omega, by omega, h3⟩
set_option maxHeartbeats 4000000 in
set_option maxRecDepth 100000 in
theorem seats.calls {m : Nat} (h : FB w g s n gv) (hm : m ≤ 8) {f : FuncId} {fn : Func} {cap : Array Value} (hf : Tryz.prog.funcs[f]? = some fn) (hname : (fn.name == "runtime.NumGoroutine") = false) (hb : fn.body.isSome = true)
  (I : World → Prop) (hI : I w) (hIb : ∀ a b, I a → Below a.heap.size a b → I b) (p : Int × ByteArray → Bool)
  (hcmp : ∀ (w' : World) (i : Nat), i < 8 → I w' → Calls Tryz.prog f (#[.agg #[.int .i64 (s i).1, .string (s i).2]] ++ cap) w' fun e w'' => e = .returned (.bool (p (s i))) ∧ Below w'.heap.size w' w'') :
  Calls Tryz.prog 293 #[.slice (some ⟨g, 0, none⟩) m 8, .func (.func f) #[] cap] w fun e w' => e = .returned (.int .i64 (sidxV p s m)) ∧ Below w.heap.size w w' := by
 have H0 := Aside0.mk h
 have HM := Aside0.mk hm
 have HI0 := Aside0.mk hI
 clear h hm hI
 go_enter Tryz.func293, Tryz.ntmps293
 go_wp2
 go_loopw [8] (fun iv wr => ∃ i : Nat, iv = .int .i64 (i : Int) ∧ i ≤ m ∧ Aside0 (sidx p s (m - i) i = sidx p s m 0) ∧ Aside0 (I wr) ∧ Aside0 (Below w.heap.size w wr)) (fun iv _ => m - (intOf iv).toNat)
 case atStart => exact ⟨0, rfl, by omega, ⟨rfl⟩, HI0, ⟨Below.refl _ _⟩⟩
 case round =>
  clear HI0
  obtain ⟨i, rfl, hi, HQ, HI, HB⟩ := hrel
  by_cases hil : i < m
  ·have q0 : decide ((i : Int) < (m : Int)) = true := decide_eq_true (by omega)
   have r0 : (0 : Int) ≤ (i : Int) := by omega
   have r1 : (i : Int) < (m : Int) := by omega
   have hn1 := HM.out
   have a9 : wrap64 ((i : Int) + 1) = (i : Int) + 1 := wrap_id (by omega) (by omega)
   obtain ⟨ca, cb⟩ := (H0.out.below HB.out).at i (by omega)
   have hq := HQ.out
   rw [show m - i = (m - (i + 1)) + 1 by omega, sidx_succ] at hq
   have HQ2 := Aside0.mk hq
   have HX := Aside0.mk (hcmp _ i (by omega) HI.out)
   clear hq HQ
   generalize hs1 : (s i).1 = x at ca HX
   generalize hs2 : (s i).2 = y at cb HX
   clear hs1 hs2
   go_wp2_with fail
   refine goesU_ hf hname hb _ ?_
   refine (HX.out).mono ?_
   rintro e w5 ⟨rfl, hb5⟩
   refine ⟨_, rfl, ?_⟩
   have n1_ := Aside0.mk (hIb _ _ HI.out hb5)
   have n2_ := Aside0.mk (below_step HB.out hb5)
   clear HI HB hb5 ca cb HX
   cases hp : p (s i) with
   | true =>
    have HV := Aside0.mk (show sidxV p s m = (i : Int) by unfold sidxV; rw [← HQ2.out, if_pos hp])
    clear hp
    go_wp2
    go_ret
    exact ⟨by rw [HV.out]; rfl, n2_.out⟩
   | false =>
    have HQ3 := Aside0.mk (show sidx p s (m - (i + 1)) (i + 1) = sidx p s m 0 by rw [← HQ2.out, hp]; rfl)
    clear hp
    go_wp2
    go_roundw
    case rel => exact ⟨i + 1, by go_num, by omega, HQ3, n1_, n2_⟩
    case measure => simp [intOf]; omega
  ·have q0 : decide ((i : Int) < (m : Int)) = false := decide_eq_false (by omega)
   have HV := Aside0.mk (show sidxV p s m = -1 by
    have h := HQ.out
    rw [show m - i = 0 by omega] at h
    unfold sidxV
    rw [← h]
    rfl)
   clear HQ
   go_wp2
   go_ret
   exact ⟨by rw [HV.out]; rfl, HB.out⟩
def FND3.T3 : Bool × List (List Nat × List Nat) := (true, [([], []), ([0], [0]), ([1], [1]), ([], []), ([3], [3]), ([4], [4]), ([5], [5]), ([2, 6], [2, 6]), ([], []), ([7, 8], [7, 8]), ([9, 9, 0, 1, 2, 3, 4, 5, 6, 7, 8, 9], [9])])
def FND3.B3 : List Nat := [0, 1, 3, 0, 8, 24, 56, 127, 0, 511, 1023]
theorem FND3.tab3 : rtab .any (opsOf Tryz.f226 3) = FND3.T3 := by kernel_rfl
theorem FND3.bits3 : waitsOk FND3.T3.2 FND3.B3 = true := by kernel_rfl
set_option maxHeartbeats 4000000 in
set_option maxRecDepth 100000 in
theorem flight.find.calls {m : Nat} (h : FB w g s (m : Int) gv) (hm : m ≤ 8) {f : FuncId} {fn : Func} {cap : Array Value} (hf : Tryz.prog.funcs[f]? = some fn) (hname : (fn.name == "runtime.NumGoroutine") = false) (hb : fn.body.isSome = true)
  (I : World → Prop) (hI : I w) (hIb : ∀ a b, I a → Below a.heap.size a b → I b) (p : Int × ByteArray → Bool)
  (hcmp : ∀ (w' : World) (i : Nat), i < 8 → I w' → Calls Tryz.prog f (#[.agg #[.int .i64 (s i).1, .string (s i).2]] ++ cap) w' fun e w'' => e = .returned (.bool (p (s i))) ∧ Below w'.heap.size w' w'') :
  Calls Tryz.prog 226 #[.pointer (some ⟨g, 0, none⟩), .func (.func f) #[] cap] w fun e w' => e = .returned (.int .i64 (sidxV p s m)) ∧ Below w.heap.size w w' := by
 have H2 := Aside0.mk (show FB w.drew g s (m : Int) gv from h)
 have HI2 := Aside0.mk (hIb _ _ hI (below_drew (Below.refl _ _)))
 have HM := Aside0.mk hm
 have u0 : (m : Int) ≤ (8 : Int) := by omega
 have u1 : (0 : Int) ≤ (m : Int) := by omega
 clear h hI hm
 go_enter Tryz.func226, Tryz.ntmps226
 go_wp2
 refine start_ (n := 11) (S := fun w' => w'.cell? ⟨g, 16, none⟩ = some (.int .i64 (m : Int))) (ds := []) #[O,O,O,O,O,O,O,O,O,O,O] (by kernel_rfl) rfl rfl (H2.out.size) (fun hHeld => ?_)
 refine with_tabW FND3.tab3 FND3.bits3 (fun HT_ HW_ => ?_)
 refine pure_ (i := 0) (N := some 7) (v := ?_) (a' := ?_) #[Y,O,O,O,O,O,O,O,O,O,O] rfl rfl (any_of HT_.out (by kernel_rfl)) (fun _ _ _ h => h) (Or.inl ⟨by rfl, ?_⟩) ?_ ?_
 rotate_left
 ·intro w'
  go_simp
  with_reducible rfl
 rotate_left
 ·simp only [PN]
  rfl
 refine pure_ (i := 1) (N := some 8) (v := ?_) (a' := ?_) #[Y,Y,O,O,O,O,O,O,O,O,O] rfl rfl (any_of HT_.out (by kernel_rfl)) (fun _ _ _ h => h) (Or.inl ⟨by rfl, ?_⟩) ?_ ?_
 rotate_left
 ·intro w'
  go_simp
  with_reducible rfl
 rotate_left
 ·simp only [PN]
  rfl
 refine pure_ (i := 2) (N := some 9) (v := ?_) (a' := ?_) #[Y,Y,Y,O,O,O,O,O,O,O,O] rfl rfl (any_of HT_.out (by kernel_rfl)) (fun _ _ _ h => h) (Or.inl ⟨by rfl, ?_⟩) ?_ ?_
 rotate_left
 ·intro w'
  go_simp
  with_reducible rfl
 rotate_left
 ·simp only [PN]
  rfl
 refine pure_ (i := 3) (N := some 10) (v := ?_) (a' := ?_) #[Y,Y,Y,Y,O,O,O,O,O,O,O] rfl rfl (any_of HT_.out (by kernel_rfl)) (fun _ _ _ h => h) (Or.inl ⟨by rfl, ?_⟩) ?_ ?_
 rotate_left
 ·intro w'
  go_simp
  with_reducible rfl
 rotate_left
 ·simp only [PN]
  rfl
 refine pure_ (i := 4) (N := some 11) (v := ?_) (a' := ?_) #[Y,Y,Y,Y,Y,O,O,O,O,O,O] rfl rfl (any_of HT_.out (by kernel_rfl)) (fun _ _ _ h => h) (Or.inl ⟨by rfl, ?_⟩) ?_ ?_
 rotate_left
 ·intro w'
  go_simp
  with_reducible rfl
 rotate_left
 ·simp only [PN]
  rfl
 refine pure_ (i := 5) (N := some 12) (v := ?_) (a' := ?_) #[Y,Y,Y,Y,Y,Y,O,O,O,O,O] rfl rfl (any_of HT_.out (by kernel_rfl)) (fun _ _ _ h => h) (Or.inl ⟨by rfl, ?_⟩) ?_ ?_
 rotate_left
 ·intro w'
  go_simp
  with_reducible rfl
 rotate_left
 ·simp only [PN]
  rfl
 refine pure_ (i := 8) (N := some 15) (v := ?_) (a' := ?_) #[Y,Y,Y,Y,Y,Y,O,O,Y,O,O] rfl rfl (any_of HT_.out (by kernel_rfl)) (fun _ _ _ h => h) (Or.inl ⟨by rfl, ?_⟩) ?_ ?_
 rotate_left
 ·intro w'
  go_simp
  with_reducible rfl
 rotate_left
 ·simp only [PN]
  rfl
 refine take_ (i := 6) (N := some 13) (v := ?_) (a' := ?_) #[Y,Y,Y,Y,Y,Y,Y,O,Y,O,O] rfl rfl (take_ofW HT_.out HW_.out (by kernel_rfl)) (fun _ _ _ h => h) (Or.inl ⟨by rfl, ?_⟩) hHeld ?_ ?_
 rotate_left
 ·intro w' s0
  go_simp
  with_reducible rfl
 rotate_left
 ·simp only [PN]
  rfl
 refine pure_ (i := 7) (N := some 14) (v := ?_) (a' := ?_) #[Y,Y,Y,Y,Y,Y,Y,Y,Y,O,O] rfl rfl (any_of HT_.out (by kernel_rfl)) (fun _ _ _ h => h) (Or.inl ⟨by rfl, ?_⟩) ?_ ?_
 rotate_left
 ·intro w'
  go_simp
  with_reducible rfl
 rotate_left
 ·simp only [PN]
  rfl
 refine one_ (i := 9) (N := some 16) #[Y,Y,Y,Y,Y,Y,Y,Y,Y,Y,O] rfl rfl (one_of HT_.out (by kernel_rfl)) (by decide) (fun K hK => ?_)
 refine goes_ Tryz.func293 (by kernel_rfl) rfl #[.slice (some ⟨g, 0, none⟩) m 8, .func (.func f) #[] cap] (by rfl) rfl rfl (by (try simp only [List.map_toArray, List.map_cons, List.map_nil]); first | done | rfl) ?_
 with_reducible refine (seats.calls H2.out HM.out hf hname hb I HI2.out hIb p hcmp).mono ?_
 rintro e w5 ⟨rfl, hb5⟩
 refine ⟨_, rfl, ?_⟩
 have HB := Aside0.mk (below_go (below_drew (Below.refl w.heap.size w)) hb5)
 have H3 := Aside0.mk (H2.out.below hb5)
 clear hb5
 refine hK.out _ _ (H3.out.size) (fun hHeld => ?_)
 clear hK K
 refine norm_ (a' := ?_) ?_ ?_
 rotate_left
 ·show Act.put _ (some 16) _ = _
  simp only [PN]
  rfl
 refine pure_ (i := 10) (N := some 4) (v := ?_) (a' := ?_) #[Y,Y,Y,Y,Y,Y,Y,Y,Y,Y,Y] rfl rfl (any_of HT_.out (by kernel_rfl)) (fun _ _ _ h => h) (Or.inl ⟨by rfl, ?_⟩) ?_ ?_
 rotate_left
 ·intro w'
  go_simp
  with_reducible rfl
 rotate_left
 ·simp only [PN]
  rfl
 refine done_ (done_of HT_.out (by kernel_rfl)) ?_
 clear hHeld
 go_wp2
 go_ret
 exact ⟨rfl, HB.out⟩
def byName (x : ByteArray) (q : Int × ByteArray) : Bool := decide (0 < q.1) && (q.2.toList == x.toList)
theorem has1.calls (q1 : Int) (q2 x : ByteArray) (gb : Nat) (hb : w.heap[gb]? = some (.cells #[.string x] 9 (0, 0))) : Calls Tryz.prog 292 #[.agg #[.int .i64 q1, .string q2], .pointer (some ⟨gb, 0, none⟩)] w fun e w' => e = .returned (.bool (byName x (q1, q2))) ∧ Below w.heap.size w w' := by
 have c0 := (blk_cell (blk_below hb (below_alloc (Below.refl _ _) (.cells #[.int .i64 q1, .string q2] 226))) 0).trans rfl
 have HB := Aside0.mk (below_alloc (Below.refl w.heap.size w) (.cells #[.int .i64 q1, .string q2] 226))
 have d0 := (blk_cell (blk_new w (.cells #[.int .i64 q1, .string q2] 226)) 0).trans rfl
 have d1 := (blk_cell (blk_new w (.cells #[.int .i64 q1, .string q2] 226)) 1).trans rfl
 clear hb
 by_cases h0 : 0 < q1
 ·have t0 : decide (0 < q1) = true := decide_eq_true h0
  have HV := Aside0.mk (show byName x (q1, q2) = (q2.toList == x.toList) by unfold byName; rw [t0]; rfl)
  go_enter Tryz.func292, Tryz.ntmps292
  go_wp2
  go_ret
  exact ⟨by rw [HV.out]; rfl, HB.out⟩
 ·have t0 : decide (0 < q1) = false := decide_eq_false h0
  have HV := Aside0.mk (show byName x (q1, q2) = false by unfold byName; rw [t0]; rfl)
  go_enter Tryz.func292, Tryz.ntmps292
  go_wp2
  go_ret
  exact ⟨by rw [HV.out]; rfl, HB.out⟩
set_option maxRecDepth 100000 in
theorem flight.Has.calls {m : Nat} (h : FB w g s (m : Int) gv) (hm : m ≤ 8) (x : ByteArray) : Calls Tryz.prog 223 #[.pointer (some ⟨g, 0, none⟩), .string x] w fun e w' => e = .returned (.bool (decide (0 ≤ sidxV (byName x) s m))) ∧ Below w.heap.size w w' := by
 have HA := Aside0.mk (blk_new w (.cells #[.string x] 9))
 have HB := Aside0.mk (below_alloc (Below.refl w.heap.size w) (.cells #[.string x] 9))
 have H2 := Aside0.mk (h.below HB.out)
 have HM := Aside0.mk hm
 have hmf := makeFn
 clear h hm
 go_enter Tryz.func223, Tryz.ntmps223
 go_wp2_with fail
 generalize w.alloc (.cells #[.string x] 9) = w1 at HA HB H2 ⊢
 refine (flight.find.calls H2.out HM.out Tryz.func292 rfl rfl (fun w' => w'.heap[w.heap.size]? = some (.cells #[.string x] 9 (0, 0))) HA.out (fun a b h k => blk_below h k) (byName x) ?_).mono ?_
 ·intro w' i hi hI
  exact (has1.calls (s i).1 (s i).2 x _ hI).mono (fun _ _ h => h)
 rintro e w5 ⟨rfl, hb5⟩
 have HF := Aside0.mk (below_step HB.out hb5)
 clear hb5
 obtain ⟨r, hr⟩ : ∃ r, sidxV (byName x) s m = r := ⟨_, rfl⟩
 have HR := Aside0.mk hr
 rw [hr]
 clear hr
 go_wp2
 go_ret
 exact ⟨by rw [HR.out]; rfl, HF.out⟩
def isFree (q : Int × ByteArray) : Bool := q.1 == 0
theorem start1.calls (q1 : Int) (q2 : ByteArray) : Calls Tryz.prog 227 #[.agg #[.int .i64 q1, .string q2]] w fun e w' => e = .returned (.bool (isFree (q1, q2))) ∧ Below w.heap.size w w' := by
 have HB := Aside0.mk (below_alloc (Below.refl w.heap.size w) (.cells #[.int .i64 q1, .string q2] 226))
 go_enter Tryz.func227, Tryz.ntmps227
 go_wp2
 go_ret
 exact ⟨rfl, HB.out⟩
set_option maxHeartbeats 4000000 in
set_option maxRecDepth 100000 in
theorem flight.Start.calls {m i : Nat} (h : FB w g s (m : Int) gv) (hm : m ≤ 8) (hg0 : 0 ≤ gv) (hg1 : gv ≤ 1000000) (x : ByteArray) (hi : sidx isFree s m 0 = some i) (hx : ¬ 0 ≤ sidxV (byName x) s m) :
  Calls Tryz.prog 165 #[.pointer (some ⟨g, 0, none⟩), .string x] w fun e w' => e = .returned (.tuple #[.int .i64 (gv + 1), .bool true]) ∧ FB w' g (updS s i (gv + 1, x)) (m : Int) (gv + 1) ∧ w.grownBy w' (some g) := by
 have H := Aside0.mk h
 have HM := Aside0.mk hm
 have hlt := sidx_some isFree s m 0 i hi
 have HI := Aside0.mk (show i < 8 by omega)
 have q0 : decide ((i : Int) < 0) = false := decide_eq_false (by omega)
 have q1 : (0 : Int) ≤ (i : Int) := by omega
 have q2 : (i : Int) < 8 := by omega
 have HV := Aside0.mk (show sidxV isFree s m = (i : Int) by unfold sidxV; rw [hi])
 have HX := Aside0.mk (show decide (0 ≤ sidxV (byName x) s m) = false from decide_eq_false hx)
 have a0 : wrap64 (gv + 1) = gv + 1 := wrap_id (by omega) (by omega)
 clear h hm hi hx hlt hg0 hg1
 go_enter Tryz.func165, Tryz.ntmps165
 go_wp2_with fail
 refine (flight.find.calls (cap := #[]) H.out HM.out Tryz.func227 rfl rfl (fun _ => True) trivial (fun _ _ _ _ => trivial) isFree ?_).mono ?_
 ·intro w' i hi hI
  exact (start1.calls (s i).1 (s i).2).mono (fun _ _ h => h)
 rintro e w5 ⟨rfl, hb5⟩
 rw [HV.out]
 have H2 := Aside0.mk (H.out.below hb5)
 have HG2 := Aside0.mk (show w.grownBy w5 (some g) from grown_of_below hb5 _)
 clear H hb5
 go_wp2_with fail
 refine (flight.Has.calls H2.out HM.out x).mono ?_
 rintro e w6 ⟨rfl, hb6⟩
 rw [HX.out]
 have H3 := Aside0.mk (H2.out.below hb6)
 have HG3 := Aside0.mk (HG2.out.trans_row (grown_of_below hb6 _))
 clear H2 HG2 hb6
 have k0 := H3.out.given
 have k1 := blk_frozen H3.out 17
 have hp := blk_put H3.out 17 (.int .i64 (gv + 1)) (show (fcs s (m : Int) gv).setIfInBounds 17 (.int .i64 (gv + 1)) = fcs s (m : Int) (gv + 1) from rfl)
 have H4 := Aside0.mk (show FB (w6.setCell ⟨g, 17, none⟩ (.int .i64 (gv + 1))) g s (m : Int) (gv + 1) from hp)
 have HG4 := Aside0.mk (HG3.out.trans_row (grown_set w6 g 17 (.int .i64 (gv + 1))))
 clear hp
 go_wp2
 clear k0 k1 H3 HG3 a0
 generalize w6.setCell ⟨g, 17, none⟩ (.int .i64 (gv + 1)) = w7 at H4 HG4 ⊢
 obtain ⟨gw, hgw⟩ : ∃ z, gv + 1 = z := ⟨_, rfl⟩
 have HGW := Aside0.mk hgw
 rw [hgw] at H4 ⊢
 clear hgw
 have k0 := H4.out.given
 obtain ⟨c0, c1⟩ := H4.out.at i HI.out
 have f0 := blk_frozen H4.out (i * 2)
 have f1 := blk_frozen H4.out (i * 2 + 1)
 have HP := Aside0.mk (H4.out.put i HI.out (gw, x))
 have HG5 := Aside0.mk (HG4.out.trans_row ((grown_set w7 g (i * 2) (.int .i64 gw)).trans_row (grown_set _ g (i * 2 + 1) (.string x))).drew_)
 go_region
 clear k0 c0 c1 f0 f1
 have HP2 := Aside0.mk (show FB ((w7.setCell ⟨g, i * 2, none⟩ (.int .i64 gw)).setCell ⟨g, i * 2 + 1, none⟩ (.string x)).drew g _ _ _ from HP.out)
 clear HP
 generalize ((w7.setCell ⟨g, i * 2, none⟩ (.int .i64 gw)).setCell ⟨g, i * 2 + 1, none⟩ (.string x)).drew = w8 at HP2 HG5 ⊢
 have k0 := HP2.out.given
 go_wp2
 go_ret2
 exact ⟨by rw [HGW.out]; rfl, by rw [HGW.out]; exact HP2.out, HG5.out⟩
end
def tks (s : Nat → Int × ByteArray) : Nat → List Int
 | 0 => []
 | i + 1 => tks s i ++ (if 0 < (s i).1 then [(s i).1] else [])
theorem tks_length (s : Nat → Int × ByteArray) (i : Nat) : (tks s i).length ≤ i := by
 induction i with
 | zero => exact Nat.le_refl _
 | succ i ih =>
  unfold tks
  rw [List.length_append]
  split <;> simp <;> omega
set_option maxRecDepth 100000 in
theorem seat_at (s : Nat → Int × ByteArray) (i : Nat) (hi : i < 8) (w : World) : (Instr.index 227 (.agg #[.int .i64 (s 0).1, .string (s 0).2, .int .i64 (s 1).1, .string (s 1).2, .int .i64 (s 2).1, .string (s 2).2, .int .i64 (s 3).1, .string (s 3).2, .int .i64 (s 4).1, .string (s 4).2, .int .i64 (s 5).1, .string (s 5).2, .int .i64 (s 6).1, .string (s 6).2, .int .i64 (s 7).1, .string (s 7).2]) (.int .i64 (i : Int))).run Tryz.prog w = .ok (.agg #[.int .i64 (s i).1, .string (s i).2]) w := by
 rcases (show i = 0 ∨ i = 1 ∨ i = 2 ∨ i = 3 ∨ i = 4 ∨ i = 5 ∨ i = 6 ∨ i = 7 by omega) with rfl | rfl | rfl | rfl | rfl | rfl | rfl | rfl <;> kernel_rfl
section
variable {w w' : World} {g : Nat} {s : Nat → Int × ByteArray} {n gv : Int}
set_option maxHeartbeats 4000000 in
set_option maxRecDepth 100000 in
theorem flight.Tickets.calls (h : FB w g s n gv) : Calls Tryz.prog 224 #[.pointer (some ⟨g, 0, none⟩)] w fun e w' => ∃ v, ∃ ys : List Int, e = .returned v ∧ ys.Perm (tks s 8) ∧ (Kd.int .i64).R 3 w' w.heap.size (fun _ => True) v ys ∧ Below w.heap.size w w' := by
 have H := Aside0.mk h
 have k0 : w.cell? ⟨g, 0, none⟩ = some (.int .i64 (s 0).1) := (blk_cell h 0).trans rfl
 have k1 : w.cell? ⟨g, 1, none⟩ = some (.string (s 0).2) := (blk_cell h 1).trans rfl
 have k2 : w.cell? ⟨g, 2, none⟩ = some (.int .i64 (s 1).1) := (blk_cell h 2).trans rfl
 have k3 : w.cell? ⟨g, 3, none⟩ = some (.string (s 1).2) := (blk_cell h 3).trans rfl
 have k4 : w.cell? ⟨g, 4, none⟩ = some (.int .i64 (s 2).1) := (blk_cell h 4).trans rfl
 have k5 : w.cell? ⟨g, 5, none⟩ = some (.string (s 2).2) := (blk_cell h 5).trans rfl
 have k6 : w.cell? ⟨g, 6, none⟩ = some (.int .i64 (s 3).1) := (blk_cell h 6).trans rfl
 have k7 : w.cell? ⟨g, 7, none⟩ = some (.string (s 3).2) := (blk_cell h 7).trans rfl
 have k8 : w.cell? ⟨g, 8, none⟩ = some (.int .i64 (s 4).1) := (blk_cell h 8).trans rfl
 have k9 : w.cell? ⟨g, 9, none⟩ = some (.string (s 4).2) := (blk_cell h 9).trans rfl
 have k10 : w.cell? ⟨g, 10, none⟩ = some (.int .i64 (s 5).1) := (blk_cell h 10).trans rfl
 have k11 : w.cell? ⟨g, 11, none⟩ = some (.string (s 5).2) := (blk_cell h 11).trans rfl
 have k12 : w.cell? ⟨g, 12, none⟩ = some (.int .i64 (s 6).1) := (blk_cell h 12).trans rfl
 have k13 : w.cell? ⟨g, 13, none⟩ = some (.string (s 6).2) := (blk_cell h 13).trans rfl
 have k14 : w.cell? ⟨g, 14, none⟩ = some (.int .i64 (s 7).1) := (blk_cell h 14).trans rfl
 have k15 : w.cell? ⟨g, 15, none⟩ = some (.string (s 7).2) := (blk_cell h 15).trans rfl
 clear h
 go_enter Tryz.func224, Tryz.ntmps224
 go_wp2
 clear k0 k1 k2 k3 k4 k5 k6 k7 k8 k9 k10 k11 k12 k13 k14 k15
 go_loopw [3, 12] (fun ov iv wr => ∃ (i : Nat) (ys : List Int), iv = .int .i64 (i : Int) ∧ i ≤ 8 ∧ Aside0 (ys = tks s i ∧ (ys = [] → ov = .slice none 0 0)) ∧ Aside0 ((Kd.int .i64).R 3 wr w.heap.size (fun _ => True) ov ys) ∧ Aside0 (Below w.heap.size w wr)) (fun _ iv _ => 8 - (intOf iv).toNat)
 case atStart => exact ⟨0, [], rfl, by omega, ⟨rfl, fun _ => rfl⟩, ⟨Kd.R_nil _ _ _ _ _⟩, ⟨Below.refl _ _⟩⟩
 case round =>
  obtain ⟨i, ys, rfl, hi, HY, HR, HB⟩ := hrel
  by_cases hil : i < 8
  ·have q0 : decide ((i : Int) < 8) = true := decide_eq_true (by omega)
   have q1 : (0 : Int) ≤ (i : Int) := by omega
   have q2 : (i : Int) < 8 := by omega
   obtain ⟨A3, c3, rfl⟩ := Kd.R_slice HR.out
   have HL := Aside0.mk (show ys.length ≤ 8 by have h1 := tks_length s i; rw [HY.out.1]; omega)
   have hx := seat_at s i hil
   have hnx : tks s (i + 1) = tks s i ++ (if 0 < (s i).1 then [(s i).1] else []) := rfl
   generalize hs1 : (s i).1 = x at hx hnx
   generalize hs2 : (s i).2 = y at hx
   have HNX := Aside0.mk hnx
   clear hs1 hs2 hnx
   have a9 : wrap64 ((i : Int) + 1) = (i : Int) + 1 := wrap_id (by omega) (by omega)
   have ha := below_alloc (Below.refl wr.heap.size wr) (.cells #[.int .i64 x, .string y] 226)
   have HB2 := Aside0.mk (below_step HB.out ha)
   have HR2 := Aside0.mk (Kd.R_below HR.out ha)
   have d0 := (blk_cell (blk_new wr (.cells #[.int .i64 x, .string y] 226)) 0).trans rfl
   clear ha
   by_cases hp : 0 < x
   ·have t0 : decide (0 < x) = true := decide_eq_true hp
    have HY2 := Aside0.mk (show ys ++ [x] = tks s (i + 1) by rw [HNX.out, if_pos hp, HY.out.1])
    clear HY
    go_upto_region 7 with fail
    generalize wr.alloc (.cells #[.int .i64 x, .string y] 226) = w2 at HR2 HB2 d0 ⊢
    generalize wr.heap.size = gl at d0 ⊢
    go_wp2_with (first | ((with_reducible refine gate_builtin (b := .append) (xs := #[.tmp 18, .tmp 21]) rfl ?_); at_builtin; refine Kd.R_append (Kd.int .i64) (w0 := w) w.heap.size rfl (.tmp 18) (.tmp 21) 42 3 (.int .i64 0) 8 rfl Tryz.underlying42 infoInt rfl (by decide) (by omega) (.slice A3 ys.length c3) ys x [.int .i64 x] (fun _ => True) (fun _ => False) rfl rfl rfl (fun _ hk => hk.elim) (fun _ _ => trivial) HR2.out HB2.out HB2.out.size (by have := HL.out; simp; omega) ?_; intro v9 w9 hr9 hb9 hg9 hat9; have n0_ := Aside0.mk hr9; have n1_ := Aside0.mk hb9; clear HR2 HB2 hr9 hb9 hg9 hat9))
    go_roundw
    case rel => exact ⟨i + 1, ys ++ [x], by go_num, by omega, ⟨HY2.out, fun e => by simp at e⟩, n0_, n1_⟩
    case measure => simp [intOf]; omega
   ·have t0 : decide (0 < x) = false := decide_eq_false hp
    have HY2 := Aside0.mk (show ys = tks s (i + 1) ∧ (ys = [] → Value.slice A3 ys.length c3 = .slice none 0 0) from ⟨by rw [HNX.out, if_neg hp, List.append_nil]; exact HY.out.1, HY.out.2⟩)
    clear HY
    go_wp2
    go_roundw
    case rel => exact ⟨i + 1, ys, by go_num, by omega, HY2, HR2, HB2⟩
    case measure => simp [intOf]; omega
  ·have q0 : decide ((i : Int) < 8) = false := decide_eq_false (by omega)
   have hi8 : i = 8 := by omega
   subst hi8
   have HY2 := HY
   have HL := Aside0.mk (show ys.length ≤ 12 by have h1 := tks_length s 8; rw [HY2.out.1]; omega)
   go_wp2_with fail
   refine (sortOI.calls HR.out HY2.out.2 HL.out).mono ?_
   rintro e w5 ⟨rfl, zs, hp, hr5, hg5⟩
   have HF := Aside0.mk (show zs.Perm (tks s 8) by rw [← HY2.out.1]; exact hp)
   have HR5 := Aside0.mk hr5
   have HB5 := Aside0.mk (show Below w.heap.size w w5 from ⟨hg5.os.trans HB.out.os, hg5.tape.trans HB.out.tape, hg5.output.trans HB.out.output, Nat.le_trans HB.out.size hg5.size, fun k hk => (hg5.block k (Nat.lt_of_lt_of_le hk HB.out.size) (fun e => by have := Kd.R_base HR.out k e.symm; omega)).trans (HB.out.block k hk)⟩)
   clear hp hr5 hg5
   go_wp2
   go_ret
   exact ⟨_, zs, rfl, HF.out, HR5.out, HB5.out⟩
theorem flight.Len.calls (h : FB w g s n gv) : Calls Tryz.prog 163 #[.pointer (some ⟨g, 0, none⟩)] w fun e w' => e = .returned (.int .i64 ((tks s 8).length : Int)) ∧ Below w.heap.size w w' := by
 go_enter Tryz.func163, Tryz.ntmps163
 go_wp2_with fail
 refine (flight.Tickets.calls h).mono ?_
 rintro e w5 ⟨v, ys, rfl, hp, hr, hb⟩
 obtain ⟨A5, c5, rfl⟩ := Kd.R_slice hr
 have HP := Aside0.mk hp.length_eq
 have HB := Aside0.mk hb
 clear hp hr hb
 go_wp2
 go_ret
 exact ⟨by rw [← HP.out]; rfl, HB.out⟩
end
def TI (w : World) (g m : Nat) : Prop := w.heap[g]? = some (.cells #[.slice none 0 0, .map (some m), .int .i64 0] 235 (0, 0)) ∧ MV 9 w m 0 (fun _ => none)
theorem MV.frm {k : TypeId} {w w' : World} {m s : Nat} {pl : Lit → Option Value} {F : Nat → Prop} (h : MV k w m s pl) (hf : Frm F w w') (hn : ¬ F m) : MV k w' m s pl := by
 obtain ⟨D, ⟨es, clock, hb, hr⟩, h2, h3⟩ := h
 exact ⟨D, ⟨es, clock, hf.blk hb hn, hr⟩, h2, h3⟩
theorem TI.frm {w w' : World} {g m : Nat} {F : Nat → Prop} (h : TI w g m) (hf : Frm F w w') (hg : ¬ F g) (hm : ¬ F m) : TI w' g m := ⟨hf.blk h.1 hg, h.2.frm hf hm⟩
theorem timer.New.calls (w : World) : Calls Tryz.prog 87 #[] w fun e w' => ∃ g m, e = .returned (.pointer (some ⟨g, 0, none⟩)) ∧ w.heap.size ≤ g ∧ w.heap.size ≤ m ∧ TI w' g m ∧ Below w.heap.size w w' := by
 have hmm := @run_makeMap Tryz.prog
 go_enter Tryz.func87, Tryz.ntmps87
 go_wp2
 go_ret
 have h1 := MV.new 9 w
 have hb1 := below_alloc (Below.refl w.heap.size w) (.map #[] 0)
 have hb2 := below_alloc (Below.refl _ (w.alloc (.map #[] 0))) (.cells #[.slice none 0 0, .map (some w.heap.size), .int .i64 0] 235)
 have hs : (w.alloc (.map #[] 0)).heap.size = w.heap.size + 1 := by simp
 have hn := blk_new (w.alloc (.map #[] 0)) (.cells #[.slice none 0 0, .map (some w.heap.size), .int .i64 0] 235)
 rw [hs] at hn
 exact ⟨_, _, rfl, by omega, Nat.le_refl _, ⟨hn, h1.below hb2⟩, below_step hb1 hb2⟩
section
variable {w : World} {g m : Nat}
theorem zeroI (w : World) : (zeroValue 3).run Tryz.prog w = .ok (.int .i64 0) w := by kernel_rfl
theorem timer.Get.calls (h : TI w g m) (x : ByteArray) (hx : x.size ≤ 1000) : Calls Tryz.prog 222 #[.pointer (some ⟨g, 0, none⟩), .string x] w fun e w' => e = .returned (.tuple #[.int .i64 0, .bool false]) ∧ w' = w := by
 have c0 := (blk_cell h.1 1).trans rfl
 have hl := h.2.look2 lawS Tryz.underlying166 zeroI (keyS hx) (ky_key x)
 clear h
 go_enter Tryz.func222, Tryz.ntmps222
 go_wp2
 go_ret2
 exact ⟨rfl, rfl⟩
theorem timer.Len.calls (h : TI w g m) : Calls Tryz.prog 251 #[.pointer (some ⟨g, 0, none⟩)] w fun e w' => e = .returned (.int .i64 0) ∧ w' = w := by
 have c0 := (blk_cell h.1 0).trans rfl
 clear h
 go_enter Tryz.func251, Tryz.ntmps251
 go_wp2
 go_ret
 exact ⟨rfl, rfl⟩
theorem timer.Next.calls (h : TI w g m) : Calls Tryz.prog 199 #[.pointer (some ⟨g, 0, none⟩)] w fun e w' => e = .returned (.tuple #[.int .i64 0, .bool false]) ∧ w' = w := by
 have H := Aside0.mk h
 clear h
 go_enter Tryz.func199, Tryz.ntmps199
 go_wp2_with fail
 refine (timer.Len.calls H.out).mono ?_
 rintro e w4 ⟨rfl, rfl⟩
 go_wp2
 go_ret2
 exact ⟨rfl, rfl⟩
theorem timer.Due.calls (h : TI w g m) (now : Int) : Calls Tryz.prog 147 #[.pointer (some ⟨g, 0, none⟩), .int .i64 now] w fun e w' => e = .returned (.slice none 0 0) ∧ w' = w := by
 have H := Aside0.mk h
 clear h
 go_enter Tryz.func147, Tryz.ntmps147
 go_wp2
 go_loopw [5] (fun iv wr => iv = .slice none 0 0 ∧ wr = w) (fun iv _ => 0)
 case atStart => exact ⟨rfl, rfl⟩
 case round =>
  obtain ⟨rfl, rfl⟩ := hrel
  go_wp2_with fail
  refine (timer.Next.calls H.out).mono ?_
  rintro e w4 ⟨rfl, rfl⟩
  go_wp2
  go_ret
  exact ⟨rfl, rfl⟩
end
end Go.Proofs.YtceffpgcbihckaaGreat.Top
namespace Go.Proofs.YtceffpgcbihckaaGreat.PlainRune
theorem width (s : ByteArray) (p : Nat) (h : p < s.size) : 1 ≤ (Utf8.decode s p).2 ∧ (Utf8.decode s p).2 ≤ 4 ∧ p + (Utf8.decode s p).2 ≤ s.size := by
  rw [Lib.decode_at]
  unfold Lib.decodeN
  repeat' split
  all_goals (simp only; omega)
theorem rune_in (s : ByteArray) (p : Nat) : (Utf8.decode s p).1 ≤ 1114111 := by
  rw [Lib.decode_at]
  have h0 : (s.get! p).toNat < 256 := (s.get! p).toNat_lt
  unfold Lib.decodeN
  repeat' split
  all_goals (simp only; omega)
def nxt (s : ByteArray) (p : Nat) : Nat := p + (Utf8.decode s p).2
def rn (s : ByteArray) (p : Nat) : Int := ((Utf8.decode s p).1 : Int)
def rfrom (s : ByteArray) : Nat → Nat → List Int
  | 0, _ => []
  | f + 1, p => if p < s.size then rn s p :: rfrom s f (nxt s p) else []
def runes (s : ByteArray) : List Int := rfrom s s.size 0
theorem rfrom_end (s : ByteArray) (f p : Nat) (h : ¬ p < s.size) : rfrom s f p = [] := by
  cases f with
  | zero => rfl
  | succ f => simp only [rfrom]; rw [if_neg h]
theorem rfrom_go (s : ByteArray) (f p : Nat) (h : p < s.size) (hf : s.size ≤ p + f) : ∃ f', f = f' + 1 ∧ rfrom s f p = rn s p :: rfrom s f' (nxt s p) ∧ s.size ≤ nxt s p + f' := by
  obtain ⟨f', rfl⟩ : ∃ f', f = f' + 1 := ⟨f - 1, by omega⟩
  refine ⟨f', rfl, ?_, ?_⟩
  · simp only [rfrom]; rw [if_pos h]
  · have := width s p h; unfold nxt; omega
theorem rfrom_more (s : ByteArray) (f : Nat) : ∀ (g p : Nat), s.size ≤ p + f → s.size ≤ p + g → rfrom s f p = rfrom s g p := by
  induction f with
  | zero => intro g p h _; rw [rfrom_end s g p (by omega)]; rfl
  | succ f ih =>
    intro g p hf hg
    by_cases h : p < s.size
    · obtain ⟨f', e, h1, h2⟩ := rfrom_go s (f + 1) p h hf
      obtain ⟨g', e2, h3, h4⟩ := rfrom_go s g p h hg
      have : f' = f := by omega
      subst this
      rw [h1, h3, ih g' (nxt s p) h2 h4]
    · rw [rfrom_end s _ p h, rfrom_end s g p h]
theorem rfrom_length (s : ByteArray) (f : Nat) : ∀ p, s.size ≤ p + f → (rfrom s f p).length ≤ s.size - p ∧ s.size ≤ p + 4 * (rfrom s f p).length := by
  induction f with
  | zero => intro p h; simp [rfrom]; omega
  | succ f ih =>
    intro p hf
    by_cases h : p < s.size
    · have hw := width s p h
      have hn := ih (nxt s p) (by unfold nxt; omega)
      simp only [rfrom]; rw [if_pos h]
      simp only [List.length_cons]
      unfold nxt at hn ⊢
      omega
    · rw [rfrom_end s _ p h]; simp; omega
def kd (r : Int) : Int := if 97 ≤ r ∧ r ≤ 122 then 0 else if 945 ≤ r ∧ r ≤ 969 then 1 else if 48 ≤ r ∧ r ≤ 57 then 2 else if r = 45 then 3 else 4
theorem kd_in (r : Int) : 0 ≤ kd r ∧ kd r ≤ 4 := by unfold kd; repeat' split
                                                    all_goals omega
def fitL : Nat → List Int → Bool
  | n, [] => decide (0 < n)
  | n, r :: l => if kd r > 3 ∨ (n = 0 ∧ kd r > 1) ∨ n = 12 then false else fitL (n + 1) l
theorem fitL_iff (l : List Int) : ∀ n, n ≤ 12 → (fitL n l = true ↔ (∀ x ∈ l, kd x ≤ 3) ∧ (n = 0 → ∀ r, l.head? = some r → kd r ≤ 1) ∧ 0 < n + l.length ∧ n + l.length ≤ 12) := by
  induction l with
  | nil => intro n hn; simp [fitL]; omega
  | cons r l ih =>
    intro n hn
    unfold fitL
    by_cases h : kd r > 3 ∨ (n = 0 ∧ kd r > 1) ∨ n = 12
    · rw [if_pos h]
      simp only [Bool.false_eq_true, false_iff, List.mem_cons, List.head?_cons, Option.some.injEq, List.length_cons, not_and]
      intro h1 h2 h3
      have a1 := h1 r (Or.inl rfl)
      rcases h with h | h | h
      · omega
      · have := h2 h.1 r rfl; omega
      · omega
    · rw [if_neg h, ih (n + 1) (by omega)]
      simp only [List.mem_cons, List.head?_cons, Option.some.injEq, List.length_cons]
      constructor
      · rintro ⟨h1, _, h3, h4⟩
        refine ⟨?_, ?_, by omega, by omega⟩
        · rintro x (rfl | hx)
          · omega
          · exact h1 x hx
        · rintro h0 x rfl; omega
      · rintro ⟨h1, h2, h3, h4⟩
        exact ⟨fun x hx => h1 x (Or.inr hx), fun h0 => by omega, by omega, by omega⟩
def fit (s : ByteArray) : Bool := fitL 0 (runes s)
theorem fit_iff (s : ByteArray) : fit s = true ↔ (∀ x ∈ runes s, kd x ≤ 3) ∧ (∀ r, (runes s).head? = some r → kd r ≤ 1) ∧ 1 ≤ (runes s).length ∧ (runes s).length ≤ 12 := by
  unfold fit
  rw [fitL_iff _ 0 (by omega)]
  simp only [true_implies, Nat.zero_add]
  exact Iff.rfl
theorem fit_small (s : ByteArray) (h : fit s = true) : s.size ≤ 48 := by
  have h1 := (fit_iff s).1 h
  have h2 := (rfrom_length s s.size 0 (by omega)).2
  unfold runes at h1
  omega
def mk (k : Int) (l : List Int) : Int := ((l.filter (fun r => kd r == k)).length : Int)
theorem mk_in (k : Int) (l : List Int) : 0 ≤ mk k l ∧ mk k l ≤ l.length := by
  unfold mk
  have := List.length_filter_le (fun r => kd r == k) l
  omega
theorem mk_snoc (k : Int) (l : List Int) (r : Int) : mk k (l ++ [r]) = mk k l + if kd r = k then 1 else 0 := by
  unfold mk
  rw [List.filter_append]
  by_cases h : kd r = k <;> simp [h]
def clipAt (s : ByteArray) : Nat → Nat → Int → Nat
  | 0, p, _ => p
  | f + 1, p, n => if p < s.size ∧ 0 < n then clipAt s f (nxt s p) (n - 1) else p
theorem clipAt_le (s : ByteArray) (f : Nat) : ∀ p n, p ≤ s.size → p ≤ clipAt s f p n ∧ clipAt s f p n ≤ s.size := by
  induction f with
  | zero => intro p n h; exact ⟨Nat.le_refl _, h⟩
  | succ f ih =>
    intro p n h
    unfold clipAt
    split
    · rename_i hc
      have hw := width s p hc.1
      have := ih (nxt s p) (n - 1) (by unfold nxt; omega)
      unfold nxt at this ⊢
      omega
    · exact ⟨Nat.le_refl _, h⟩
theorem clipAt_end (s : ByteArray) (f p : Nat) (n : Int) (h : ¬ (p < s.size ∧ 0 < n)) : clipAt s f p n = p := by
  cases f with
  | zero => rfl
  | succ f => simp only [clipAt]; rw [if_neg h]
def clip (s : ByteArray) (n : Int) : ByteArray := s.extract 0 (clipAt s s.size 0 n)
def cmp : List Int → List Int → Int
  | [], [] => 0
  | [], _ :: _ => -1
  | _ :: _, [] => 1
  | x :: a, y :: b => if x < y then -1 else if y < x then 1 else cmp a b
theorem cmp_neg (a : List Int) : ∀ b, cmp b a = - cmp a b := by
  induction a with
  | nil => intro b; cases b <;> rfl
  | cons x a ih =>
    intro b
    cases b with
    | nil => rfl
    | cons y b =>
      unfold cmp
      by_cases h1 : x < y
      · rw [if_pos h1, if_neg (show ¬ y < x by omega), if_pos h1]; rfl
      · by_cases h2 : y < x
        · rw [if_pos h2, if_neg h1, if_pos h2]
        · rw [if_neg h2, if_neg h1, if_neg h1, if_neg h2, ih]
theorem cmp_self (a : List Int) : cmp a a = 0 := by
  have := cmp_neg a a
  omega
theorem cmp_in (a : List Int) : ∀ b, cmp a b = -1 ∨ cmp a b = 0 ∨ cmp a b = 1 := by
  induction a with
  | nil => intro b; cases b <;> simp [cmp]
  | cons x a ih =>
    intro b
    cases b with
    | nil => simp [cmp]
    | cons y b =>
      unfold cmp
      repeat' split
      · simp
      · simp
      · exact ih b
end Go.Proofs.YtceffpgcbihckaaGreat.PlainRune
namespace Go.Proofs.YtceffpgcbihckaaGreat.Label
open Go.RowKit Go.Proofs.YtceffpgcbihckaaGreatW.PrintWords Go.Proofs.YtceffpgcbihckaaGreatW.PrintLast Go.Proofs.YtceffpgcbihckaaGreatW.PrintMore
open PlainRune
set_option linter.unusedVariables false
set_option linter.unusedSimpArgs false
theorem iter_below (w : World) (s : ByteArray) (p : Nat) : Below w.heap.size w (w.iter s p) := below_alloc (Below.refl _ _) _
theorem kind.calls (r : Int) (w : World) : Calls Tryz.prog 93 #[.int .i32 r] w fun e w' => e = .returned (.int .i64 (kd r)) ∧ w' = w := by
  by_cases h0 : 97 ≤ r ∧ r ≤ 122
  · have e : kd r = 0 := by unfold kd; rw [if_pos h0]
    rw [e]
    obtain ⟨h1, h2⟩ := h0
    clear e
    go_enter Tryz.func93, Tryz.ntmps93
    go_wp2
    go_ret
    exact ⟨rfl, rfl⟩
  · by_cases h3 : 945 ≤ r ∧ r ≤ 969
    · have e : kd r = 1 := by unfold kd; rw [if_neg h0, if_pos h3]
      rw [e]
      obtain ⟨h1, h2⟩ := h3
      have h4 : ¬ r ≤ 122 := by omega
      clear e h0
      go_enter Tryz.func93, Tryz.ntmps93
      go_wp2
      go_ret
      exact ⟨rfl, rfl⟩
    · by_cases h5 : 48 ≤ r ∧ r ≤ 57
      · have e : kd r = 2 := by unfold kd; rw [if_neg h0, if_neg h3, if_pos h5]
        rw [e]
        obtain ⟨h1, h2⟩ := h5
        clear e h0 h3
        go_enter Tryz.func93, Tryz.ntmps93
        go_wp2
        go_ret
        exact ⟨rfl, rfl⟩
      · by_cases h6 : r = 45
        · subst h6
          rw [show kd 45 = 3 from rfl]
          go_enter Tryz.func93, Tryz.ntmps93
          go_wp2
          go_ret
          exact ⟨rfl, rfl⟩
        · have e : kd r = 4 := by unfold kd; rw [if_neg h0, if_neg h3, if_neg h5, if_neg h6]
          rw [e]
          have g6 : (r == 45) = false := beq_eq_false_iff_ne.2 h6
          have a1 : (97 ≤ r ∧ 122 < r) ∨ ¬ 97 ≤ r := by omega
          have a2 : (945 ≤ r ∧ 969 < r) ∨ ¬ 945 ≤ r := by omega
          have a3 : (48 ≤ r ∧ 57 < r) ∨ ¬ 48 ≤ r := by omega
          clear e h0 h3 h5 h6
          rcases a1 with ⟨p1, p2⟩ | p1 <;> rcases a2 with ⟨q1, q2⟩ | q1 <;> rcases a3 with ⟨u1, u2⟩ | u1
          all_goals
            first
            | (exfalso; omega)
            | (go_enter Tryz.func93, Tryz.ntmps93
               go_wp2
               go_ret
               exact ⟨rfl, rfl⟩)
theorem fitL_no (c : Nat) (r : Int) (l : List Int) (h : kd r > 3 ∨ (c = 0 ∧ kd r > 1) ∨ c = 12) : fitL c (r :: l) = false := by
  unfold fitL; rw [if_pos h]
theorem fitL_go (c : Nat) (r : Int) (l : List Int) (h : ¬ (kd r > 3 ∨ (c = 0 ∧ kd r > 1) ∨ c = 12)) : fitL c (r :: l) = fitL (c + 1) l := by
  conv => lhs; unfold fitL
  rw [if_neg h]
theorem Fit.any (s : ByteArray) (w : World) :
    Calls Tryz.prog 48 #[.string s] w fun e w' => e = .returned (.bool (fit s)) ∧ Below w.heap.size w w' := by
  go_enter Tryz.func48, Tryz.ntmps48
  go_wp2
  go_loopw [3] (fun n w' => ∃ (p f : Nat) (c : Nat), w' = w.iter s p ∧ n = .int .i64 (c : Int) ∧ Aside0 (fitL c (rfrom s f p) = fit s) ∧ Aside0 (s.size ≤ p + f) ∧ c ≤ 12 ∧ p ≤ s.size) (fun _ w' => s.size - w'.iterPos w.heap.size)
  case atStart => exact ⟨0, s.size, 0, rfl, rfl, ⟨rfl⟩, ⟨by omega⟩, by omega, by omega⟩
  case round =>
    obtain ⟨p, f, c, rfl, rfl, HC, HF, hcp, hps⟩ := hrel
    by_cases hp : p < s.size
    · have hnx : ∀ ty, (Instr.next (.pointer (some ⟨w.heap.size, 0, none⟩)) true ty).run Tryz.prog (w.iter s p) = _ := fun ty => run_next_any w s p ty hp
      have hw := width s p hp
      obtain ⟨f', rfl, hr, hf⟩ := rfrom_go s f p hp HF.out
      have hc := HC.out
      rw [hr] at hc
      have HF2 := Aside0.mk hf
      clear hr hf HC
      obtain ⟨K, hK⟩ : ∃ K, K = kd (rn s p) := ⟨_, rfl⟩
      have hkd := kd_in (rn s p)
      rw [← hK] at hkd
      by_cases h1 : K > 3
      · rw [fitL_no c _ _ (Or.inl (by rw [← hK]; exact h1))] at hc
        have HC := Aside0.mk hc
        have HK := Aside0.mk hK
        clear hc hK
        go_wp2_with fail
        refine (kind.calls (rn s p) _).mono ?_
        rintro e w' ⟨rfl, rfl⟩
        rw [← HK.out]
        go_wp2
        go_ret
        exact ⟨by rw [← HC.out]; rfl, iter_below w s _⟩
      · by_cases h2 : c = 0 ∧ K > 1
        · rw [fitL_no c _ _ (Or.inr (Or.inl (by rw [← hK]; exact h2)))] at hc
          have HC := Aside0.mk hc
          have HK := Aside0.mk hK
          clear hc hK
          obtain ⟨rfl, h3⟩ := h2
          go_wp2_with fail
          refine (kind.calls (rn s p) _).mono ?_
          rintro e w' ⟨rfl, rfl⟩
          rw [← HK.out]
          go_wp2
          go_ret
          exact ⟨by rw [← HC.out]; rfl, iter_below w s _⟩
        · by_cases h3 : c = 12
          · rw [fitL_no c _ _ (Or.inr (Or.inr h3))] at hc
            have HC := Aside0.mk hc
            have HK := Aside0.mk hK
            clear hc hK h2
            subst h3
            go_wp2_with fail
            refine (kind.calls (rn s p) _).mono ?_
            rintro e w' ⟨rfl, rfl⟩
            rw [← HK.out]
            go_wp2
            go_ret
            exact ⟨by rw [← HC.out]; rfl, iter_below w s _⟩
          · rw [fitL_go c _ _ (by rw [← hK]; omega)] at hc
            have HC := Aside0.mk hc
            have HK := Aside0.mk hK
            clear hc hK
            have q3 : ((c : Int) == 12) = false := beq_eq_false_iff_ne.2 (by omega)
            by_cases h4 : c = 0
            · subst h4
              have q2 : ¬ K > 1 := by omega
              clear h2
              go_wp2_with fail
              refine (kind.calls (rn s p) _).mono ?_
              rintro e w' ⟨rfl, rfl⟩
              rw [← HK.out]
              go_wp2
              go_roundw
              case rel => exact ⟨p + (Utf8.decode s p).2, f', 0 + 1, rfl, rfl, HC, HF2, by omega, by omega⟩
              case measure => simp; omega
            · have q4 : ((c : Int) == 0) = false := beq_eq_false_iff_ne.2 (by omega)
              clear h2
              go_wp2_with fail
              refine (kind.calls (rn s p) _).mono ?_
              rintro e w' ⟨rfl, rfl⟩
              rw [← HK.out]
              go_wp2
              go_roundw
              case rel => exact ⟨p + (Utf8.decode s p).2, f', c + 1, rfl, by go_num, HC, HF2, by omega, by omega⟩
              case measure => simp; omega
    · have hnx : ∀ ty, (Instr.next (.pointer (some ⟨w.heap.size, 0, none⟩)) true ty).run Tryz.prog (w.iter s p) = _ := fun ty => run_next_end w s p ty hp
      have hc := HC.out
      rw [rfrom_end s f p hp] at hc
      have HC2 := Aside0.mk hc
      clear hc HC
      go_wp2
      go_ret
      refine ⟨?_, iter_below w s _⟩
      rw [← HC2.out]
      simp [fitL]
theorem Fit.calls (s : ByteArray) (w : World) (hs : s.size ≤ 4611686018427387904) :
    Calls Tryz.prog 48 #[.string s] w fun e w' => e = .returned (.bool (fit s)) ∧ Below w.heap.size w w' := Fit.any s w
end Go.Proofs.YtceffpgcbihckaaGreat.Label
namespace Go.Proofs.YtceffpgcbihckaaGreat.PTop
open Go.RowKit Go.Proofs.YtceffpgcbihckaaGreatW.PrintWords
def label_Fit.f (s : ByteArray) : Option Bool := if s.size ≤ 4611686018427387904 then some (PlainRune.fit s) else none
theorem label_Fit.calls (a0 : ByteArray) (r : Bool) (w : World) (h : label_Fit.f a0 = some r) :
    Calls Tryz.prog 48 #[.string a0] w fun e w' => e = .returned (.bool r) ∧ Below w.heap.size w w' := by
  unfold label_Fit.f at h
  split at h
  · injection h with h
    subst h
    exact Label.Fit.calls a0 w (by assumption)
  · cases h
end Go.Proofs.YtceffpgcbihckaaGreat.PTop
namespace Go.Proofs.YtceffpgcbihckaaGreat.Top
open Go.RowKit Go.Proofs.YtceffpgcbihckaaGreatW.PrintWords Go.Proofs.YtceffpgcbihckaaGreatW.PrintLast Go.Proofs.YtceffpgcbihckaaGreatW.PrintMore Go.Proofs.YtceffpgcbihckaaGreat.Base
structure FN where
 fl : Nat
 mh : Nat
 mf : Nat
 gt : Nat
 gq : Nat
 gi : Nat
 gm : Nat
 mw : Nat → Nat
def ecs (n : FN) (m : Nat) (base cap : Int) (e : Nat → Value) : Array Value := #[.pointer (some ⟨n.fl, 0, none⟩), .int .i64 (m : Int), .int .i64 base, .int .i64 cap, .map (some n.mh), .map (some n.mf), e 0, e 1, e 2, e 3, e 4, e 5, e 6, e 7, e 8, .pointer (some ⟨n.gt, 0, none⟩), .pointer (some ⟨n.gi, 0, none⟩)]
def FE.foot (g : Nat) (n : FN) (v : Nat → Value) (k : Nat) : Prop := k = g ∨ k = n.fl ∨ k = n.mh ∨ k = n.gi ∨ k = n.gm ∨ TQ.foot n.gt n.gq v k ∨ ∃ c, c < 9 ∧ k = n.mw c
structure FE (N0 : Nat) (w : World) (g : Nat) (n : FN) (m : Nat) (base cap : Int) (b : Nat) (s : Nat → Int × ByteArray) (gv : Int) (v : Nat → Value) (q : Nat → List ByteArray) (last : Int) (sz : Nat → Nat) (pl : Nat → Lit → Option Value) : Prop where
 blk : w.heap[g]? = some (.cells (ecs n m base cap fun c => .map (some (n.mw c))) 173 (0, 0))
 fl : FB w n.fl s (m : Int) gv
 had : MV 9 w n.mh 0 (fun _ => none)
 tq : TQ N0 w n.gt n.gq v q last
 ti : TI w n.gi n.gm
 mv : ∀ c, c < 9 → MV 9 w (n.mw c) (sz c) (pl c)
 low : N0 ≤ g ∧ N0 ≤ n.fl ∧ N0 ≤ n.mh ∧ N0 ≤ n.gi ∧ N0 ≤ n.gm ∧ ∀ c, c < 9 → N0 ≤ n.mw c
 m1 : 1 ≤ m
 m8 : m ≤ 8
 gv0 : 0 ≤ gv
 gvb : gv ≤ (b : Int)
 s0 : ∀ i, i < 8 → 0 ≤ (s i).1
 szb : ∀ c, c < 9 → sz c ≤ b
 qb : ∀ c, c < 9 → (q c).length ≤ b ∧ ∀ z ∈ q c, z.size ≤ 1000
 tf : ∀ c, c < 9 → ∀ k, ∃ t, (pl c k).getD (.bool false) = .bool t
 nd : n.mh ≠ n.gm ∧ (∀ c, c < 9 → n.mw c ≠ n.mh ∧ n.mw c ≠ n.gm) ∧ ∀ c d, c < 9 → d < 9 → c ≠ d → n.mw c ≠ n.mw d
theorem MV.ne {k : TypeId} {w : World} {m s g : Nat} {pl : Lit → Option Value} {cs : Array Value} {t : TypeId} {e : Nat × Nat} (h : MV k w m s pl) (hb : w.heap[g]? = some (.cells cs t e)) : m ≠ g := by
 obtain ⟨es, clock, hm⟩ := h.blk
 intro e
 rw [e, hb] at hm
 cases hm
section
variable {N0 : Nat} {w w' : World} {g : Nat} {n : FN} {m : Nat} {base cap : Int} {b : Nat} {s : Nat → Int × ByteArray} {gv : Int} {v : Nat → Value} {q : Nat → List ByteArray} {last : Int} {sz : Nat → Nat} {pl : Nat → Lit → Option Value}
theorem FE.mono {b' : Nat} (h : FE N0 w g n m base cap b s gv v q last sz pl) (hb : b ≤ b') : FE N0 w g n m base cap b' s gv v q last sz pl :=
 { h with gvb := by have := h.gvb; omega, szb := fun c hc => Nat.le_trans (h.szb c hc) hb, qb := fun c hc => ⟨Nat.le_trans (h.qb c hc).1 hb, (h.qb c hc).2⟩ }
theorem FE.frm {F : Nat → Prop} (h : FE N0 w g n m base cap b s gv v q last sz pl) (hf : Frm F w w') (hF : ∀ k, FE.foot g n v k → ¬ F k) : FE N0 w' g n m base cap b s gv v q last sz pl :=
 { h with
  blk := hf.blk h.blk (hF _ (.inl rfl))
  fl := hf.blk h.fl (hF _ (.inr (.inl rfl)))
  had := h.had.frm hf (hF _ (.inr (.inr (.inl rfl))))
  tq := h.tq.frm hf (fun k hk => hF k (.inr (.inr (.inr (.inr (.inr (.inl hk)))))))
  ti := h.ti.frm hf (hF _ (.inr (.inr (.inr (.inl rfl))))) (hF _ (.inr (.inr (.inr (.inr (.inl rfl))))))
  mv := fun c hc => (h.mv c hc).frm hf (hF _ (.inr (.inr (.inr (.inr (.inr (.inr ⟨c, hc, rfl⟩))))))) }
theorem FE.below (h : FE N0 w g n m base cap b s gv v q last sz pl) (hb : Below w.heap.size w w') : FE N0 w' g n m base cap b s gv v q last sz pl := h.frm (F := fun _ => False) (Frm.below hb) (fun _ _ h => h)
theorem FE.cells (h : FE N0 w g n m base cap b s gv v q last sz pl) (c : Nat) (hc : c < 9) : w.cell? ⟨g, 6 + c, none⟩ = some (.map (some (n.mw c))) := by
 rcases (show c = 0 ∨ c = 1 ∨ c = 2 ∨ c = 3 ∨ c = 4 ∨ c = 5 ∨ c = 6 ∨ c = 7 ∨ c = 8 by omega) with rfl | rfl | rfl | rfl | rfl | rfl | rfl | rfl | rfl <;> exact (blk_cell h.blk _).trans rfl
theorem FE.want (h : FE N0 w g n m base cap b s gv v q last sz pl) (c : Nat) (hc : c < 9) {z : Nat} {p : Lit → Option Value} (hm : MV 9 w' (n.mw c) z p) (hg : w.grownBy w' (some (n.mw c))) (hz : z ≤ b) (hp : ∀ k, ∃ t, (p k).getD (.bool false) = .bool t) :
  FE N0 w' g n m base cap b s gv v q last (fun d => if d = c then z else sz d) (fun d => if d = c then p else pl d) := by
 have hf := Frm.grown (F := fun k => k = n.mw c) hg (fun k hk => by injection hk with hk; exact hk.symm)
 have hmv := h.mv c hc
 exact { h with
  blk := hf.blk h.blk (fun e => hmv.ne h.blk e.symm)
  fl := hf.blk h.fl (fun e => hmv.ne h.fl e.symm)
  had := h.had.frm hf (fun e => (h.nd.2.1 c hc).1 e.symm)
  tq := h.tq.frm hf (fun k hk e => by
   rcases hk with hk | hk | ⟨i, hi, hk⟩
   ·exact hmv.ne h.tq.blk (e.symm.trans hk)
   ·exact hmv.ne h.tq.row (e.symm.trans hk)
   ·obtain ⟨es, clock, hmb⟩ := hmv.blk
    rw [e] at hk
    obtain ⟨_, inner, ho, _⟩ := h.tq.own i hi
    obtain ⟨_, cells', hc'⟩ := q_typed ho _ hk
    rw [hmb] at hc'
    cases hc')
  ti := h.ti.frm hf (fun e => hmv.ne h.ti.1 e.symm) (fun e => (h.nd.2.1 c hc).2 e.symm)
  mv := fun d hd => by
   by_cases e : d = c
   ·subst e
    simp only [if_pos]
    exact hm
   ·simp only [if_neg e]
    exact (h.mv d hd).frm hf (fun e2 => h.nd.2.2 d c hd hc e e2)
  szb := fun d hd => by
   by_cases e : d = c
   ·simp only [if_pos e]; exact hz
   ·simp only [if_neg e]; exact h.szb d hd
  tf := fun d hd k => by
   by_cases e : d = c
   ·simp only [if_pos e]; exact hp k
   ·simp only [if_neg e]; exact h.tf d hd k }
def tqT : Obj → Bool
 | .cells _ t _ => t == 232 || t == 324 || t == 9
 | _ => false
theorem TQ.kind {g gq : Nat} (h : TQ N0 w g gq v q last) (k : Nat) (hk : TQ.foot g gq v k) : ∃ o, w.heap[k]? = some o ∧ tqT o = true := by
 rcases hk with rfl | rfl | ⟨i, hi, hk⟩
 ·exact ⟨_, h.blk, rfl⟩
 ·exact ⟨_, h.row, rfl⟩
 ·obtain ⟨_, inner, ho, _⟩ := h.own i hi
  obtain ⟨_, cells', hc'⟩ := q_typed ho _ hk
  exact ⟨_, hc', rfl⟩
theorem TQ.apart {g gq k : Nat} {o : Obj} (h : TQ N0 w g gq v q last) (hk : w.heap[k]? = some o) (ho : tqT o = false) : ¬ TQ.foot g gq v k := by
 intro hf
 obtain ⟨o', h1, h2⟩ := h.kind k hf
 rw [hk] at h1
 injection h1 with h1
 rw [h1, h2] at ho
 cases ho
theorem MV.apart {k : TypeId} {m s g gq : Nat} {p : Lit → Option Value} (hm : MV k w m s p) (h : TQ N0 w g gq v q last) : ¬ TQ.foot g gq v m := by
 obtain ⟨es, clock, hb⟩ := hm.blk
 exact h.apart hb rfl
theorem FE.queue {v' : Nat → Value} {q' : Nat → List ByteArray} {last' : Int} (h : FE N0 w g n m base cap b s gv v q last sz pl) (ht : TQ N0 w' n.gt n.gq v' q' last') (hf : Frm (TQ.foot n.gt n.gq v) w w') (hq : ∀ c, c < 9 → (q' c).length ≤ b ∧ ∀ z ∈ q' c, z.size ≤ 1000) :
  FE N0 w' g n m base cap b s gv v' q' last' sz pl :=
 { h with
  blk := hf.blk h.blk (h.tq.apart h.blk rfl)
  fl := hf.blk h.fl (h.tq.apart h.fl rfl)
  had := h.had.frm hf (h.had.apart h.tq)
  tq := ht
  ti := h.ti.frm hf (h.tq.apart h.ti.1 rfl) (h.ti.2.apart h.tq)
  mv := fun c hc => (h.mv c hc).frm hf ((h.mv c hc).apart h.tq)
  qb := hq }
theorem FE.fly {s' : Nat → Int × ByteArray} {gv' : Int} (h : FE N0 w g n m base cap b s gv v q last sz pl) (ht : FB w' n.fl s' (m : Int) gv') (hg : w.grownBy w' (some n.fl)) (h0 : 0 ≤ gv') (hb : gv' ≤ (b : Int)) (hs : ∀ i, i < 8 → 0 ≤ (s' i).1) :
  FE N0 w' g n m base cap b s' gv' v q last sz pl :=
 have hf := Frm.grown (F := fun k => k = n.fl) hg (fun k hk => by injection hk with hk; exact hk.symm)
 { h with
  blk := hf.blk h.blk (blk_ne h.blk h.fl (by decide))
  fl := ht
  had := h.had.frm hf (h.had.ne h.fl)
  tq := h.tq.frm hf (fun k hk e => h.tq.apart h.fl rfl (e ▸ hk))
  ti := h.ti.frm hf (blk_ne h.ti.1 h.fl (by decide)) (h.ti.2.ne h.fl)
  mv := fun c hc => (h.mv c hc).frm hf ((h.mv c hc).ne h.fl)
  gv0 := h0
  gvb := hb
  s0 := hs }
theorem fetch.client.calls (c : Nat) (hc : c < 9) (w : World) : Calls Tryz.prog 161 #[.pointer (some ⟨g, 0, none⟩), .int .i64 (c : Int)] w fun e w' => e = .returned (.bool true) ∧ w' = w := by
 have q0 : decide ((0 : Int) ≤ (c : Int)) = true := decide_eq_true (by omega)
 have q1 : decide ((c : Int) < 9) = true := decide_eq_true (by omega)
 go_enter Tryz.func161, Tryz.ntmps161
 go_wp2
 go_ret
 exact ⟨rfl, rfl⟩
theorem zeroB (w : World) : (zeroValue 4).run Tryz.prog w = .ok (.bool false) w := by kernel_rfl
set_option maxRecDepth 100000 in
theorem fetch.rest.calls (h : FE N0 w g n m base cap b s gv v q last sz pl) (x : ByteArray) (hx : x.size ≤ 1000) : Calls Tryz.prog 162 #[.pointer (some ⟨g, 0, none⟩), .string x] w fun e w' => e = .returned (.bool (!decide (0 ≤ sidxV (byName x) s m))) ∧ Below w.heap.size w w' := by
 have H := Aside0.mk h
 have HX := Aside0.mk hx
 have c0 : w.cell? ⟨g, 0, none⟩ = some (.pointer (some ⟨n.fl, 0, none⟩)) := (blk_cell h.blk 0).trans rfl
 have c1 : w.cell? ⟨g, 4, none⟩ = some (.map (some n.mh)) := (blk_cell h.blk 4).trans rfl
 have c2 : w.cell? ⟨g, 16, none⟩ = some (.pointer (some ⟨n.gi, 0, none⟩)) := (blk_cell h.blk 16).trans rfl
 have hl := h.had.look1 lawS Tryz.underlying165 zeroB (keyS hx) (ky_key x)
 clear h hx
 go_enter Tryz.func162, Tryz.ntmps162
 go_wp2_with fail
 refine (timer.Get.calls H.out.ti x HX.out).mono ?_
 rintro e w4 ⟨rfl, rfl⟩
 go_wp2_with fail
 refine (flight.Has.calls H.out.fl H.out.m8 x).mono ?_
 rintro e w4 ⟨rfl, hb⟩
 have HB := Aside0.mk hb
 clear hb
 go_wp2
 go_ret
 exact ⟨rfl, HB.out⟩
end
def FX (N0 : Nat) (w : World) (g : Nat) (F : Nat → Prop) (b : Nat) : Prop := ∃ n m base cap s gv v q last sz pl, FE N0 w g n m base cap b s gv v q last sz pl ∧ ∀ k, FE.foot g n v k → F k
def orNew (F : Nat → Prop) (w : World) (k : Nat) : Prop := F k ∨ w.heap.size ≤ k
section
variable {N0 : Nat} {w w' : World} {g : Nat} {F : Nat → Prop} {b : Nat}
theorem FX.frm {G : Nat → Prop} (h : FX N0 w g F b) (hf : Frm G w w') (hG : ∀ k, F k → ¬ G k) : FX N0 w' g F b := by
 obtain ⟨n, m, base, cap, s, gv, v, q, last, sz, pl, h1, h2⟩ := h
 exact ⟨n, m, base, cap, s, gv, v, q, last, sz, pl, h1.frm hf (fun k hk => hG k (h2 k hk)), h2⟩
theorem FX.below (h : FX N0 w g F b) (hb : Below w.heap.size w w') : FX N0 w' g F b := h.frm (G := fun _ => False) (Frm.below hb) (fun _ _ h => h)
theorem FX.mono {G : Nat → Prop} {b' : Nat} (h : FX N0 w g F b) (hF : ∀ k, F k → G k) (hb : b ≤ b') : FX N0 w g G b' := by
 obtain ⟨n, m, base, cap, s, gv, v, q, last, sz, pl, h1, h2⟩ := h
 exact ⟨n, m, base, cap, s, gv, v, q, last, sz, pl, h1.mono hb, fun k hk => hF k (h2 k hk)⟩
set_option maxHeartbeats 4000000 in
set_option maxRecDepth 100000 in
theorem fetch.Want.calls (h : FX N0 w g F b) (hb : b ≤ 80000) (c : Nat) (hc : c < 9) (x : ByteArray) (hx : x.size ≤ 1000) : Calls Tryz.prog 111 #[.pointer (some ⟨g, 0, none⟩), .int .i64 (c : Int), .string x] w fun e w' => (∃ t : Bool, e = .returned (.bool t)) ∧ FX N0 w' g (orNew F w) (b + 1) ∧ Frm F w w' := by
 obtain ⟨n, m, base, cap, s, gv, v, q, last, sz, pl, h1, h2⟩ := h
 have H := Aside0.mk h1
 have HF := Aside0.mk h2
 have HX := Aside0.mk hx
 have HC := Aside0.mk hc
 have HBB := Aside0.mk hb
 have q0 : (0 : Int) ≤ (c : Int) := by omega
 have q1 : (c : Int) < 9 := by omega
 clear h1 h2 hx hc hb
 go_enter Tryz.func111, Tryz.ntmps111
 go_wp2_with fail
 refine (fetch.client.calls c HC.out w).mono ?_
 rintro e w4 ⟨rfl, rfl⟩
 go_wp2_with fail
 refine (Label.Fit.calls x w4 (by have := HX.out; omega)).mono ?_
 rintro e w5 ⟨rfl, hb5⟩
 have H5 := Aside0.mk (H.out.below hb5)
 have HF5 := Aside0.mk (Frm.below (F := F) hb5)
 have HZ5 := Aside0.mk hb5.size
 have c0 : w5.cell? ⟨g, 4, none⟩ = some (.map (some n.mh)) := (blk_cell H5.out.blk 4).trans rfl
 have c1 := H5.out.cells c HC.out
 have l0 := H5.out.had.look1 lawS Tryz.underlying165 zeroB (keyS HX.out) (ky_key x)
 have l1 := (H5.out.mv c HC.out).look1 lawS Tryz.underlying165 zeroB (keyS HX.out) (ky_key x)
 obtain ⟨t, ht⟩ := H5.out.tf c HC.out (ky x)
 rw [ht] at l1
 clear ht hb5 H
 have hend : FX N0 w5 g (orNew F w4) (b + 1) := ⟨n, m, base, cap, s, gv, v, q, last, sz, pl, H5.out.mono (by omega), fun k hk => .inl (HF.out k hk)⟩
 have HE := Aside0.mk hend
 clear hend
 obtain ⟨u, hu⟩ : ∃ u, PlainRune.fit x = u := ⟨_, rfl⟩
 rw [hu]
 clear hu
 cases u with
 | false =>
  go_wp2
  go_ret
  exact ⟨⟨_, rfl⟩, HE.out, HF5.out⟩
 | true =>
 cases t with
 | true =>
  go_wp2
  go_ret
  exact ⟨⟨_, rfl⟩, HE.out, HF5.out⟩
 | false =>
  clear HE
  obtain ⟨w6, r6, m6, g6⟩ := (H5.out.mv c HC.out).put lawS Tryz.underlying165 (by have := H5.out.szb c HC.out; have := HBB.out; omega) (keyS HX.out) (ky_key x) (.bool true)
  have H6 := Aside0.mk ((H5.out.mono (b' := b + 1) (by omega)).want c HC.out m6 g6 (by have := H5.out.szb c HC.out; split <;> omega) (fun k => by
   unfold updM
   split
   ·exact ⟨true, rfl⟩
   ·exact H5.out.tf c HC.out k))
  have HF6 := Aside0.mk (HF5.out.trans (Frm.grown (F := F) g6 (fun k hk => by injection hk with hk; exact HF.out k (.inr (.inr (.inr (.inr (.inr (.inr ⟨c, HC.out, hk.symm⟩)))))))) (fun _ _ h => h))
  have HZ6 := Aside0.mk (Nat.le_trans HZ5.out g6.size)
  clear m6 g6 HF5
  go_wp2_with fail
  refine (fetch.rest.calls H6.out x HX.out).mono ?_
  rintro e w7 ⟨rfl, hb7⟩
  have H7 := Aside0.mk (H6.out.below hb7)
  have HF7 := Aside0.mk (HF6.out.trans (Frm.below (F := F) hb7) (fun _ _ h => h))
  have HZ7 := Aside0.mk (Nat.le_trans HZ6.out hb7.size)
  clear hb7 H6 HF6 c0 c1 l0 l1 r6 HZ6
  by_cases hs : 0 ≤ sidxV (byName x) s m
  ·have q7 : decide (0 ≤ sidxV (byName x) s m) = true := decide_eq_true hs
   rw [q7]
   go_wp2
   go_ret
   exact ⟨⟨_, rfl⟩, ⟨n, m, base, cap, s, gv, v, q, last, _, _, H7.out, fun k hk => .inl (HF.out k hk)⟩, HF7.out⟩
  ·have q7 : decide (0 ≤ sidxV (byName x) s m) = false := decide_eq_false hs
   rw [q7]
   have c2 : w7.cell? ⟨g, 15, none⟩ = some (.pointer (some ⟨n.gt, 0, none⟩)) := (blk_cell H7.out.blk 15).trans rfl
   go_wp2_with fail
   refine (turn.Push.calls H7.out.tq c HC.out (by have := (H5.out.qb c HC.out).1; have := HBB.out; omega) x).mono ?_
   rintro e w8 ⟨⟨t8, rfl⟩, ⟨v8, qq8, ht8, hq8, ho8⟩, hf8⟩
   have H8 := Aside0.mk (H7.out.queue ht8 hf8 (fun c hc => ⟨by have := (hq8 c hc).1; have := (H5.out.qb c hc).1; omega, fun z hz => by
    rcases (hq8 c hc).2 z hz with hz | hz
    ·exact (H5.out.qb c hc).2 z hz
    ·rw [hz]; exact HX.out⟩))
   have HF8 := Aside0.mk (HF7.out.trans hf8 (fun k _ hk => HF.out k (.inr (.inr (.inr (.inr (.inr (.inl hk))))))))
   have HO := Aside0.mk ho8
   clear ht8 hq8 hf8 ho8
   go_wp2
   go_ret
   refine ⟨⟨_, rfl⟩, ⟨n, m, base, cap, s, gv, v8, qq8, last, _, _, H8.out, fun k hk => ?_⟩, HF8.out⟩
   rcases hk with hk | hk | hk | hk | hk | hk | hk
   ·exact .inl (HF.out k (.inl hk))
   ·exact .inl (HF.out k (.inr (.inl hk)))
   ·exact .inl (HF.out k (.inr (.inr (.inl hk))))
   ·exact .inl (HF.out k (.inr (.inr (.inr (.inl hk)))))
   ·exact .inl (HF.out k (.inr (.inr (.inr (.inr (.inl hk))))))
   ·rcases hk with hk | hk | ⟨i, hi, hk⟩
    ·exact .inl (HF.out k (.inr (.inr (.inr (.inr (.inr (.inl (.inl hk))))))))
    ·exact .inl (HF.out k (.inr (.inr (.inr (.inr (.inr (.inl (.inr (.inl hk)))))))))
    ·rcases HO.out i hi k hk with hk | hk
     ·exact .inl (HF.out k (.inr (.inr (.inr (.inr (.inr (.inl hk)))))))
     ·exact .inr (Nat.le_trans HZ7.out hk)
   ·exact .inl (HF.out k (.inr (.inr (.inr (.inr (.inr (.inr hk)))))))
theorem FE.tqFoot {n : FN} {v v' : Nat → Value} {W : World} (hF : ∀ k, FE.foot g n v k → F k) (ho : ∀ k, TQ.foot n.gt n.gq v' k → TQ.foot n.gt n.gq v k ∨ W.heap.size ≤ k) : ∀ k, FE.foot g n v' k → orNew F W k := by
 intro k hk
 rcases hk with hk | hk | hk | hk | hk | hk | hk
 ·exact .inl (hF k (.inl hk))
 ·exact .inl (hF k (.inr (.inl hk)))
 ·exact .inl (hF k (.inr (.inr (.inl hk))))
 ·exact .inl (hF k (.inr (.inr (.inr (.inl hk)))))
 ·exact .inl (hF k (.inr (.inr (.inr (.inr (.inl hk))))))
 ·rcases ho k hk with hk | hk
  ·exact .inl (hF k (.inr (.inr (.inr (.inr (.inr (.inl hk)))))))
  ·exact .inr hk
 ·exact .inl (hF k (.inr (.inr (.inr (.inr (.inr (.inr hk)))))))
set_option maxHeartbeats 4000000 in
set_option maxRecDepth 100000 in
theorem fetch.Leave.calls (h : FX N0 w g F b) (c : Nat) (hc : c < 9) : Calls Tryz.prog 146 #[.pointer (some ⟨g, 0, none⟩), .int .i64 (c : Int)] w fun e w' => (∃ t : Int, e = .returned (.int .i64 t)) ∧ FX N0 w' g (orNew F w) b ∧ Frm F w w' := by
 obtain ⟨n, m, base, cap, s, gv, v, q, last, sz, pl, h1, h2⟩ := h
 have H := Aside0.mk h1
 have HF := Aside0.mk h2
 have HC := Aside0.mk hc
 have q0 : (0 : Int) ≤ (c : Int) := by omega
 have q1 : (c : Int) < 9 := by omega
 have c1 := h1.cells c hc
 have l0 := (h1.mv c hc).len Tryz.underlying165 3
 obtain ⟨w6, r6, m6, g6⟩ := (h1.mv c hc).clear Tryz.underlying165 0
 have H6 := Aside0.mk (h1.want c hc m6 g6 (Nat.zero_le _) (fun k => ⟨false, rfl⟩))
 have HF6 := Aside0.mk (Frm.grown (F := F) g6 (fun k hk => by injection hk with hk; exact h2 k (.inr (.inr (.inr (.inr (.inr (.inr ⟨c, hc, hk.symm⟩))))))))
 have c2 : w6.cell? ⟨g, 15, none⟩ = some (.pointer (some ⟨n.gt, 0, none⟩)) := (blk_cell H6.out.blk 15).trans rfl
 have c3 := H6.out.cells c hc
 clear h1 h2 hc m6 g6
 go_enter Tryz.func146, Tryz.ntmps146
 go_wp2_with fail
 refine (fetch.client.calls c HC.out w).mono ?_
 rintro e w4 ⟨rfl, rfl⟩
 go_wp2_with fail
 refine (turn.Clear.calls H6.out.tq c HC.out).mono ?_
 rintro e w7 ⟨⟨r, rfl⟩, ht, hg⟩
 have H7 := Aside0.mk (H6.out.queue ht (Frm.grown hg (fun k hk => by injection hk with hk; exact .inr (.inl hk.symm))) (fun d hd => by
  unfold updQ
  split
  ·exact ⟨Nat.zero_le _, fun z hz => by cases hz⟩
  ·exact H6.out.qb d hd))
 have HF7 := Aside0.mk (HF6.out.trans (Frm.grown (F := F) hg (fun k hk => by injection hk with hk; exact HF.out k (.inr (.inr (.inr (.inr (.inr (.inl (.inr (.inl hk.symm)))))))))) (fun _ _ h => h))
 clear ht hg
 go_wp2
 go_ret
 refine ⟨⟨_, rfl⟩, ⟨n, m, base, cap, s, gv, _, _, last, _, _, H7.out, FE.tqFoot HF.out (fun k hk => .inl ?_)⟩, HF7.out⟩
 rcases hk with hk | hk | ⟨i, hi, hk⟩
 ·exact .inl hk
 ·exact .inr (.inl hk)
 ·unfold updV at hk
  by_cases e : i = c
  ·rw [if_pos e] at hk
   simp [Value.ownBlock] at hk
  ·rw [if_neg e] at hk
   exact .inr (.inr ⟨i, hi, hk⟩)
theorem fetch.Tick.calls (h : FX N0 w g F b) (now : Int) : Calls Tryz.prog 106 #[.pointer (some ⟨g, 0, none⟩), .int .i64 now] w fun e w' => (∃ t, e = .returned t) ∧ w' = w := by
 obtain ⟨n, m, base, cap, s, gv, v, q, last, sz, pl, h1, h2⟩ := h
 have H := Aside0.mk h1
 have c2 : w.cell? ⟨g, 16, none⟩ = some (.pointer (some ⟨n.gi, 0, none⟩)) := (blk_cell h1.blk 16).trans rfl
 clear h1 h2
 go_enter Tryz.func106, Tryz.ntmps106
 go_wp2_with fail
 refine (timer.Due.calls H.out.ti now).mono ?_
 rintro e w4 ⟨rfl, rfl⟩
 go_wp2
 go_loopw [20] (fun iv wr => iv = .int .i64 0 ∧ wr = w4) (fun iv _ => 0)
 case atStart => exact ⟨rfl, rfl⟩
 case round =>
  obtain ⟨rfl, rfl⟩ := hrel
  go_wp2
  go_ret
  exact ⟨⟨_, rfl⟩, rfl⟩
end
def kIss : Kd (Int × ByteArray) := Kd.pair (Kd.int .i64) Kd.string
theorem kIss_mkM (w : World) (base : Nat) (ok : Nat → Prop) (x : Int × ByteArray) : kIss.M w base ok x [.int .i64 x.1, .string x.2] := ⟨[.int .i64 x.1], [.string x.2], rfl, rfl, rfl⟩
theorem infoIss : (Tryz.prog.info? 206).map (fun i => (i.zero, i.size, i.bytes)) = some (some (.agg #[.int .i64 0, .string ⟨#[]⟩]), 2, 24) := by kernel_rfl
def qlen (w : World) (gq i : Nat) : Nat := match w.cell? ⟨gq, i, none⟩ with
 | some (.slice _ n _) => n
 | _ => 0
def qtot (w : World) (gq : Nat) : Nat := qlen w gq 0 + qlen w gq 1 + qlen w gq 2 + qlen w gq 3 + qlen w gq 4 + qlen w gq 5 + qlen w gq 6 + qlen w gq 7 + qlen w gq 8
theorem TQ.qlen {N0 : Nat} {w : World} {g gq : Nat} {v : Nat → Value} {q : Nat → List ByteArray} {last : Int} (h : TQ N0 w g gq v q last) (i : Nat) (hi : i < 9) : Top.qlen w gq i = (q i).length := by
 obtain ⟨A, c, e, hl⟩ := Kd.Q_slice (h.own i hi)
 unfold Top.qlen
 rw [h.at i hi, e]
def qsum (q : Nat → List ByteArray) : Nat := (q 0).length + (q 1).length + (q 2).length + (q 3).length + (q 4).length + (q 5).length + (q 6).length + (q 7).length + (q 8).length
theorem TQ.qtot {N0 : Nat} {w : World} {g gq : Nat} {v : Nat → Value} {q : Nat → List ByteArray} {last : Int} (h : TQ N0 w g gq v q last) : Top.qtot w gq = qsum q := by
 unfold Top.qtot qsum
 rw [h.qlen 0 (by omega), h.qlen 1 (by omega), h.qlen 2 (by omega), h.qlen 3 (by omega), h.qlen 4 (by omega), h.qlen 5 (by omega), h.qlen 6 (by omega), h.qlen 7 (by omega), h.qlen 8 (by omega)]
theorem qsum_pop (q : Nat → List ByteArray) (c : Nat) (hc : c < 9) (x : ByteArray) (xs : List ByteArray) (h : q c = x :: xs) : qsum (updQ q c xs) + 1 = qsum q := by
 unfold qsum updQ
 have hl : (q c).length = xs.length + 1 := by rw [h]; rfl
 rcases (show c = 0 ∨ c = 1 ∨ c = 2 ∨ c = 3 ∨ c = 4 ∨ c = 5 ∨ c = 6 ∨ c = 7 ∨ c = 8 by omega) with rfl | rfl | rfl | rfl | rfl | rfl | rfl | rfl | rfl <;> simp only [reduceCtorEq, ↓reduceIte, Nat.reduceEqDiff] <;> omega
theorem tks_ext (s s' : Nat → Int × ByteArray) (k : Nat) (h : ∀ i, i < k → s' i = s i) : tks s' k = tks s k := by
 induction k with
 | zero => rfl
 | succ k ih =>
  unfold tks
  rw [ih (fun i hi => h i (by omega)), h k (by omega)]
theorem tks_upd (s : Nat → Int × ByteArray) (i : Nat) (v : Int × ByteArray) (h0 : (s i).1 = 0) (hv : 0 < v.1) (k : Nat) (hk : i < k) : (tks (updS s i v) k).length = (tks s k).length + 1 := by
 induction k with
 | zero => omega
 | succ k ih =>
  unfold tks
  rw [List.length_append, List.length_append]
  by_cases e : i = k
  ·subst e
   rw [tks_ext s _ i (fun j hj => by unfold updS; rw [if_neg (by omega)])]
   unfold updS
   rw [if_pos rfl, if_pos hv, h0, if_neg (by omega)]
   simp
  ·rw [ih (by omega)]
   have h2 : updS s i v k = s k := by unfold updS; rw [if_neg (fun h => e h.symm)]
   rw [h2]
   omega
theorem sidx_none (p : Int × ByteArray → Bool) (s : Nat → Int × ByteArray) (d : Nat) : ∀ i, sidx p s d i = none → ∀ k, i ≤ k → k < i + d → p (s k) = false := by
 induction d with
 | zero => intro i _ k h1 h2; omega
 | succ d ih =>
  intro i h k h1 h2
  rw [sidx_succ] at h
  by_cases hz : p (s i) = true
  ·rw [if_pos hz] at h; cases h
  ·rw [if_neg hz] at h
   by_cases e : k = i
   ·rw [e]; exact Bool.eq_false_iff.2 hz
   ·exact ih _ h k (by omega) (by omega)
theorem tks_full (s : Nat → Int × ByteArray) (m : Nat) (h0 : ∀ i, i < m → 0 < (s i).1) (k : Nat) (hk : m ≤ k) : m ≤ (tks s k).length := by
 induction k with
 | zero => omega
 | succ k ih =>
  unfold tks
  rw [List.length_append]
  by_cases e : m = k + 1
  ·have h1 : ∀ j, j ≤ m → j ≤ (tks s j).length := by
    intro j
    induction j with
    | zero => intro _; exact Nat.zero_le _
    | succ j ih2 =>
     intro hj
     unfold tks
     rw [List.length_append, if_pos (h0 j (by omega))]
     have := ih2 (by omega)
     simp
     omega
   have := h1 k (by omega)
   rw [if_pos (h0 k (by omega))]
   simp
   omega
  ·have := ih (by omega)
   omega
theorem seat_free (s : Nat → Int × ByteArray) (m : Nat) (h8 : m ≤ 8) (h0 : ∀ i, i < 8 → 0 ≤ (s i).1) (hl : (tks s 8).length < m) : ∃ i, sidx isFree s m 0 = some i := by
 cases hs : sidx isFree s m 0 with
 | some i => exact ⟨i, rfl⟩
 | none =>
  have h1 := tks_full s m (fun i hi => by
   have := sidx_none isFree s m 0 hs i (by omega) (by omega)
   have h2 := h0 i (by omega)
   unfold isFree at this
   rw [beq_eq_false_iff_ne] at this
   omega) 8 h8
  omega
section
variable {N0 : Nat} {w w' : World} {g : Nat} {F : Nat → Prop} {b : Nat}
theorem FE.lt {n : FN} {m : Nat} {base cap : Int} {s : Nat → Int × ByteArray} {gv : Int} {v : Nat → Value} {q : Nat → List ByteArray} {last : Int} {sz : Nat → Nat} {pl : Nat → Lit → Option Value} (h : FE N0 w g n m base cap b s gv v q last sz pl) (k : Nat) (hk : FE.foot g n v k) : k < w.heap.size := by
 rcases hk with rfl | rfl | rfl | rfl | rfl | hk | ⟨c, hc, rfl⟩
 ·exact blk_lt h.blk
 ·exact blk_lt h.fl
 ·exact h.had.lt
 ·exact blk_lt h.ti.1
 ·exact h.ti.2.lt
 ·obtain ⟨o, ho, _⟩ := h.tq.kind k hk
  exact blk_lt ho
 ·exact (h.mv c hc).lt
def ISS4.T4 : Bool × List (List Nat × List Nat) := (true, [([], []), ([0], [0]), ([1], [1]), ([2], [2]), ([3], [3]), ([], []), ([5], [5]), ([6], [6]), ([7], [7]), ([4, 8], [4, 8])])
def ISS4.B4 : List Nat := [0, 1, 3, 7, 15, 0, 32, 96, 224, 511]
theorem ISS4.tab4 : rtab .any (opsOf Tryz.f112 4) = ISS4.T4 := by kernel_rfl
theorem ISS4.bits4 : waitsOk ISS4.T4.2 ISS4.B4 = true := by kernel_rfl
theorem FE.c0 {n : FN} {m : Nat} {base cap : Int} {s : Nat → Int × ByteArray} {gv : Int} {v : Nat → Value} {q : Nat → List ByteArray} {last : Int} {sz : Nat → Nat} {pl : Nat → Lit → Option Value} (h : FE N0 w g n m base cap b s gv v q last sz pl) : w.cell? ⟨g, 0, none⟩ = some (.pointer (some ⟨n.fl, 0, none⟩)) := (blk_cell h.blk 0).trans rfl
theorem FE.c1 {n : FN} {m : Nat} {base cap : Int} {s : Nat → Int × ByteArray} {gv : Int} {v : Nat → Value} {q : Nat → List ByteArray} {last : Int} {sz : Nat → Nat} {pl : Nat → Lit → Option Value} (h : FE N0 w g n m base cap b s gv v q last sz pl) : w.cell? ⟨g, 1, none⟩ = some (.int .i64 (m : Int)) := (blk_cell h.blk 1).trans rfl
set_option maxHeartbeats 4000000 in
set_option maxRecDepth 100000 in
theorem fetch.Issues.calls (h : FX N0 w g F b) (hb : b ≤ 80000) : Calls Tryz.prog 112 #[.pointer (some ⟨g, 0, none⟩)] w fun e w' => ∃ A c, ∃ xs : List (Int × ByteArray), e = .returned (.slice A xs.length c) ∧ xs.length ≤ 8 ∧ kIss.R 206 w' w.heap.size (fun _ => True) (.slice A xs.length c) xs ∧ FX N0 w' g F (b + 8) ∧ Frm F w w' := by
 obtain ⟨n, m, base, cap, s, gv, v, q, last, sz, pl, h1, h2⟩ := h
 have HLT := Aside0.mk h1.lt
 have H := Aside0.mk (h1.mono (b' := b + 8) (by omega))
 have HF := Aside0.mk h2
 have HM := Aside0.mk h1.m8
 have HGV := Aside0.mk h1.gvb
 have HBB := Aside0.mk hb
 clear h1 h2 hb
 go_enter Tryz.func112, Tryz.ntmps112
 go_wp2
 go_loopw [3] (fun ov wr => ∃ (s2 : Nat → Int × ByteArray) (gv2 : Int) (v2 : Nat → Value) (q2 : Nat → List ByteArray) (last2 : Int) (xs : List (Int × ByteArray)), Aside0 (FE N0 wr g n m base cap (b + 8) s2 gv2 v2 q2 last2 sz pl) ∧ Aside0 (∀ k, FE.foot g n v2 k → FE.foot g n v k) ∧ Aside0 (xs.length ≤ (tks s2 8).length ∧ gv2 ≤ (b : Int) + xs.length) ∧ Aside0 (kIss.R 206 wr w.heap.size (fun _ => True) ov xs) ∧ Aside0 (Frm F w wr)) (fun _ wr => qtot wr n.gq)
 case atStart => exact ⟨s, gv, v, q, last, [], H, ⟨fun _ h => h⟩, ⟨Nat.zero_le _, by have := HGV.out; simpa using this⟩, ⟨Kd.R_nil _ _ _ _ _⟩, ⟨Frm.refl _ _⟩⟩
 case round =>
  clear H
  obtain ⟨s2, gv2, v2, q2, last2, xs, H, HFT, HL, HR, HFR⟩ := hrel
  have HT := Aside0.mk (tks_length s2 8)
  have HQW := Aside0.mk H.out.tq.qtot
  obtain ⟨A3, c3, rfl⟩ := Kd.R_slice HR.out
  have H2 := Aside0.mk (show FE N0 wr.drew g n m base cap (b + 8) s2 gv2 v2 q2 last2 sz pl from H.out.below (below_drew (Below.refl _ _)))
  by_cases hlm : (tks s2 8).length < m
  ·have q0 : decide (((tks s2 8).length : Int) < (m : Int)) = true := decide_eq_true (by omega)
   have HX := Aside0.mk (seat_free s2 m HM.out H.out.s0 hlm)
   go_wp2
   refine start_ (n := 10) (S := fun w' => w'.cell? ⟨g, 0, none⟩ = some (.pointer (some ⟨n.fl, 0, none⟩)) ∧ w'.cell? ⟨g, 1, none⟩ = some (.int .i64 (m : Int))) (ds := []) #[O,O,O,O,O,O,O,O,O,O] (by kernel_rfl) rfl rfl ⟨H2.out.c0, H2.out.c1⟩ (fun hHeld => ?_)
   refine with_tabW ISS4.tab4 ISS4.bits4 (fun HT_ HW_ => ?_)
   refine pure_ (i := 0) (N := some 11) (v := ?_) (a' := ?_) #[Y,O,O,O,O,O,O,O,O,O] rfl rfl (any_of HT_.out (by kernel_rfl)) (fun _ _ _ h => h) (Or.inl ⟨by rfl, ?_⟩) ?_ ?_
   rotate_left
   ·intro w'
    go_simp
    with_reducible rfl
   rotate_left
   ·simp only [PN]
    rfl
   refine pure_ (i := 1) (N := some 12) (v := ?_) (a' := ?_) #[Y,Y,O,O,O,O,O,O,O,O] rfl rfl (any_of HT_.out (by kernel_rfl)) (fun _ _ _ h => h) (Or.inl ⟨by rfl, ?_⟩) ?_ ?_
   rotate_left
   ·intro w'
    go_simp
    with_reducible rfl
   rotate_left
   ·simp only [PN]
    rfl
   refine pure_ (i := 2) (N := some 13) (v := ?_) (a' := ?_) #[Y,Y,Y,O,O,O,O,O,O,O] rfl rfl (any_of HT_.out (by kernel_rfl)) (fun _ _ _ h => h) (Or.inl ⟨by rfl, ?_⟩) ?_ ?_
   rotate_left
   ·intro w'
    go_simp
    with_reducible rfl
   rotate_left
   ·simp only [PN]
    rfl
   refine pure_ (i := 5) (N := some 16) (v := ?_) (a' := ?_) #[Y,Y,Y,O,O,Y,O,O,O,O] rfl rfl (any_of HT_.out (by kernel_rfl)) (fun _ _ _ h => h) (Or.inl ⟨by rfl, ?_⟩) ?_ ?_
   rotate_left
   ·intro w'
    go_simp
    with_reducible rfl
   rotate_left
   ·simp only [PN]
    rfl
   refine pure_ (i := 6) (N := some 17) (v := ?_) (a' := ?_) #[Y,Y,Y,O,O,Y,Y,O,O,O] rfl rfl (any_of HT_.out (by kernel_rfl)) (fun _ _ _ h => h) (Or.inl ⟨by rfl, ?_⟩) ?_ ?_
   rotate_left
   ·intro w'
    go_simp
    with_reducible rfl
   rotate_left
   ·simp only [PN]
    rfl
   refine pure_ (i := 7) (N := some 18) (v := ?_) (a' := ?_) #[Y,Y,Y,O,O,Y,Y,Y,O,O] rfl rfl (any_of HT_.out (by kernel_rfl)) (fun _ _ _ h => h) (Or.inl ⟨by rfl, ?_⟩) ?_ ?_
   rotate_left
   ·intro w'
    go_simp
    with_reducible rfl
   rotate_left
   ·simp only [PN]
    rfl
   refine take_ (i := 3) (N := some 14) (v := ?_) (a' := ?_) #[Y,Y,Y,Y,O,Y,Y,Y,O,O] rfl rfl (take_ofW HT_.out HW_.out (by kernel_rfl)) (fun _ _ _ h => h) (Or.inl ⟨by rfl, ?_⟩) hHeld ?_ ?_
   rotate_left
   ·rintro w' ⟨s0, s1⟩
    go_simp
    with_reducible rfl
   rotate_left
   ·simp only [PN]
    rfl
   refine take_ (i := 8) (N := some 19) (v := ?_) (a' := ?_) #[Y,Y,Y,Y,O,Y,Y,Y,Y,O] rfl rfl (take_ofW HT_.out HW_.out (by kernel_rfl)) (fun _ _ _ h => h) (Or.inl ⟨by rfl, ?_⟩) hHeld ?_ ?_
   rotate_left
   ·rintro w' ⟨s0, s1⟩
    go_simp
    with_reducible rfl
   rotate_left
   ·simp only [PN]
    rfl
   refine one_ (i := 4) (N := some 15) #[Y,Y,Y,Y,Y,Y,Y,Y,Y,O] rfl rfl (one_of HT_.out (by kernel_rfl)) (by decide) (fun K hK => ?_)
   refine goes_ Tryz.func163 (by kernel_rfl) rfl #[.pointer (some ⟨n.fl, 0, none⟩)] (by rfl) rfl rfl (by (try simp only [List.map_toArray, List.map_cons, List.map_nil]); first | done | rfl) ?_
   with_reducible refine (flight.Len.calls H2.out.fl).mono ?_
   rintro e w5 ⟨rfl, hb5⟩
   refine ⟨_, rfl, ?_⟩
   have H3 := Aside0.mk (H2.out.below hb5)
   have HB3 := Aside0.mk (below_go (below_drew (Below.refl wr.heap.size wr)) hb5)
   clear hb5
   refine hK.out _ _ ⟨H3.out.c0, H3.out.c1⟩ (fun hHeld => ?_)
   clear hK K
   refine norm_ (a' := ?_) ?_ ?_
   rotate_left
   ·show Act.put _ (some 15) _ = _
    simp only [PN]
    rfl
   refine pure_ (i := 9) (N := some 20) (v := ?_) (a' := ?_) #[Y,Y,Y,Y,Y,Y,Y,Y,Y,Y] rfl rfl (any_of HT_.out (by kernel_rfl)) (fun _ _ _ h => h) (Or.inl ⟨by rfl, ?_⟩) ?_ ?_
   rotate_left
   ·intro w'
    go_simp
    with_reducible rfl
   rotate_left
   ·simp only [PN]
    rfl
   refine done_ (done_of HT_.out (by kernel_rfl)) ?_
   clear hHeld
   have HF3 := Aside0.mk (HFR.out.trans (Frm.below (F := F) HB3.out) (fun _ _ h => h))
   have HR3 := Aside0.mk (Kd.R_below HR.out HB3.out)
   clear HB3 HR HFR H H2
   have c7 : w5.cell? ⟨g, 15, none⟩ = some (.pointer (some ⟨n.gt, 0, none⟩)) := (blk_cell H3.out.blk 15).trans rfl
   go_wp2_with fail
   refine (turn.Pop.calls H3.out.tq).mono ?_
   rintro e w6 (⟨rfl, hb6⟩ | ⟨cc, x, xs2, hcc, hqc, rfl, ⟨v6, ht6, ho6⟩, hf6⟩)
   ·have H6 := Aside0.mk (H3.out.below hb6)
    have HF6 := Aside0.mk (HF3.out.trans (Frm.below (F := F) hb6) (fun _ _ h => h))
    have HR6 := Aside0.mk (Kd.R_below HR3.out hb6)
    clear hb6 H3 HF3 HR3
    go_wp2
    go_ret
    exact ⟨A3, c3, xs, rfl, by have := HL.out.1; have := HT.out; omega, HR6.out, ⟨n, m, base, cap, s2, gv2, v2, q2, last2, sz, pl, H6.out, fun k hk => HF.out k (HFT.out k hk)⟩, HF6.out⟩
   ·have HXS := Aside0.mk ((H3.out.qb cc hcc).2 x (by rw [hqc]; exact List.mem_cons_self))
    have H6 := Aside0.mk (H3.out.queue ht6 hf6 (fun d hd => by
     unfold updQ
     split
     ·rename_i e
      have := H3.out.qb cc hcc
      rw [hqc] at this
      exact ⟨by have := this.1; simp at this; omega, fun z hz => this.2 z (List.mem_cons_of_mem _ hz)⟩
     ·exact H3.out.qb d hd))
    have hft : ∀ k, FE.foot g n v6 k → FE.foot g n v k := fun k hk => by
     rcases hk with hk | hk | hk | hk | hk | hk | hk
     ·exact .inl hk
     ·exact .inr (.inl hk)
     ·exact .inr (.inr (.inl hk))
     ·exact .inr (.inr (.inr (.inl hk)))
     ·exact .inr (.inr (.inr (.inr (.inl hk))))
     ·rcases hk with hk | hk | ⟨i, hi, hk⟩
      ·exact .inr (.inr (.inr (.inr (.inr (.inl (.inl hk))))))
      ·exact .inr (.inr (.inr (.inr (.inr (.inl (.inr (.inl hk)))))))
      ·exact HFT.out k (.inr (.inr (.inr (.inr (.inr (.inl (ho6 i hi k hk)))))))
     ·exact .inr (.inr (.inr (.inr (.inr (.inr hk)))))
    have HFT6 := Aside0.mk hft
    have HF6 := Aside0.mk (HF3.out.trans hf6 (fun k _ hk => HF.out k (HFT.out k (.inr (.inr (.inr (.inr (.inr (.inl hk)))))))))
    have HR6 := Aside0.mk (Kd.R_mono (Kd.R_move (Kd.R_bound HR3.out) (fun k hk => hf6.keep k hk.2.2.1 (fun hfk => by
     have h1 := HLT.out k (HFT.out k (.inr (.inr (.inr (.inr (.inr (.inl hfk)))))))
     have h2 := hk.2.1
     omega))) (fun _ _ => trivial))
    have HQ6 := Aside0.mk (qsum_pop q2 cc hcc x xs2 hqc)
    clear hft ht6 ho6 hf6 hqc HFT HF3 HR3 H3 c7
    go_wp2_with fail
    refine (fetch.rest.calls H6.out x HXS.out).mono ?_
    rintro e w7 ⟨rfl, hb7⟩
    have H7 := Aside0.mk (H6.out.below hb7)
    have HF7 := Aside0.mk (HF6.out.trans (Frm.below (F := F) hb7) (fun _ _ h => h))
    have HR7 := Aside0.mk (Kd.R_below HR6.out hb7)
    clear hb7 H6 HF6 HR6
    by_cases hs : 0 ≤ sidxV (byName x) s2 m
    ·have q7 : decide (0 ≤ sidxV (byName x) s2 m) = true := decide_eq_true hs
     rw [q7]
     clear q7
     go_wp2
     go_roundw
     case rel => exact ⟨s2, gv2, v6, _, _, xs, H7, HFT6, HL, HR7, HF7⟩
     case measure => rw [H7.out.tq.qtot, HQW.out]; have := HQ6.out; omega
    ·have q7 : decide (0 ≤ sidxV (byName x) s2 m) = false := decide_eq_false hs
     rw [q7]
     clear q7
     obtain ⟨i, hi⟩ := HX.out
     have hgv := HL.out.2
     have hbb := HBB.out
     have hll := HL.out.1
     have htt := HT.out
     have c7 := H7.out.c0
     have HI := Aside0.mk (sidx_some isFree s2 m 0 i hi)
     have HST := Aside0.mk (flight.Start.calls H7.out.fl HM.out H7.out.gv0 (by omega) x hi hs)
     clear hi hgv hbb hll htt hs
     go_wp2_with fail
     refine (HST.out).mono ?_
     clear HST
     rintro e w8 ⟨rfl, hfb, hg8⟩
     have HIF := Aside0.mk (show (s2 i).1 = 0 from by have h1 := HI.out.2.2; unfold isFree at h1; exact eq_of_beq h1)
     have HI8 := Aside0.mk (show i < 8 from by have h1 := HI.out.2.1; have h2 := HM.out; omega)
     have HTK := Aside0.mk (tks_upd s2 i (gv2 + 1, x) HIF.out (by have := H7.out.gv0; simp; omega) 8 HI8.out)
     have H8 := Aside0.mk (H7.out.fly hfb hg8 (by have := H7.out.gv0; omega) (by have h1 := HL.out; have h2 := HT.out; have h3 := HM.out; push_cast; omega) (fun j hj => by
      unfold updS
      split
      ·have := H7.out.gv0; simp; omega
      ·exact H7.out.s0 j hj))
     have HF8 := Aside0.mk (HF7.out.trans (Frm.grown (F := F) hg8 (fun k hk => by injection hk with hk; exact HF.out k (.inr (.inl hk.symm)))) (fun _ _ h => h))
     have HR8 := Aside0.mk (Kd.R_mono (Kd.R_move (Kd.R_bound HR7.out) (fun k hk => hg8.block k hk.2.2.1 (fun hfk => by
      injection hfk with hfk
      have h1 := HLT.out k (.inr (.inl hfk))
      have h2 := hk.2.1
      omega))) (fun _ _ => trivial))
     have HW8 := Aside0.mk (Nat.le_trans (show w.heap.size ≤ w7.heap.size from HF7.out.size) hg8.size)
     have HB8 := Aside0.mk (Below.refl w.heap.size w8)
     clear hfb hg8 H7 HF7 HR7 c7
     have HGX := Aside0.mk (rfl : gv2 + 1 = gv2 + 1)
     generalize hgz : gv2 + 1 = gz at H8 ⊢
     have HGZ := Aside0.mk hgz
     clear hgz
     go_wp2_with (first | ((with_reducible refine gate_builtin (b := .append) (xs := #[.tmp 45, .tmp 49]) rfl ?_); at_builtin; refine Kd.R_append kIss (w0 := w8) w.heap.size rfl (.tmp 45) (.tmp 49) 203 206 (.agg #[.int .i64 0, .string ⟨#[]⟩]) 24 rfl Tryz.underlying203 infoIss rfl (by decide) (by omega) (.slice A3 xs.length c3) xs (gz, x) [.int .i64 gz, .string x] (fun _ => True) (fun _ => False) rfl rfl (kIss_mkM _ _ _ _) (fun _ hk => hk.elim) (fun _ _ => trivial) HR8.out HB8.out HW8.out (by have := HL.out.1; have := HT.out; simp; omega) ?_; intro v9 w9 hr9 hb9 hg9 hat9; have n0_ := Aside0.mk hr9; have n1_ := Aside0.mk hg9; clear hr9 hb9 hg9 hat9))
     have HFG := Aside0.mk (Frm.grown (F := fun k => (Value.slice A3 xs.length c3).ownBlock = some k) n1_.out (fun k hk => hk))
     have HRB := Aside0.mk (Kd.R_base HR8.out)
     have H9 := Aside0.mk (H8.out.frm HFG.out (fun k hk e => by
      have h1 := HLT.out k (HFT6.out k hk)
      have h2 := HRB.out k e
      omega))
     have HF9 := Aside0.mk (HF8.out.trans HFG.out (fun k hk e => by have h2 := HRB.out k e; omega))
     clear H8 HF8 HR8 HB8 HFG HRB n1_
     go_roundw
     case rel => exact ⟨_, gz, v6, _, _, xs ++ [(gz, x)], H9, HFT6, ⟨by have h1 := HL.out.1; have h2 := HTK.out; rw [HGZ.out] at h2; simp; omega, by have h1 := HL.out.2; have h2 := HGZ.out; simp; omega⟩, n0_, HF9⟩
     case measure => rw [H9.out.tq.qtot, HQW.out]; have := HQ6.out; omega
  ·have q0 : decide (((tks s2 8).length : Int) < (m : Int)) = false := decide_eq_false (by omega)
   go_wp2
   refine start_ (n := 10) (S := fun w' => w'.cell? ⟨g, 0, none⟩ = some (.pointer (some ⟨n.fl, 0, none⟩)) ∧ w'.cell? ⟨g, 1, none⟩ = some (.int .i64 (m : Int))) (ds := []) #[O,O,O,O,O,O,O,O,O,O] (by kernel_rfl) rfl rfl ⟨H2.out.c0, H2.out.c1⟩ (fun hHeld => ?_)
   refine with_tabW ISS4.tab4 ISS4.bits4 (fun HT_ HW_ => ?_)
   refine pure_ (i := 0) (N := some 11) (v := ?_) (a' := ?_) #[Y,O,O,O,O,O,O,O,O,O] rfl rfl (any_of HT_.out (by kernel_rfl)) (fun _ _ _ h => h) (Or.inl ⟨by rfl, ?_⟩) ?_ ?_
   rotate_left
   ·intro w'
    go_simp
    with_reducible rfl
   rotate_left
   ·simp only [PN]
    rfl
   refine pure_ (i := 1) (N := some 12) (v := ?_) (a' := ?_) #[Y,Y,O,O,O,O,O,O,O,O] rfl rfl (any_of HT_.out (by kernel_rfl)) (fun _ _ _ h => h) (Or.inl ⟨by rfl, ?_⟩) ?_ ?_
   rotate_left
   ·intro w'
    go_simp
    with_reducible rfl
   rotate_left
   ·simp only [PN]
    rfl
   refine pure_ (i := 2) (N := some 13) (v := ?_) (a' := ?_) #[Y,Y,Y,O,O,O,O,O,O,O] rfl rfl (any_of HT_.out (by kernel_rfl)) (fun _ _ _ h => h) (Or.inl ⟨by rfl, ?_⟩) ?_ ?_
   rotate_left
   ·intro w'
    go_simp
    with_reducible rfl
   rotate_left
   ·simp only [PN]
    rfl
   refine pure_ (i := 5) (N := some 16) (v := ?_) (a' := ?_) #[Y,Y,Y,O,O,Y,O,O,O,O] rfl rfl (any_of HT_.out (by kernel_rfl)) (fun _ _ _ h => h) (Or.inl ⟨by rfl, ?_⟩) ?_ ?_
   rotate_left
   ·intro w'
    go_simp
    with_reducible rfl
   rotate_left
   ·simp only [PN]
    rfl
   refine pure_ (i := 6) (N := some 17) (v := ?_) (a' := ?_) #[Y,Y,Y,O,O,Y,Y,O,O,O] rfl rfl (any_of HT_.out (by kernel_rfl)) (fun _ _ _ h => h) (Or.inl ⟨by rfl, ?_⟩) ?_ ?_
   rotate_left
   ·intro w'
    go_simp
    with_reducible rfl
   rotate_left
   ·simp only [PN]
    rfl
   refine pure_ (i := 7) (N := some 18) (v := ?_) (a' := ?_) #[Y,Y,Y,O,O,Y,Y,Y,O,O] rfl rfl (any_of HT_.out (by kernel_rfl)) (fun _ _ _ h => h) (Or.inl ⟨by rfl, ?_⟩) ?_ ?_
   rotate_left
   ·intro w'
    go_simp
    with_reducible rfl
   rotate_left
   ·simp only [PN]
    rfl
   refine take_ (i := 3) (N := some 14) (v := ?_) (a' := ?_) #[Y,Y,Y,Y,O,Y,Y,Y,O,O] rfl rfl (take_ofW HT_.out HW_.out (by kernel_rfl)) (fun _ _ _ h => h) (Or.inl ⟨by rfl, ?_⟩) hHeld ?_ ?_
   rotate_left
   ·rintro w' ⟨s0, s1⟩
    go_simp
    with_reducible rfl
   rotate_left
   ·simp only [PN]
    rfl
   refine take_ (i := 8) (N := some 19) (v := ?_) (a' := ?_) #[Y,Y,Y,Y,O,Y,Y,Y,Y,O] rfl rfl (take_ofW HT_.out HW_.out (by kernel_rfl)) (fun _ _ _ h => h) (Or.inl ⟨by rfl, ?_⟩) hHeld ?_ ?_
   rotate_left
   ·rintro w' ⟨s0, s1⟩
    go_simp
    with_reducible rfl
   rotate_left
   ·simp only [PN]
    rfl
   refine one_ (i := 4) (N := some 15) #[Y,Y,Y,Y,Y,Y,Y,Y,Y,O] rfl rfl (one_of HT_.out (by kernel_rfl)) (by decide) (fun K hK => ?_)
   refine goes_ Tryz.func163 (by kernel_rfl) rfl #[.pointer (some ⟨n.fl, 0, none⟩)] (by rfl) rfl rfl (by (try simp only [List.map_toArray, List.map_cons, List.map_nil]); first | done | rfl) ?_
   with_reducible refine (flight.Len.calls H2.out.fl).mono ?_
   rintro e w5 ⟨rfl, hb5⟩
   refine ⟨_, rfl, ?_⟩
   have H3 := Aside0.mk (H2.out.below hb5)
   have HB3 := Aside0.mk (below_go (below_drew (Below.refl wr.heap.size wr)) hb5)
   clear hb5
   refine hK.out _ _ ⟨H3.out.c0, H3.out.c1⟩ (fun hHeld => ?_)
   clear hK K
   refine norm_ (a' := ?_) ?_ ?_
   rotate_left
   ·show Act.put _ (some 15) _ = _
    simp only [PN]
    rfl
   refine pure_ (i := 9) (N := some 20) (v := ?_) (a' := ?_) #[Y,Y,Y,Y,Y,Y,Y,Y,Y,Y] rfl rfl (any_of HT_.out (by kernel_rfl)) (fun _ _ _ h => h) (Or.inl ⟨by rfl, ?_⟩) ?_ ?_
   rotate_left
   ·intro w'
    go_simp
    with_reducible rfl
   rotate_left
   ·simp only [PN]
    rfl
   refine done_ (done_of HT_.out (by kernel_rfl)) ?_
   clear hHeld
   have HF3 := Aside0.mk (HFR.out.trans (Frm.below (F := F) HB3.out) (fun _ _ h => h))
   have HR3 := Aside0.mk (Kd.R_below HR.out HB3.out)
   go_wp2
   go_ret
   exact ⟨A3, c3, xs, rfl, by have := HL.out.1; have := HT.out; omega, HR3.out, ⟨n, m, base, cap, s2, gv2, v2, q2, last2, sz, pl, H3.out, fun k hk => HF.out k (HFT.out k hk)⟩, HF3.out⟩
theorem TQ.lower {N1 : Nat} {g gq : Nat} {v : Nat → Value} {q : Nat → List ByteArray} {last : Int} (h : TQ N0 w g gq v q last) (hn : N1 ≤ N0) : TQ N1 w g gq v q last :=
 ⟨Nat.le_trans hn h.hg, Nat.le_trans hn h.hq, h.blk, h.row, fun i hi => Kd.Q_lower (h.own i hi) hn, h.sep, h.l0, h.l8⟩
theorem TQ.foot_low {g gq : Nat} {v : Nat → Value} {q : Nat → List ByteArray} {last : Int} (h : TQ N0 w g gq v q last) (k : Nat) (hk : TQ.foot g gq v k) : N0 ≤ k := by
 rcases hk with rfl | rfl | ⟨i, hi, hk⟩
 ·exact h.hg
 ·exact h.hq
 ·exact Kd.Q_base (h.own i hi) k hk
theorem ecs_set (n : FN) (m : Nat) (base cap : Int) (e : Nat → Value) (i : Nat) (hi : i < 9) (x : Value) : (ecs n m base cap e).setIfInBounds (6 + i) x = ecs n m base cap (fun c => if c = i then x else e c) := by
 rcases (show i = 0 ∨ i = 1 ∨ i = 2 ∨ i = 3 ∨ i = 4 ∨ i = 5 ∨ i = 6 ∨ i = 7 ∨ i = 8 by omega) with rfl | rfl | rfl | rfl | rfl | rfl | rfl | rfl | rfl <;> rfl
theorem ecs_at (n : FN) (m : Nat) (base cap : Int) (e : Nat → Value) (i : Nat) (hi : i < 9) : (ecs n m base cap e)[6 + i]? = some (e i) := by
 rcases (show i = 0 ∨ i = 1 ∨ i = 2 ∨ i = 3 ∨ i = 4 ∨ i = 5 ∨ i = 6 ∨ i = 7 ∨ i = 8 by omega) with rfl | rfl | rfl | rfl | rfl | rfl | rfl | rfl | rfl <;> rfl
set_option maxHeartbeats 4000000 in
set_option maxRecDepth 100000 in
theorem fetch.New.calls (m : Nat) (base cap : Int) (h1 : 1 ≤ m) (h8 : m ≤ 8) (hb0 : 0 ≤ base) (hb1 : base ≤ 1099511627776) (hc0 : 0 ≤ cap) (hc1 : cap ≤ 1099511627776) (w : World) : Calls Tryz.prog 38 #[.int .i64 (m : Int), .int .i64 base, .int .i64 cap] w fun e w' => ∃ g, e = .returned (.pointer (some ⟨g, 0, none⟩)) ∧ FX w.heap.size w' g (fun k => w.heap.size ≤ k) 0 ∧ Below w.heap.size w w' := by
 have q0 : decide (base < 0) = false := decide_eq_false (by omega)
 have q1 : decide (1099511627776 < base) = false := decide_eq_false (by omega)
 have q2 : decide (cap < 0) = false := decide_eq_false (by omega)
 have q3 : decide (1099511627776 < cap) = false := decide_eq_false (by omega)
 have HM := Aside0.mk (And.intro h1 h8)
 have hmm := @run_makeMap Tryz.prog
 clear h1 h8 hb0 hb1 hc0 hc1
 go_enter Tryz.func38, Tryz.ntmps38
 go_wp2_with fail
 refine (flight.New.calls (m : Int) (by have := HM.out; omega) (by have := HM.out; omega) w).mono ?_
 rintro e w1 ⟨rfl, hf1, hb1⟩
 have HF1 := Aside0.mk hf1
 have HB1 := Aside0.mk hb1
 clear hf1 hb1
 go_wp2_with fail
 have hM1 := MV.new 9 w1
 have hw2 := below_alloc (Below.refl w1.heap.size w1) (.map #[] 0)
 have hw3 := below_alloc (Below.refl (w1.alloc (.map #[] 0)).heap.size (w1.alloc (.map #[] 0))) (.map #[] 0)
 have HMH := Aside0.mk (hM1.below hw3)
 have HB3 := Aside0.mk (below_step hw2 hw3)
 have HN := Aside0.mk (show w1.heap.size + 2 ≤ ((w1.alloc (.map #[] 0)).alloc (.map #[] 0)).heap.size by simp)
 clear hM1 hw2 hw3
 generalize hmf : w1.heap.size + 1 = mf
 generalize (w1.alloc (.map #[] 0)).alloc (.map #[] 0) = w3 at HMH HB3 HN ⊢
 refine (turn.New.calls w3).mono ?_
 rintro e w4 ⟨gt, gq, rfl, ht4, hb4⟩
 have HT4 := Aside0.mk ht4
 have HB4 := Aside0.mk hb4
 clear ht4 hb4
 go_wp2_with fail
 refine (timer.New.calls w4).mono ?_
 rintro e w5 ⟨gi, gm, rfl, hgi, hgm, ht5, hb5⟩
 have HB35 := Aside0.mk (below_step HB4.out hb5)
 have HT5 := Aside0.mk (HT4.out.below hb5)
 have HGI := Aside0.mk (And.intro hgi hgm)
 have HI5 := Aside0.mk ht5
 have HB45 := Aside0.mk hb5.size
 have HMH5 := Aside0.mk (HMH.out.below HB35.out)
 have HF5 := Aside0.mk ((HF1.out.below HB3.out).below HB35.out)
 have HB5 := Aside0.mk (below_step (below_step HB1.out HB3.out) HB35.out)
 have HMG := Aside0.mk (show w1.heap.size < gm from by have h1 := HN.out; have h2 := HB4.out.size; omega)
 have HLW := Aside0.mk (show w.heap.size ≤ w1.heap.size from HB1.out.size)
 have HL4 := Aside0.mk (show w.heap.size ≤ w4.heap.size from Nat.le_trans (Nat.le_trans HB1.out.size (by have := HN.out; omega)) HB4.out.size)
 have HL3 := Aside0.mk (show w.heap.size ≤ w3.heap.size from Nat.le_trans HB1.out.size (by have := HN.out; omega))
 have HL5 := Aside0.mk (show w.heap.size ≤ w5.heap.size ∧ gm < w5.heap.size ∧ w1.heap.size < w5.heap.size from ⟨HB5.out.size, HI5.out.2.lt, HMH5.out.lt⟩)
 clear hgi hgm ht5 hb5 HT4 HB4 HB3 HF1 HB1 HMH HB35
 go_wp2
 have HBK := Aside0.mk (blk_new w5 (.cells #[.pointer (some ⟨w.heap.size, 0, none⟩), .int .i64 (m : Int), .int .i64 base, .int .i64 cap, .map (some w1.heap.size), .map (some mf), .map none, .map none, .map none, .map none, .map none, .map none, .map none, .map none, .map none, .pointer (some ⟨gt, 0, none⟩), .pointer (some ⟨gi, 0, none⟩)] 173 (0, 0)))
 have HB6 := Aside0.mk (below_alloc (Below.refl w5.heap.size w5) (.cells #[.pointer (some ⟨w.heap.size, 0, none⟩), .int .i64 (m : Int), .int .i64 base, .int .i64 cap, .map (some w1.heap.size), .map (some mf), .map none, .map none, .map none, .map none, .map none, .map none, .map none, .map none, .map none, .pointer (some ⟨gt, 0, none⟩), .pointer (some ⟨gi, 0, none⟩)] 173))
 generalize w5.alloc (.cells #[.pointer (some ⟨w.heap.size, 0, none⟩), .int .i64 (m : Int), .int .i64 base, .int .i64 cap, .map (some w1.heap.size), .map (some mf), .map none, .map none, .map none, .map none, .map none, .map none, .map none, .map none, .map none, .pointer (some ⟨gt, 0, none⟩), .pointer (some ⟨gi, 0, none⟩)] 173) = w6 at HBK HB6 ⊢
 have HT6 := Aside0.mk (HT5.out.below HB6.out)
 have HI6 := Aside0.mk (show TI w6 gi gm from ⟨blk_below HI5.out.1 HB6.out, HI5.out.2.below HB6.out⟩)
 have HMH6 := Aside0.mk (HMH5.out.below HB6.out)
 have HF6 := Aside0.mk (HF5.out.below HB6.out)
 have HBW := Aside0.mk (below_step HB5.out HB6.out)
 have HTQ := Aside0.mk (fun k hk => (show k < w5.heap.size from by obtain ⟨o, ho, _⟩ := HT5.out.kind k hk; exact blk_lt ho))
 have HGF := Aside0.mk (show w.heap.size < w5.heap.size from blk_lt HF5.out)
 have HGI5 := Aside0.mk (show gi < w5.heap.size from blk_lt HI5.out.1)
 clear HT5 HI5 HMH5 HF5 HB5 HB6 HB45 HN hmf
 generalize w5.heap.size = g at HBK HL5 HTQ HGF HGI5 ⊢
 go_loopw [40] (fun iv wr => ∃ (i : Nat) (mw : Nat → Nat), iv = .int .i64 (i : Int) ∧ i ≤ 9 ∧ Aside0 (wr.heap[g]? = some (.cells (ecs ⟨w.heap.size, w1.heap.size, mf, gt, gq, gi, gm, mw⟩ m base cap fun c => if c < i then .map (some (mw c)) else .map none) 173 (0, 0))) ∧ Aside0 (∀ c, c < i → MV 9 wr (mw c) 0 (fun _ => none) ∧ g < mw c) ∧ Aside0 (∀ c d, c < i → d < i → c ≠ d → mw c ≠ mw d) ∧ Aside0 (Frm (fun k => k = g) w6 wr)) (fun iv _ => 9 - (intOf iv).toNat)
 case atStart => exact ⟨0, fun _ => 0, rfl, by omega, ⟨HBK.out⟩, ⟨fun c hc => absurd hc (by omega)⟩, ⟨fun c d hc => absurd hc (by omega)⟩, ⟨Frm.refl _ _⟩⟩
 case round =>
  clear HBK
  obtain ⟨i, mw, rfl, hi, HBK, HMV, HND, HFR⟩ := hrel
  by_cases hil : i < 9
  ·have q0 : decide ((i : Int) < 9) = true := decide_eq_true (by omega)
   have r0 : (0 : Int) ≤ (i : Int) := by omega
   have r1 : (i : Int) < 9 := by omega
   have a9 : wrap64 ((i : Int) + 1) = (i : Int) + 1 := wrap_id (by omega) (by omega)
   have HA := Aside0.mk (blk_below HBK.out (below_alloc (Below.refl wr.heap.size wr) (.map #[] 0)))
   have HBA := Aside0.mk (below_alloc (Below.refl wr.heap.size wr) (.map #[] 0))
   have HMN := Aside0.mk (MV.new 9 wr)
   have HGL := Aside0.mk (blk_lt HBK.out)
   have f0 := blk_frozen HBK.out (6 + i)
   have f1 := blk_frozen HA.out (6 + i)
   have k0 : wr.cell? ⟨g, 6 + i, none⟩ = some (.map none) := ((blk_cell HBK.out (6 + i)).trans (ecs_at _ _ _ _ _ i hil)).trans (by rw [if_neg (by omega)])
   have k1 : (wr.alloc (.map #[] 0)).cell? ⟨g, 6 + i, none⟩ = some (.map none) := ((blk_cell HA.out (6 + i)).trans (ecs_at _ _ _ _ _ i hil)).trans (by rw [if_neg (by omega)])
   have HE := Aside0.mk (show (fun c => if c = i then Value.map (some wr.heap.size) else if c < i then Value.map (some (mw c)) else Value.map none) = (fun c => if c < i + 1 then Value.map (some (if c = i then wr.heap.size else mw c)) else Value.map none) from by
    funext c
    by_cases e : c = i
    ·rw [if_pos e, if_pos (by omega), if_pos e]
    ·by_cases e2 : c < i
     ·rw [if_neg e, if_pos e2, if_pos (by omega), if_neg e]
     ·rw [if_neg e, if_neg e2, if_neg (by omega)])
   have HP := Aside0.mk (blk_put HA.out (6 + i) (.map (some wr.heap.size)) (ecs_set _ m base cap _ i hil _))
   have HGS := Aside0.mk (grown_set (wr.alloc (.map #[] 0)) g (6 + i) (.map (some wr.heap.size)))
   clear HA HBK
   go_wp2
   go_roundw
   case rel =>
    refine ⟨i + 1, fun c => if c = i then wr.heap.size else mw c, by go_num, by omega, ⟨(HP.out.trans (congrArg (fun z => some (Obj.cells (ecs ⟨w.heap.size, w1.heap.size, mf, gt, gq, gi, gm, mw⟩ m base cap z) 173 (0, 0))) HE.out)).trans rfl⟩, ⟨?_⟩, ⟨?_⟩, ⟨(HFR.out.trans (Frm.below HBA.out) (fun _ _ h => h)).trans (Frm.grown HGS.out (fun k hk => by injection hk with hk; exact hk.symm)) (fun _ _ h => h)⟩⟩
    ·intro c hc
     dsimp only
     by_cases e : c = i
     ·rw [if_pos e]
      exact ⟨HMN.out.grown HGS.out (fun e2 => by injection e2 with e2; have := HGL.out; omega), HGL.out⟩
     ·rw [if_neg e]
      obtain ⟨h1, h2⟩ := HMV.out c (by omega)
      exact ⟨(h1.below HBA.out).grown HGS.out (fun e2 => by injection e2 with e2; omega), h2⟩
    ·intro c d hc hd hcd
     dsimp only
     by_cases e : c = i
     ·rw [if_pos e, if_neg (by omega)]
      have := (HMV.out d (by omega)).1.lt
      omega
     ·rw [if_neg e]
      by_cases e2 : d = i
      ·rw [if_pos e2]
       have := (HMV.out c (by omega)).1.lt
       omega
      ·rw [if_neg e2]
       exact HND.out c d (by omega) (by omega) hcd
   case measure => simp [intOf]; omega
  ·have q0 : decide ((i : Int) < 9) = false := decide_eq_false (by omega)
   have hi9 : i = 9 := by omega
   subst hi9
   go_wp2
   go_ret
   have hl5 := HL5.out
   have hl3 := HL3.out
   have hgi := HGI.out
   have hgf := HGF.out
   refine ⟨g, rfl, ⟨⟨w.heap.size, w1.heap.size, mf, gt, gq, gi, gm, mw⟩, m, base, cap, _, 0, _, _, 8, fun _ => 0, fun _ _ => none, ⟨HBK.out.trans rfl, HFR.out.blk HF6.out (show ¬ w.heap.size = g by omega), HMH6.out.frm HFR.out (by omega), (HT6.out.lower hl3).frm HFR.out (fun k hk e => by have := HTQ.out k hk; omega), HI6.out.frm HFR.out (by have := HGI5.out; omega) (by omega), fun c hc => (HMV.out c hc).1, ⟨by omega, Nat.le_refl _, HLW.out, ?_, ?_, fun c hc => by have := (HMV.out c hc).2; dsimp only; omega⟩, HM.out.1, HM.out.2, by omega, by omega, fun _ _ => by omega, fun _ _ => by omega, fun _ _ => ⟨by simp, fun z hz => by cases hz⟩, fun _ _ _ => ⟨false, rfl⟩, ⟨by have := HMG.out; simp; omega, fun c hc => by have := (HMV.out c hc).2; simp; omega, HND.out⟩⟩, ?_⟩, ?_⟩
   ·have := HL4.out; dsimp only; omega
   ·have := HL4.out; dsimp only; omega
   ·intro k hk
    have hl4 := HL4.out
    have hlw := HLW.out
    rcases hk with rfl | rfl | rfl | rfl | rfl | hk | ⟨c, hc, rfl⟩
    ·exact hl5.1
    ·exact Nat.le_refl _
    ·exact hlw
    ·exact Nat.le_trans hl4 hgi.1
    ·exact Nat.le_trans hl4 hgi.2
    ·exact Nat.le_trans hl3 (HT6.out.foot_low k hk)
    ·have := (HMV.out c hc).2; dsimp only; omega
   ·have hb := HBW.out
    exact ⟨HFR.out.os.trans hb.os, HFR.out.tape.trans hb.tape, HFR.out.output.trans hb.output, Nat.le_trans hb.size HFR.out.size, fun k hk => (HFR.out.keep k (Nat.lt_of_lt_of_le hk hb.size) (fun e => by omega)).trans (hb.block k hk)⟩
end
def Kp (Ts : List Nat) (X : Nat → Prop) (w w' : World) : Prop := w.heap.size ≤ w'.heap.size ∧ ∀ k cells t, w.heap[k]? = some (.cells cells t (0, 0)) → t ∉ Ts → ¬ X k → w'.heap[k]? = w.heap[k]?
theorem Kp.refl (Ts : List Nat) (X : Nat → Prop) (w : World) : Kp Ts X w w := ⟨Nat.le_refl _, fun _ _ _ _ _ _ => rfl⟩
theorem Kp.trans {Ts : List Nat} {X : Nat → Prop} {a b c : World} (h : Kp Ts X a b) (k : Kp Ts X b c) : Kp Ts X a c :=
 ⟨Nat.le_trans h.1 k.1, fun i cells t hi ht hx => (k.2 i cells t ((h.2 i cells t hi ht hx).trans hi) ht hx).trans (h.2 i cells t hi ht hx)⟩
theorem Kp.below {Ts : List Nat} {X : Nat → Prop} {a b : World} (h : Below a.heap.size a b) : Kp Ts X a b := ⟨h.size, fun i cells t hi _ _ => h.block i (blk_lt hi)⟩
theorem Kp.mono {Ts Ts' : List Nat} {X X' : Nat → Prop} {a b : World} (h : Kp Ts X a b) (h1 : ∀ t, t ∈ Ts → t ∈ Ts') (h2 : ∀ k, k < a.heap.size → X k → X' k) : Kp Ts' X' a b :=
 ⟨h.1, fun i cells t hi ht hx => h.2 i cells t hi (fun e => ht (h1 t e)) (fun e => hx (h2 i (blk_lt hi) e))⟩
theorem Kp.grown {Ts : List Nat} {X : Nat → Prop} {a b : World} {row : Option Nat} (h : a.grownBy b row) (hr : ∀ k, row = some k → X k ∨ ∀ cells t, a.heap[k]? = some (.cells cells t (0, 0)) → t ∈ Ts) : Kp Ts X a b :=
 ⟨h.size, fun i cells t hi ht hx => h.block i (blk_lt hi) (fun e => by
  rcases hr i e.symm with h1 | h1
  ·exact hx h1
  ·exact ht (h1 cells t hi))⟩
theorem Kp.blk {Ts : List Nat} {X : Nat → Prop} {a b : World} (h : Kp Ts X a b) {k t : Nat} {cells : Array Value} (hi : a.heap[k]? = some (.cells cells t (0, 0))) (ht : t ∉ Ts) (hx : ¬ X k) : b.heap[k]? = some (.cells cells t (0, 0)) := (h.2 k cells t hi ht hx).trans hi
theorem R_kp {α : Type} {d : Kd α} {e base : Nat} {ok : Nat → Prop} {w w' : World} {v : Value} {xs : List α} {Ts : List Nat} {X : Nat → Prop} (h : d.R e w base ok v xs) (hk : Kp Ts X w w') (ht : ∀ q, q ∈ e :: d.E → q ∉ Ts) (hx : ∀ k, ok k → ¬ X k) : d.R e w' base ok v xs :=
 Kd.R_mono (Kd.R_move (Kd.R_bound h) (fun k hk2 => by
  obtain ⟨h1, _, _, q, hq, cells, hc⟩ := hk2
  exact hk.2 k cells q hc (ht q hq) (hx k h1))) (fun k hk => hk.1)
theorem own_row {α : Type} {d : Kd α} {e base : Nat} {ok : Nat → Prop} {w : World} {v : Value} {xs : List α} (h : d.R e w base ok v xs) (Ts : List Nat) (he : e ∈ Ts) (X : Nat → Prop) : ∀ k, v.ownBlock = some k → X k ∨ ∀ cells t, w.heap[k]? = some (.cells cells t (0, 0)) → t ∈ Ts := fun k hk => .inr (fun cells t hc => by
 obtain ⟨cells2, h2⟩ := Kd.R_typed h k hk
 rw [h2] at hc
 injection hc with hc
 injection hc with _ h3 _
 rw [← h3]
 exact he)
theorem map_row {kt : TypeId} {w : World} {m s : Nat} {pl : Lit → Option Value} (h : MV kt w m s pl) (Ts : List Nat) (X : Nat → Prop) : ∀ k, some m = some k → X k ∨ ∀ cells t, w.heap[k]? = some (.cells cells t (0, 0)) → t ∈ Ts := fun k hk => .inr (fun cells t hc => by
 obtain ⟨es, cl, h2⟩ := h.blk
 injection hk with hk
 subst hk
 rw [h2] at hc
 cases hc)
theorem blk_row {w : World} {g t : Nat} {cs : Array Value} (h : w.heap[g]? = some (.cells cs t (0, 0))) (Ts : List Nat) (ht : t ∈ Ts) (X : Nat → Prop) : ∀ k, some g = some k → X k ∨ ∀ cells t', w.heap[k]? = some (.cells cells t' (0, 0)) → t' ∈ Ts := fun k hk => .inr (fun cells t' hc => by
 injection hk with hk
 subst hk
 rw [h] at hc
 injection hc with hc
 injection hc with _ h3 _
 rw [← h3]
 exact ht)
def SB (w : World) (base gs n : Nat) (pl : Lit → Option Value) : Prop := base ≤ gs ∧ ∃ vl gm rows s, w.heap[gs]? = some (.cells #[vl, .map (some gm)] 363 (0, 0)) ∧ base ≤ gm ∧ (Kd.raw 4).R 391 w base (fun _ => True) vl rows ∧ rows.length = n ∧ MV 9 w gm s pl ∧ s ≤ n
theorem store.New.calls (w : World) : Calls Tryz.prog 193 #[] w fun e w' => e = .returned (.pointer (some ⟨w.heap.size + 1, 0, none⟩)) ∧ w'.heap[w.heap.size + 1]? = some (.cells #[.slice none 0 0, .map (some w.heap.size)] 363 (0, 0)) ∧ MV 9 w' w.heap.size 0 (fun _ => none) ∧ Below w.heap.size w w' := by
 have hmm := @run_makeMap Tryz.prog
 have hs1 : (w.alloc (.map #[] 0)).heap.size = w.heap.size + 1 := by simp
 have hz := blk_new (w.alloc (.map #[] 0)) (.cells #[.slice none 0 0, .map (some w.heap.size)] 363)
 rw [hs1] at hz
 have HZ := Aside0.mk hz
 have hb2 := below_alloc (Below.refl (w.alloc (.map #[] 0)).heap.size (w.alloc (.map #[] 0))) (.cells #[.slice none 0 0, .map (some w.heap.size)] 363)
 have HM := Aside0.mk ((MV.new 9 w).below hb2)
 have HB := Aside0.mk (below_step (below_alloc (Below.refl w.heap.size w) (.map #[] 0)) hb2)
 clear hz hb2 hs1
 go_enter Tryz.func193, Tryz.ntmps193
 go_wp2
 go_ret
 exact ⟨rfl, HZ.out, HM.out, HB.out⟩
theorem trail.New.calls (w : World) : Calls Tryz.prog 192 #[] w fun e w' => e = .returned (.pointer (some ⟨w.heap.size, 0, none⟩)) ∧ w'.heap[w.heap.size]? = some (.cells #[.slice none 0 0, .slice none 0 0] 359 (0, 0)) ∧ Below w.heap.size w w' := by
 have HZ := Aside0.mk (blk_new w (.cells #[.slice none 0 0, .slice none 0 0] 359))
 have HB := Aside0.mk (below_alloc (Below.refl w.heap.size w) (.cells #[.slice none 0 0, .slice none 0 0] 359))
 go_enter Tryz.func192, Tryz.ntmps192
 go_wp2
 go_ret
 exact ⟨rfl, HZ.out, HB.out⟩
theorem pace.first.calls (b : Int) (w : World) : Calls Tryz.prog 247 #[.int .i64 b] w fun e w' => (∃ r : Int, e = .returned (.int .i64 r)) ∧ Below w.heap.size w w' := by
 go_enter Tryz.func247, Tryz.ntmps247
 go_wp2
 all_goals (go_ret; exact ⟨⟨_, rfl⟩, Below.refl _ _⟩)
theorem pace.New.calls (b : Int) (w : World) : Calls Tryz.prog 194 #[.int .i64 b] w fun e w' => (∃ g : Nat, e = .returned (.pointer (some ⟨g, 0, none⟩))) ∧ Below w.heap.size w w' := by
 go_enter Tryz.func194, Tryz.ntmps194
 go_wp2_with fail
 refine (pace.first.calls b w).mono ?_
 rintro e w5 ⟨⟨r, rfl⟩, hb5⟩
 have HB5 := Aside0.mk hb5
 clear hb5
 go_wp2
 go_ret
 exact ⟨⟨_, rfl⟩, below_alloc HB5.out _⟩
def kTmm (w0 : World) : Kd Tm := Kd.pair Kd.string (Kd.pair (Kd.mix 126 kSp kSp w0) Kd.bool)
theorem kTmm_of (w0 : World) {W : World} {base : Nat} {okp : Nat → Prop} (x : Tm) (cs : List Value) (h : kTm.K w0 x cs) : (kTmm w0).M W base okp x cs := by
 obtain ⟨c0, c1, rfl, h0, c2, c3, rfl, h2, h3⟩ := h
 exact ⟨c0, c2 ++ c3, rfl, h0, c2, c3, rfl, .inl h2, h3⟩
theorem kTmm_read {w0 w : World} (hb : Below w0.heap.size w0 w) {A : Option Addr} {n : Nat} {xs : List Tm} (h : (kTmm w0).C w A n xs) : kTm.C w A n xs := by
 refine ReadsRow.imp_ h (Below.refl _ _) (fun x cs hp => ?_)
 obtain ⟨c0, c1, rfl, h0, c2, c3, rfl, h2, h3⟩ := hp
 obtain ⟨A1, c4, rfl, hl, hc⟩ := Kd.mix_read rfl (fun _ _ h => h) hb h2
 exact ⟨c0, _, rfl, h0, _, c3, rfl, ⟨A1, c4, rfl, hl, hc⟩, h3⟩
set_option maxRecDepth 100000 in
set_option maxHeartbeats 4000000 in
theorem cloneTm.calls {w : World} {A : Option Addr} {c : Nat} {xs : List Tm} (h : kTm.C w A xs.length xs) (hl : xs.length ≤ 1) : Calls Tryz.prog 361 #[.slice A xs.length c] w fun e w' => ∃ v, e = .returned v ∧ (kTmm w).R 401 w' w.heap.size (fun _ => True) v xs ∧ Below w.heap.size w w' := by
 have HX := Aside0.mk h
 have HL := Aside0.mk hl
 cases A with
 | none =>
  have hn : xs = [] := by
   rcases Nat.eq_zero_or_pos xs.length with h0 | h0
   ·exact List.eq_nil_of_length_eq_zero h0
   ·obtain ⟨ad, h, _⟩ := h.2.2 h0
    cases h
  subst hn
  have e0 := Lib.run_eql_slice_nil (P := Tryz.prog) w 310 401 none 0 c 0 0 Tryz.underlying310
  clear h hl
  go_enter Tryz.func361, Tryz.ntmps361
  go_wp2
  go_ret
  exact ⟨.slice none 0 0, rfl, Kd.R_nil _ _ _ _ _, Below.refl _ _⟩
 | some ad =>
  clear h hl
  have HO := Aside0.mk (show (kTmm w).R 401 (w.alloc (.cells #[] 401)) w.heap.size (fun _ => True) (.slice (some ⟨w.heap.size, 0, none⟩) 0 0) [] from lit (kTmm w) w w.heap.size 401 (xs := []) (inner := []) (okp := fun _ => True) (Reps.none _ _) (fun _ h => h) trivial (Nat.le_refl _) (by simp))
  have HX1 := Aside0.mk (show ReadsRow (kTm.K w) 3 (w.alloc (.cells #[] 401)) (some ad) xs.length xs from ReadsRow.imp_ HX.out (below_alloc (Below.refl w.heap.size w) (.cells #[] 401)) (fun _ _ hp => hp))
  have HB1 := Aside0.mk (below_alloc (Below.refl w.heap.size w) (.cells #[] 401))
  have HW1 := Aside0.mk (HB1.out.size)
  have e0 := Lib.run_eql_slice_nil (P := Tryz.prog) w 310 401 (some ad) xs.length c 0 0 Tryz.underlying310
  go_enter Tryz.func361, Tryz.ntmps361
  go_upto_region 3 with fail
  go_wp2_with (first | ((with_reducible refine gate_builtin (b := .append) (xs := #[.tmp 5, .tmp 6]) rfl ?_); at_builtin; refine Kd.R_append_rows (kTmm w) (w0 := w) (w.heap.size) rfl (.tmp 5) (.tmp 6) 310 401 (.agg #[.string ⟨#[]⟩, .slice none 0 0, .bool false]) 48 rfl Tryz.underlying310 infoTm rfl (show 0 < 3 by decide) (by omega) (.slice (some ⟨w.heap.size, 0, none⟩) 0 0) (([] : List Tm)) (xs) (some ad) (xs.length) (c) (fun _ => True) (fun k => some k ≠ (Value.slice (some ⟨w.heap.size, 0, none⟩) 0 0).ownBlock) rfl rfl HO.out HX1.out (fun x cs hk => kTmm_of w x cs hk) (fun k hk => ⟨trivial, hk⟩) (fun _ _ => trivial) HB1.out HW1.out (by have h := HL.out; simp; omega) ?_; intro v9 w9 hr9 hb9 hg9 hat9; have n0_ := Aside0.mk hr9; have n1_ := Aside0.mk hb9; clear hr9 hb9 hg9 hat9))
  rw [List.nil_append] at n0_
  go_wp2
  go_ret
  exact ⟨v9, rfl, n0_.out, n1_.out⟩
set_option maxRecDepth 100000 in
set_option maxHeartbeats 4000000 in
theorem store.cloned.calls {w : World} {A : Option Addr} {c : Nat} {xs : List Tm} (h : kTm.C w A xs.length xs) (hl : xs.length ≤ 1) (hs : ∀ t ∈ xs, t.2.1.length ≤ 1000000000) : Calls Tryz.prog 311 #[.slice A xs.length c] w fun e w' => (∃ (A' : Option Addr) (n' c' : Nat), e = .returned (.slice A' n' c')) ∧ Below w.heap.size w w' := by
 have HX := Aside0.mk h
 have HL := Aside0.mk hl
 have HS := Aside0.mk hs
 clear h hl hs
 go_enter Tryz.func311, Tryz.ntmps311
 go_wp2_with fail
 refine (cloneTm.calls HX.out HL.out).mono ?_
 rintro e w4 ⟨v4, rfl, hr4, hb4⟩
 have HR4 := Aside0.mk hr4
 have HB4 := Aside0.mk hb4
 obtain ⟨A4, c4, rfl⟩ := Kd.R_slice hr4
 clear hr4 hb4
 go_wp2
 go_loopw [10] (fun iv wr => ∃ i : Nat, iv = .int .i64 (i : Int) ∧ i ≤ xs.length ∧ Aside0 (i = 0 → (kTmm w).R 401 wr w.heap.size (fun _ => True) (.slice A4 xs.length c4) xs) ∧ Aside0 (Below w.heap.size w wr)) (fun iv _ => ((xs.length : Int) - intOf iv).toNat)
 case atStart => exact ⟨0, rfl, by omega, ⟨fun _ => HR4.out⟩, HB4⟩
 case round =>
  clear HR4 HB4
  obtain ⟨i, rfl, hi, HR, HB⟩ := hrel
  have hll := HL.out
  by_cases hlt : i < xs.length
  ·have q0 : decide ((i : Int) < (xs.length : Int)) = true := decide_eq_true (by omega)
   have hi0 : i = 0 := by omega
   subst hi0
   have u0 : (0 : Int) ≤ ((0 : Nat) : Int) := by omega
   have u1 : (0 : Int) < (xs.length : Int) := by omega
   obtain ⟨g, c5, hg5⟩ := R_blk (HR.out rfl) (show 0 < 3 by decide) (by omega)
   injection hg5 with hA hn hc
   subst hA
   obtain ⟨ad, A1, c1, e1, k0, k1, k2, hlc, hcs⟩ := at_Tm (kTmm_read HB.out (Kd.R_reads' (HR.out rfl)).2.2) 0 hlt
   injection e1 with e1
   subst e1
   have hsx := HS.out _ (getD_mem xs zTm 0 hlt)
   obtain ⟨x, hx⟩ : ∃ x, xs.getD 0 zTm = x := ⟨_, rfl⟩
   rw [hx] at k0 k1 k2 hlc hcs hsx
   have HSX := Aside0.mk hsx
   replace k0 : wr.cell? ⟨g, 0, none⟩ = _ := k0
   replace k1 : wr.cell? ⟨g, 1, none⟩ = _ := k1
   replace k2 : wr.cell? ⟨g, 2, none⟩ = _ := k2
   obtain ⟨cells, hcell⟩ := Kd.R_typed (HR.out rfl) g rfl
   have HBa := Aside0.mk (below_alloc (Below.refl wr.heap.size wr) (.cells #[.string x.1, .slice A1 x.2.1.length c1, .bool x.2.2] 401))
   have HCS := Aside0.mk (Kd.C_below hcs HBa.out)
   have HGG := Aside0.mk (blk_below hcell HBa.out)
   have HK := Aside0.mk ((HBa.out.cell (World.block_lt_of_cell? _ _ k1)).trans k1)
   have HGB := Aside0.mk (show w.heap.size ≤ g from Kd.R_base (HR.out rfl) g rfl)
   have HB2 := Aside0.mk (below_step HB.out HBa.out)
   have hbx := blk_new wr (.cells #[.string x.1, .slice A1 x.2.1.length c1, .bool x.2.2] 401)
   have HBX := Aside0.mk hbx
   clear hlc hcs hc hn hbx hx hsx HR HB hcell
   go_wp2_with fail
   generalize wr.alloc (.cells #[.string x.1, .slice A1 x.2.1.length c1, .bool x.2.2] 401) = w5 at HBX HCS HB2 HK HBa HGG ⊢
   generalize wr.heap.size = gx at HBX HBa ⊢
   refine (cloneSpB.calls HCS.out HSX.out).mono ?_
   rintro e w6 ⟨v6, rfl, hr6, hb6⟩
   obtain ⟨A6, c6, rfl⟩ := Kd.R_slice hr6
   have f1 := blk_frozen (blk_below HGG.out hb6) 1
   have k6 := (hb6.cell (World.block_lt_of_cell? _ _ HK.out)).trans HK.out
   have HB6 := Aside0.mk ((below_step HB2.out hb6).setCell (p := ⟨g, 1, none⟩) HGB.out (.slice A6 x.2.1.length c6))
   clear hr6 hb6 HB2 HCS HBX HBa k0 k1 k2
   go_wp2
   go_roundw
   case rel => exact ⟨1, rfl, hlt, ⟨fun h => absurd h (by decide)⟩, HB6⟩
   case measure => simp [intOf]; omega
  ·have q0 : decide ((i : Int) < (xs.length : Int)) = false := decide_eq_false (by omega)
   go_wp2
   go_ret
   exact ⟨⟨_, _, _, rfl⟩, HB.out⟩
theorem infoItem : (Tryz.prog.info? 391).map (fun i => (i.zero, i.size, i.bytes)) = some (some (.agg #[.slice none 0 0, .int .i64 0, .bool false, .bool false]), 4, 40) := by kernel_rfl
theorem zeroLI (w : World) : (zeroValue 42).run Tryz.prog w = .ok (.slice none 0 0) w := by kernel_rfl
def SAD4.T4 : Bool × List (List Nat × List Nat) := (true, [([], []), ([], []), ([1], [1]), ([2], [2]), ([3], [3]), ([], []), ([5], [5]), ([], []), ([], []), ([6, 7, 8], [6, 7, 8]), ([9], [9]), ([4, 10, 6], [4, 10]), ([0, 0, 1, 2, 3, 4, 5, 6, 7, 8, 9, 10, 11], [0]), ([12, 0, 1, 2, 3, 4, 5, 6, 7, 8, 9, 10, 11], [12]), ([13, 11, 11, 0, 1, 2, 3, 4, 5, 6, 7, 8, 9, 10, 11], [11, 13])])
def SAD4.B4 : List Nat := [0, 0, 2, 6, 14, 0, 32, 0, 0, 480, 992, 2046, 4095, 8191, 16383]
theorem SAD4.tab4 : rtab .any (opsOf Tryz.f249 4) = SAD4.T4 := by kernel_rfl
theorem SAD4.bits4 : waitsOk SAD4.T4.2 SAD4.B4 = true := by kernel_rfl
def SAD8.T8 : Bool × List (List Nat × List Nat) := (true, [([], []), ([0], [0]), ([1], [1]), ([2], [2]), ([], []), ([4], [4]), ([], []), ([6], [6]), ([7], [7]), ([8], [8]), ([], []), ([10], [10]), ([9, 11], [9, 11]), ([], []), ([13], [13]), ([12, 14], [12, 14]), ([3, 5, 15, 15, 0, 1, 2, 3, 4, 5, 6, 7, 8, 9, 10, 11, 12, 13, 14, 15], [3, 5, 15])])
def SAD8.B8 : List Nat := [0, 1, 3, 7, 0, 16, 0, 64, 192, 448, 0, 1024, 4032, 0, 8192, 32704, 65535]
theorem SAD8.tab8 : rtab .any (opsOf Tryz.f249 8) = SAD8.T8 := by kernel_rfl
theorem SAD8.bits8 : waitsOk SAD8.T8.2 SAD8.B8 = true := by kernel_rfl
set_option maxRecDepth 100000 in
set_option maxHeartbeats 8000000 in
theorem store.Add.calls {w : World} {base gs n : Nat} {pl : Lit → Option Value} (h : SB w base gs n pl) (hw : base ≤ w.heap.size) {A : Option Addr} {c : Nat} {ts : List Tm} {x : ByteArray} {bt : Nat} {okt : Nat → Prop} (hx : kTm.R 401 w bt okt (.slice A ts.length c) ts) (ht : Tm1 x ts) (hxs : x.size ≤ 1000) (hnew : pl (ky x) = none) (hn : n ≤ 1000) (st : Int) (l : Bool) : Calls Tryz.prog 249 #[.pointer (some ⟨gs, 0, none⟩), .slice A ts.length c, .int .i64 st, .bool l] w fun e w' => (∃ r : Int, e = .returned (.int .i64 r)) ∧ (∃ pl', SB w' base gs (n + 1) pl' ∧ ∀ k, (pl' k).isSome = true → (pl k).isSome = true ∨ k = ky x) ∧ Kp [363, 391] (fun _ => False) w w' ∧ Below base w w' := by
 obtain ⟨hbg, vl, gm, rows, s, hgs, hgm, hr, hrn, hm, hsz⟩ := h
 obtain ⟨Av, cv, rfl⟩ := Kd.R_slice hr
 subst hrn
 have HXC := Aside0.mk hx
 have HX := Aside0.mk hxs
 have HT := Aside0.mk ht
 have HSZ := Aside0.mk (And.intro hsz hn)
 have HNW := Aside0.mk hnew
 have HBG := Aside0.mk hbg
 have HGMB := Aside0.mk hgm
 have HMNE := Aside0.mk (show gm ≠ gs from hm.ne hgs)
 have HGS0 := Aside0.mk hgs
 have HR0 := Aside0.mk hr
 have HM0 := Aside0.mk hm
 have HW0 := Aside0.mk hw
 have k0 : w.cell? ⟨gs, 0, none⟩ = some (.slice Av rows.length cv) := (blk_cell hgs 0).trans rfl
 clear hx hxs ht hsz hnew hbg hgm hgs hr hm hw
 go_enter Tryz.func249, Tryz.ntmps249
 go_wp2
 have HXD := Aside0.mk (show kTm.C w.drew A ts.length ts from Kd.C_below (Kd.R_reads' HXC.out).2.2 (below_drew (Below.refl _ _)))
 have HGS := Aside0.mk (show w.drew.heap[gs]? = some (.cells #[.slice Av rows.length cv, .map (some gm)] 363 (0, 0)) from HGS0.out)
 have HR := Aside0.mk (show (Kd.raw 4).R 391 w.drew base (fun _ => True) (.slice Av rows.length cv) rows from Kd.R_drewN HR0.out 1)
 have HM := Aside0.mk (show MV 9 w.drew gm s pl from HM0.out.below (below_drew (Below.refl _ _)))
 have HB := Aside0.mk (show Below base w w.drew from below_drew (Below.refl _ _))
 have HW := Aside0.mk (show base ≤ w.drew.heap.size from HW0.out)
 have HK := Aside0.mk (show Kp [363, 391] (fun _ => False) w w.drew from Kp.below (below_drew (Below.refl _ _)))
 clear HR0 HGS0 HM0 k0
 refine start_ (n := 15) (S := fun w' => w'.cell? ⟨gs, 0, none⟩ = some (.slice Av rows.length cv)) (ds := [11, 14]) #[O,O,O,O,O,O,O,O,O,O,O,O,O,O,O] (by kernel_rfl) rfl rfl (((blk_cell HGS.out 0).trans rfl)) (fun hHeld => ?_)
 refine with_tabW SAD4.tab4 SAD4.bits4 (fun HT_ HW_ => ?_)
 refine pure_ (i := 0) (N := some 19) (v := ?_) (a' := ?_) #[Y,O,O,O,O,O,O,O,O,O,O,O,O,O,O] rfl rfl (any_of HT_.out (by kernel_rfl)) (fun _ _ _ h => h) (Or.inl ⟨by rfl, ?_⟩) ?_ ?_
 rotate_left
 ·intro w'
  go_simp
  with_reducible rfl
 rotate_left
 ·simp only [PN]
  rfl
 refine pure_ (i := 1) (N := some 20) (v := ?_) (a' := ?_) #[Y,Y,O,O,O,O,O,O,O,O,O,O,O,O,O] rfl rfl (any_of HT_.out (by kernel_rfl)) (fun _ _ _ h => h) (Or.inl ⟨by rfl, ?_⟩) ?_ ?_
 rotate_left
 ·intro w'
  go_simp
  with_reducible rfl
 rotate_left
 ·simp only [PN]
  rfl
 refine pure_ (i := 2) (N := some 21) (v := ?_) (a' := ?_) #[Y,Y,Y,O,O,O,O,O,O,O,O,O,O,O,O] rfl rfl (any_of HT_.out (by kernel_rfl)) (fun _ _ _ h => h) (Or.inl ⟨by rfl, ?_⟩) ?_ ?_
 rotate_left
 ·intro w'
  go_simp
  with_reducible rfl
 rotate_left
 ·simp only [PN]
  rfl
 refine pure_ (i := 3) (N := some 22) (v := ?_) (a' := ?_) #[Y,Y,Y,Y,O,O,O,O,O,O,O,O,O,O,O] rfl rfl (any_of HT_.out (by kernel_rfl)) (fun _ _ _ h => h) (Or.inl ⟨by rfl, ?_⟩) ?_ ?_
 rotate_left
 ·intro w'
  go_simp
  with_reducible rfl
 rotate_left
 ·simp only [PN]
  rfl
 refine pure_ (i := 5) (N := some 24) (v := ?_) (a' := ?_) #[Y,Y,Y,Y,O,Y,O,O,O,O,O,O,O,O,O] rfl rfl (any_of HT_.out (by kernel_rfl)) (fun _ _ _ h => h) (Or.inl ⟨by rfl, ?_⟩) ?_ ?_
 rotate_left
 ·intro w'
  go_simp
  with_reducible rfl
 rotate_left
 ·simp only [PN]
  rfl
 refine pure_ (i := 7) (N := some 26) (v := ?_) (a' := ?_) #[Y,Y,Y,Y,O,Y,O,Y,O,O,O,O,O,O,O] rfl rfl (any_of HT_.out (by kernel_rfl)) (fun _ _ _ h => h) (Or.inl ⟨by rfl, ?_⟩) ?_ ?_
 rotate_left
 ·intro w'
  go_simp
  with_reducible rfl
 rotate_left
 ·simp only [PN]
  rfl
 refine pure_ (i := 8) (N := some 27) (v := ?_) (a' := ?_) #[Y,Y,Y,Y,O,Y,O,Y,Y,O,O,O,O,O,O] rfl rfl (any_of HT_.out (by kernel_rfl)) (fun _ _ _ h => h) (Or.inl ⟨by rfl, ?_⟩) ?_ ?_
 rotate_left
 ·intro w'
  go_simp
  with_reducible rfl
 rotate_left
 ·simp only [PN]
  rfl
 refine take_ (i := 4) (N := some 23) (v := ?_) (a' := ?_) #[Y,Y,Y,Y,Y,Y,O,Y,Y,O,O,O,O,O,O] rfl rfl (take_ofW HT_.out HW_.out (by kernel_rfl)) (fun _ _ _ h => h) (Or.inl ⟨by rfl, ?_⟩) hHeld ?_ ?_
 rotate_left
 ·intro w' s0
  go_simp
  with_reducible rfl
 rotate_left
 ·simp only [PN]
  rfl
 refine one_ (i := 6) (N := some 25) #[Y,Y,Y,Y,Y,Y,Y,Y,Y,O,O,O,O,O,O] rfl rfl (one_of HT_.out (by kernel_rfl)) (by decide) (fun K hK => ?_)
 refine goes_ Tryz.func311 (by kernel_rfl) rfl #[.slice A ts.length c] (by rfl) rfl rfl (by (try simp only [List.map_toArray, List.map_cons, List.map_nil]); first | done | rfl) ?_
 refine (store.cloned.calls HXD.out HT.out.1 (fun t ht => (HT.out.2 t ht).2)).mono ?_
 rintro e w5 ⟨⟨A5, n5, c5, rfl⟩, hb5⟩
 refine ⟨_, rfl, ?_⟩
 have HGS5 := Aside0.mk (blk_below HGS.out hb5)
 have HR5 := Aside0.mk (Kd.R_below HR.out hb5)
 have HM5 := Aside0.mk (HM.out.below hb5)
 have HB5 := Aside0.mk (below_then HB.out HW.out hb5)
 have HW5 := Aside0.mk (Nat.le_trans HW.out hb5.size)
 have HK5 := Aside0.mk (HK.out.trans (Kp.below hb5))
 clear hb5
 refine hK.out _ _ (((blk_cell HGS5.out 0).trans rfl)) (fun hHeld => ?_)
 clear hK K
 refine norm_ (a' := ?_) ?_ ?_
 rotate_left
 ·show Act.put _ (some 25) _ = _
  simp only [PN]
  rfl
 refine pure_ (i := 9) (N := some 28) (v := ?_) (a' := ?_) #[Y,Y,Y,Y,Y,Y,Y,Y,Y,Y,O,O,O,O,O] rfl rfl (any_of HT_.out (by kernel_rfl)) (fun _ _ _ h => h) (Or.inl ⟨by rfl, ?_⟩) ?_ ?_
 rotate_left
 ·intro w'
  go_simp
  with_reducible rfl
 rotate_left
 ·simp only [PN]
  rfl
 refine one_ (i := 10) (N := some 29) #[Y,Y,Y,Y,Y,Y,Y,Y,Y,Y,Y,O,O,O,O] rfl rfl (one_of HT_.out (by kernel_rfl)) (by decide) (fun K hK => ?_)
 have HGS6 := Aside0.mk (blk_below HGS5.out (below_alloc (Below.refl w5.heap.size w5) (.cells #[.slice A5 n5 c5, .int .i64 st, .bool l, .bool false] 391)))
 refine value_ (w1 := ?_) (v := ?_) (by rfl) rfl ?_ ?_
 rotate_left 2
 ·go_simp
  constructor
  ·rfl
  ·rfl
 refine hK.out _ _ (((blk_cell HGS6.out 0).trans rfl)) (fun hHeld => ?_)
 clear hK K
 refine norm_ (a' := ?_) ?_ ?_
 rotate_left
 ·show Act.put _ (some 29) _ = _
  simp only [PN]
  rfl
 refine last_ (i := 11) (N := some 30) #[Y,Y,Y,Y,Y,Y,Y,Y,Y,Y,Y,Y,O,O,O] rfl rfl (one_of HT_.out (by kernel_rfl)) (by decide) (fun K hK => ?_)
 refine Kd.R_append_step (Kd.raw 4) (w0 := w5) (base) (by rfl) (.tmp 23) (.tmp 29) 361 391 (.agg #[.slice none 0 0, .int .i64 0, .bool false, .bool false]) 40 rfl Tryz.underlying361 infoItem rfl (by decide) (by omega) (.slice Av rows.length cv) (rows) ([.slice A5 n5 c5, .int .i64 st, .bool l, .bool false]) [.slice A5 n5 c5, .int .i64 st, .bool l, .bool false] (fun _ => True) (fun _ => False) rfl rfl ⟨rfl, rfl, by intro u hu; simp only [List.mem_cons, List.not_mem_nil, or_false] at hu; rcases hu with rfl | rfl | rfl | rfl <;> rfl⟩ (fun _ hk => hk.elim) (fun _ _ => trivial) HR5.out (Below.refl base w5) HW5.out (by omega) ?_
 intro v9 w9 hr9 hb9 hg9 hat9
 have HR9 := Aside0.mk hr9
 obtain ⟨A9, c9, rfl⟩ := Kd.R_slice hr9
 have HGS9 := Aside0.mk (blk_grown HGS5.out hg9 (Kd.R_ne HR5.out HGS5.out (by decide)))
 have HM9 := Aside0.mk (HM5.out.grown hg9 (fun e => by obtain ⟨es, cl, hm_⟩ := HM5.out.blk; obtain ⟨cells_, hc_⟩ := Kd.R_typed HR5.out _ e.symm; rw [hm_] at hc_; cases hc_))
 have HB9 := Aside0.mk (below_go HB5.out hb9)
 have HW9 := Aside0.mk (Nat.le_trans HW5.out hb9.size)
 have HK9 := Aside0.mk (HK5.out.trans (Kp.grown hg9 (own_row HR5.out [363, 391] (by decide) _)))
 have f0 := blk_frozen HGS9.out 0
 have k0 : w9.cell? ⟨gs, 0, none⟩ = some (.slice Av rows.length cv) := (blk_cell HGS9.out 0).trans rfl
 clear hr9 hb9 hg9 hat9
 refine hK.out _ _ ?_
 clear hK K
 refine norm_ (a' := ?_) ?_ ?_
 rotate_left
 ·show Act.put _ (some 30) _ = _
  simp only [PN]
  rfl
 refine pure_ (i := 12) (N := some 31) (v := ?_) (a' := ?_) #[Y,Y,Y,Y,Y,Y,Y,Y,Y,Y,Y,Y,Y,O,O] rfl rfl (any_of HT_.out (by kernel_rfl)) (fun _ _ _ h => h) (Or.inl ⟨by rfl, ?_⟩) ?_ ?_
 rotate_left
 ·intro w'
  go_simp
  with_reducible rfl
 rotate_left
 ·simp only [PN]
  rfl
 refine pure_ (i := 13) (N := some 32) (v := ?_) (a' := ?_) #[Y,Y,Y,Y,Y,Y,Y,Y,Y,Y,Y,Y,Y,Y,O] rfl rfl (any_of HT_.out (by kernel_rfl)) (fun _ _ _ h => h) (Or.inl ⟨by rfl, ?_⟩) ?_ ?_
 rotate_left
 ·intro w'
  go_simp
  with_reducible rfl
 rotate_left
 ·simp only [PN]
  rfl
 refine last_ (i := 14) (N := none) #[Y,Y,Y,Y,Y,Y,Y,Y,Y,Y,Y,Y,Y,Y,Y] rfl rfl (one_of HT_.out (by kernel_rfl)) (by decide) (fun K hK => ?_)
 refine skip_ (w1 := ?_) (by rfl) rfl ?_ ?_
 rotate_left
 ·go_simp
  rfl
 refine hK.out _ _ ?_
 clear hK K
 refine done_ (done_of HT_.out (by kernel_rfl)) ?_
 clear hHeld
 have hrl := (show (rows ++ [[Value.slice A5 n5 c5, .int .i64 st, .bool l, .bool false]]).length = rows.length + 1 by simp)
 have HRL := Aside0.mk hrl
 have HGS1 := Aside0.mk (show (w9.setCell ⟨gs, 0, none⟩ (.slice A9 (rows.length + 1) c9)).heap[gs]? = some (.cells #[(.slice A9 (rows.length + 1) c9), .map (some gm)] 363 (0, 0)) from blk_put HGS9.out 0 _ rfl)
 have hgs1 := grown_set w9 gs 0 (.slice A9 (rows.length + 1) c9)
 have hr1 := Kd.R_set HR9.out HGS9.out (by decide) 0 (.slice A9 (rows.length + 1) c9)
 rw [hrl] at hr1
 have HR1 := Aside0.mk hr1
 have HM1 := Aside0.mk (HM9.out.grown hgs1 (fun e => by injection e with e; exact HMNE.out e))
 have HB1 := Aside0.mk (HB9.out.setCell (p := ⟨gs, 0, none⟩) HBG.out (.slice A9 (rows.length + 1) c9))
 have HK1 := Aside0.mk (HK9.out.trans (Kp.grown hgs1 (blk_row HGS9.out _ (by decide) _)))
 clear hgs1 HGS9 HR9 HM9 HB9 HK9 f0 k0 hr1 hrl
 generalize hR1 : rows ++ [[Value.slice A5 n5 c5, .int .i64 st, .bool l, .bool false]] = rows1 at HR1 HRL
 generalize w9.setCell ⟨gs, 0, none⟩ (.slice A9 (rows.length + 1) c9) = w7 at HGS1 HR1 HM1 HB1 HK1 ⊢
 clear hR1
 go_wp2
 go_loopw [35] (fun iv wr => ∃ (i : Nat) (pl' : Lit → Option Value) (s' : Nat), iv = .int .i64 (i : Int) ∧ i ≤ ts.length ∧ Aside0 (MV 9 wr gm s' pl' ∧ s' ≤ rows.length + i ∧ (i = 0 → pl' = pl) ∧ (∀ k, (pl' k).isSome = true → (pl k).isSome = true ∨ k = ky x)) ∧ Aside0 (wr.heap[gs]? = some (.cells #[.slice A9 (rows.length + 1) c9, .map (some gm)] 363 (0, 0))) ∧ Aside0 ((Kd.raw 4).R 391 wr base (fun _ => True) (.slice A9 (rows.length + 1) c9) rows1) ∧ Aside0 (Kp [363, 391] (fun _ => False) w wr) ∧ Aside0 (Below base w wr)) (fun iv _ => ((ts.length : Int) - intOf iv).toNat)
 case atStart => exact ⟨0, pl, s, rfl, by omega, ⟨HM1.out, HSZ.out.1, fun _ => rfl, fun k hk => .inl hk⟩, HGS1, HR1, HK1, HB1⟩
 case round =>
  clear HGS1 HR1 HM1 HB1 HK1
  obtain ⟨i, pl', s', rfl, hi, HMM, HGS, HR, HK, HB⟩ := hrel
  have hll := HT.out.1
  by_cases hlt : i < ts.length
  ·have q0 : decide ((i : Int) < (ts.length : Int)) = true := decide_eq_true (by omega)
   have hi0 : i = 0 := by omega
   subst hi0
   have u0 : (0 : Int) ≤ ((0 : Nat) : Int) := by omega
   have u1 : (0 : Int) < (ts.length : Int) := by omega
   have hpe := HMM.out.2.2.1 rfl
   subst hpe
   obtain ⟨ad, A1, c1, rfl, k0, k1, k2, hlc, hcs⟩ := at_Tm (Kd.R_reads' (R_kp HXC.out HK.out (by decide) (fun _ _ h => h))).2.2 0 hlt
   have hxx := (HT.out.2 _ (getD_mem ts zTm 0 hlt)).1
   generalize ts.getD 0 zTm = t at k0 k1 k2 hlc hcs hxx
   rw [hxx] at k0
   have ead : ad.add (0 * 3) = ad := by cases ad; rfl
   rw [ead] at k0 k1 k2
   replace k0 : wr.cell? ad = some (.string x) := k0
   replace k1 : wr.cell? ⟨ad.block, ad.off + 1, none⟩ = some (.slice A1 t.2.1.length c1) := k1
   replace k2 : wr.cell? ⟨ad.block, ad.off + 2, none⟩ = some (.bool t.2.2) := k2
   have HBA := Aside0.mk (below_alloc (Below.refl wr.heap.size wr) (.cells #[.string x, .slice A1 t.2.1.length c1, .bool t.2.2] 401))
   have HGX := Aside0.mk (blk_new wr (.cells #[.string x, .slice A1 t.2.1.length c1, .bool t.2.2] 401))
   have HM8a := Aside0.mk (HMM.out.1.below HBA.out)
   have HMS := Aside0.mk (show s' ≤ rows.length from HMM.out.2.1)
   have HGS8a := Aside0.mk (blk_below HGS.out HBA.out)
   have HR8a := Aside0.mk (Kd.R_below HR.out HBA.out)
   have HWr := Aside0.mk (show base ≤ wr.heap.size from Nat.le_trans HW0.out HK.out.1)
   have HB8a := Aside0.mk (below_then HB.out HWr.out HBA.out)
   have HK8a := Aside0.mk (HK.out.trans (Kp.below HBA.out))
   have HA9 := Aside0.mk (show wrap64 (((0 : Nat) : Int) + 1) = ((0 : Nat) : Int) + 1 from wrap_id (by omega) (by omega))
   have HLT := Aside0.mk hlt
   clear hxx hlc hcs ead HMM HGS HR HB HK
   go_wp2_with fail
   generalize wr.alloc (.cells #[.string x, .slice A1 t.2.1.length c1, .bool t.2.2] 401) = w8 at HBA HGX HM8a HGS8a HR8a HB8a HK8a ⊢
   generalize wr.heap.size = gx at HBA HGX ⊢
   have HM8 := Aside0.mk (show MV 9 w8.drew gm s' pl' from HM8a.out.below (below_drew (Below.refl _ _)))
   have HGS8 := Aside0.mk (show w8.drew.heap[gs]? = _ from HGS8a.out)
   have HGX8 := Aside0.mk (show w8.drew.heap[gx]? = _ from HGX.out)
   have HR8 := Aside0.mk (show (Kd.raw 4).R 391 w8.drew base (fun _ => True) (.slice A9 (rows.length + 1) c9) rows1 from Kd.R_drewN HR8a.out 1)
   have HB8 := Aside0.mk (below_drew HB8a.out)
   have HK8 := Aside0.mk (HK8a.out.trans (Kp.below (below_drew (Below.refl w8.heap.size w8))))
   have HW8 := Aside0.mk (show base ≤ w8.drew.heap.size from Nat.le_trans HW0.out HK8a.out.1)
   have HL8 := Aside0.mk (show (Instr.lookup 360 (.map (some gm)) (.string x) false).run Tryz.prog w8.drew = .ok (.slice none 0 0) w8.drew from by
    have h1 := HM8.out.look1 lawS Tryz.underlying360 zeroLI (keyS HX.out) (ky_key x)
    rw [HNW.out] at h1
    exact h1)
   clear HM8a HGS8a HGX HR8a HB8a HK8a
   refine start_ (n := 17) (S := fun w' => w'.cell? ⟨gs, 1, none⟩ = some (.map (some gm)) ∧ w'.cell? ⟨gx, 0, none⟩ = some (.string x) ∧ (Instr.lookup 360 (.map (some gm)) (.string x) false).run Tryz.prog w' = .ok (.slice none 0 0) w') (ds := [16]) #[O,O,O,O,O,O,O,O,O,O,O,O,O,O,O,O,O] (by kernel_rfl) rfl rfl ⟨((blk_cell HGS8.out 1).trans rfl), ((blk_cell HGX8.out 0).trans rfl), HL8.out⟩ (fun hHeld => ?_)
   refine with_tabW SAD8.tab8 SAD8.bits8 (fun HT_ HW_ => ?_)
   refine pure_ (i := 0) (N := some 39) (v := ?_) (a' := ?_) #[Y,O,O,O,O,O,O,O,O,O,O,O,O,O,O,O,O] rfl rfl (any_of HT_.out (by kernel_rfl)) (fun _ _ _ h => h) (Or.inl ⟨by rfl, ?_⟩) ?_ ?_
   rotate_left
   ·intro w'
    go_simp
    with_reducible rfl
   rotate_left
   ·simp only [PN]
    rfl
   refine pure_ (i := 1) (N := some 40) (v := ?_) (a' := ?_) #[Y,Y,O,O,O,O,O,O,O,O,O,O,O,O,O,O,O] rfl rfl (any_of HT_.out (by kernel_rfl)) (fun _ _ _ h => h) (Or.inl ⟨by rfl, ?_⟩) ?_ ?_
   rotate_left
   ·intro w'
    go_simp
    with_reducible rfl
   rotate_left
   ·simp only [PN]
    rfl
   refine pure_ (i := 2) (N := some 41) (v := ?_) (a' := ?_) #[Y,Y,Y,O,O,O,O,O,O,O,O,O,O,O,O,O,O] rfl rfl (any_of HT_.out (by kernel_rfl)) (fun _ _ _ h => h) (Or.inl ⟨by rfl, ?_⟩) ?_ ?_
   rotate_left
   ·intro w'
    go_simp
    with_reducible rfl
   rotate_left
   ·simp only [PN]
    rfl
   refine pure_ (i := 4) (N := some 43) (v := ?_) (a' := ?_) #[Y,Y,Y,O,Y,O,O,O,O,O,O,O,O,O,O,O,O] rfl rfl (any_of HT_.out (by kernel_rfl)) (fun _ _ _ h => h) (Or.inl ⟨by rfl, ?_⟩) ?_ ?_
   rotate_left
   ·intro w'
    go_simp
    with_reducible rfl
   rotate_left
   ·simp only [PN]
    rfl
   refine pure_ (i := 6) (N := some 45) (v := ?_) (a' := ?_) #[Y,Y,Y,O,Y,O,Y,O,O,O,O,O,O,O,O,O,O] rfl rfl (any_of HT_.out (by kernel_rfl)) (fun _ _ _ h => h) (Or.inl ⟨by rfl, ?_⟩) ?_ ?_
   rotate_left
   ·intro w'
    go_simp
    with_reducible rfl
   rotate_left
   ·simp only [PN]
    rfl
   refine pure_ (i := 7) (N := some 46) (v := ?_) (a' := ?_) #[Y,Y,Y,O,Y,O,Y,Y,O,O,O,O,O,O,O,O,O] rfl rfl (any_of HT_.out (by kernel_rfl)) (fun _ _ _ h => h) (Or.inl ⟨by rfl, ?_⟩) ?_ ?_
   rotate_left
   ·intro w'
    go_simp
    with_reducible rfl
   rotate_left
   ·simp only [PN]
    rfl
   refine pure_ (i := 8) (N := some 47) (v := ?_) (a' := ?_) #[Y,Y,Y,O,Y,O,Y,Y,Y,O,O,O,O,O,O,O,O] rfl rfl (any_of HT_.out (by kernel_rfl)) (fun _ _ _ h => h) (Or.inl ⟨by rfl, ?_⟩) ?_ ?_
   rotate_left
   ·intro w'
    go_simp
    with_reducible rfl
   rotate_left
   ·simp only [PN]
    rfl
   refine pure_ (i := 10) (N := some 49) (v := ?_) (a' := ?_) #[Y,Y,Y,O,Y,O,Y,Y,Y,O,Y,O,O,O,O,O,O] rfl rfl (any_of HT_.out (by kernel_rfl)) (fun _ _ _ h => h) (Or.inl ⟨by rfl, ?_⟩) ?_ ?_
   rotate_left
   ·intro w'
    go_simp
    with_reducible rfl
   rotate_left
   ·simp only [PN]
    rfl
   refine pure_ (i := 13) (N := some 52) (v := ?_) (a' := ?_) #[Y,Y,Y,O,Y,O,Y,Y,Y,O,Y,O,O,Y,O,O,O] rfl rfl (any_of HT_.out (by kernel_rfl)) (fun _ _ _ h => h) (Or.inl ⟨by rfl, ?_⟩) ?_ ?_
   rotate_left
   ·intro w'
    go_simp
    with_reducible rfl
   rotate_left
   ·simp only [PN]
    rfl
   refine take_ (i := 3) (N := some 42) (v := ?_) (a' := ?_) #[Y,Y,Y,Y,Y,O,Y,Y,Y,O,Y,O,O,Y,O,O,O] rfl rfl (take_ofW HT_.out HW_.out (by kernel_rfl)) (fun _ _ _ h => h) (Or.inl ⟨by rfl, ?_⟩) hHeld ?_ ?_
   rotate_left
   ·rintro w' ⟨s0, s1, s2⟩
    go_simp
    with_reducible rfl
   rotate_left
   ·simp only [PN]
    rfl
   refine take_ (i := 5) (N := some 44) (v := ?_) (a' := ?_) #[Y,Y,Y,Y,Y,Y,Y,Y,Y,O,Y,O,O,Y,O,O,O] rfl rfl (take_ofW HT_.out HW_.out (by kernel_rfl)) (fun _ _ _ h => h) (Or.inl ⟨by rfl, ?_⟩) hHeld ?_ ?_
   rotate_left
   ·rintro w' ⟨s0, s1, s2⟩
    go_simp
    with_reducible rfl
   rotate_left
   ·simp only [PN]
    rfl
   refine take_ (i := 9) (N := some 48) (v := ?_) (a' := ?_) #[Y,Y,Y,Y,Y,Y,Y,Y,Y,Y,Y,O,O,Y,O,O,O] rfl rfl (take_ofW HT_.out HW_.out (by kernel_rfl)) (fun _ _ _ h => h) (Or.inl ⟨by rfl, ?_⟩) hHeld ?_ ?_
   rotate_left
   ·rintro w' ⟨s0, s1, s2⟩
    go_simp
    with_reducible rfl
   rotate_left
   ·simp only [PN]
    rfl
   refine take_ (i := 11) (N := some 50) (v := ?_) (a' := ?_) #[Y,Y,Y,Y,Y,Y,Y,Y,Y,Y,Y,Y,O,Y,O,O,O] rfl rfl (take_ofW HT_.out HW_.out (by kernel_rfl)) (fun _ _ _ h => h) (Or.inl ⟨by rfl, ?_⟩) hHeld ?_ ?_
   rotate_left
   ·rintro w' ⟨s0, s1, s2⟩
    go_simp
    with_reducible rfl
   rotate_left
   ·simp only [PN]
    rfl
   refine take_ (i := 12) (N := some 51) (v := ?_) (a' := ?_) #[Y,Y,Y,Y,Y,Y,Y,Y,Y,Y,Y,Y,Y,Y,O,O,O] rfl rfl (take_ofW HT_.out HW_.out (by kernel_rfl)) (fun _ _ _ h => h) (Or.inl ⟨by rfl, ?_⟩) hHeld ?_ ?_
   rotate_left
   ·rintro w' ⟨s0, s1, s2⟩
    go_simp
    with_reducible rfl
   rotate_left
   ·simp only [PN]
    rfl
   refine one_ (i := 14) (N := some 53) #[Y,Y,Y,Y,Y,Y,Y,Y,Y,Y,Y,Y,Y,Y,Y,O,O] rfl rfl (one_of HT_.out (by kernel_rfl)) (by decide) (fun K hK => ?_)
   have hba_ := below_alloc (Below.refl w8.drew.heap.size w8.drew) (.cells #[.int .i64 (rows.length : Int)] 3)
   have HL9 := Aside0.mk (by have h1 := (HM8.out.below hba_).look1 lawS Tryz.underlying360 zeroLI (keyS HX.out) (ky_key x); rw [HNW.out] at h1; exact h1)
   have HGS9 := Aside0.mk (blk_below HGS8.out hba_)
   have HGX9 := Aside0.mk (blk_below HGX8.out hba_)
   clear hba_
   refine value_ (w1 := ?_) (v := ?_) (by rfl) rfl ?_ ?_
   rotate_left 2
   ·go_simp
    constructor
    ·rfl
    ·rfl
   refine hK.out _ _ ⟨((blk_cell HGS9.out 1).trans rfl), ((blk_cell HGX9.out 0).trans rfl), HL9.out⟩ (fun hHeld => ?_)
   clear hK K
   refine norm_ (a' := ?_) ?_ ?_
   rotate_left
   ·show Act.put _ (some 53) _ = _
    simp only [PN]
    rfl
   refine one_ (i := 15) (N := some 54) #[Y,Y,Y,Y,Y,Y,Y,Y,Y,Y,Y,Y,Y,Y,Y,Y,O] rfl rfl (one_of HT_.out (by kernel_rfl)) (by decide) (fun K hK => ?_)
   refine Kd.R_append_step (Kd.int .i64) (w0 := w8.drew) (base) (by rfl) (.tmp 51) (.tmp 53) 42 3 (.int .i64 0) 8 rfl Tryz.underlying42 infoInt rfl (by decide) (by omega) (.slice none 0 0) (([] : List Int)) ((rows.length : Int)) [.int .i64 (rows.length : Int)] (fun _ => True) (fun _ => False) rfl rfl rfl (fun _ hk => hk.elim) (fun _ _ => trivial) (Kd.R_nil (Kd.int .i64) 3 _ base (fun _ => True)) (Below.refl base w8.drew) HW8.out (by simp) ?_
   intro v9 w9 hr9 hb9 hg9 hat9
   obtain ⟨w10, r10, m10, g10⟩ := (HM8.out.grown hg9 (by simp [Value.ownBlock])).put lawS Tryz.underlying360 (by have := HMS.out; have := HSZ.out; omega) (keyS HX.out) (ky_key x) v9
   have hm9x := HM8.out.grown hg9 (by simp [Value.ownBlock])
   have HL10 := Aside0.mk (by have h1 := hm9x.look1 lawS Tryz.underlying360 zeroLI (keyS HX.out) (ky_key x); rw [HNW.out] at h1; exact h1)
   have HGS9b := Aside0.mk (blk_grown HGS8.out hg9 (by simp [Value.ownBlock]))
   have HGX9b := Aside0.mk (blk_grown HGX8.out hg9 (by simp [Value.ownBlock]))
   have HM10 := Aside0.mk m10
   have hg9n := hg9
   have hgsx := blk_grown HGS8.out hg9 (by simp [Value.ownBlock])
   have HNE := Aside0.mk (HMNE.out)
   have HGS10 := Aside0.mk (blk_grown hgsx g10 (fun e => by injection e with e; exact HNE.out e.symm))
   have HR10 := Aside0.mk (Kd.R_grown (Kd.R_mono (Kd.R_bound (Kd.R_grown HR8.out hg9 (fun k _ => by simp [Value.ownBlock]))) (fun k hk => hk)) g10 (fun k hk e => by injection e with e; subst e; obtain ⟨es, cl, hm_⟩ := (HM8.out.grown hg9 (by simp [Value.ownBlock])).blk; obtain ⟨_, _, _, q, hq, cells, hc_⟩ := hk; rw [hm_] at hc_; cases hc_))
   have HB10 := Aside0.mk (below_go (below_go HB8.out hb9) (below_of_grown g10 HGMB.out (Nat.le_trans HW8.out hb9.size)))
   have HK10 := Aside0.mk ((HK8.out.trans (Kp.grown hg9 (fun k hk => by simp [Value.ownBlock] at hk))).trans (Kp.grown g10 (map_row (HM8.out.grown hg9 (by simp [Value.ownBlock])) _ _)))
   clear hr9 hb9 hg9 hat9 m10 g10 hg9n hgsx hm9x HNE
   refine hK.out _ _ ⟨((blk_cell HGS9b.out 1).trans rfl), ((blk_cell HGX9b.out 0).trans rfl), HL10.out⟩ (fun hHeld => ?_)
   clear hK K
   refine norm_ (a' := ?_) ?_ ?_
   rotate_left
   ·show Act.put _ (some 54) _ = _
    simp only [PN]
    rfl
   refine last_ (i := 16) (N := none) #[Y,Y,Y,Y,Y,Y,Y,Y,Y,Y,Y,Y,Y,Y,Y,Y,Y] rfl rfl (one_of HT_.out (by kernel_rfl)) (by decide) (fun K hK => ?_)
   refine skip_ (w1 := ?_) (by rfl) rfl ?_ ?_
   rotate_left
   ·go_simp
    rfl
   refine hK.out _ _ ?_
   clear hK K
   refine done_ (done_of HT_.out (by kernel_rfl)) ?_
   clear hHeld
   have HPL := Aside0.mk (show ∀ k, (updM pl' (ky x) v9 k).isSome = true → (pl' k).isSome = true ∨ k = ky x from fun k hk => by
    unfold updM at hk
    by_cases e : k = ky x
    ·exact .inr e
    ·rw [if_neg e] at hk
     exact .inl hk)
   have HSS := Aside0.mk (show (if (pl' (ky x)).isSome then s' else s' + 1) ≤ rows.length + 1 from by
    have := HMS.out
    split <;> omega)
   have a9 := HA9.out
   go_wp2
   go_roundw
   case rel => exact ⟨1, _, _, rfl, HLT.out, ⟨HM10.out, HSS.out, fun h => absurd h (by decide), HPL.out⟩, HGS10, ⟨Kd.R_mono HR10.out (fun _ _ => trivial)⟩, HK10, HB10⟩
   case measure => have := HLT.out; simp [intOf]; omega
  ·have q0 : decide ((i : Int) < (ts.length : Int)) = false := decide_eq_false (by omega)
   have HI := Aside0.mk (show i ≤ 1 by omega)
   go_wp2
   go_ret
   exact ⟨⟨_, rfl⟩, ⟨pl', ⟨HBG.out, _, gm, rows1, s', HGS.out, HGMB.out, HR.out, HRL.out, HMM.out.1, by have := HMM.out.2.1; have := HI.out; omega⟩, HMM.out.2.2.2⟩, HK.out, HB.out⟩
theorem SB.grown {w w' : World} {base gs n : Nat} {pl : Lit → Option Value} {row : Option Nat} {Ts : List Nat} (h : SB w base gs n pl) (hg : w.grownBy w' row) (hr : ∀ k, row = some k → False ∨ ∀ cells t, w.heap[k]? = some (.cells cells t (0, 0)) → t ∈ Ts) (ht : 363 ∉ Ts ∧ 391 ∉ Ts) (hm : ∀ k, row = some k → ∃ cells t, w.heap[k]? = some (.cells cells t (0, 0))) : SB w' base gs n pl := by
 obtain ⟨h0, vl, gm, rows, s, h1, h2, h3, h4, h5, h6⟩ := h
 refine ⟨h0, vl, gm, rows, s, ?_, h2, ?_, h4, ?_, h6⟩
 ·refine blk_grown h1 hg (fun e => ?_)
  rcases hr gs e.symm with h | h
  ·exact h
  ·exact ht.1 (h _ _ h1)
 ·refine R_kp h3 (Kp.grown (Ts := Ts) (X := fun _ => False) hg hr) (fun q hq => ?_) (fun _ _ h => h)
  rcases List.mem_cons.1 hq with rfl | hq
  ·exact ht.2
  ·cases hq
 ·refine h5.grown hg (fun e => ?_)
  obtain ⟨cells, t, hc⟩ := hm gm e.symm
  obtain ⟨es, cl, hb⟩ := h5.blk
  rw [hb] at hc
  cases hc
def CPT1.T1 : Bool × List (List Nat × List Nat) := (true, [([], []), ([], []), ([1], [1]), ([2], [2]), ([3], [3]), ([], []), ([5], [5]), ([4, 6], [4, 6]), ([0, 0, 1, 2, 3, 4, 5, 6, 7], [0]), ([8, 0, 1, 2, 3, 4, 5, 6, 7], [8]), ([9, 7, 7, 0, 1, 2, 3, 4, 5, 6, 7], [7, 9])])
def CPT1.B1 : List Nat := [0, 0, 2, 6, 14, 0, 32, 126, 255, 511, 1023]
theorem CPT1.tab1 : rtab .any (opsOf Tryz.f196 1) = CPT1.T1 := by kernel_rfl
theorem CPT1.bits1 : waitsOk CPT1.T1.2 CPT1.B1 = true := by kernel_rfl
def CPT2.T2 : Bool × List (List Nat × List Nat) := (true, [([], []), ([0], [0]), ([1], [1]), ([2], [2]), ([], []), ([], []), ([5], [5]), ([6], [6]), ([7], [7]), ([8], [8]), ([9], [9]), ([], []), ([11], [11]), ([12], [12]), ([3, 4, 10, 13], [3, 4, 10, 13])])
def CPT2.B2 : List Nat := [0, 1, 3, 7, 0, 0, 32, 96, 224, 480, 992, 0, 2048, 6144, 16383]
theorem CPT2.tab2 : rtab .any (opsOf Tryz.f196 2) = CPT2.T2 := by kernel_rfl
theorem CPT2.bits2 : waitsOk CPT2.T2.2 CPT2.B2 = true := by kernel_rfl
set_option maxRecDepth 100000 in
set_option maxHeartbeats 8000000 in
theorem core.put.calls {w : World} {base gc gs n : Nat} {pl : Lit → Option Value} {a0 a1 a2 a4 a5 a6 vlog a8 a9 a10 a11 a12 : Value} {S : List St} (hc : w.heap[gc]? = some (.cells #[a0, a1, a2, .pointer (some ⟨gs, 0, none⟩), a4, a5, a6, vlog, a8, a9, a10, a11, a12] 306 (0, 0))) (hbc : base ≤ gc) (hlog : kSt.R 219 w base (fun _ => True) vlog S) (hSl : S.length ≤ 100) (h : SB w base gs n pl) (hw : base ≤ w.heap.size) {A : Option Addr} {c : Nat} {ts : List Tm} {x : ByteArray} {bt : Nat} {okt : Nat → Prop} (hx : kTm.R 401 w bt okt (.slice A ts.length c) ts) (ht : Tm1 x ts) (hxs : x.size ≤ 1000) (hnew : pl (ky x) = none) (hn : n ≤ 1000) (s1 : Int) (s2 : ByteArray) (s3 : Int) (s4 : ByteArray) (s5 s6 : Int) : Calls Tryz.prog 196 #[.pointer (some ⟨gc, 0, none⟩), .slice A ts.length c, .agg #[.int .i64 s1, .string s2, .int .i64 s3, .string s4, .int .i64 s5, .int .i64 s6]] w fun e w' => e = .returned (.tuple #[]) ∧ (∃ vlog' S', w'.heap[gc]? = some (.cells #[a0, a1, a2, .pointer (some ⟨gs, 0, none⟩), a4, a5, a6, vlog', a8, a9, a10, a11, a12] 306 (0, 0)) ∧ kSt.R 219 w' base (fun _ => True) vlog' S' ∧ S'.length = S.length + 1 ∧ (vlog'.ownBlock = vlog.ownBlock ∨ ∃ b, vlog'.ownBlock = some b ∧ w.heap.size ≤ b)) ∧ (∃ pl', SB w' base gs (n + 1) pl' ∧ ∀ k, (pl' k).isSome = true → (pl k).isSome = true ∨ k = ky x) ∧ Kp [363, 391, 306] (fun k => vlog.ownBlock = some k) w w' ∧ Below base w w' := by
 obtain ⟨Av, cv, rfl⟩ := Kd.R_slice hlog
 have HT := Aside0.mk ht
 have HXS := Aside0.mk hxs
 have HNW := Aside0.mk hnew
 have HN := Aside0.mk hn
 have HSL := Aside0.mk hSl
 have HBC := Aside0.mk hbc
 have HW0 := Aside0.mk hw
 have hba := below_alloc (Below.refl w.heap.size w) (.cells #[.int .i64 s1, .string s2, .int .i64 s3, .string s4, .int .i64 s5, .int .i64 s6] 219)
 have HC4 := Aside0.mk (blk_below hc hba)
 have HGB4 := Aside0.mk (blk_new w (.cells #[.int .i64 s1, .string s2, .int .i64 s3, .string s4, .int .i64 s5, .int .i64 s6] 219))
 have HLG4 := Aside0.mk (Kd.R_below hlog hba)
 have HGBN := Aside0.mk (show ∀ k, (Value.slice Av S.length cv).ownBlock = some k → k ≠ w.heap.size from fun k hk => Nat.ne_of_lt (Kd.R_lt hlog k hk))
 have HSB4 := Aside0.mk (SB.grown (Ts := []) h (grown_of_below hba none) (fun k hk => by cases hk) (by decide) (fun k hk => by cases hk))
 have HXR4 := Aside0.mk (Kd.R_below hx hba)
 have HB4 := Aside0.mk (below_then (Below.refl base w) hw hba)
 have HK4 := Aside0.mk (Kp.below (Ts := []) (X := fun k => (Value.slice Av S.length cv).ownBlock = some k) hba)
 clear hc hbc hlog hSl h hw hx ht hxs hnew hn hba
 go_enter Tryz.func196, Tryz.ntmps196
 go_wp2
 generalize w.alloc (.cells #[.int .i64 s1, .string s2, .int .i64 s3, .string s4, .int .i64 s5, .int .i64 s6] 219) = w4 at HC4 HGB4 HLG4 HSB4 HXR4 HB4 HK4 ⊢
 have HLT := Aside0.mk (rfl : w.heap.size = w.heap.size)
 generalize hgb : w.heap.size = gb at HGB4 HGBN HLT ⊢
 have HGBE := Aside0.mk hgb
 clear hgb HLT
 have HC := Aside0.mk (show w4.drew.heap[gc]? = _ from HC4.out)
 have HGB := Aside0.mk (show w4.drew.heap[gb]? = _ from HGB4.out)
 have HLG := Aside0.mk (show kSt.R 219 w4.drew base (fun _ => True) (.slice Av S.length cv) S from Kd.R_drewN HLG4.out 1)
 have HSB := Aside0.mk (SB.grown (Ts := []) HSB4.out (grown_of_below (below_drew (Below.refl w4.heap.size w4)) none) (fun k hk => by cases hk) (by decide) (fun k hk => by cases hk))
 have HXR := Aside0.mk (show kTm.R 401 w4.drew bt okt (.slice A ts.length c) ts from Kd.R_drewN HXR4.out 1)
 have HB := Aside0.mk (below_drew HB4.out)
 have HK := Aside0.mk (HK4.out.trans (Kp.below (below_drew (Below.refl w4.heap.size w4))))
 have HW := Aside0.mk (show base ≤ w4.drew.heap.size from Nat.le_trans HW0.out HK.out.1)
 clear HC4 HGB4 HLG4 HSB4 HXR4 HB4 HK4
 refine start_ (n := 11) (S := fun w' => w'.cell? ⟨gc, 7, none⟩ = some (.slice Av S.length cv) ∧ w'.cell? ⟨gb, 0, none⟩ = some (.int .i64 s1) ∧ w'.cell? ⟨gb, 1, none⟩ = some (.string s2) ∧ w'.cell? ⟨gb, 2, none⟩ = some (.int .i64 s3) ∧ w'.cell? ⟨gb, 3, none⟩ = some (.string s4) ∧ w'.cell? ⟨gb, 4, none⟩ = some (.int .i64 s5) ∧ w'.cell? ⟨gb, 5, none⟩ = some (.int .i64 s6)) (ds := [7, 10]) #[O,O,O,O,O,O,O,O,O,O,O] (by kernel_rfl) rfl rfl ⟨((blk_cell HC.out 7).trans rfl), ((blk_cell HGB.out 0).trans rfl), ((blk_cell HGB.out 1).trans rfl), ((blk_cell HGB.out 2).trans rfl), ((blk_cell HGB.out 3).trans rfl), ((blk_cell HGB.out 4).trans rfl), ((blk_cell HGB.out 5).trans rfl)⟩ (fun hHeld => ?_)
 refine with_tabW CPT1.tab1 CPT1.bits1 (fun HT_ HW_ => ?_)
 refine pure_ (i := 0) (N := some 6) (v := ?_) (a' := ?_) #[Y,O,O,O,O,O,O,O,O,O,O] rfl rfl (any_of HT_.out (by kernel_rfl)) (fun _ _ _ h => h) (Or.inl ⟨by rfl, ?_⟩) ?_ ?_
 rotate_left
 ·intro w'
  go_simp
  with_reducible rfl
 rotate_left
 ·simp only [PN]
  rfl
 refine pure_ (i := 1) (N := some 7) (v := ?_) (a' := ?_) #[Y,Y,O,O,O,O,O,O,O,O,O] rfl rfl (any_of HT_.out (by kernel_rfl)) (fun _ _ _ h => h) (Or.inl ⟨by rfl, ?_⟩) ?_ ?_
 rotate_left
 ·intro w'
  go_simp
  with_reducible rfl
 rotate_left
 ·simp only [PN]
  rfl
 refine pure_ (i := 2) (N := some 8) (v := ?_) (a' := ?_) #[Y,Y,Y,O,O,O,O,O,O,O,O] rfl rfl (any_of HT_.out (by kernel_rfl)) (fun _ _ _ h => h) (Or.inl ⟨by rfl, ?_⟩) ?_ ?_
 rotate_left
 ·intro w'
  go_simp
  with_reducible rfl
 rotate_left
 ·simp only [PN]
  rfl
 refine pure_ (i := 3) (N := some 9) (v := ?_) (a' := ?_) #[Y,Y,Y,Y,O,O,O,O,O,O,O] rfl rfl (any_of HT_.out (by kernel_rfl)) (fun _ _ _ h => h) (Or.inl ⟨by rfl, ?_⟩) ?_ ?_
 rotate_left
 ·intro w'
  go_simp
  with_reducible rfl
 rotate_left
 ·simp only [PN]
  rfl
 refine take_ (i := 4) (N := some 10) (v := ?_) (a' := ?_) #[Y,Y,Y,Y,Y,O,O,O,O,O,O] rfl rfl (take_ofW HT_.out HW_.out (by kernel_rfl)) (fun _ _ _ h => h) (Or.inl ⟨by rfl, ?_⟩) hHeld ?_ ?_
 rotate_left
 ·rintro w' ⟨s0, s1, s2, s3, s4, s5, s6⟩
  go_simp
  with_reducible rfl
 rotate_left
 ·simp only [PN]
  rfl
 refine take_ (i := 5) (N := some 11) (v := ?_) (a' := ?_) #[Y,Y,Y,Y,Y,Y,O,O,O,O,O] rfl rfl (take_ofW HT_.out HW_.out (by kernel_rfl)) (fun _ _ _ h => h) (Or.inl ⟨by rfl, ?_⟩) hHeld ?_ ?_
 rotate_left
 ·rintro w' ⟨s0, s1, s2, s3, s4, s5, s6⟩
  go_simp
  with_reducible rfl
 rotate_left
 ·simp only [PN]
  rfl
 refine one_ (i := 6) (N := some 12) #[Y,Y,Y,Y,Y,Y,Y,O,O,O,O] rfl rfl (one_of HT_.out (by kernel_rfl)) (by decide) (fun K hK => ?_)
 have hba_ := below_alloc (Below.refl w4.drew.heap.size w4.drew) (.cells #[.int .i64 s1, .string s2, .int .i64 s3, .string s4, .int .i64 s5, .int .i64 s6] 219)
 have HC6 := Aside0.mk (blk_below HC.out hba_)
 have HGB6 := Aside0.mk (blk_below HGB.out hba_)
 clear hba_
 refine value_ (w1 := ?_) (v := ?_) (by rfl) rfl ?_ ?_
 rotate_left 2
 ·go_simp
  constructor
  ·rfl
  ·rfl
 refine hK.out _ _ ⟨((blk_cell HC6.out 7).trans rfl), ((blk_cell HGB6.out 0).trans rfl), ((blk_cell HGB6.out 1).trans rfl), ((blk_cell HGB6.out 2).trans rfl), ((blk_cell HGB6.out 3).trans rfl), ((blk_cell HGB6.out 4).trans rfl), ((blk_cell HGB6.out 5).trans rfl)⟩ (fun hHeld => ?_)
 clear hK K
 refine norm_ (a' := ?_) ?_ ?_
 rotate_left
 ·show Act.put _ (some 12) _ = _
  simp only [PN]
  rfl
 refine last_ (i := 7) (N := some 13) #[Y,Y,Y,Y,Y,Y,Y,Y,O,O,O] rfl rfl (one_of HT_.out (by kernel_rfl)) (by decide) (fun K hK => ?_)
 refine Kd.R_append_step kSt (w0 := w4.drew) (base) (by rfl) (.tmp 10) (.tmp 12) 47 219 (.agg #[.int .i64 0, .string ⟨#[]⟩, .int .i64 0, .string ⟨#[]⟩, .int .i64 0, .int .i64 0]) 64 rfl Tryz.underlying47 infoSt rfl (by decide) (by omega) (.slice Av S.length cv) (S) (((s1, (s2, s3)), (s4, (s5, s6)))) [.int .i64 s1, .string s2, .int .i64 s3, .string s4, .int .i64 s5, .int .i64 s6] (fun _ => True) (fun _ => False) rfl rfl (kSt_mkM _) (fun _ hk => hk.elim) (fun _ _ => trivial) HLG.out (Below.refl base w4.drew) HW.out (by have := HSL.out; omega) ?_
 intro v9 w9 hr9 hb9 hg9 hat9
 obtain ⟨A9, c9, rfl⟩ := Kd.R_slice hr9
 have HR9 := Aside0.mk hr9
 have HC9 := Aside0.mk (blk_grown HC.out hg9 (Kd.R_ne HLG.out HC.out (by decide)))
 have HGB9 := Aside0.mk (blk_grown HGB.out hg9 (fun e => HGBN.out _ e.symm rfl))
 have f7 := blk_frozen HC9.out 7
 have k7 : w9.cell? ⟨gc, 7, none⟩ = some (.slice Av S.length cv) := (blk_cell HC9.out 7).trans rfl
 have HSB9 := Aside0.mk (SB.grown HSB.out hg9 (own_row HLG.out [219] (by decide) (fun _ => False)) (by decide) (fun k hk => by obtain ⟨cells, hc_⟩ := Kd.R_typed HLG.out k hk; exact ⟨cells, _, hc_⟩))
 have HXR9 := Aside0.mk (Kd.R_apartR HXR.out HLG.out (by decide))
 have HX9 := Aside0.mk (Kd.R_grown HXR9.out hg9 (fun k hk => hk.2))
 have HB9 := Aside0.mk (below_go HB.out hb9)
 have HW9 := Aside0.mk hb9.size
 have HK9 := Aside0.mk (HK.out.trans (Kp.grown (Ts := []) (X := fun k => (Value.slice Av S.length cv).ownBlock = some k) hg9 (fun k hk => .inl hk)))
 have HAT9 := Aside0.mk hat9
 clear hr9 hb9 hg9 hat9 HXR9
 refine hK.out _ _ ?_
 clear hK K
 refine norm_ (a' := ?_) ?_ ?_
 rotate_left
 ·show Act.put _ (some 13) _ = _
  simp only [PN]
  rfl
 refine pure_ (i := 8) (N := some 14) (v := ?_) (a' := ?_) #[Y,Y,Y,Y,Y,Y,Y,Y,Y,O,O] rfl rfl (any_of HT_.out (by kernel_rfl)) (fun _ _ _ h => h) (Or.inl ⟨by rfl, ?_⟩) ?_ ?_
 rotate_left
 ·intro w'
  go_simp
  with_reducible rfl
 rotate_left
 ·simp only [PN]
  rfl
 refine pure_ (i := 9) (N := some 15) (v := ?_) (a' := ?_) #[Y,Y,Y,Y,Y,Y,Y,Y,Y,Y,O] rfl rfl (any_of HT_.out (by kernel_rfl)) (fun _ _ _ h => h) (Or.inl ⟨by rfl, ?_⟩) ?_ ?_
 rotate_left
 ·intro w'
  go_simp
  with_reducible rfl
 rotate_left
 ·simp only [PN]
  rfl
 refine last_ (i := 10) (N := none) #[Y,Y,Y,Y,Y,Y,Y,Y,Y,Y,Y] rfl rfl (one_of HT_.out (by kernel_rfl)) (by decide) (fun K hK => ?_)
 refine skip_ (w1 := ?_) (by rfl) rfl ?_ ?_
 rotate_left
 ·go_simp
  rfl
 refine hK.out _ _ ?_
 clear hK K
 refine done_ (done_of HT_.out (by kernel_rfl)) ?_
 clear hHeld f7 k7
 have hrl := (show (S ++ [((s1, (s2, s3)), (s4, (s5, s6)))]).length = S.length + 1 by simp)
 have HRL := Aside0.mk hrl
 have hg1 := grown_set w9 gc 7 (.slice A9 (S.length + 1) c9)
 have hr1 := Kd.R_set HR9.out HC9.out (by decide) 7 (.slice A9 (S.length + 1) c9)
 rw [hrl] at hr1
 have HR1 := Aside0.mk hr1
 have HC1 := Aside0.mk (show (w9.setCell ⟨gc, 7, none⟩ (.slice A9 (S.length + 1) c9)).heap[gc]? = some (.cells #[a0, a1, a2, .pointer (some ⟨gs, 0, none⟩), a4, a5, a6, .slice A9 (S.length + 1) c9, a8, a9, a10, a11, a12] 306 (0, 0)) from blk_put HC9.out 7 _ rfl)
 have HGB1 := Aside0.mk (blk_grown HGB9.out hg1 (fun e => by injection e with e; have h1 := HGB9.out; rw [e] at h1; rw [HC9.out] at h1; injection h1 with h1; injection h1 with _ h2 _; exact absurd h2 (by decide)))
 have HSB1 := Aside0.mk (SB.grown HSB9.out hg1 (blk_row HC9.out [306] (by decide) (fun _ => False)) (by decide) (fun k hk => by injection hk with hk; subst hk; exact ⟨_, _, HC9.out⟩))
 have HX1 := Aside0.mk (Kd.R_set HX9.out HC9.out (by decide) 7 (.slice A9 (S.length + 1) c9))
 have HB1 := Aside0.mk (HB9.out.setCell (p := ⟨gc, 7, none⟩) HBC.out (.slice A9 (S.length + 1) c9))
 have HW1 := Aside0.mk (show base ≤ (w9.setCell ⟨gc, 7, none⟩ (.slice A9 (S.length + 1) c9)).heap.size from Nat.le_trans HW.out (Nat.le_trans HW9.out hg1.size))
 have HK1 := Aside0.mk (Kp.trans (HK9.out.mono (Ts' := [306]) (fun t ht => by cases ht) (fun k _ hk => hk)) (Kp.grown hg1 (blk_row HC9.out [306] (by decide) _)))
 have HAT1 := Aside0.mk (show (Value.slice A9 (S.length + 1) c9).ownBlock = (Value.slice Av S.length cv).ownBlock ∨ ∃ b, (Value.slice A9 (S.length + 1) c9).ownBlock = some b ∧ gb ≤ b from by
  have h2 := HAT9.out
  rw [hrl] at h2
  rcases h2 with h2 | ⟨b, h2, h3⟩
  ·exact .inl h2
  ·exact .inr ⟨b, h2, Nat.le_trans (by have := HK.out.1; rw [HGBE.out] at this; exact this) h3⟩)
 clear hg1 hr1 hrl HR9 HC9 HGB9 HSB9 HX9 HB9 HW9 HK9 HAT9 HK HW HB HXR HLG HSB HGB HC
 generalize w9.setCell ⟨gc, 7, none⟩ (.slice A9 (S.length + 1) c9) = w7 at HR1 HC1 HGB1 HSB1 HX1 HB1 HW1 HK1 ⊢
 obtain ⟨b4, hb4⟩ : ∃ b4, (s1 == 4) = b4 := ⟨_, rfl⟩
 go_wp2
 have HSB2a := Aside0.mk (SB.grown (Ts := []) HSB1.out (grown_of_below (below_drew (Below.refl w7.heap.size w7)) none) (fun k hk => by cases hk) (by decide) (fun k hk => by cases hk))
 have HX2a := Aside0.mk (show kTm.R 401 w7.drew _ _ (.slice A ts.length c) ts from Kd.R_drewN HX1.out 1)
 have HW2a := Aside0.mk (show base ≤ w7.drew.heap.size from HW1.out)
 have HC2 := Aside0.mk (show w7.drew.heap[gc]? = _ from HC1.out)
 have HGB2 := Aside0.mk (show w7.drew.heap[gb]? = _ from HGB1.out)
 have HR2 := Aside0.mk (show kSt.R 219 w7.drew base (fun _ => True) (.slice A9 (S.length + 1) c9) _ from Kd.R_drewN HR1.out 1)
 have HB2a := Aside0.mk (below_drew HB1.out)
 have HK2a := Aside0.mk (HK1.out.trans (Kp.below (below_drew (Below.refl w7.heap.size w7))))
 clear HSB1 HX1 HW1 HC1 HGB1 HR1 HB1 HK1
 refine start_ (n := 15) (S := fun w' => w'.cell? ⟨gc, 3, none⟩ = some (.pointer (some ⟨gs, 0, none⟩)) ∧ w'.cell? ⟨gc, 7, none⟩ = some (.slice A9 (S.length + 1) c9) ∧ w'.cell? ⟨gb, 0, none⟩ = some (.int .i64 s1)) (ds := [14]) #[O,O,O,O,O,O,O,O,O,O,O,O,O,O,O] (by kernel_rfl) rfl rfl ⟨((blk_cell HC2.out 3).trans rfl), ((blk_cell HC2.out 7).trans rfl), ((blk_cell HGB2.out 0).trans rfl)⟩ (fun hHeld => ?_)
 refine with_tabW CPT2.tab2 CPT2.bits2 (fun HT_ HW_ => ?_)
 refine pure_ (i := 0) (N := some 16) (v := ?_) (a' := ?_) #[Y,O,O,O,O,O,O,O,O,O,O,O,O,O,O] rfl rfl (any_of HT_.out (by kernel_rfl)) (fun _ _ _ h => h) (Or.inl ⟨by rfl, ?_⟩) ?_ ?_
 rotate_left
 ·intro w'
  go_simp
  with_reducible rfl
 rotate_left
 ·simp only [PN]
  rfl
 refine pure_ (i := 1) (N := some 17) (v := ?_) (a' := ?_) #[Y,Y,O,O,O,O,O,O,O,O,O,O,O,O,O] rfl rfl (any_of HT_.out (by kernel_rfl)) (fun _ _ _ h => h) (Or.inl ⟨by rfl, ?_⟩) ?_ ?_
 rotate_left
 ·intro w'
  go_simp
  with_reducible rfl
 rotate_left
 ·simp only [PN]
  rfl
 refine pure_ (i := 2) (N := some 18) (v := ?_) (a' := ?_) #[Y,Y,Y,O,O,O,O,O,O,O,O,O,O,O,O] rfl rfl (any_of HT_.out (by kernel_rfl)) (fun _ _ _ h => h) (Or.inl ⟨by rfl, ?_⟩) ?_ ?_
 rotate_left
 ·intro w'
  go_simp
  with_reducible rfl
 rotate_left
 ·simp only [PN]
  rfl
 refine pure_ (i := 4) (N := some 20) (v := ?_) (a' := ?_) #[Y,Y,Y,O,Y,O,O,O,O,O,O,O,O,O,O] rfl rfl (any_of HT_.out (by kernel_rfl)) (fun _ _ _ h => h) (Or.inl ⟨by rfl, ?_⟩) ?_ ?_
 rotate_left
 ·intro w'
  go_simp
  with_reducible rfl
 rotate_left
 ·simp only [PN]
  rfl
 refine pure_ (i := 5) (N := some 21) (v := ?_) (a' := ?_) #[Y,Y,Y,O,Y,Y,O,O,O,O,O,O,O,O,O] rfl rfl (any_of HT_.out (by kernel_rfl)) (fun _ _ _ h => h) (Or.inl ⟨by rfl, ?_⟩) ?_ ?_
 rotate_left
 ·intro w'
  go_simp
  with_reducible rfl
 rotate_left
 ·simp only [PN]
  rfl
 refine pure_ (i := 6) (N := some 22) (v := ?_) (a' := ?_) #[Y,Y,Y,O,Y,Y,Y,O,O,O,O,O,O,O,O] rfl rfl (any_of HT_.out (by kernel_rfl)) (fun _ _ _ h => h) (Or.inl ⟨by rfl, ?_⟩) ?_ ?_
 rotate_left
 ·intro w'
  go_simp
  with_reducible rfl
 rotate_left
 ·simp only [PN]
  rfl
 refine pure_ (i := 7) (N := some 23) (v := ?_) (a' := ?_) #[Y,Y,Y,O,Y,Y,Y,Y,O,O,O,O,O,O,O] rfl rfl (any_of HT_.out (by kernel_rfl)) (fun _ _ _ h => h) (Or.inl ⟨by rfl, ?_⟩) ?_ ?_
 rotate_left
 ·intro w'
  go_simp
  with_reducible rfl
 rotate_left
 ·simp only [PN]
  rfl
 refine pure_ (i := 11) (N := some 27) (v := ?_) (a' := ?_) #[Y,Y,Y,O,Y,Y,Y,Y,O,O,O,Y,O,O,O] rfl rfl (any_of HT_.out (by kernel_rfl)) (fun _ _ _ h => h) (Or.inl ⟨by rfl, ?_⟩) ?_ ?_
 rotate_left
 ·intro w'
  go_simp
  with_reducible rfl
 rotate_left
 ·simp only [PN]
  rfl
 refine take_ (i := 3) (N := some 19) (v := ?_) (a' := ?_) #[Y,Y,Y,Y,Y,Y,Y,Y,O,O,O,Y,O,O,O] rfl rfl (take_ofW HT_.out HW_.out (by kernel_rfl)) (fun _ _ _ h => h) (Or.inl ⟨by rfl, ?_⟩) hHeld ?_ ?_
 rotate_left
 ·rintro w' ⟨s0, s1, s2⟩
  go_simp
  with_reducible rfl
 rotate_left
 ·simp only [PN]
  rfl
 refine take_ (i := 8) (N := some 24) (v := ?_) (a' := ?_) #[Y,Y,Y,Y,Y,Y,Y,Y,Y,O,O,Y,O,O,O] rfl rfl (take_ofW HT_.out HW_.out (by kernel_rfl)) (fun _ _ _ h => h) (Or.inl ⟨by rfl, ?_⟩) hHeld ?_ ?_
 rotate_left
 ·rintro w' ⟨s0, s1, s2⟩
  go_simp
  with_reducible rfl
 rotate_left
 ·simp only [PN]
  rfl
 refine pure_ (i := 9) (N := some 25) (v := ?_) (a' := ?_) #[Y,Y,Y,Y,Y,Y,Y,Y,Y,Y,O,Y,O,O,O] rfl rfl (any_of HT_.out (by kernel_rfl)) (fun _ _ _ h => h) (Or.inl ⟨by rfl, ?_⟩) ?_ ?_
 rotate_left
 ·intro w'
  go_simp
  with_reducible rfl
 rotate_left
 ·simp only [PN]
  rfl
 refine pure_ (i := 10) (N := some 26) (v := ?_) (a' := ?_) #[Y,Y,Y,Y,Y,Y,Y,Y,Y,Y,Y,Y,O,O,O] rfl rfl (any_of HT_.out (by kernel_rfl)) (fun _ _ _ h => h) (Or.inl ⟨by rfl, ?_⟩) ?_ ?_
 rotate_left
 ·intro w'
  go_simp
  with_reducible rfl
 rotate_left
 ·simp only [PN]
  rfl
 refine take_ (i := 12) (N := some 28) (v := ?_) (a' := ?_) #[Y,Y,Y,Y,Y,Y,Y,Y,Y,Y,Y,Y,Y,O,O] rfl rfl (take_ofW HT_.out HW_.out (by kernel_rfl)) (fun _ _ _ h => h) (Or.inl ⟨by rfl, ?_⟩) hHeld ?_ ?_
 rotate_left
 ·rintro w' ⟨s0, s1, s2⟩
  go_simp
  with_reducible rfl
 rotate_left
 ·simp only [PN]
  rfl
 refine pure_ (i := 13) (N := some 29) (v := ?_) (a' := ?_) #[Y,Y,Y,Y,Y,Y,Y,Y,Y,Y,Y,Y,Y,Y,O] rfl rfl (any_of HT_.out (by kernel_rfl)) (fun _ _ _ h => h) (Or.inl ⟨by rfl, ?_⟩) ?_ ?_
 rotate_left
 ·intro w'
  go_simp
  with_reducible rfl
 rotate_left
 ·simp only [PN]
  rfl
 refine last_ (i := 14) (N := some 30) #[Y,Y,Y,Y,Y,Y,Y,Y,Y,Y,Y,Y,Y,Y,Y] rfl rfl (one_of HT_.out (by kernel_rfl)) (by decide) (fun K hK => ?_)
 refine goes_ Tryz.func249 (by kernel_rfl) rfl #[.pointer (some ⟨gs, 0, none⟩), .slice A ts.length c, .int .i64 (wrap64 (S.length : Int)), .bool b4] (by rfl) rfl rfl (by (try simp only [List.map_toArray, List.map_cons, List.map_nil]); first | done | rfl) ?_
 refine (store.Add.calls HSB2a.out HW2a.out HX2a.out HT.out HXS.out HNW.out HN.out (wrap64 (S.length : Int)) b4).mono ?_
 rintro e w11 ⟨⟨r11, rfl⟩, ⟨pl2, hsb2, hpl2⟩, hk2, hb2⟩
 refine ⟨_, rfl, ?_⟩
 have HSB2 := Aside0.mk (And.intro hsb2 hpl2)
 have HK2 := Aside0.mk hk2
 have HB2 := Aside0.mk hb2
 clear hsb2 hpl2 hk2 hb2
 refine hK.out _ _ ?_
 clear hK K
 refine norm_ (a' := ?_) ?_ ?_
 rotate_left
 ·show Act.put _ (some 30) _ = _
  simp only [PN]
  rfl
 refine done_ (done_of HT_.out (by kernel_rfl)) ?_
 clear hHeld hb4
 go_wp2
 go_end0
 refine ⟨rfl, ⟨.slice A9 (S.length + 1) c9, _, HK2.out.blk HC2.out (by decide) (fun h => h), R_kp HR2.out HK2.out (by decide) (fun _ _ h => h), by rw [HRL.out], by rw [HGBE.out]; exact HAT1.out⟩, ⟨pl2, HSB2.out.1, HSB2.out.2⟩, ?_, below_go HB2a.out HB2.out⟩
 exact Kp.trans (HK2a.out.mono (fun t ht => by simp at ht; simp [ht]) (fun k _ hk => hk)) (HK2.out.mono (fun t ht => by simp at ht; rcases ht with rfl | rfl <;> simp) (fun k _ hk => hk.elim))
theorem fit_nm (j : Nat) (h : j < 8) : PlainRune.fit (nm j) = true := by
 rcases (show j = 0 ∨ j = 1 ∨ j = 2 ∨ j = 3 ∨ j = 4 ∨ j = 5 ∨ j = 6 ∨ j = 7 by omega) with rfl | rfl | rfl | rfl | rfl | rfl | rfl | rfl <;> decide
theorem nm_list (j : Nat) (h : j < 8) : (nm j).toList = [UInt8.ofNat (97 + j)] := by
 rw [Lib.toList_data]
 rcases (show j = 0 ∨ j = 1 ∨ j = 2 ∨ j = 3 ∨ j = 4 ∨ j = 5 ∨ j = 6 ∨ j = 7 by omega) with rfl | rfl | rfl | rfl | rfl | rfl | rfl | rfl <;> decide
theorem ba0_list : (⟨#[]⟩ : ByteArray).toList = [] := by rw [Lib.toList_data]
theorem nm_after (j lo : Nat) (la : ByteArray) (h1 : lo ≤ j) (h : j < 8) (hl : la = ⟨#[]⟩ ∨ ∃ k, k < lo ∧ la = nm k) : Op.bytesLess (nm j).toList la.toList = false ∧ ((nm j).toList == la.toList) = false ∧ ¬ (nm j).toList = la.toList := by
 rcases hl with rfl | ⟨k, hk, rfl⟩
 ·rw [nm_list j h, ba0_list]
  exact ⟨rfl, rfl, by simp⟩
 ·rw [nm_list j h, nm_list k (by omega)]
  have hh : ∀ j, j < 8 → ∀ k, k < j → Op.bytesLess [UInt8.ofNat (97 + j)] [UInt8.ofNat (97 + k)] = false ∧ ([UInt8.ofNat (97 + j)] == [UInt8.ofNat (97 + k)]) = false ∧ ¬ [UInt8.ofNat (97 + j)] = [UInt8.ofNat (97 + k)] := by decide
  exact hh j h k (by omega)
set_option maxRecDepth 100000 in
set_option maxHeartbeats 4000000 in
theorem need.Check.calls {w : World} {A : Option Addr} {c : Nat} {xs : List Nd} (h : kNd.C w A xs.length xs) (hl : xs.length ≤ 6) (hk : NdOk 0 8 xs) : Calls Tryz.prog 20 #[.slice A xs.length c] w fun e w' => e = .returned (.bool true) ∧ Below w.heap.size w w' := by
 have H := Aside0.mk h
 have HL := Aside0.mk hl
 have HK := Aside0.mk hk
 clear h hl hk
 go_enter Tryz.func20, Tryz.ntmps20
 go_wp2
 go_loopw [3, 8] (fun ev iv wr => ∃ (i lo : Nat) (la : ByteArray), iv = .int .i64 (i : Int) ∧ ev = .string la ∧ i ≤ xs.length ∧ Aside0 (NdOk lo 8 (xs.drop i)) ∧ Aside0 (la = ⟨#[]⟩ ∨ ∃ j, j < lo ∧ la = nm j) ∧ Aside0 (Below w.heap.size w wr)) (fun _ iv _ => ((xs.length : Int) - intOf iv).toNat)
 case atStart => exact ⟨0, 0, _, rfl, rfl, by omega, HK, ⟨.inl rfl⟩, ⟨Below.refl _ _⟩⟩
 case round =>
  obtain ⟨i, lo, la, rfl, rfl, hi, HZ, HLA, HB⟩ := hrel
  have hll := HL.out
  by_cases hlt : i < xs.length
  ·have q0 : decide ((i : Int) < (xs.length : Int)) = true := decide_eq_true (by omega)
   have u0 : (0 : Int) ≤ (i : Int) := by omega
   have u1 : (i : Int) < (xs.length : Int) := by omega
   have a9 : wrap64 ((i : Int) + 1) = (i : Int) + 1 := wrap_id (by omega) (by omega)
   obtain ⟨ad, A1, c1, rfl, k0, k1, hlc, hcs⟩ := at_Nd (Kd.C_below H.out HB.out) i hlt
   have hd := HZ.out
   rw [drop_at xs zNd i hlt] at hd
   generalize xs.getD i zNd = x at k0 k1 hd hlc hcs
   obtain ⟨j, h1, h2, h3, h4, h5, h6⟩ := hd
   have HN := Aside0.mk h6
   have HS := Aside0.mk hcs
   have HX := Aside0.mk (And.intro h1 (And.intro h2 (And.intro h3 (And.intro h4 h5))))
   have h6 : decide (6 < (x.2.length : Int)) = false := decide_eq_false (by omega)
   clear h1 h2 h3 h4 h5 hcs hlc HZ
   have hbx := blk_new wr (.cells #[.string x.1, .slice A1 x.2.length c1] 117)
   have HBX := Aside0.mk hbx
   have HB2 := Aside0.mk (below_alloc HB.out (.cells #[.string x.1, .slice A1 x.2.length c1] 117))
   have HS2 := Aside0.mk (Kd.C_below HS.out (below_alloc (Below.refl wr.heap.size wr) (.cells #[.string x.1, .slice A1 x.2.length c1] 117)))
   clear hbx HS HB
   go_wp2_with fail
   generalize wr.alloc (.cells #[.string x.1, .slice A1 x.2.length c1] 117) = w4 at HBX HB2 HS2 ⊢
   generalize wr.heap.size = gx at HBX ⊢
   refine (Label.Fit.any x.1 w4).mono ?_
   rintro e w5 ⟨rfl, hb5⟩
   rw [show PlainRune.fit x.1 = true by rw [HX.out.2.2.1]; exact fit_nm j HX.out.2.1]
   have hbx := blk_below HBX.out hb5
   have HBX5 := Aside0.mk hbx
   have HB5 := Aside0.mk (below_step HB2.out hb5)
   have HS5 := Aside0.mk (Kd.C_below HS2.out hb5)
   have b0 : w5.cell? ⟨gx, 0, none⟩ = some (.string x.1) := (blk_cell hbx 0).trans rfl
   have b1 : w5.cell? ⟨gx, 1, none⟩ = some (.slice A1 x.2.length c1) := (blk_cell hbx 1).trans rfl
   clear hbx hb5 HBX HB2 HS2
   obtain ⟨t0, t1, t2⟩ := (show Op.bytesLess x.1.toList la.toList = false ∧ (x.1.toList == la.toList) = false ∧ ¬ x.1.toList = la.toList by rw [HX.out.2.2.1]; exact nm_after j lo la HX.out.1 HX.out.2.1 HLA.out)
   go_wp2_with fail
   refine (span.Check.calls HS5.out (by have := HX.out.2.2.2.2; omega) HX.out.2.2.2.1).mono ?_
   rintro e w6 ⟨rfl, hb6⟩
   have hbx := blk_below HBX5.out hb6
   have b0 : w6.cell? ⟨gx, 0, none⟩ = some (.string x.1) := (blk_cell hbx 0).trans rfl
   have HB6 := Aside0.mk (below_step HB5.out hb6)
   clear hbx hb6 HBX5 HB5 HS5 t0 t1 t2
   go_wp2
   go_roundw
   case rel => exact ⟨i + 1, j + 1, x.1, by go_num, rfl, by omega, HN, ⟨.inr ⟨j, by omega, HX.out.2.2.1⟩⟩, HB6⟩
   case measure => first | (rw [a9]; exact meas _ _ hlt) | exact meas _ _ hlt
  ·have q0 : decide ((i : Int) < (xs.length : Int)) = false := decide_eq_false (by omega)
   have q1 : decide ((xs.length : Int) ≤ 6) = true := decide_eq_true (by omega)
   go_wp2
   go_ret
   exact ⟨by first | rfl | (rw [← q1]; rfl) | (simp; omega), HB.out⟩
def RlOk (xs : List Rl) : Prop := ∀ k, k < xs.length → (xs.getD k zRl).1 = ((k : Int) + 1) * 1000000 ∧ NdOk 0 8 (xs.getD k zRl).2 ∧ (xs.getD k zRl).2.length ≤ 6
set_option maxRecDepth 100000 in
set_option maxHeartbeats 4000000 in
theorem mani.Check.calls {w : World} {A : Option Addr} {c : Nat} {xs : List Rl} (j : Nat) (hj : j < 8) (h : kRl.C w A xs.length xs) (hl : xs.length ≤ 8) (hk : RlOk xs) : Calls Tryz.prog 81 #[.agg #[.string (nm j), .slice A xs.length c]] w fun e w' => e = .returned (.bool true) ∧ Below w.heap.size w w' := by
 have HL := Aside0.mk hl
 have HK := Aside0.mk hk
 have HJ := Aside0.mk hj
 have hbx := blk_new w (.cells #[.string (nm j), .slice A xs.length c] 91)
 have HBX := Aside0.mk hbx
 have HB1 := Aside0.mk (below_alloc (Below.refl w.heap.size w) (.cells #[.string (nm j), .slice A xs.length c] 91))
 have H := Aside0.mk (Kd.C_below h (below_alloc (Below.refl w.heap.size w) (.cells #[.string (nm j), .slice A xs.length c] 91)))
 have e1 : (w.alloc (.cells #[.string (nm j), .slice A xs.length c] 91)).cell? ⟨w.heap.size, 1, none⟩ = some (.slice A xs.length c) := (blk_cell hbx 1).trans rfl
 clear h hl hk hj hbx
 go_enter Tryz.func81, Tryz.ntmps81
 go_wp2
 clear e1
 generalize w.alloc (.cells #[.string (nm j), .slice A xs.length c] 91) = w1 at HBX HB1 H ⊢
 have HG := Aside0.mk (blk_lt HBX.out)
 generalize w.heap.size = gm at HBX HG ⊢
 go_loopw [3, 9] (fun ev iv wr => ∃ (i : Nat) (z : Int), iv = .int .i64 (i : Int) ∧ ev = .int .i64 z ∧ i ≤ xs.length ∧ Aside0 (z < ((i : Int) + 1) * 1000000) ∧ Aside0 (Below w1.heap.size w1 wr)) (fun _ iv _ => ((xs.length : Int) - intOf iv).toNat)
 case atStart => exact ⟨0, -1, rfl, rfl, by omega, ⟨by omega⟩, ⟨Below.refl _ _⟩⟩
 case round =>
  obtain ⟨i, z, rfl, rfl, hi, HZ, HB⟩ := hrel
  have hll := HL.out
  by_cases hlt : i < xs.length
  ·have q0 : decide ((i : Int) < (xs.length : Int)) = true := decide_eq_true (by omega)
   have u0 : (0 : Int) ≤ (i : Int) := by omega
   have u1 : (i : Int) < (xs.length : Int) := by omega
   have a9 : wrap64 ((i : Int) + 1) = (i : Int) + 1 := wrap_id (by omega) (by omega)
   obtain ⟨ad, A1, c1, rfl, k0, k1, hlc, hcs⟩ := at_Rl (Kd.C_below H.out HB.out) i hlt
   obtain ⟨h1, h2, h3⟩ := HK.out i hlt
   generalize xs.getD i zRl = x at k0 k1 h1 h2 h3 hlc hcs
   have q1 : decide (x.1 ≤ z) = false := decide_eq_false (by have := HZ.out; omega)
   have q2 : decide (1000000000 ≤ x.1) = false := decide_eq_false (by omega)
   have HN := Aside0.mk (And.intro h2 h3)
   have HV := Aside0.mk h1
   have hbx := blk_new wr (.cells #[.int .i64 x.1, .slice A1 x.2.length c1] 95)
   have HBR := Aside0.mk hbx
   have HB2 := Aside0.mk (Below.alloc HB.out HB.out.size (.cells #[.int .i64 x.1, .slice A1 x.2.length c1] 95))
   have HS2 := Aside0.mk (Kd.C_below hcs (below_alloc (Below.refl wr.heap.size wr) (.cells #[.int .i64 x.1, .slice A1 x.2.length c1] 95)))
   clear h1 h2 h3 hbx hcs hlc HB HZ
   go_wp2_with fail
   generalize wr.alloc (.cells #[.int .i64 x.1, .slice A1 x.2.length c1] 95) = w4 at HBR HB2 HS2 ⊢
   generalize wr.heap.size = gx at HBR ⊢
   refine (need.Check.calls HS2.out HN.out.2 HN.out.1).mono ?_
   rintro e w5 ⟨rfl, hb5⟩
   have hbx := blk_below HBR.out hb5
   have HB5 := Aside0.mk (HB2.out.trans (hb5.mono HB2.out.size))
   have b0 : w5.cell? ⟨gx, 0, none⟩ = some (.int .i64 x.1) := (blk_cell hbx 0).trans rfl
   clear hbx hb5 HBR HB2 HS2
   go_wp2
   go_roundw
   case rel => exact ⟨i + 1, x.1, by go_num, rfl, by omega, ⟨by have := HV.out; push_cast; omega⟩, HB5⟩
   case measure => first | (rw [a9]; exact meas _ _ hlt) | exact meas _ _ hlt
  ·have q0 : decide ((i : Int) < (xs.length : Int)) = false := decide_eq_false (by omega)
   have hbx := blk_below HBX.out HB.out
   have HBX2 := Aside0.mk hbx
   have b0 : wr.cell? ⟨gm, 0, none⟩ = some (.string (nm j)) := (blk_cell hbx 0).trans rfl
   clear hbx
   go_wp2_with fail
   refine (Label.Fit.any (nm j) wr).mono ?_
   rintro e w5 ⟨rfl, hb5⟩
   rw [fit_nm j HJ.out]
   have hbx := blk_below HBX2.out hb5
   have b1 : w5.cell? ⟨gm, 1, none⟩ = some (.slice A xs.length c) := (blk_cell hbx 1).trans rfl
   have q1 : decide ((xs.length : Int) ≤ 8) = true := decide_eq_true (by omega)
   have HB5 := Aside0.mk (HB.out.trans (hb5.mono HB.out.size))
   have HF := Aside0.mk (below_step HB1.out HB5.out)
   clear hbx hb5
   go_wp2
   go_ret
   exact ⟨by first | rfl | (simp; omega), HF.out⟩
abbrev kB : Kd Int := Kd.int .u8
def isW (x : Int) : Prop := x = 1 ∨ x = 128 ∨ x = 16384 ∨ x = 2097152 ∨ x = 268435456 ∨ x = 34359738368
def lev (W : Int) : Nat := if W = 1 then 0 else if W = 128 then 1 else if W = 16384 then 2 else if W = 2097152 then 3 else if W = 268435456 then 4 else 5
theorem lev_le (W : Int) : lev W ≤ 5 := by
 unfold lev
 repeat' split
 all_goals omega
set_option maxRecDepth 100000 in
set_option maxHeartbeats 8000000 in
theorem vlq.Put.calls {w : World} {A A2 : Option Addr} {c c2 : Nat} {xs ns : List Int} (h : kB.C w A xs.length xs) (h2 : (Kd.int .i64).C w A2 ns.length ns) (hl : xs.length ≤ 100000) (hn : ns.length ≤ 100) :
  Calls Tryz.prog 76 #[.slice A xs.length c, .slice A2 ns.length c2] w fun e w' => ∃ v ys, e = .returned v ∧ kB.R 5 w' w.heap.size (fun _ => True) v ys ∧ ys.length ≤ xs.length + 7 * ns.length ∧ ((∀ n ∈ ns, 0 ≤ n ∧ n < 128) → ys = xs ++ ns) ∧ Below w.heap.size w w' := by
 have HX := Aside0.mk h
 have HN := Aside0.mk h2
 have HL := Aside0.mk (And.intro hl hn)
 clear h h2 hl hn
 go_enter Tryz.func76, Tryz.ntmps76
 have HO := Aside0.mk (show kB.R 5 (w.alloc (.cells #[] 5)) w.heap.size (fun _ => True) (.slice (some ⟨w.heap.size, 0, none⟩) 0 0) [] from lit kB w w.heap.size 5 (xs := []) (inner := []) (okp := fun _ => True) (Reps.none _ _) (fun _ h => h) trivial (Nat.le_refl _) (by simp))
 have HX1 := Aside0.mk (Kd.C_below HX.out (below_alloc (Below.refl w.heap.size w) (.cells #[] 5)))
 have HB1 := Aside0.mk (below_alloc (Below.refl w.heap.size w) (.cells #[] 5))
 have HW1 := Aside0.mk (HB1.out.size)
 go_upto_region 1 with fail
 go_wp2_with (first | ((with_reducible refine gate_builtin (b := .append) (xs := #[.tmp 9, .tmp 10]) rfl ?_); at_builtin; refine Kd.R_append_row (Value.int .u8) (0 : Int) (w0 := w) (w.heap.size) rfl (.tmp 9) (.tmp 10) 27 5 (.int .u8 0) 1 rfl Tryz.underlying27 infoU8 rfl (by decide) (.slice (some ⟨w.heap.size, 0, none⟩) 0 0) (([] : List Int)) (xs) (A) (xs.length) (c) (fun _ => True) rfl rfl (fun _ _ => trivial) HO.out HX1.out HB1.out HW1.out (by have h := HL.out.1; simp; omega) ?_; intro v9 w9 hr9 hb9 hg9 hat9; have n0_ := Aside0.mk hr9; have n1_ := Aside0.mk hb9; clear hr9 hb9 hg9 hat9))
 rw [List.nil_append] at n0_
 clear HO HX1 HB1 HW1
 obtain ⟨A9, c9, rfl⟩ := Kd.R_slice n0_.out
 go_wp2
 go_loopw [5, 14] (fun ov iv wr => ∃ (i : Nat) (ys : List Int), iv = .int .i64 (i : Int) ∧ i ≤ ns.length ∧ Aside0 (kB.R 5 wr w.heap.size (fun _ => True) ov ys) ∧ Aside0 (ys.length ≤ xs.length + 7 * i ∧ ((∀ n ∈ ns, 0 ≤ n ∧ n < 128) → ys = xs ++ ns.take i)) ∧ Aside0 (Below w.heap.size w wr)) (fun _ iv _ => ((ns.length : Int) - intOf iv).toNat)
 case atStart => exact ⟨0, xs, rfl, by omega, n0_, ⟨by omega, fun _ => by simp⟩, n1_⟩
 case round =>
  clear n0_ n1_
  obtain ⟨i, ys, rfl, hi, HR, HY, HB⟩ := hrel
  obtain ⟨A3, c3, rfl⟩ := Kd.R_slice HR.out
  have hll := HL.out.2
  by_cases hlt : i < ns.length
  ·have q0 : decide ((i : Int) < (ns.length : Int)) = true := decide_eq_true (by omega)
   have u0 : (0 : Int) ≤ (i : Int) := by omega
   have u1 : (i : Int) < (ns.length : Int) := by omega
   have a9 : wrap64 ((i : Int) + 1) = (i : Int) + 1 := wrap_id (by omega) (by omega)
   obtain ⟨ad, rfl, k0⟩ := Kd.at_int (Kd.C_below HN.out HB.out) (i : Int) (by omega) (by omega)
   rw [Int.toNat_natCast] at k0
   have HT := Aside0.mk (show ns.take (i + 1) = ns.take i ++ [rd ns (i : Int)] from by rw [take_at ns 0 i hlt]; unfold rd; rw [Int.toNat_natCast])
   have HM := Aside0.mk (show rd ns (i : Int) ∈ ns from by unfold rd; rw [Int.toNat_natCast]; exact getD_mem ns 0 i hlt)
   generalize rd ns (i : Int) = n at k0 HT HM
   obtain ⟨v, hv⟩ : ∃ v, mn (mx n 0) 1099511627776 = v := ⟨_, rfl⟩
   have hvv : 0 ≤ v ∧ v ≤ 1099511627776 ∧ (0 ≤ n → n < 128 → v = n) := by
    rw [← hv]
    unfold mn mx
    repeat' split
    all_goals omega
   have HV := Aside0.mk hvv
   clear hvv
   obtain ⟨j1, hj1⟩ : ∃ j, mx n 0 = j := ⟨_, rfl⟩
   have hj1_ : (if n < 0 then 0 else n) = j1 := hj1
   rw [hj1] at hv
   have hv_ : (if 1099511627776 < j1 then 1099511627776 else j1) = v := hv
   clear hj1 hv
   go_wp2
   go_loopw [8] (fun pv wq => ∃ W : Int, pv = .int .i64 W ∧ isW W ∧ (v < 128 → W = 1) ∧ wq = wr) (fun pv _ => (140737488355328 - intOf pv).toNat)
   case atStart => exact ⟨1, rfl, .inl rfl, fun _ => rfl, rfl⟩
   case round =>
    obtain ⟨W, rfl, hW, hW1, rfl⟩ := hrel
    have hv0 := HV.out.1
    have hv1 := HV.out.2.1
    have hWp : 1 ≤ W ∧ W ≤ 34359738368 := by rcases hW with h | h | h | h | h | h <;> omega
    have z0 : (W == 0) = false := by simp; omega
    have z1 : ¬ W = 0 := by omega
    have e0 : v.tdiv W = v / W := Int.tdiv_eq_ediv_of_nonneg hv0
    have hb0 : 0 ≤ v / W := Int.ediv_nonneg hv0 (by omega)
    have hb1 : v / W ≤ v := Int.ediv_le_self _ hv0
    have e1 : wrap64 (v / W) = v / W := wrap_id (by omega) (by omega)
    have e2 : wrap64 (v.tdiv W) = v / W := by rw [e0]; exact e1
    obtain ⟨d, hd⟩ : ∃ d, v / W = d := ⟨_, rfl⟩
    rw [hd] at e0 e1 e2 hb0 hb1
    by_cases h128 : 128 ≤ d
    ·have q1 : decide (128 ≤ d) = true := decide_eq_true h128
     have HWn := Aside0.mk (show isW (W * 128) from by
      unfold isW at hW ⊢
      rcases hW with h | h | h | h | h | h <;> subst h <;> omega)
     have a1 : wrap64 (W * 128) = W * 128 := wrap_id (by omega) (by omega)
     have HN1 := Aside0.mk (show v < 128 → W * 128 = 1 from fun h => by have := hW1 h; subst this; omega)
     go_wp2
     go_roundw
     case rel => exact ⟨W * 128, by first | rfl | rw [a1], HWn.out, HN1.out, by first | trivial | rfl⟩
     case measure => show (140737488355328 - _ : Int).toNat < (140737488355328 - W : Int).toNat; first | omega | (simp [intOf]; omega)
    ·have q1 : decide (128 ≤ d) = false := decide_eq_false h128
     have HW0 := Aside0.mk (And.intro hW hW1)
     go_wp2
     clear hW hW1 hd e0 e1 e2 hb0 hb1 hWp z0 z1 hv0 hv1
     go_loopw [5, 8] (fun ov pv wq => ∃ (W : Int) (zs : List Int), pv = .int .i64 W ∧ isW W ∧ (v < 128 → W = 1 ∧ zs = ys) ∧ Aside0 (zs.length + lev W ≤ ys.length + 5) ∧ Aside0 (kB.R 5 wq w.heap.size (fun _ => True) ov zs) ∧ Aside0 (Below w.heap.size w wq)) (fun _ pv _ => (intOf pv).toNat)
     case atStart => exact ⟨W, ys, rfl, HW0.out.1, fun h => ⟨HW0.out.2 h, rfl⟩, ⟨by have := lev_le W; omega⟩, HR, HB⟩
     case round =>
      clear HR HB HW0
      obtain ⟨W, zs, rfl, hW, hW1, HZ, HR, HB⟩ := hrel
      obtain ⟨A4, c4, rfl⟩ := Kd.R_slice HR.out
      have hWp : 1 ≤ W ∧ W ≤ 34359738368 := by rcases hW with h | h | h | h | h | h <;> omega
      by_cases hw1 : 1 < W
      ·have q2 : decide (1 < W) = true := decide_eq_true hw1
       have z0 : (W == 0) = false := by simp; omega
       have z1 : ¬ W = 0 := by omega
       have hqW : isW (W / 128) ∧ lev (W / 128) + 1 = lev W := by
        unfold isW at hW
        rcases hW with h | h | h | h | h | h
        ·omega
        all_goals (subst h; refine ⟨?_, by decide⟩; unfold isW; omega)
       have HWn := Aside0.mk hqW
       have e3 : W.tdiv 128 = W / 128 := Int.tdiv_eq_ediv_of_nonneg (by omega)
       have e4 : wrap64 (W / 128) = W / 128 := wrap_id (by omega) (by omega)
       have HWP := Aside0.mk (And.intro hWp hw1)
       have HV1 := Aside0.mk (show ¬ v < 128 from fun h => by have := (hW1 h).1; omega)
       have HW4 := Aside0.mk HB.out.size
       have hll3 := HY.out.1
       have HLL := Aside0.mk (show zs.length ≤ 110000 by have h1 := HZ.out; have h2 := HL.out; omega)
       clear hqW hll3
       go_upto_region 11 with fail
       go_wp2_with (first | ((with_reducible refine gate_builtin (b := .append) (xs := #[.tmp 31, .tmp 38]) rfl ?_); at_builtin; refine Kd.R_append (Kd.int .u8) (w0 := w) (w.heap.size) rfl (.tmp 31) (.tmp 38) 27 5 (.int .u8 0) 1 rfl Tryz.underlying27 infoU8 rfl (by decide) (by omega) (.slice A4 zs.length c4) (zs) ((wrap64 (128 + (v / W).tmod 128) % 256)) [.int .u8 (wrap64 (128 + (v / W).tmod 128) % 256)] (fun _ => True) (fun _ => False) rfl rfl rfl (fun _ hk => hk.elim) (fun _ _ => trivial) HR.out HB.out HW4.out (by have h := HLL.out; omega) ?_; intro v9 w9 hr9 hb9 hg9 hat9; have n0_ := Aside0.mk hr9; have n1_ := Aside0.mk hb9; clear hr9 hb9 hg9 hat9))
       go_wp2
       go_roundw
       case rel => exact ⟨W / 128, zs ++ [(wrap64 (128 + (v / W).tmod 128) % 256)], by first | rfl | rw [e4] | rw [e3, e4], HWn.out.1, fun h => absurd h HV1.out, ⟨by have h1 := HZ.out; have h2 := HWn.out.2; simp; omega⟩, n0_, n1_⟩
       case measure => first | (show (W / 128 : Int).toNat < W.toNat; have := HWP.out; omega) | (show (wrap64 (W / 128) : Int).toNat < W.toNat; rw [e4]; have := HWP.out; omega) | (simp [intOf]; have := HWP.out; omega)
      ·have q2 : decide (1 < W) = false := decide_eq_false hw1
       have HV1 := Aside0.mk hW1
       have HW4 := Aside0.mk HB.out.size
       have HLL := Aside0.mk (show zs.length ≤ 110000 by have h1 := HZ.out; have h2 := HL.out; have h3 := HY.out.1; omega)
       clear hW hW1
       go_upto_region 12 with fail
       go_wp2_with (first | ((with_reducible refine gate_builtin (b := .append) (xs := #[.tmp 40, .tmp 44]) rfl ?_); at_builtin; refine Kd.R_append (Kd.int .u8) (w0 := w) (w.heap.size) rfl (.tmp 40) (.tmp 44) 27 5 (.int .u8 0) 1 rfl Tryz.underlying27 infoU8 rfl (by decide) (by omega) (.slice A4 zs.length c4) (zs) ((v % 128)) [.int .u8 (v % 128)] (fun _ => True) (fun _ => False) rfl rfl rfl (fun _ hk => hk.elim) (fun _ _ => trivial) HR.out HB.out HW4.out (by have h := HLL.out; omega) ?_; intro v9 w9 hr9 hb9 hg9 hat9; have n0_ := Aside0.mk hr9; have n1_ := Aside0.mk hb9; clear hr9 hb9 hg9 hat9))
       go_wp2
       go_roundw
       case rel => exact ⟨i + 1, zs ++ [v % 128], by go_num, by omega, n0_, ⟨by have h1 := HZ.out; have h2 := HY.out.1; simp; omega, fun hn => by
        have hn1 := hn n HM.out
        have hv1 := HV.out.2.2 hn1.1 hn1.2
        have h1 := HV1.out (by omega)
        have h2 := HY.out.2 hn
        rw [h1.2, h2, HT.out, List.append_assoc]
        rw [show v % 128 = n by omega]⟩, n1_⟩
       case measure => first | (rw [a9]; exact meas _ _ hlt) | exact meas _ _ hlt
  ·have q0 : decide ((i : Int) < (ns.length : Int)) = false := decide_eq_false (by omega)
   have hix : i = ns.length := by omega
   subst hix
   have HY2 := Aside0.mk (show ys.length ≤ xs.length + 7 * ns.length ∧ ((∀ n ∈ ns, 0 ≤ n ∧ n < 128) → ys = xs ++ ns) from by have h := HY.out; rw [List.take_length] at h; exact h)
   go_wp2
   go_ret
   exact ⟨.slice A3 ys.length c3, ys, rfl, HR.out, HY2.out.1, HY2.out.2, HB.out⟩
set_option maxRecDepth 100000 in
set_option maxHeartbeats 4000000 in
theorem vlq.Text.calls {w : World} {A : Option Addr} {c : Nat} {xs : List Int} (s : ByteArray) (h : kB.C w A xs.length xs) (hl : xs.length ≤ 90000) (hs : s.size ≤ 1000) :
  Calls Tryz.prog 77 #[.slice A xs.length c, .string s] w fun e w' => ∃ v ys, e = .returned v ∧ kB.R 5 w' w.heap.size (fun _ => True) v ys ∧ ys.length ≤ xs.length + 7 + s.size ∧ Below w.heap.size w w' := by
 have HX := Aside0.mk (Kd.C_below h (below_alloc (Below.refl w.heap.size w) (.cells #[.int .i64 (s.size : Int)] 3)))
 have HB1 := Aside0.mk (below_alloc (Below.refl w.heap.size w) (.cells #[.int .i64 (s.size : Int)] 3))
 have HN := Aside0.mk (Kd.R_reads' (lit1 (Kd.int .i64) w w.heap.size 3 (x := (s.size : Int)) (inner := [.int .i64 (s.size : Int)]) (okp := fun _ => True) (ok := fun _ => True) rfl (fun _ h => h) trivial (Nat.le_refl _))).2.2
 have HL := Aside0.mk (And.intro hl hs)
 clear h hl hs
 go_enter Tryz.func77, Tryz.ntmps77
 go_wp2_with fail
 refine (vlq.Put.calls (ns := [(s.size : Int)]) HX.out HN.out (by have := HL.out.1; omega) (by simp)).mono ?_
 rintro e w4 ⟨v4, ys, rfl, hr4, hl4, -, hb4⟩
 obtain ⟨A4, c4, rfl⟩ := Kd.R_slice hr4
 have HR4 := Aside0.mk (Kd.R_lower hr4 HB1.out.size)
 have HB4 := Aside0.mk (below_step HB1.out hb4)
 have HL4 := Aside0.mk hl4
 have HW4 := Aside0.mk HB4.out.size
 clear hr4 hl4 hb4
 go_wp2_with (first | ((with_reducible refine gate_builtin (b := .append) (xs := #[.tmp 9, .tmp 10]) rfl ?_); at_builtin; refine print_append_str (w0 := w) w.heap.size rfl (.tmp 9) (.tmp 10) 27 9 5 rfl Tryz.underlying27 Tryz.underlying9 infoU8 (.slice A4 ys.length c4) ys s rfl rfl (Kd.own_of_R HR4.out) HB4.out HW4.out (by have h1 := HL4.out; have h2 := HL.out; simp at h1; omega) ?_; intro v9 w9 hr9 hb9 hg9; have n0_ := Aside0.mk (show kB.R 5 w9 w.heap.size (fun _ => True) v9 (ys ++ bytesOf s) from Kd.R_of_own hr9 (fun _ _ => trivial)); have n1_ := Aside0.mk hb9; clear hr9 hb9 hg9))
 go_wp2
 go_ret
 exact ⟨v9, _, rfl, n0_.out, by have h1 := HL4.out; rw [List.length_append, bytesOf_length]; simp at h1; omega, n1_.out⟩
end Go.Proofs.YtceffpgcbihckaaGreat.Top
