/- The walk of TopTimes, part 3. No condition but what each theorem names. -/
import Derived.Test.YtceffpgcbihckaaGreatX2
set_option linter.unusedVariables false
set_option linter.unusedSimpArgs false
namespace Go.Proofs.YtceffpgcbihckaaGreat.Top
open Go.RowKit Go.Proofs.YtceffpgcbihckaaGreatW.PrintWords Go.Proofs.YtceffpgcbihckaaGreatW.PrintLast Go.Proofs.YtceffpgcbihckaaGreatW.PrintMore Go.Proofs.YtceffpgcbihckaaGreat.Base
theorem bnd_a {z y B l : Nat} (h : z ≤ B + 14 * l) (h9 : y ≤ z + 7 * 2) : y ≤ B + 14 * (l + 1) := by omega
theorem bnd_b {z i k l : Nat} (h : z ≤ 2100 + 6300 * i + 14 + 1045 * k + 1014 + 14 * l) (hl : l ≤ 2) : z ≤ 2100 + 6300 * i + 14 + 1045 * (k + 1) := by omega
theorem bnd_c {z i k : Nat} (h : z ≤ 2100 + 6300 * i + 14 + 1045 * k) (hk : k ≤ 6) : z ≤ 2100 + 6300 * (i + 1) := by omega
theorem bnd_d {z i : Nat} (h : z ≤ 2100 + 6300 * i) (hi : i ≤ 8) : z ≤ 90000 := by omega
theorem bnd_e {z i k l : Nat} (h : z ≤ 2100 + 6300 * i + 14 + 1045 * k + 1014 + 14 * l) (hi : i ≤ 8) (hk : k ≤ 6) (hl : l ≤ 2) : z ≤ 100000 := by omega
theorem NdOk_at : ∀ (xs : List Nd) (lo : Nat), NdOk lo 8 xs → ∀ k, k < xs.length → ∃ j, j < 8 ∧ (xs.getD k zNd).1 = nm j ∧ SpOk (-1) (xs.getD k zNd).2 ∧ (xs.getD k zNd).2.length ≤ 2
 | [], _, _, k, hk => absurd hk (by simp)
 | x :: r, lo, ⟨j, h1, h2, h3, h4, h5, h6⟩, 0, _ => ⟨j, h2, h3, h4, h5⟩
 | x :: r, lo, ⟨j, h1, h2, h3, h4, h5, h6⟩, k + 1, hk => by
  have := NdOk_at r (j + 1) h6 k (by simp at hk; omega)
  simpa using this
def WIR3.T3 : Bool × List (List Nat × List Nat) := (true, [([], []), ([0], [0]), ([1], [1]), ([], []), ([3], [3]), ([4], [4]), ([5], [5]), ([2, 6, 2], [2, 6]), ([7, 7, 0, 1, 2, 3, 4, 5, 6, 7], [7])])
def WIR3.B3 : List Nat := [0, 1, 3, 0, 8, 24, 56, 127, 255]
theorem WIR3.tab3 : rtab .any (opsOf Tryz.f82 3) = WIR3.T3 := by kernel_rfl
theorem WIR3.bits3 : waitsOk WIR3.T3.2 WIR3.B3 = true := by kernel_rfl
def WIR11.T11 : Bool × List (List Nat × List Nat) := (true, [([], []), ([], []), ([1], [1]), ([0, 2], [0, 2]), ([], []), ([4], [4]), ([5], [5]), ([6], [6]), ([3, 7, 3], [3, 7]), ([8, 8, 0, 1, 2, 3, 4, 5, 6, 7, 8], [0, 8])])
def WIR11.B11 : List Nat := [0, 0, 2, 7, 0, 16, 48, 112, 255, 511]
theorem WIR11.tab11 : rtab .any (opsOf Tryz.f82 11) = WIR11.T11 := by kernel_rfl
theorem WIR11.bits11 : waitsOk WIR11.T11.2 WIR11.B11 = true := by kernel_rfl
theorem C2 (w : World) (a b : Int) : (Kd.int .i64).C (w.alloc (.cells #[.int .i64 a, .int .i64 b] 3)) (some ⟨w.heap.size, 0, none⟩) 2 [a, b] :=
 (Kd.R_reads' (show (Kd.int .i64).R 3 (w.alloc (.cells #[.int .i64 a, .int .i64 b] 3)) w.heap.size (fun _ => True) (.slice (some ⟨w.heap.size, 0, none⟩) 2 2) [a, b] from lit2 (Kd.int .i64) w w.heap.size 3 (i1 := [.int .i64 a]) (i2 := [.int .i64 b]) (okp := fun _ => True) rfl rfl (fun _ h => h) trivial (Nat.le_refl _))).2.2
set_option maxRecDepth 100000 in
set_option maxHeartbeats 8000000 in
theorem wire.Put.calls {w : World} {A : Option Addr} {c : Nat} {xs : List Rl} (j : Nat) (hj : j < 8) (h : kRl.C w A xs.length xs) (hl : xs.length ≤ 8) (hk : RlOk xs) : Calls Tryz.prog 82 #[.agg #[.string (nm j), .slice A xs.length c]] w fun e w' => ∃ v ys, e = .returned v ∧ kB.R 5 w' w.heap.size (fun _ => True) v ys ∧ ys.length ≤ 90000 ∧ Below w.heap.size w w' := by
 have HL := Aside0.mk hl
 have HK := Aside0.mk hk
 have HJ := Aside0.mk hj
 have hbx := blk_new w (.cells #[.string (nm j), .slice A xs.length c] 91)
 have HBX := Aside0.mk hbx
 have HB0 := Aside0.mk (below_alloc (Below.refl w.heap.size w) (.cells #[.string (nm j), .slice A xs.length c] 91))
 have H := Aside0.mk (Kd.C_below h (below_alloc (Below.refl w.heap.size w) (.cells #[.string (nm j), .slice A xs.length c] 91)))
 have HNX := Aside0.mk (show (nm j).size ≤ 1000 by unfold nm letts; simp; omega)
 clear h hl hk hj hbx
 go_enter Tryz.func82, Tryz.ntmps82
 go_wp2_with fail
 generalize w.alloc (.cells #[.string (nm j), .slice A xs.length c] 91) = w0 at HBX HB0 H ⊢
 generalize hgm : w.heap.size = gm at HBX ⊢
 refine (mani.Check.calls j HJ.out H.out HL.out HK.out).mono ?_
 rintro e w1 ⟨rfl, hb1⟩
 have HB1 := Aside0.mk (show Below w.heap.size w w1.drew from below_drew (below_step HB0.out hb1))
 have HBX1 := Aside0.mk (show w1.heap[gm]? = _ from blk_below HBX.out hb1)
 have H1 := Aside0.mk (Kd.C_below H.out (below_drew hb1))
 have HC := Aside0.mk (show w1.drew.cell? ⟨gm, 0, none⟩ = some (.string (nm j)) ∧ w1.drew.cell? ⟨gm, 1, none⟩ = some (.slice A xs.length c) from ⟨show w1.cell? _ = _ from (blk_cell HBX1.out 0).trans rfl, show w1.cell? _ = _ from (blk_cell HBX1.out 1).trans rfl⟩)
 have HZC := Aside0.mk (show kB.C w1.drew none ([] : List Int).length [] from Kd.C_nil _ _)
 have HZL := Aside0.mk (show ([] : List Int).length ≤ 1 by simp)
 clear hb1 HBX H HB0
 go_upto_region 3 with fail
 refine start_ (n := 9) (S := fun w' => w'.cell? ⟨gm, 0, none⟩ = some (.string (nm j)) ∧ w'.cell? ⟨gm, 1, none⟩ = some (.slice A xs.length c)) (ds := []) #[O,O,O,O,O,O,O,O,O] (by kernel_rfl) rfl rfl ⟨HC.out.1, HC.out.2⟩ (fun hHeld => ?_)
 refine with_tabW WIR3.tab3 WIR3.bits3 (fun HT_ HW_ => ?_)
 refine pure_ (i := 0) (N := some 13) (v := ?_) (a' := ?_) #[Y,O,O,O,O,O,O,O,O] rfl rfl (any_of HT_.out (by kernel_rfl)) (fun _ _ _ h => h) (Or.inl ⟨by rfl, ?_⟩) ?_ ?_
 rotate_left
 ·intro w'
  go_simp
  with_reducible rfl
 rotate_left
 ·simp only [PN]
  rfl
 refine pure_ (i := 3) (N := some 16) (v := ?_) (a' := ?_) #[Y,O,O,Y,O,O,O,O,O] rfl rfl (any_of HT_.out (by kernel_rfl)) (fun _ _ _ h => h) (Or.inl ⟨by rfl, ?_⟩) ?_ ?_
 rotate_left
 ·intro w'
  go_simp
  with_reducible rfl
 rotate_left
 ·simp only [PN]
  rfl
 refine take_ (i := 1) (N := some 14) (v := ?_) (a' := ?_) #[Y,Y,O,Y,O,O,O,O,O] rfl rfl (take_ofW HT_.out HW_.out (by kernel_rfl)) (fun _ _ _ h => h) (Or.inl ⟨by rfl, ?_⟩) hHeld ?_ ?_
 rotate_left
 ·rintro w' ⟨s0, s1⟩
  go_simp
  with_reducible rfl
 rotate_left
 ·simp only [PN]
  rfl
 refine take_ (i := 4) (N := some 17) (v := ?_) (a' := ?_) #[Y,Y,O,Y,Y,O,O,O,O] rfl rfl (take_ofW HT_.out HW_.out (by kernel_rfl)) (fun _ _ _ h => h) (Or.inl ⟨by rfl, ?_⟩) hHeld ?_ ?_
 rotate_left
 ·rintro w' ⟨s0, s1⟩
  go_simp
  with_reducible rfl
 rotate_left
 ·simp only [PN]
  rfl
 refine pure_ (i := 5) (N := some 18) (v := ?_) (a' := ?_) #[Y,Y,O,Y,Y,Y,O,O,O] rfl rfl (any_of HT_.out (by kernel_rfl)) (fun _ _ _ h => h) (Or.inl ⟨by rfl, ?_⟩) ?_ ?_
 rotate_left
 ·intro w'
  go_simp
  with_reducible rfl
 rotate_left
 ·simp only [PN]
  rfl
 refine join_ (σ := Nat × (Option Addr × (Nat × List Int))) 2 #[Y,Y,Y,Y,Y,Y,Y,O,O] (fun s => [(15, .slice s.2.1 s.2.2.2.length s.2.2.1), (19, .slice (some ⟨s.1, 0, none⟩) 1 1)]) (fun s w' => kB.R 5 w' w.heap.size (fun _ => True) (.slice s.2.1 s.2.2.2.length s.2.2.1) s.2.2.2 ∧ s.2.2.2.length ≤ (([] : List Int)).length + 1007 ∧ (Kd.int .i64).C w' (some ⟨s.1, 0, none⟩) 1 [(xs.length : Int)] ∧ Below w1.drew.heap.size w1.drew w' ∧ w'.cell? ⟨gm, 0, none⟩ = some (.string (nm j)) ∧ w'.cell? ⟨gm, 1, none⟩ = some (.slice A xs.length c)) ?_ ?_
 rotate_left
 ·intro hCont
  refine two_ (i := 2) (j := 6) (Ni := some 15) (Nj := some 19) #[Y,Y,Y,Y,Y,Y,O,O,O] #[Y,Y,O,Y,Y,Y,Y,O,O] rfl rfl rfl rfl (two_of HT_.out (by kernel_rfl)) (by decide) (by decide) (fun K hK => ?_) (fun K hK => ?_)
  ·skip
   refine goes_ Tryz.func77 (by kernel_rfl) rfl #[.slice none (([] : List Int)).length 0, .string (nm j)] (by rfl) rfl rfl (by (try simp only [List.map_toArray, List.map_cons, List.map_nil]); first | done | rfl) ?_
   with_reducible refine (vlq.Text.calls (xs := ([] : List Int)) (nm j) HZC.out (by have h := HZL.out; first | omega | (simp only [List.length_nil] at *; omega)) HNX.out).mono ?_
   rintro e w5 ⟨v5, ys5, rfl, hr5, hl5, hb5⟩
   obtain ⟨A5, c5, rfl⟩ := Kd.R_slice hr5
   refine ⟨_, rfl, ?_⟩
   have HL5 := Aside0.mk (show ys5.length ≤ (([] : List Int)).length + 1007 from by have h := HNX.out; omega)
   have HR5 := Aside0.mk (Kd.R_lower hr5 HB1.out.size)
   have HB5 := Aside0.mk hb5
   have HC5 := Aside0.mk (And.intro ((hb5.cell (World.block_lt_of_cell? _ _ HC.out.1)).trans HC.out.1) ((hb5.cell (World.block_lt_of_cell? _ _ HC.out.2)).trans HC.out.2))
   clear hr5 hl5 hb5
   refine hK.out _ _ ⟨HC5.out.1, HC5.out.2⟩ (fun hHeld => ?_)
   clear hK K
   refine norm_ (a' := ?_) ?_ ?_
   rotate_left
   ·show Act.put _ (some 15) _ = _
    simp only [PN]
    rfl
   refine one_ (i := 6) (N := some 19) #[Y,Y,Y,Y,Y,Y,Y,O,O] rfl rfl (one_of HT_.out (by kernel_rfl)) (by decide) (fun K hK => ?_)
   have HBA := Aside0.mk (below_alloc (Below.refl w5.heap.size w5) (.cells #[.int .i64 (xs.length : Int)] 3))
   have HCA := Aside0.mk (And.intro ((HBA.out.cell (World.block_lt_of_cell? _ _ HC5.out.1)).trans HC5.out.1) ((HBA.out.cell (World.block_lt_of_cell? _ _ HC5.out.2)).trans HC5.out.2))
   refine value_ (w1 := ?_) (v := ?_) (by rfl) rfl ?_ ?_
   rotate_left 2
   ·go_simp
    constructor
    ·rfl
    ·rfl
   refine hK.out _ _ ⟨HCA.out.1, HCA.out.2⟩ (fun hHeld => ?_)
   clear hK K
   refine norm_ (a' := ?_) ?_ ?_
   rotate_left
   ·show Act.put _ (some 19) _ = _
    simp only [PN]
    rfl
   exact norm_ (by simp only [putAll, PN]) (hCont (w5.heap.size, (A5, (c5, ys5))) _ ⟨Kd.R_below HR5.out HBA.out, HL5.out, (Kd.R_reads' (lit1 (Kd.int .i64) w5 (w5).heap.size 3 (x := (xs.length : Int)) (inner := [.int .i64 (xs.length : Int)]) (okp := fun _ => True) (ok := fun _ => True) rfl (fun _ h => h) trivial (Nat.le_refl _))).2.2, below_step HB5.out HBA.out, HCA.out.1, HCA.out.2⟩)
  ·skip
   have HBA := Aside0.mk (show Below w1.drew.heap.size w1.drew (w1.alloc (.cells #[.int .i64 (xs.length : Int)] 3)).drew from below_alloc (Below.refl w1.drew.heap.size w1.drew) (.cells #[.int .i64 (xs.length : Int)] 3))
   have HCA := Aside0.mk (And.intro ((HBA.out.cell (World.block_lt_of_cell? _ _ HC.out.1)).trans HC.out.1) ((HBA.out.cell (World.block_lt_of_cell? _ _ HC.out.2)).trans HC.out.2))
   refine value_ (w1 := ?_) (v := ?_) (by rfl) rfl ?_ ?_
   rotate_left 2
   ·go_simp
    constructor
    ·rfl
    ·rfl
   refine hK.out _ _ ⟨HCA.out.1, HCA.out.2⟩ (fun hHeld => ?_)
   clear hK K
   refine norm_ (a' := ?_) ?_ ?_
   rotate_left
   ·show Act.put _ (some 19) _ = _
    simp only [PN]
    rfl
   refine one_ (i := 2) (N := some 15) #[Y,Y,Y,Y,Y,Y,Y,O,O] rfl rfl (one_of HT_.out (by kernel_rfl)) (by decide) (fun K hK => ?_)
   refine goes_ Tryz.func77 (by kernel_rfl) rfl #[.slice none (([] : List Int)).length 0, .string (nm j)] (by rfl) rfl rfl (by (try simp only [List.map_toArray, List.map_cons, List.map_nil]); first | done | rfl) ?_
   with_reducible refine (vlq.Text.calls (xs := ([] : List Int)) (nm j) (Kd.C_below HZC.out HBA.out) (by have h := HZL.out; first | omega | (simp only [List.length_nil] at *; omega)) HNX.out).mono ?_
   rintro e w5 ⟨v5, ys5, rfl, hr5, hl5, hb5⟩
   obtain ⟨A5, c5, rfl⟩ := Kd.R_slice hr5
   refine ⟨_, rfl, ?_⟩
   have HL5 := Aside0.mk (show ys5.length ≤ (([] : List Int)).length + 1007 from by have h := HNX.out; omega)
   have HR5 := Aside0.mk (Kd.R_lower hr5 (Nat.le_trans HB1.out.size HBA.out.size))
   have HB5 := Aside0.mk (below_step HBA.out hb5)
   have HC5 := Aside0.mk (And.intro ((hb5.cell (World.block_lt_of_cell? _ _ HCA.out.1)).trans HCA.out.1) ((hb5.cell (World.block_lt_of_cell? _ _ HCA.out.2)).trans HCA.out.2))
   have HBB := Aside0.mk hb5
   clear hr5 hl5 hb5
   refine hK.out _ _ ⟨HC5.out.1, HC5.out.2⟩ (fun hHeld => ?_)
   clear hK K
   refine norm_ (a' := ?_) ?_ ?_
   rotate_left
   ·show Act.put _ (some 15) _ = _
    simp only [PN]
    rfl
   exact norm_ (by simp only [putAll, PN]) (hCont (w1.heap.size, (A5, (c5, ys5))) _ ⟨HR5.out, HL5.out, Kd.C_below (Kd.R_reads' (lit1 (Kd.int .i64) w1.drew (w1.drew).heap.size 3 (x := (xs.length : Int)) (inner := [.int .i64 (xs.length : Int)]) (okp := fun _ => True) (ok := fun _ => True) rfl (fun _ h => h) trivial (Nat.le_refl _))).2.2 HBB.out, HB5.out, HC5.out.1, HC5.out.2⟩)
 rintro ⟨gl, A6, c6, ys6⟩ w' ⟨hr6, hl6, hc6, hb6, hs0, hs1⟩
 dsimp only at hr6 hl6 hc6
 dsimp only
 have HR6 := Aside0.mk hr6
 have HL6 := Aside0.mk hl6
 have HC6 := Aside0.mk hc6
 have HB6 := Aside0.mk hb6
 have hHeld := And.intro hs0 hs1
 clear hr6 hl6 hc6 hb6
 refine norm_ (a' := ?_) ?_ ?_
 rotate_left
 ·simp only [putAll, PN]
  rfl
 refine one_ (i := 7) (N := some 20) #[Y,Y,Y,Y,Y,Y,Y,Y,O] rfl rfl (one_of HT_.out (by kernel_rfl)) (by decide) (fun K hK => ?_)
 refine goes_ Tryz.func76 (by kernel_rfl) rfl #[.slice A6 ys6.length c6, .slice (some ⟨gl, 0, none⟩) 1 1] (by rfl) rfl rfl (by (try simp only [List.map_toArray, List.map_cons, List.map_nil]); first | done | rfl) ?_
 refine (vlq.Put.calls (ns := [(xs.length : Int)]) (Kd.R_reads' HR6.out).2.2 HC6.out (by have h := HL6.out; have h2 := HZL.out; first | omega | (simp only [List.length_nil] at *; omega)) (by simp)).mono ?_
 rintro e w7 ⟨v7, ys7, rfl, hr7, hl7, -, hb7⟩
 refine ⟨_, rfl, ?_⟩
 obtain ⟨A7, c7, rfl⟩ := Kd.R_slice hr7
 have HR7 := Aside0.mk (Kd.R_lower hr7 (Nat.le_trans HB1.out.size HB6.out.size))
 have HL7 := Aside0.mk hl7
 have HB7 := Aside0.mk (below_step HB6.out hb7)
 have HC7 := Aside0.mk (And.intro ((hb7.cell (World.block_lt_of_cell? _ _ hHeld.1)).trans hHeld.1) ((hb7.cell (World.block_lt_of_cell? _ _ hHeld.2)).trans hHeld.2))
 clear hr7 hl7 hb7
 refine hK.out _ _ ⟨HC7.out.1, HC7.out.2⟩ (fun hHeld => ?_)
 clear hK K
 refine norm_ (a' := ?_) ?_ ?_
 rotate_left
 ·show Act.put _ (some 20) _ = _
  simp only [PN]
  rfl
 refine pure_ (i := 8) (N := some 3) (v := ?_) (a' := ?_) #[Y,Y,Y,Y,Y,Y,Y,Y,Y] rfl rfl (any_of HT_.out (by kernel_rfl)) (fun _ _ _ h => h) (Or.inl ⟨by rfl, ?_⟩) ?_ ?_
 rotate_left
 ·intro w'
  go_simp
  with_reducible rfl
 rotate_left
 ·simp only [PN]
  rfl
 refine done_ (done_of HT_.out (by kernel_rfl)) ?_
 have HL7b := Aside0.mk (show ys7.length ≤ 2100 by have h1 := HL7.out; have h2 := HL6.out; simp only [List.length_nil, List.length_cons] at *; omega)
 have H7 := Aside0.mk (Kd.C_below H1.out HB7.out)
 have HBX7 := Aside0.mk hHeld
 have HW7 := Aside0.mk (below_step HB1.out HB7.out)
 clear hHeld HR6 HL6 HC6 HB6 HL7 HC7 HZC HZL HC HNX H1 HBX1 HB1 HB7
 have b0 := HBX7.out.1
 have b1 := HBX7.out.2
 go_wp2
 clear b0 b1 HBX7
 go_loopw [3, 24] (fun ov iv wr => ∃ (i : Nat) (zs : List Int), iv = .int .i64 (i : Int) ∧ i ≤ xs.length ∧ Aside0 (kB.R 5 wr w.heap.size (fun _ => True) ov zs) ∧ Aside0 (zs.length ≤ 2100 + 6300 * i) ∧ Aside0 (Below w7.heap.size w7 wr)) (fun _ iv _ => ((xs.length : Int) - intOf iv).toNat)
 case atStart => exact ⟨0, ys7, rfl, by omega, HR7, HL7b, ⟨Below.refl _ _⟩⟩
 case round =>
  clear HR7 HL7b
  obtain ⟨i, zs, rfl, hi, HR, HZ, HB⟩ := hrel
  obtain ⟨A3, c3, rfl⟩ := Kd.R_slice HR.out
  have hll := HL.out
  by_cases hlt : i < xs.length
  ·have q0 : decide ((i : Int) < (xs.length : Int)) = true := decide_eq_true (by omega)
   have u0 : (0 : Int) ≤ (i : Int) := by omega
   have u1 : (i : Int) < (xs.length : Int) := by omega
   have HA9 := Aside0.mk (show wrap64 ((i : Int) + 1) = (i : Int) + 1 from wrap_id (by omega) (by omega))
   obtain ⟨ad, A1, c1, rfl, k0, k1, hlc, hcs⟩ := at_Rl (Kd.C_below H7.out HB.out) i hlt
   obtain ⟨h1, h2, h3⟩ := HK.out i hlt
   generalize xs.getD i zRl = x at k0 k1 h1 h2 h3 hlc hcs
   have HN := Aside0.mk (And.intro h2 h3)
   have hbx := blk_new wr (.cells #[.int .i64 x.1, .slice A1 x.2.length c1] 95)
   have HBR := Aside0.mk (blk_below hbx (below_alloc (Below.refl _ _) (.cells #[.int .i64 x.1, .int .i64 (x.2.length : Int)] 3)))
   have HB2 := Aside0.mk (below_alloc (below_alloc (Below.refl wr.heap.size wr) (.cells #[.int .i64 x.1, .slice A1 x.2.length c1] 95)) (.cells #[.int .i64 x.1, .int .i64 (x.2.length : Int)] 3))
   have HS2 := Aside0.mk (Kd.C_below hcs HB2.out)
   have HC2 := Aside0.mk (C2 (wr.alloc (.cells #[.int .i64 x.1, .slice A1 x.2.length c1] 95)) x.1 (x.2.length : Int))
   have hs1 : (wr.alloc (.cells #[.int .i64 x.1, .slice A1 x.2.length c1] 95)).heap.size = wr.heap.size + 1 := by simp
   have HR2 := Aside0.mk (Kd.R_below HR.out HB2.out)
   rw [hs1] at HC2
   clear h1 h2 h3 hbx hcs hlc hs1 HR
   go_wp2_with fail
   generalize (wr.alloc (.cells #[.int .i64 x.1, .slice A1 x.2.length c1] 95)).alloc (.cells #[.int .i64 x.1, .int .i64 (x.2.length : Int)] 3) = w8 at HBR HB2 HS2 HC2 HR2 ⊢
   generalize wr.heap.size + 1 = gl at HC2 ⊢
   have HB3 := Aside0.mk (below_step HB.out HB2.out)
   clear HB
   generalize wr.heap.size = gx at HBR HB2 ⊢
   refine (vlq.Put.calls (ns := [x.1, (x.2.length : Int)]) (Kd.R_reads' HR2.out).2.2 HC2.out (by have h := HZ.out; omega) (by simp)).mono ?_
   rintro e w9 ⟨v9, ys, rfl, hr9, hl9, -, hb9⟩
   obtain ⟨A9, c9, rfl⟩ := Kd.R_slice hr9
   have HB9 := Aside0.mk (below_step HB3.out hb9)
   have HR9 := Aside0.mk (Kd.R_lower hr9 (Nat.le_trans HW7.out.size HB3.out.size))
   have HL9 := Aside0.mk (show ys.length ≤ 2100 + 6300 * i + 14 by have h := HZ.out; simp only [List.length_cons, List.length_nil] at hl9; omega)
   have HS9 := Aside0.mk (Kd.C_below HS2.out hb9)
   have hbx := blk_below HBR.out hb9
   have b0 : w9.cell? ⟨gx, 0, none⟩ = some (.int .i64 x.1) := (blk_cell hbx 0).trans rfl
   have b1 : w9.cell? ⟨gx, 1, none⟩ = some (.slice A1 x.2.length c1) := (blk_cell hbx 1).trans rfl
   clear hr9 hl9 hb9 hbx HBR HB2 HS2 HC2 HR2 HB3 HZ
   go_wp2
   clear b0 b1
   go_loopw [3, 39] (fun ov iv wr => ∃ (k : Nat) (zs : List Int), iv = .int .i64 (k : Int) ∧ k ≤ x.2.length ∧ Aside0 (kB.R 5 wr w.heap.size (fun _ => True) ov zs) ∧ Aside0 (zs.length ≤ 2100 + 6300 * i + 14 + 1045 * k) ∧ Aside0 (Below w9.heap.size w9 wr)) (fun _ iv _ => ((x.2.length : Int) - intOf iv).toNat)
   case atStart => exact ⟨0, ys, rfl, by omega, HR9, HL9, ⟨Below.refl _ _⟩⟩
   case round =>
    clear HR9 HL9
    obtain ⟨k, zs, rfl, hk, HR, HZ, HB⟩ := hrel
    obtain ⟨A3, c3, rfl⟩ := Kd.R_slice HR.out
    have hnl := HN.out.2
    by_cases hlk : k < x.2.length
    ·have q0 : decide ((k : Int) < (x.2.length : Int)) = true := decide_eq_true (by omega)
     have u0 : (0 : Int) ≤ (k : Int) := by omega
     have u1 : (k : Int) < (x.2.length : Int) := by omega
     have HA8 := Aside0.mk (show wrap64 ((k : Int) + 1) = (k : Int) + 1 from wrap_id (by omega) (by omega))
     obtain ⟨ad2, A2, c2, rfl, k0, k1, hlc, hcs⟩ := at_Nd (Kd.C_below HS9.out HB.out) k hlk
     have hny := NdOk_at _ 0 HN.out.1 k hlk
     generalize x.2.getD k zNd = y at k0 k1 hny hlc hcs
     have HNX := Aside0.mk (show y.1.size ≤ 1000 from by obtain ⟨j, h1, h2, _⟩ := hny; rw [h2]; unfold nm letts; simp; omega)
     have HNY := Aside0.mk hny
     have hbx := blk_new wr (.cells #[.string y.1, .slice A2 y.2.length c2] 117)
     have HBN := Aside0.mk hbx
     have HB2 := Aside0.mk (below_alloc (Below.refl wr.heap.size wr) (.cells #[.string y.1, .slice A2 y.2.length c2] 117))
     have HS2 := Aside0.mk (Kd.C_below hcs HB2.out)
     have HR2 := Aside0.mk (Kd.R_below HR.out HB2.out)
     have HZL := Aside0.mk (show zs.length ≤ 80000 by have h := HZ.out; omega)
     clear hny hbx hcs hlc HR
     go_upto_region 11 with fail
     generalize wr.alloc (.cells #[.string y.1, .slice A2 y.2.length c2] 117) = w1 at HBN HB2 HS2 HR2 ⊢
     have HB12 := Aside0.mk (below_step HB.out HB2.out)
     have HB1 := Aside0.mk (show Below w.heap.size w w1.drew from below_drew (below_step HW7.out (below_step HB9.out HB12.out)))
     generalize wr.heap.size = gm at HBN HB2 ⊢
     have HC := Aside0.mk (show w1.drew.cell? ⟨gm, 0, none⟩ = some (.string y.1) ∧ w1.drew.cell? ⟨gm, 1, none⟩ = some (.slice A2 y.2.length c2) from ⟨show w1.cell? _ = _ from (blk_cell HBN.out 0).trans rfl, show w1.cell? _ = _ from (blk_cell HBN.out 1).trans rfl⟩)
     have HZC := Aside0.mk (show kB.C w1.drew A3 zs.length zs from Kd.C_below (Kd.R_reads' HR2.out).2.2 (below_drew (Below.refl _ _)))
     refine start_ (n := 10) (S := fun w' => w'.cell? ⟨gm, 0, none⟩ = some (.string y.1) ∧ w'.cell? ⟨gm, 1, none⟩ = some (.slice A2 y.2.length c2)) (ds := []) #[O,O,O,O,O,O,O,O,O,O] (by kernel_rfl) rfl rfl ⟨HC.out.1, HC.out.2⟩ (fun hHeld => ?_)
     refine with_tabW WIR11.tab11 WIR11.bits11 (fun HT_ HW_ => ?_)
     refine pure_ (i := 0) (N := some 43) (v := ?_) (a' := ?_) #[Y,O,O,O,O,O,O,O,O,O] rfl rfl (any_of HT_.out (by kernel_rfl)) (fun _ _ _ h => h) (Or.inl ⟨by rfl, ?_⟩) ?_ ?_
     rotate_left
     ·intro w'
      go_simp
      with_reducible rfl
     rotate_left
     ·simp only [PN]
      rfl
     refine pure_ (i := 1) (N := some 44) (v := ?_) (a' := ?_) #[Y,Y,O,O,O,O,O,O,O,O] rfl rfl (any_of HT_.out (by kernel_rfl)) (fun _ _ _ h => h) (Or.inl ⟨by rfl, ?_⟩) ?_ ?_
     rotate_left
     ·intro w'
      go_simp
      with_reducible rfl
     rotate_left
     ·simp only [PN]
      rfl
     refine pure_ (i := 4) (N := some 47) (v := ?_) (a' := ?_) #[Y,Y,O,O,Y,O,O,O,O,O] rfl rfl (any_of HT_.out (by kernel_rfl)) (fun _ _ _ h => h) (Or.inl ⟨by rfl, ?_⟩) ?_ ?_
     rotate_left
     ·intro w'
      go_simp
      with_reducible rfl
     rotate_left
     ·simp only [PN]
      rfl
     refine take_ (i := 2) (N := some 45) (v := ?_) (a' := ?_) #[Y,Y,Y,O,Y,O,O,O,O,O] rfl rfl (take_ofW HT_.out HW_.out (by kernel_rfl)) (fun _ _ _ h => h) (Or.inl ⟨by rfl, ?_⟩) hHeld ?_ ?_
     rotate_left
     ·rintro w' ⟨s0, s1⟩
      go_simp
      with_reducible rfl
     rotate_left
     ·simp only [PN]
      rfl
     refine take_ (i := 5) (N := some 48) (v := ?_) (a' := ?_) #[Y,Y,Y,O,Y,Y,O,O,O,O] rfl rfl (take_ofW HT_.out HW_.out (by kernel_rfl)) (fun _ _ _ h => h) (Or.inl ⟨by rfl, ?_⟩) hHeld ?_ ?_
     rotate_left
     ·rintro w' ⟨s0, s1⟩
      go_simp
      with_reducible rfl
     rotate_left
     ·simp only [PN]
      rfl
     refine pure_ (i := 6) (N := some 49) (v := ?_) (a' := ?_) #[Y,Y,Y,O,Y,Y,Y,O,O,O] rfl rfl (any_of HT_.out (by kernel_rfl)) (fun _ _ _ h => h) (Or.inl ⟨by rfl, ?_⟩) ?_ ?_
     rotate_left
     ·intro w'
      go_simp
      with_reducible rfl
     rotate_left
     ·simp only [PN]
      rfl
     refine join_ (σ := Nat × (Option Addr × (Nat × List Int))) 2 #[Y,Y,Y,Y,Y,Y,Y,Y,O,O] (fun s => [(46, .slice s.2.1 s.2.2.2.length s.2.2.1), (50, .slice (some ⟨s.1, 0, none⟩) 1 1)]) (fun s w' => kB.R 5 w' w.heap.size (fun _ => True) (.slice s.2.1 s.2.2.2.length s.2.2.1) s.2.2.2 ∧ s.2.2.2.length ≤ (zs).length + 1007 ∧ (Kd.int .i64).C w' (some ⟨s.1, 0, none⟩) 1 [(y.2.length : Int)] ∧ Below w1.drew.heap.size w1.drew w' ∧ w'.cell? ⟨gm, 0, none⟩ = some (.string y.1) ∧ w'.cell? ⟨gm, 1, none⟩ = some (.slice A2 y.2.length c2)) ?_ ?_
     rotate_left
     ·intro hCont
      refine two_ (i := 3) (j := 7) (Ni := some 46) (Nj := some 50) #[Y,Y,Y,Y,Y,Y,Y,O,O,O] #[Y,Y,Y,O,Y,Y,Y,Y,O,O] rfl rfl rfl rfl (two_of HT_.out (by kernel_rfl)) (by decide) (by decide) (fun K hK => ?_) (fun K hK => ?_)
      ·skip
       refine goes_ Tryz.func77 (by kernel_rfl) rfl #[.slice A3 (zs).length c3, .string y.1] (by rfl) rfl rfl (by (try simp only [List.map_toArray, List.map_cons, List.map_nil]); first | done | rfl) ?_
       with_reducible refine (vlq.Text.calls (xs := zs) y.1 HZC.out (by have h := HZL.out; first | omega | (simp only [List.length_nil] at *; omega)) HNX.out).mono ?_
       rintro e w5 ⟨v5, ys5, rfl, hr5, hl5, hb5⟩
       obtain ⟨A5, c5, rfl⟩ := Kd.R_slice hr5
       refine ⟨_, rfl, ?_⟩
       have HL5 := Aside0.mk (show ys5.length ≤ (zs).length + 1007 from by have h := HNX.out; omega)
       have HR5 := Aside0.mk (Kd.R_lower hr5 HB1.out.size)
       have HB5 := Aside0.mk hb5
       have HC5 := Aside0.mk (And.intro ((hb5.cell (World.block_lt_of_cell? _ _ HC.out.1)).trans HC.out.1) ((hb5.cell (World.block_lt_of_cell? _ _ HC.out.2)).trans HC.out.2))
       clear hr5 hl5 hb5
       refine hK.out _ _ ⟨HC5.out.1, HC5.out.2⟩ (fun hHeld => ?_)
       clear hK K
       refine norm_ (a' := ?_) ?_ ?_
       rotate_left
       ·show Act.put _ (some 46) _ = _
        simp only [PN]
        rfl
       refine one_ (i := 7) (N := some 50) #[Y,Y,Y,Y,Y,Y,Y,Y,O,O] rfl rfl (one_of HT_.out (by kernel_rfl)) (by decide) (fun K hK => ?_)
       have HBA := Aside0.mk (below_alloc (Below.refl w5.heap.size w5) (.cells #[.int .i64 (y.2.length : Int)] 3))
       have HCA := Aside0.mk (And.intro ((HBA.out.cell (World.block_lt_of_cell? _ _ HC5.out.1)).trans HC5.out.1) ((HBA.out.cell (World.block_lt_of_cell? _ _ HC5.out.2)).trans HC5.out.2))
       refine value_ (w1 := ?_) (v := ?_) (by rfl) rfl ?_ ?_
       rotate_left 2
       ·go_simp
        constructor
        ·rfl
        ·rfl
       refine hK.out _ _ ⟨HCA.out.1, HCA.out.2⟩ (fun hHeld => ?_)
       clear hK K
       refine norm_ (a' := ?_) ?_ ?_
       rotate_left
       ·show Act.put _ (some 50) _ = _
        simp only [PN]
        rfl
       exact norm_ (by simp only [putAll, PN]) (hCont (w5.heap.size, (A5, (c5, ys5))) _ ⟨Kd.R_below HR5.out HBA.out, HL5.out, (Kd.R_reads' (lit1 (Kd.int .i64) w5 (w5).heap.size 3 (x := (y.2.length : Int)) (inner := [.int .i64 (y.2.length : Int)]) (okp := fun _ => True) (ok := fun _ => True) rfl (fun _ h => h) trivial (Nat.le_refl _))).2.2, below_step HB5.out HBA.out, HCA.out.1, HCA.out.2⟩)
      ·skip
       have HBA := Aside0.mk (show Below w1.drew.heap.size w1.drew (w1.alloc (.cells #[.int .i64 (y.2.length : Int)] 3)).drew from below_alloc (Below.refl w1.drew.heap.size w1.drew) (.cells #[.int .i64 (y.2.length : Int)] 3))
       have HCA := Aside0.mk (And.intro ((HBA.out.cell (World.block_lt_of_cell? _ _ HC.out.1)).trans HC.out.1) ((HBA.out.cell (World.block_lt_of_cell? _ _ HC.out.2)).trans HC.out.2))
       refine value_ (w1 := ?_) (v := ?_) (by rfl) rfl ?_ ?_
       rotate_left 2
       ·go_simp
        constructor
        ·rfl
        ·rfl
       refine hK.out _ _ ⟨HCA.out.1, HCA.out.2⟩ (fun hHeld => ?_)
       clear hK K
       refine norm_ (a' := ?_) ?_ ?_
       rotate_left
       ·show Act.put _ (some 50) _ = _
        simp only [PN]
        rfl
       refine one_ (i := 3) (N := some 46) #[Y,Y,Y,Y,Y,Y,Y,Y,O,O] rfl rfl (one_of HT_.out (by kernel_rfl)) (by decide) (fun K hK => ?_)
       refine goes_ Tryz.func77 (by kernel_rfl) rfl #[.slice A3 (zs).length c3, .string y.1] (by rfl) rfl rfl (by (try simp only [List.map_toArray, List.map_cons, List.map_nil]); first | done | rfl) ?_
       with_reducible refine (vlq.Text.calls (xs := zs) y.1 (Kd.C_below HZC.out HBA.out) (by have h := HZL.out; first | omega | (simp only [List.length_nil] at *; omega)) HNX.out).mono ?_
       rintro e w5 ⟨v5, ys5, rfl, hr5, hl5, hb5⟩
       obtain ⟨A5, c5, rfl⟩ := Kd.R_slice hr5
       refine ⟨_, rfl, ?_⟩
       have HL5 := Aside0.mk (show ys5.length ≤ (zs).length + 1007 from by have h := HNX.out; omega)
       have HR5 := Aside0.mk (Kd.R_lower hr5 (Nat.le_trans HB1.out.size HBA.out.size))
       have HB5 := Aside0.mk (below_step HBA.out hb5)
       have HC5 := Aside0.mk (And.intro ((hb5.cell (World.block_lt_of_cell? _ _ HCA.out.1)).trans HCA.out.1) ((hb5.cell (World.block_lt_of_cell? _ _ HCA.out.2)).trans HCA.out.2))
       have HBB := Aside0.mk hb5
       clear hr5 hl5 hb5
       refine hK.out _ _ ⟨HC5.out.1, HC5.out.2⟩ (fun hHeld => ?_)
       clear hK K
       refine norm_ (a' := ?_) ?_ ?_
       rotate_left
       ·show Act.put _ (some 46) _ = _
        simp only [PN]
        rfl
       exact norm_ (by simp only [putAll, PN]) (hCont (w1.heap.size, (A5, (c5, ys5))) _ ⟨HR5.out, HL5.out, Kd.C_below (Kd.R_reads' (lit1 (Kd.int .i64) w1.drew (w1.drew).heap.size 3 (x := (y.2.length : Int)) (inner := [.int .i64 (y.2.length : Int)]) (okp := fun _ => True) (ok := fun _ => True) rfl (fun _ h => h) trivial (Nat.le_refl _))).2.2 HBB.out, HB5.out, HC5.out.1, HC5.out.2⟩)
     rintro ⟨gl, A6, c6, ys6⟩ w' ⟨hr6, hl6, hc6, hb6, hs0, hs1⟩
     dsimp only at hr6 hl6 hc6
     dsimp only
     have HR6 := Aside0.mk hr6
     have HL6 := Aside0.mk hl6
     have HC6 := Aside0.mk hc6
     have HB6 := Aside0.mk hb6
     have hHeld := And.intro hs0 hs1
     clear hr6 hl6 hc6 hb6
     refine norm_ (a' := ?_) ?_ ?_
     rotate_left
     ·simp only [putAll, PN]
      rfl
     refine one_ (i := 8) (N := some 51) #[Y,Y,Y,Y,Y,Y,Y,Y,Y,O] rfl rfl (one_of HT_.out (by kernel_rfl)) (by decide) (fun K hK => ?_)
     refine goes_ Tryz.func76 (by kernel_rfl) rfl #[.slice A6 ys6.length c6, .slice (some ⟨gl, 0, none⟩) 1 1] (by rfl) rfl rfl (by (try simp only [List.map_toArray, List.map_cons, List.map_nil]); first | done | rfl) ?_
     refine (vlq.Put.calls (ns := [(y.2.length : Int)]) (Kd.R_reads' HR6.out).2.2 HC6.out (by have h := HL6.out; have h2 := HZL.out; first | omega | (simp only [List.length_nil] at *; omega)) (by simp)).mono ?_
     rintro e w7 ⟨v7, ys7, rfl, hr7, hl7, -, hb7⟩
     refine ⟨_, rfl, ?_⟩
     obtain ⟨A7, c7, rfl⟩ := Kd.R_slice hr7
     have HR7 := Aside0.mk (Kd.R_lower hr7 (Nat.le_trans HB1.out.size HB6.out.size))
     have HL7 := Aside0.mk hl7
     have HB7 := Aside0.mk (below_step HB6.out hb7)
     have HC7 := Aside0.mk (And.intro ((hb7.cell (World.block_lt_of_cell? _ _ hHeld.1)).trans hHeld.1) ((hb7.cell (World.block_lt_of_cell? _ _ hHeld.2)).trans hHeld.2))
     clear hr7 hl7 hb7
     refine hK.out _ _ ⟨HC7.out.1, HC7.out.2⟩ (fun hHeld => ?_)
     clear hK K
     refine norm_ (a' := ?_) ?_ ?_
     rotate_left
     ·show Act.put _ (some 51) _ = _
      simp only [PN]
      rfl
     refine pure_ (i := 9) (N := some 3) (v := ?_) (a' := ?_) #[Y,Y,Y,Y,Y,Y,Y,Y,Y,Y] rfl rfl (any_of HT_.out (by kernel_rfl)) (fun _ _ _ h => h) (Or.inl ⟨by rfl, ?_⟩) ?_ ?_
     rotate_left
     ·intro w'
      go_simp
      with_reducible rfl
     rotate_left
     ·simp only [PN]
      rfl
     refine done_ (done_of HT_.out (by kernel_rfl)) ?_
     have HL7b := Aside0.mk (show ys7.length ≤ 2100 + 6300 * i + 14 + 1045 * k + 1014 by have h1 := HL7.out; have h2 := HL6.out; have h3 := HZ.out; simp only [List.length_nil, List.length_cons] at h1; omega)
     have HS7 := Aside0.mk (Kd.C_below HS2.out (below_go (below_drew (Below.refl w1.heap.size w1)) HB7.out))
     have HBX7 := Aside0.mk hHeld
     have HW1 := Aside0.mk (below_step HB1.out HB7.out)
     have HW9 := Aside0.mk (below_step HB12.out (below_go (below_drew (Below.refl w1.heap.size w1)) HB7.out))
     clear hHeld HR6 HL6 HC6 HB6 HL7 HC7 HZC HZL HC HB1 HB7 HBN HB2 HS2 HR2 HB HZ
     have b0 := HBX7.out.1
     have b1 := HBX7.out.2
     go_wp2
     clear b0 b1 HBX7
     go_loopw [3, 55] (fun ov iv wr => ∃ (l : Nat) (zs : List Int), iv = .int .i64 (l : Int) ∧ l ≤ y.2.length ∧ Aside0 (kB.R 5 wr w.heap.size (fun _ => True) ov zs) ∧ Aside0 (zs.length ≤ 2100 + 6300 * i + 14 + 1045 * k + 1014 + 14 * l) ∧ Aside0 (Below w7.heap.size w7 wr)) (fun _ iv _ => ((y.2.length : Int) - intOf iv).toNat)
     case atStart => exact ⟨0, ys7, rfl, by omega, HR7, HL7b, ⟨Below.refl _ _⟩⟩
     case round =>
      clear HR7 HL7b
      obtain ⟨l, zs, rfl, hl, HR, HZ, HB⟩ := hrel
      obtain ⟨A3, c3, rfl⟩ := Kd.R_slice HR.out
      have hyl : y.2.length ≤ 2 := by obtain ⟨_, _, _, _, h⟩ := HNY.out; exact h
      by_cases hll : l < y.2.length
      ·have q0 : decide ((l : Int) < (y.2.length : Int)) = true := decide_eq_true (by omega)
       have u0 : (0 : Int) ≤ (l : Int) := by omega
       have u1 : (l : Int) < (y.2.length : Int) := by omega
       have HA7 := Aside0.mk (show wrap64 ((l : Int) + 1) = (l : Int) + 1 from wrap_id (by omega) (by omega))
       obtain ⟨ad3, rfl, k0, k1⟩ := at_Sp (Kd.C_below HS7.out HB.out) l hll
       generalize y.2.getD l zSp = s at k0 k1
       have HB2 := Aside0.mk (below_alloc (below_alloc (Below.refl wr.heap.size wr) (.cells #[.int .i64 s.1, .int .i64 s.2] 126)) (.cells #[.int .i64 s.1, .int .i64 (wrap64 (s.2 - s.1))] 3))
       have HC2 := Aside0.mk (C2 (wr.alloc (.cells #[.int .i64 s.1, .int .i64 s.2] 126)) s.1 (wrap64 (s.2 - s.1)))
       have hs1 : (wr.alloc (.cells #[.int .i64 s.1, .int .i64 s.2] 126)).heap.size = wr.heap.size + 1 := by simp
       have HR2 := Aside0.mk (Kd.R_below HR.out HB2.out)
       rw [hs1] at HC2
       clear hs1 HR
       go_wp2_with fail
       generalize (wr.alloc (.cells #[.int .i64 s.1, .int .i64 s.2] 126)).alloc (.cells #[.int .i64 s.1, .int .i64 (wrap64 (s.2 - s.1))] 3) = w8 at HB2 HC2 HR2 ⊢
       generalize wr.heap.size + 1 = gl at HC2 ⊢
       have HB3 := Aside0.mk (below_step HB.out HB2.out)
       clear HB HB2
       refine (vlq.Put.calls (ns := [s.1, wrap64 (s.2 - s.1)]) (Kd.R_reads' HR2.out).2.2 HC2.out (bnd_e HZ.out (Nat.le_trans hi HL.out) (Nat.le_trans hk hnl) (Nat.le_trans hl hyl)) (by simp)).mono ?_
       rintro e w9 ⟨v9, ys, rfl, hr9, hl9, -, hb9⟩
       obtain ⟨A9, c9, rfl⟩ := Kd.R_slice hr9
       have HB9 := Aside0.mk (below_step HB3.out hb9)
       have HR9 := Aside0.mk (Kd.R_lower hr9 (Nat.le_trans HW1.out.size HB3.out.size))
       have HL9 := Aside0.mk (show ys.length ≤ 2100 + 6300 * i + 14 + 1045 * k + 1014 + 14 * (l + 1) from bnd_a HZ.out hl9)
       clear hr9 hl9 hb9 HC2 HR2 HB3 HZ
       have a7 := HA7.out
       go_wp2
       go_roundw
       case rel => exact ⟨l + 1, ys, by go_num, hll, HR9, HL9, HB9⟩
       case measure => first | (rw [a7]; exact meas _ _ hll) | exact meas _ _ hll
      ·have q0 : decide ((l : Int) < (y.2.length : Int)) = false := decide_eq_false (by omega)
       have HZ2 := Aside0.mk (show zs.length ≤ 2100 + 6300 * i + 14 + 1045 * (k + 1) from bnd_b HZ.out (Nat.le_trans hl hyl))
       have HB5 := Aside0.mk (below_step HW9.out HB.out)
       have a8 := HA8.out
       go_wp2
       go_roundw
       case rel => exact ⟨k + 1, zs, by go_num, hlk, HR, HZ2, HB5⟩
       case measure => first | (rw [a8]; exact meas _ _ hlk) | exact meas _ _ hlk
    ·have q0 : decide ((k : Int) < (x.2.length : Int)) = false := decide_eq_false (by omega)
     have HZ2 := Aside0.mk (show zs.length ≤ 2100 + 6300 * (i + 1) from bnd_c HZ.out (Nat.le_trans hk hnl))
     have HB5 := Aside0.mk (below_step HB9.out HB.out)
     have a9 := HA9.out
     go_wp2
     go_roundw
     case rel => exact ⟨i + 1, zs, by go_num, hlt, HR, HZ2, HB5⟩
     case measure => first | (rw [a9]; exact meas _ _ hlt) | exact meas _ _ hlt
  ·have q0 : decide ((i : Int) < (xs.length : Int)) = false := decide_eq_false (by omega)
   have HZ2 := Aside0.mk (show zs.length ≤ 90000 from bnd_d HZ.out (Nat.le_trans hi hll))
   have HB5 := Aside0.mk (below_step HW7.out HB.out)
   go_wp2
   go_ret
   exact ⟨.slice A3 zs.length c3, zs, rfl, HR.out, HZ2.out, HB5.out⟩
structure Kf (N0 : Nat) (Ts : List Nat) (X : Nat → Prop) (w w' : World) : Prop where
 os : w'.os = w.os
 tape : w'.tape = w.tape
 output : w'.output = w.output
 size : w.heap.size ≤ w'.heap.size
 low : ∀ k, k < N0 → k < w.heap.size → w'.heap[k]? = w.heap[k]?
 keep : ∀ (k : Nat) (cells : Array Value) (t : Nat), w.heap[k]? = some (Obj.cells cells t (0, 0)) → t ∉ Ts → w'.heap[k]? = w.heap[k]?
 maps : ∀ (k : Nat) es c, w.heap[k]? = some (Obj.map es c) → ¬ X k → w'.heap[k]? = w.heap[k]?
section
variable {N0 : Nat} {Ts : List Nat} {X : Nat → Prop} {a b c w w' : World}
theorem Kf.refl : Kf N0 Ts X w w := ⟨rfl, rfl, rfl, Nat.le_refl _, fun _ _ _ => rfl, fun _ _ _ _ _ => rfl, fun _ _ _ _ _ => rfl⟩
theorem Kf.trans (h : Kf N0 Ts X a b) (k : Kf N0 Ts X b c) : Kf N0 Ts X a c :=
 ⟨k.os.trans h.os, k.tape.trans h.tape, k.output.trans h.output, Nat.le_trans h.size k.size, fun i hi hs => (k.low i hi (Nat.lt_of_lt_of_le hs h.size)).trans (h.low i hi hs),
  fun i cells t hi ht => (k.keep i cells t ((h.keep i cells t hi ht).trans hi) ht).trans (h.keep i cells t hi ht),
  fun i es cl hi hx => (k.maps i es cl ((h.maps i es cl hi hx).trans hi) hx).trans (h.maps i es cl hi hx)⟩
theorem Kf.below (h : Below a.heap.size a b) : Kf N0 Ts X a b :=
 ⟨h.os, h.tape, h.output, h.size, fun i _ hs => h.block i hs, fun i _ _ hi _ => h.block i (blk_lt hi), fun i _ _ hi _ => h.block i (blk_lt hi)⟩
theorem Kf.mono {Ts' : List Nat} {X' : Nat → Prop} (h : Kf N0 Ts X a b) (h1 : ∀ t, t ∈ Ts → t ∈ Ts') (h2 : ∀ k, X k → X' k) : Kf N0 Ts' X' a b :=
 ⟨h.os, h.tape, h.output, h.size, h.low, fun i cells t hi ht => h.keep i cells t hi (fun e => ht (h1 t e)), fun i es c hi hx => h.maps i es c hi (fun e => hx (h2 i e))⟩
theorem Kf.grown {g : Nat} {cs : Array Value} {t : Nat} (h : a.grownBy b (some g)) (hb : a.heap[g]? = some (.cells cs t (0, 0))) (ht : t ∈ Ts) (hn : N0 ≤ g) : Kf N0 Ts X a b :=
 ⟨h.os, h.tape, h.output, h.size, fun i hi hs => h.block i hs (fun e => by injection e with e; omega),
  fun i cells t' hi ht' => h.block i (blk_lt hi) (fun e => by injection e with e; subst e; rw [hb] at hi; injection hi with hi; injection hi with _ hi _; subst hi; exact ht' ht),
  fun i es c hi _ => h.block i (blk_lt hi) (fun e => by injection e with e; subst e; rw [hb] at hi; cases hi)⟩
theorem Kf.row {α : Type} {d : Kd α} {e : Nat} {ok : Nat → Prop} {v : Value} {xs : List α} (h : a.grownBy b v.ownBlock) (hr : d.R e a N0 ok v xs) (ht : e ∈ Ts) : Kf N0 Ts X a b :=
 ⟨h.os, h.tape, h.output, h.size, fun i hi hs => h.block i hs (fun e => by have := Kd.R_base hr i e.symm; omega),
  fun i cells t' hi ht' => h.block i (blk_lt hi) (fun e => by obtain ⟨cells', hc⟩ := Kd.R_typed hr i e.symm; rw [hc] at hi; injection hi with hi; injection hi with _ hi _; subst hi; exact ht' ht),
  fun i es c hi _ => h.block i (blk_lt hi) (fun e => by obtain ⟨cells', hc⟩ := Kd.R_typed hr i e.symm; rw [hc] at hi; cases hi)⟩
theorem Kf.map {g : Nat} {o : Obj} (h : a.grownBy b (some g)) (hb : a.heap[g]? = some o) (hcm : ∀ cells t, o ≠ .cells cells t (0, 0)) (hx : X g) (hn : N0 ≤ g) : Kf N0 Ts X a b :=
 ⟨h.os, h.tape, h.output, h.size, fun i hi hs => h.block i hs (fun e => by injection e with e; omega),
  fun i cells t' hi ht' => h.block i (blk_lt hi) (fun e => by injection e with e; subst e; rw [hb] at hi; injection hi with hi; exact hcm _ _ hi),
  fun i es c hi hx' => h.block i (blk_lt hi) (fun e => by injection e with e; subst e; exact hx' hx)⟩
theorem Kf.kp (h : Kf N0 Ts X a b) : Kp Ts (fun _ => False) a b := ⟨h.size, fun i cells t hi ht _ => h.keep i cells t hi ht⟩
theorem Kf.toBelow (h : Kf N0 Ts X a b) (hn : N0 ≤ a.heap.size) : Below N0 a b := ⟨h.os, h.tape, h.output, h.size, fun i hi => h.low i hi (by omega)⟩
theorem Kf.blk {g t : Nat} {cs : Array Value} (h : Kf N0 Ts X a b) (hb : a.heap[g]? = some (.cells cs t (0, 0))) (ht : t ∉ Ts) : b.heap[g]? = some (.cells cs t (0, 0)) := (h.keep g cs t hb ht).trans hb
theorem R_kf {α : Type} {d : Kd α} {e : Nat} {ok : Nat → Prop} {base : Nat} {v : Value} {xs : List α} (hr : d.R e a base ok v xs) (h : Kf N0 Ts X a b) (ht : ∀ q, q ∈ e :: d.E → q ∉ Ts) : d.R e b base ok v xs := R_kp hr h.kp ht (fun _ _ h => h)
theorem MV.kf {k : TypeId} {m s : Nat} {pl : Lit → Option Value} (hm : MV k a m s pl) (h : Kf N0 Ts X a b) (hx : ¬ X m) : MV k b m s pl := by
 obtain ⟨D, ⟨es, clock, hb, hr⟩, h2, h3⟩ := hm
 exact ⟨D, ⟨es, clock, (h.maps m es clock hb hx).trans hb, hr⟩, h2, h3⟩
theorem IX.kf {g : Nat} (hi : IX a g) (h : Kf N0 Ts X a b) (ht : 157 ∉ Ts) (hx : ∀ m, a.heap[g]? = some (.cells #[.map (some m)] 157 (0, 0)) → ¬ X m) : IX b g := by
 obtain ⟨m, h1, h2⟩ := hi
 exact ⟨m, h.blk h1 ht, h2.kf h (hx m h1)⟩
end
def FT : List Nat := [173, 229, 235, 232, 324, 9]
section
variable {N0 : Nat} {w w' : World} {g : Nat} {n : FN} {m : Nat} {base cap : Int} {b : Nat} {s : Nat → Int × ByteArray} {gv : Int} {v : Nat → Value} {q : Nat → List ByteArray} {last : Int} {sz : Nat → Nat} {pl : Nat → Lit → Option Value}
theorem FE.kinds (h : FE N0 w g n m base cap b s gv v q last sz pl) (k : Nat) (hk : FE.foot g n v k) : (∃ cells t, w.heap[k]? = some (.cells cells t (0, 0)) ∧ t ∈ FT) ∨ ∃ es c, w.heap[k]? = some (.map es c) := by
 rcases hk with rfl | rfl | rfl | rfl | rfl | hk | ⟨c, hc, rfl⟩
 ·exact .inl ⟨_, _, h.blk, by simp [FT]⟩
 ·exact .inl ⟨_, _, h.fl, by simp [FT]⟩
 ·exact .inr h.had.blk
 ·exact .inl ⟨_, _, h.ti.1, by simp [FT]⟩
 ·exact .inr h.ti.2.blk
 ·rcases hk with rfl | rfl | ⟨i, hi, hk⟩
  ·exact .inl ⟨_, _, h.tq.blk, by simp [FT]⟩
  ·exact .inl ⟨_, _, h.tq.row, by simp [FT]⟩
  ·obtain ⟨_, inner, ho, _⟩ := h.tq.own i hi
   obtain ⟨_, cells', hc'⟩ := q_typed ho _ hk
   exact .inl ⟨_, _, hc', by simp [FT]⟩
 ·exact .inr (h.mv c hc).blk
theorem FE.foot_low (h : FE N0 w g n m base cap b s gv v q last sz pl) (k : Nat) (hk : FE.foot g n v k) : N0 ≤ k := by
 obtain ⟨l1, l2, l3, l4, l5, l6⟩ := h.low
 rcases hk with rfl | rfl | rfl | rfl | rfl | hk | ⟨c, hc, rfl⟩
 ·exact l1
 ·exact l2
 ·exact l3
 ·exact l4
 ·exact l5
 ·exact h.tq.foot_low k hk
 ·exact l6 c hc
def FZ (N0 : Nat) (w : World) (g : Nat) (Z : Nat → Prop) (b : Nat) : Prop := FX N0 w g (fun k => ¬ Z k) b ∧ ∀ k, Z k → k < w.heap.size
theorem FE.toKf {Z : Nat → Prop} (h : FE N0 w g n m base cap b s gv v q last sz pl) (hz : ∀ k, FE.foot g n v k → ¬ Z k) (hf : Frm (FE.foot g n v) w w') : Kf N0 FT (fun k => ¬ Z k) w w' :=
 ⟨hf.os, hf.tape, hf.output, hf.size, fun k hk hs => hf.keep k hs (fun e => by have := h.foot_low k e; omega),
  fun k cells t hc ht => hf.keep k (blk_lt hc) (fun e => by
   rcases h.kinds k e with ⟨c2, t2, h2, h3⟩ | ⟨es, c2, h2⟩
   ·rw [hc] at h2; injection h2 with h2; injection h2 with _ h2 _; subst h2; exact ht h3
   ·rw [hc] at h2; cases h2),
  fun k es c hc hx => hf.keep k (blk_lt hc) (fun e => hx (fun hzk => hz k e hzk))⟩
variable {Z : Nat → Prop}
theorem FZ.step {b' : Nat} (h1 : FE N0 w g n m base cap b s gv v q last sz pl) (h2 : ∀ k, FE.foot g n v k → ¬ Z k) (hz : ∀ k, Z k → k < w.heap.size) (hx : FX N0 w' g (orNew (FE.foot g n v) w) b') (hf : Frm (FE.foot g n v) w w') : FZ N0 w' g Z b' ∧ Kf N0 FT (fun k => ¬ Z k) w w' :=
 ⟨⟨hx.mono (fun k hk hzk => by
  rcases hk with hk | hk
  ·exact h2 k hk hzk
  ·have := hz k hzk; omega) (Nat.le_refl _), fun k hk => Nat.lt_of_lt_of_le (hz k hk) hf.size⟩, h1.toKf h2 hf⟩
theorem FZ.kf {Ts : List Nat} {X : Nat → Prop} (h : FZ N0 w g Z b) (hk : Kf N0 Ts X w w') (ht : ∀ t, t ∈ FT → t ∉ Ts) (hx : ∀ k, X k → Z k) : FZ N0 w' g Z b := by
 obtain ⟨⟨n, m, base, cap, s, gv, v, q, last, sz, pl, h1, h2⟩, hz⟩ := h
 have hf : Frm (fun k => ¬ w'.heap[k]? = w.heap[k]?) w w' := ⟨hk.os, hk.tape, hk.output, hk.size, fun k _ h => Classical.not_not.1 h⟩
 refine ⟨⟨n, m, base, cap, s, gv, v, q, last, sz, pl, h1.frm hf (fun k hf hn => hn ?_), h2⟩, fun k h => Nat.lt_of_lt_of_le (hz k h) hk.size⟩
 rcases h1.kinds k hf with ⟨c, t, hc, htt⟩ | ⟨es, c, hc⟩
 ·exact hk.keep k c t hc (ht t htt)
 ·exact hk.maps k es c hc (fun e => h2 k hf (hx k e))
theorem FZ.mono {Z' : Nat → Prop} {b' : Nat} (h : FZ N0 w g Z b) (hz : ∀ k, Z' k → Z k) (hb : b ≤ b') : FZ N0 w g Z' b' := ⟨h.1.mono (fun k hk hz' => hk (hz k hz')) hb, fun k hk => h.2 k (hz k hk)⟩
theorem Want.z (h : FZ N0 w g Z b) (hb : b ≤ 80000) (c : Nat) (hc : c < 9) (x : ByteArray) (hx : x.size ≤ 1000) : Calls Tryz.prog 111 #[.pointer (some ⟨g, 0, none⟩), .int .i64 (c : Int), .string x] w fun e w' => (∃ t : Bool, e = .returned (.bool t)) ∧ FZ N0 w' g Z (b + 1) ∧ Kf N0 FT (fun k => ¬ Z k) w w' := by
 obtain ⟨⟨n, m, base, cap, s, gv, v, q, last, sz, pl, h1, h2⟩, hz⟩ := h
 refine (fetch.Want.calls (F := FE.foot g n v) ⟨n, m, base, cap, s, gv, v, q, last, sz, pl, h1, fun _ h => h⟩ hb c hc x hx).mono ?_
 rintro e w5 ⟨he, hx5, hf5⟩
 exact ⟨he, FZ.step h1 h2 hz hx5 hf5⟩
theorem Want.zz (h : FZ N0 w g Z b) (hb : b ≤ 80000) (c : Nat) (hc : c < 9) (x : ByteArray) (hx : x.size ≤ 1000) : Calls Tryz.prog 111 #[.pointer (some ⟨g, 0, none⟩), .int .i64 (c : Int), .string x] w fun e w' => (∃ t : Bool, e = .returned (.bool t)) ∧ FZ N0 w' g Z (b + 1) ∧ Kf N0 FT (fun k => ¬ Z k) w w' ∧ ∀ k, Z k → w'.heap[k]? = w.heap[k]? := by
 obtain ⟨⟨n, m, base, cap, s, gv, v, q, last, sz, pl, h1, h2⟩, hz⟩ := h
 refine (fetch.Want.calls (F := FE.foot g n v) ⟨n, m, base, cap, s, gv, v, q, last, sz, pl, h1, fun _ h => h⟩ hb c hc x hx).mono ?_
 rintro e w5 ⟨he, hx5, hf5⟩
 have h3 := FZ.step h1 h2 hz hx5 hf5
 exact ⟨he, h3.1, h3.2, fun k hk => hf5.keep k (hz k hk) (fun hf => h2 k hf hk)⟩
theorem FZ.grow {Ts : List Nat} {X : Nat → Prop} (h : FZ N0 w g Z b) (hk : Kf N0 Ts X w w') (ht : ∀ t, t ∈ FT → t ∉ Ts) (hx : ∀ k, X k → Z k) : FZ N0 w' g (fun k => Z k ∨ w.heap.size ≤ k ∧ k < w'.heap.size) b := by
 have h' : FZ N0 w g (fun k => Z k) b := h
 obtain ⟨⟨n, m, base, cap, s, gv, v, q, last, sz, pl, h1, h2⟩, hz⟩ := h
 have h3 : FZ N0 w g (fun k => Z k ∨ False) b := h'.mono (fun k h => h.elim id False.elim) (Nat.le_refl _)
 have hf : Frm (fun k => ¬ w'.heap[k]? = w.heap[k]?) w w' := ⟨hk.os, hk.tape, hk.output, hk.size, fun k _ h => Classical.not_not.1 h⟩
 refine ⟨⟨n, m, base, cap, s, gv, v, q, last, sz, pl, h1.frm hf (fun k hf hn => hn ?_), fun k hk hz' => ?_⟩, fun k h => ?_⟩
 ·rcases h1.kinds k hf with ⟨c, t, hc, htt⟩ | ⟨es, c, hc⟩
  ·exact hk.keep k c t hc (ht t htt)
  ·exact hk.maps k es c hc (fun e => h2 k hf (hx k e))
 ·rcases hz' with h | h
  ·exact h2 k hk h
  ·have := h1.lt k hk; omega
 ·rcases h with h | h
  ·exact Nat.lt_of_lt_of_le (hz k h) hk.size
  ·exact h.2
theorem Leave.z (h : FZ N0 w g Z b) (c : Nat) (hc : c < 9) : Calls Tryz.prog 146 #[.pointer (some ⟨g, 0, none⟩), .int .i64 (c : Int)] w fun e w' => (∃ t : Int, e = .returned (.int .i64 t)) ∧ FZ N0 w' g Z b ∧ Kf N0 FT (fun k => ¬ Z k) w w' := by
 obtain ⟨⟨n, m, base, cap, s, gv, v, q, last, sz, pl, h1, h2⟩, hz⟩ := h
 refine (fetch.Leave.calls (F := FE.foot g n v) ⟨n, m, base, cap, s, gv, v, q, last, sz, pl, h1, fun _ h => h⟩ c hc).mono ?_
 rintro e w5 ⟨he, hx5, hf5⟩
 exact ⟨he, FZ.step h1 h2 hz hx5 hf5⟩
theorem Tick.z (h : FZ N0 w g Z b) (now : Int) : Calls Tryz.prog 106 #[.pointer (some ⟨g, 0, none⟩), .int .i64 now] w fun e w' => (∃ t, e = .returned t) ∧ w' = w := fetch.Tick.calls h.1 now
theorem Issues.z (h : FZ N0 w g Z b) (hb : b ≤ 80000) : Calls Tryz.prog 112 #[.pointer (some ⟨g, 0, none⟩)] w fun e w' => ∃ A c, ∃ xs : List (Int × ByteArray), e = .returned (.slice A xs.length c) ∧ xs.length ≤ 8 ∧ kIss.R 206 w' w.heap.size (fun _ => True) (.slice A xs.length c) xs ∧ FZ N0 w' g Z (b + 8) ∧ Kf N0 FT (fun k => ¬ Z k) w w' := by
 obtain ⟨⟨n, m, base, cap, s, gv, v, q, last, sz, pl, h1, h2⟩, hz⟩ := h
 refine (fetch.Issues.calls (F := FE.foot g n v) ⟨n, m, base, cap, s, gv, v, q, last, sz, pl, h1, fun _ h => h⟩ hb).mono ?_
 rintro e w5 ⟨A, c, xs, he, hl, hc, hx5, hf5⟩
 exact ⟨A, c, xs, he, hl, hc, FZ.step h1 h2 hz (hx5.mono (fun _ h => .inl h) (Nat.le_refl _)) hf5⟩
theorem fetch.New.z (m : Nat) (base cap : Int) (h1 : 1 ≤ m) (h8 : m ≤ 8) (hb0 : 0 ≤ base) (hb1 : base ≤ 1099511627776) (hc0 : 0 ≤ cap) (hc1 : cap ≤ 1099511627776) (w : World) (Z : Nat → Prop) (hz : ∀ k, Z k → k < w.heap.size) (hN : N0 ≤ w.heap.size) : Calls Tryz.prog 38 #[.int .i64 (m : Int), .int .i64 base, .int .i64 cap] w fun e w' => ∃ g, e = .returned (.pointer (some ⟨g, 0, none⟩)) ∧ FZ N0 w' g Z 0 ∧ Below w.heap.size w w' := by
 refine (fetch.New.calls m base cap h1 h8 hb0 hb1 hc0 hc1 w).mono ?_
 rintro e w5 ⟨g, he, hx, hb⟩
 refine ⟨g, he, ⟨?_, fun k hk => Nat.lt_of_lt_of_le (hz k hk) hb.size⟩, hb⟩
 obtain ⟨n, m, base, cap, s, gv, v, q, last, sz, pl, h1, h2⟩ := hx
 exact ⟨n, m, base, cap, s, gv, v, q, last, sz, pl, { h1 with tq := h1.tq.lower hN, low := by obtain ⟨l1, l2, l3, l4, l5, l6⟩ := h1.low; exact ⟨by omega, by omega, by omega, by omega, by omega, fun c hc => by have := l6 c hc; omega⟩ }, fun k hk hzk => by have := h2 k hk; have := hz k hzk; omega⟩
end
def CN (w0 : World) (N0 : Nat) (w : World) (gc gx : Nat) (xs : List Nd) : Prop := ∃ vr gt gs a4 a5 a6 vlog a8 a12, w.heap[gc]? = some (.cells #[.pointer (some ⟨gx, 0, none⟩), vr, .pointer (some ⟨gt, 0, none⟩), .pointer (some ⟨gs, 0, none⟩), a4, a5, a6, vlog, a8, .int .i64 0, .int .i64 0, .string ⟨#[]⟩, a12] 306 (0, 0)) ∧ (kNm w0).R 117 w N0 (fun _ => True) vr xs ∧ w.heap[gt]? = some (.cells #[.slice none 0 0, .slice none 0 0] 359 (0, 0)) ∧ ∃ Av cv m, w.heap[gs]? = some (.cells #[.slice Av xs.length cv, .map (some m)] 363 (0, 0))
theorem CN.lower {w0 w : World} {N0 N1 gc gx : Nat} {xs : List Nd} (h : CN w0 N1 w gc gx xs) (hn : N0 ≤ N1) : CN w0 N0 w gc gx xs := by
 obtain ⟨vr, gt, gs, a4, a5, a6, vlog, a8, a12, h1, h2, h3, h4⟩ := h
 exact ⟨vr, gt, gs, a4, a5, a6, vlog, a8, a12, h1, Kd.R_lower h2 hn, h3, h4⟩
theorem kNmE (w0 : World) : (kNm w0).E = [126] := rfl
theorem CN.kf {w0 w w' : World} {N0 N1 gc gx : Nat} {Ts : List Nat} {X : Nat → Prop} {xs : List Nd} (h : CN w0 N1 w gc gx xs) (hk : Kf N0 Ts X w w') (ht : 306 ∉ Ts ∧ 117 ∉ Ts ∧ 126 ∉ Ts ∧ 359 ∉ Ts ∧ 363 ∉ Ts) : CN w0 N1 w' gc gx xs := by
 obtain ⟨vr, gt, gs, a4, a5, a6, vlog, a8, a12, h1, h2, h3, Av, cv, m, h4⟩ := h
 refine ⟨vr, gt, gs, a4, a5, a6, vlog, a8, a12, hk.blk h1 ht.1, R_kf h2 hk (fun q hq => ?_), hk.blk h3 ht.2.2.2.1, Av, cv, m, hk.blk h4 ht.2.2.2.2⟩
 rcases List.mem_cons.1 hq with rfl | hq
 ·exact ht.2.1
 ·rw [kNmE] at hq
  rw [List.mem_singleton.1 hq]
  exact ht.2.2.1
theorem NdOk_lt : ∀ (xs : List Nd) (lo : Nat), NdOk lo 8 xs → ∀ k, k < xs.length → ∃ j, lo ≤ j ∧ j < 8 ∧ (xs.getD k zNd).1 = nm j
 | x :: r, lo, ⟨j, h1, h2, h3, _, _, h6⟩, 0, _ => ⟨j, h1, h2, h3⟩
 | x :: r, lo, ⟨j, h1, h2, h3, _, _, h6⟩, k + 1, hk => by
  obtain ⟨i, a, b, c⟩ := NdOk_lt r _ h6 k (by simpa using hk)
  exact ⟨i, by omega, b, by simpa using c⟩
theorem nm_inj (j k : Nat) (hj : j < 8) (hk : k < j) : nm k ≠ nm j := fun e => (nm_after j j (nm k) (Nat.le_refl _) hj (.inr ⟨k, hk, rfl⟩)).2.2 (by rw [e])
theorem NdOk_ne : ∀ (xs : List Nd) (lo : Nat), NdOk lo 8 xs → ∀ i k, i < k → k < xs.length → (xs.getD i zNd).1 ≠ (xs.getD k zNd).1
 | x :: r, lo, ⟨j, h1, h2, h3, _, _, h6⟩, 0, k + 1, _, hk => by
  obtain ⟨i, a, b, c⟩ := NdOk_lt r _ h6 k (by simpa using hk)
  have e : ((x :: r).getD (k + 1) zNd).1 = nm i := by simpa using c
  rw [e]
  show x.1 ≠ nm i
  rw [h3]
  exact nm_inj i j b (by omega)
 | x :: r, lo, ⟨j, h1, h2, h3, _, _, h6⟩, i + 1, k + 1, hik, hk => by
  have := NdOk_ne r _ h6 i k (by omega) (by simpa using hk)
  simpa using this
theorem nm_size (j : Nat) (h : j < 8) : (nm j).size ≤ 1000 := by
 rcases (show j = 0 ∨ j = 1 ∨ j = 2 ∨ j = 3 ∨ j = 4 ∨ j = 5 ∨ j = 6 ∨ j = 7 by omega) with rfl | rfl | rfl | rfl | rfl | rfl | rfl | rfl <;> decide
theorem NdOk_small {xs : List Nd} (h : NdOk 0 8 xs) : ∀ x ∈ xs, x.2.length ≤ 1000 ∧ x.1.size ≤ 1000 := fun x hx => by
 obtain ⟨i, hi, rfl⟩ := List.getElem_of_mem hx
 obtain ⟨j, hj, e, _, h2⟩ := NdOk_at xs 0 h i hi
 rw [show xs.getD i zNd = xs[i] by simp [List.getD_eq_getElem?_getD, hi]] at e h2
 exact ⟨by omega, by rw [e]; exact nm_size j hj⟩
set_option maxRecDepth 100000 in
set_option maxHeartbeats 3000000 in
theorem core.New.calls {w0 w : World} {gx : Nat} {A : Option Addr} {c : Nat} {xs : List Nd} (h : kNd.C w0 A xs.length xs) (hb : Below w0.heap.size w0 w) (hl : xs.length ≤ 6) (hk : NdOk 0 8 xs) (rs kp : Int) : Calls Tryz.prog 140 #[.pointer (some ⟨gx, 0, none⟩), .slice A xs.length c, .int .i64 rs, .int .i64 kp] w fun e w' => ∃ gc, e = .returned (.pointer (some ⟨gc, 0, none⟩)) ∧ CN w0 w.heap.size w' gc gx xs ∧ Below w.heap.size w w' ∧ w.heap.size ≤ gc := by
 have H := Aside0.mk h
 have HB0 := Aside0.mk hb
 have HL := Aside0.mk (And.intro hl hk)
 have HS := Aside0.mk (NdOk_small hk)
 have hmm := @run_makeMap Tryz.prog
 clear h hb hl hk
 go_enter Tryz.func140, Tryz.ntmps140
 go_wp2_with fail
 refine (need.Check.calls (Kd.C_below H.out HB0.out) HL.out.1 HL.out.2).mono ?_
 rintro e w2 ⟨rfl, hb2⟩
 have HB2 := Aside0.mk hb2
 clear hb2
 go_wp2_with fail
 refine (need.Both.calls H.out (HB0.out.trans (HB2.out.mono HB0.out.size)) HL.out.1 (fun x hx => (HS.out x hx).1)).mono ?_
 rintro e w3 ⟨v3, rfl, hr3, hb3⟩
 obtain ⟨A3, c3, rfl⟩ := Kd.R_slice hr3
 have HR3 := Aside0.mk (Kd.R_lower hr3 HB2.out.size)
 have HB3 := Aside0.mk (below_step HB2.out hb3)
 clear hr3 hb3 HB2
 go_wp2_with fail
 refine (trail.New.calls w3).mono ?_
 rintro e w4 ⟨rfl, hg4, hb4⟩
 have HR4 := Aside0.mk (Kd.R_below HR3.out hb4)
 have HT4 := Aside0.mk hg4
 have HB4 := Aside0.mk (below_step HB3.out hb4)
 clear hg4 hb4 HR3
 generalize w3.heap.size = gt at HT4 ⊢
 go_wp2_with fail
 refine (store.New.calls w4).mono ?_
 rintro e w5 ⟨rfl, hg5, hm5, hb5⟩
 have HR5 := Aside0.mk (Kd.R_below HR4.out hb5)
 have HT5 := Aside0.mk (blk_below HT4.out hb5)
 have HSB5 := Aside0.mk (show SB w5 w.heap.size (w4.heap.size + 1) 0 (fun _ => none) from ⟨by have := HB4.out.size; omega, _, _, [], 0, hg5, HB4.out.size, Kd.R_nil _ _ _ _ _, rfl, hm5, Nat.le_refl _⟩)
 have HB5 := Aside0.mk (below_step HB4.out hb5)
 clear hg5 hm5 hb5 HR4 HT4 HB4 HB3
 generalize w4.heap.size + 1 = gs at HSB5 ⊢
 go_wp2_with fail
 refine (pace.New.calls rs w5).mono ?_
 rintro e w6 ⟨⟨gp, rfl⟩, hb6⟩
 have HR6 := Aside0.mk (Kd.R_below HR5.out hb6)
 have HT6 := Aside0.mk (blk_below HT5.out hb6)
 have HSB6 := Aside0.mk (SB.grown (Ts := []) HSB5.out (grown_of_below hb6 none) (fun k hk => by cases hk) (by decide) (fun k hk => by cases hk))
 have HB6 := Aside0.mk (below_step HB5.out hb6)
 clear hb6 HR5 HT5 HSB5 HB5
 obtain ⟨mx, hmx⟩ : ∃ mx, (if kp < 0 then (0 : Int) else kp) = mx := ⟨_, rfl⟩
 go_wp2_with fail
 have hb7 := below_alloc (below_alloc (below_alloc (Below.refl w6.heap.size w6) (.map #[] 0)) (.map #[] 0)) (.cells #[.pointer (some ⟨gx, 0, none⟩), .slice A3 xs.length c3, .pointer (some ⟨gt, 0, none⟩), .pointer (some ⟨gs, 0, none⟩), .pointer (some ⟨gp, 0, none⟩), .int .i64 mx, .map (some w6.heap.size), .slice none 0 0, .map (some (w6.heap.size + 1)), .int .i64 0, .int .i64 0, .string ⟨#[]⟩, .slice none 0 0] 306)
 have hc7 := blk_new ((w6.alloc (.map #[] 0)).alloc (.map #[] 0)) (.cells #[.pointer (some ⟨gx, 0, none⟩), .slice A3 xs.length c3, .pointer (some ⟨gt, 0, none⟩), .pointer (some ⟨gs, 0, none⟩), .pointer (some ⟨gp, 0, none⟩), .int .i64 mx, .map (some w6.heap.size), .slice none 0 0, .map (some (w6.heap.size + 1)), .int .i64 0, .int .i64 0, .string ⟨#[]⟩, .slice none 0 0] 306)
 rw [show ((w6.alloc (.map #[] 0)).alloc (.map #[] 0)).heap.size = w6.heap.size + 1 + 1 by simp] at hc7
 have HR7 := Aside0.mk (Kd.R_below HR6.out hb7)
 have HT7 := Aside0.mk (blk_below HT6.out hb7)
 have HSB7 := Aside0.mk (SB.grown (Ts := []) HSB6.out (grown_of_below hb7 none) (fun k hk => by cases hk) (by decide) (fun k hk => by cases hk))
 have HC7 := Aside0.mk hc7
 have HB7 := Aside0.mk (below_step HB6.out hb7)
 have HGC := Aside0.mk (show w.heap.size ≤ w6.heap.size + 1 + 1 from by have := HB6.out.size; omega)
 clear hb7 hc7 HR6 HT6 HSB6 HB6
 generalize ((w6.alloc (.map #[] 0)).alloc (.map #[] 0)).alloc (.cells #[.pointer (some ⟨gx, 0, none⟩), .slice A3 xs.length c3, .pointer (some ⟨gt, 0, none⟩), .pointer (some ⟨gs, 0, none⟩), .pointer (some ⟨gp, 0, none⟩), .int .i64 mx, .map (some w6.heap.size), .slice none 0 0, .map (some (w6.heap.size + 1)), .int .i64 0, .int .i64 0, .string ⟨#[]⟩, .slice none 0 0] 306) = w7 at HR7 HT7 HSB7 HC7 HB7 ⊢
 generalize w6.heap.size + 1 + 1 = gc at HC7 HGC ⊢
 generalize w6.heap.size + 1 = m2 at HC7 ⊢
 generalize w6.heap.size = m1 at HC7 ⊢
 have HBW := Aside0.mk (HB0.out.trans (HB7.out.mono HB0.out.size))
 refine (fact.Root.calls (kNm_read HBW.out (Kd.R_reads' HR7.out).2.2) HL.out.1 HS.out).mono ?_
 rintro e w8 ⟨v8, l, u8, Su, rfl, hr8, hf8, hu8, hSl, hll, hb8⟩
 obtain ⟨A8, c8, rfl⟩ := Kd.R_slice hr8
 obtain ⟨Au, cu, rfl⟩ := Kd.R_slice hu8
 have HRL8 := Aside0.mk (Kd.R_mono (Kd.R_bound (Kd.R_lower hr8 HB7.out.size)) (ok' := fun k => k < w8.heap.size) (fun k hk => hk.2.2.1))
 have HRU8 := Aside0.mk (Kd.R_mono (Kd.R_bound (Kd.R_lower hu8 HB7.out.size)) (ok' := fun k => k < w8.heap.size) (fun k hk => hk.2.2.1))
 have HF := Aside0.mk (And.intro hf8 (And.intro hSl hll))
 have HR8 := Aside0.mk (Kd.R_below HR7.out hb8)
 have HT8 := Aside0.mk (blk_below HT7.out hb8)
 have HC8 := Aside0.mk (blk_below HC7.out hb8)
 have HSB8 := Aside0.mk (SB.grown (Ts := []) HSB7.out (grown_of_below hb8 none) (fun k hk => by cases hk) (by decide) (fun k hk => by cases hk))
 have HB8 := Aside0.mk (below_step HB7.out hb8)
 clear hr8 hf8 hu8 hSl hll hb8 HR7 HT7 HC7 HSB7 HB7 HBW
 go_wp2
 go_loopw [44] (fun iv wr => ∃ (i : Nat) (pl : Lit → Option Value) (vlog : Value) (S : List St), iv = .int .i64 (i : Int) ∧ i ≤ l.length ∧ Aside0 (wr.heap[gc]? = some (.cells #[.pointer (some ⟨gx, 0, none⟩), .slice A3 xs.length c3, .pointer (some ⟨gt, 0, none⟩), .pointer (some ⟨gs, 0, none⟩), .pointer (some ⟨gp, 0, none⟩), .int .i64 mx, .map (some m1), vlog, .map (some m2), .int .i64 0, .int .i64 0, .string ⟨#[]⟩, .slice none 0 0] 306 (0, 0))) ∧ Aside0 (kSt.R 219 wr w.heap.size (fun _ => True) vlog S ∧ S.length = i ∧ ∀ k, vlog.ownBlock = some k → w8.heap.size ≤ k) ∧ Aside0 (SB wr w.heap.size gs i pl ∧ ∀ k, (pl k).isSome = true → ∃ j, j < i ∧ k = ky (xs.getD j zNd).1) ∧ Aside0 (kTL.R 310 wr w.heap.size (fun k => k < w8.heap.size) (.slice A8 l.length c8) l) ∧ Aside0 (kSt.R 219 wr w.heap.size (fun k => k < w8.heap.size) (.slice Au Su.length cu) Su) ∧ Aside0 ((kNm w0).R 117 wr w.heap.size (fun _ => True) (.slice A3 xs.length c3) xs) ∧ Aside0 (wr.heap[gt]? = some (.cells #[.slice none 0 0, .slice none 0 0] 359 (0, 0))) ∧ Aside0 (w8.heap.size ≤ wr.heap.size) ∧ Aside0 (Below w.heap.size w wr)) (fun iv _ => ((l.length : Int) - intOf iv).toNat)
 case atStart => exact ⟨0, _, _, [], rfl, by omega, HC8, ⟨Kd.R_nil _ _ _ _ _, rfl, fun k hk => by simp [Value.ownBlock] at hk⟩, ⟨HSB8.out, fun k hk => by simp at hk⟩, HRL8, HRU8, HR8, HT8, ⟨Nat.le_refl _⟩, HB8⟩
 case round =>
  clear HRL8 HRU8 HR8 HT8 HC8 HSB8 HB8
  obtain ⟨i, pl, vlog, S, rfl, hi, HC, HLG, HSB, HRL, HRU, HR, HT, HW8, HB⟩ := hrel
  have hll := HF.out.2.2
  have hSl := HF.out.2.1
  have hl6 := HL.out.1
  by_cases hlt : i < l.length
  ·have q0 : decide ((i : Int) < (l.length : Int)) = true := decide_eq_true (by omega)
   have u0 : (0 : Int) ≤ (i : Int) := by omega
   have u1 : (i : Int) < (l.length : Int) := by omega
   have u2 : (i : Int) < (Su.length : Int) := by omega
   have HA9 := Aside0.mk (show wrap64 ((i : Int) + 1) = (i : Int) + 1 from wrap_id (by omega) (by omega))
   obtain ⟨ad, cx, ex⟩ := Kd.R_slice1 HRL.out (by omega)
   injection ex with e1 e2 e3
   subst e1
   clear e2 e3
   obtain ⟨cs, hcl, hM, hcc⟩ := Go.Proofs.YtceffpgcbihckaaGreatW.PrintMore.Kd.R_get HRL.out [] (i : Int) u0 u1
   rw [Int.toNat_natCast] at hM hcc
   have HTM := Aside0.mk (HF.out.1.2 i hlt)
   generalize l.getD i [] = ts at hM HTM
   obtain ⟨vt, rfl, hRt⟩ := hM
   obtain ⟨At, ct, rfl⟩ := Kd.R_slice hRt
   have k0 : wr.cell? (ad.add i) = some (.slice At ts.length ct) := by
    have := hcc 0 _ rfl
    simpa [kTL, Kd.slice] using this
   obtain ⟨au, eu, y0, y1, y2, y3, y4, y5⟩ := at_St (Kd.R_reads' HRU.out).2.2 i (by omega)
   subst eu
   generalize Su.getD i zSt = st at y0 y1 y2 y3 y4 y5
   have HXS := Aside0.mk (HS.out _ (getD_mem xs zNd i (by omega))).2
   have HNW := Aside0.mk (show pl (ky (xs.getD i zNd).1) = none from by
    cases hp : pl (ky (xs.getD i zNd).1) with
    | none => rfl
    | some v =>
     obtain ⟨j, hj, e⟩ := HSB.out.2 (ky (xs.getD i zNd).1) (by rw [hp]; rfl)
     exact absurd e.symm (ky_ne (NdOk_ne xs 0 HL.out.2 j i hj (by omega))))
   have HPUT := Aside0.mk (core.put.calls HC.out HGC.out HLG.out.1 (by have := HLG.out.2.1; omega) HSB.out.1 HB.out.size hRt HTM.out HXS.out HNW.out (by omega) st.1.1 st.1.2.1 st.1.2.2 st.2.1 st.2.2.1 st.2.2.2)
   have HII := Aside0.mk (And.intro hlt (And.intro hll hl6))
   clear hcc hcl hRt HXS HNW hll hSl hl6
   go_wp2_with fail
   refine HPUT.out.mono ?_
   clear HPUT
   rintro e w10 ⟨rfl, ⟨vlog2, S2, hc2, hl2, hS2, hat2⟩, ⟨pl2, hsb2, hpl2⟩, hk2, hb2⟩
   have HC2 := Aside0.mk hc2
   have HLG2 := Aside0.mk (show kSt.R 219 w10 w.heap.size (fun _ => True) vlog2 S2 ∧ S2.length = i + 1 ∧ ∀ k, vlog2.ownBlock = some k → w8.heap.size ≤ k from ⟨hl2, by rw [hS2, HLG.out.2.1], fun k hk => by
    rcases hat2 with ha | ⟨b, ha, hb⟩
    ·exact HLG.out.2.2 k (ha ▸ hk)
    ·rw [ha] at hk; injection hk with hk; have := HW8.out; omega⟩)
   have HSB2 := Aside0.mk (show SB w10 w.heap.size gs (i + 1) pl2 ∧ ∀ k, (pl2 k).isSome = true → ∃ j, j < i + 1 ∧ k = ky (xs.getD j zNd).1 from ⟨hsb2, fun k hk => by
    rcases hpl2 k hk with h | h
    ·obtain ⟨j, hj, e⟩ := HSB.out.2 k h
     exact ⟨j, by omega, e⟩
    ·exact ⟨i, by omega, h⟩⟩)
   have HRL2 := Aside0.mk (R_kp HRL.out hk2 (by decide) (fun k hk e => by have := HLG.out.2.2 k e; omega))
   have HRU2 := Aside0.mk (R_kp HRU.out hk2 (by decide) (fun k hk e => by have := HLG.out.2.2 k e; omega))
   have HR2 := Aside0.mk (Kd.R_mono (R_kp (Kd.R_apartR HR.out HLG.out.1 (by rw [kNmE]; decide)) hk2 (by rw [kNmE]; decide) (fun k hk e => hk.2 e.symm)) (ok' := fun _ => True) (fun _ _ => trivial))
   have HT2 := Aside0.mk (hk2.blk HT.out (by decide) (fun e => Kd.R_ne HLG.out.1 HT.out (by decide) e.symm))
   have HB2 := Aside0.mk (below_go HB.out hb2)
   have HW2 := Aside0.mk (Nat.le_trans HW8.out hk2.1)
   clear hc2 hl2 hS2 hat2 hsb2 hpl2 hk2 hb2 HC HLG HSB HRL HRU HR HT HB HW8 k0 y0 y1 y2 y3 y4 y5
   have a9 := HA9.out
   have hlt := HII.out.1
   go_wp2
   go_roundw
   case rel => exact ⟨i + 1, pl2, vlog2, S2, by go_num, hlt, HC2, HLG2, HSB2, HRL2, HRU2, HR2, HT2, HW2, HB2⟩
   case measure => first | (rw [a9]; exact meas _ _ hlt) | exact meas _ _ hlt
  ·have q0 : decide ((i : Int) < (l.length : Int)) = false := decide_eq_false (by omega)
   have HIE := Aside0.mk (show i = xs.length by omega)
   go_wp2
   go_ret
   refine ⟨gc, rfl, ⟨_, gt, gs, _, _, _, vlog, _, _, HC.out, HR.out, HT.out, ?_⟩, HB.out, HGC.out⟩
   obtain ⟨_, vl, gm, rows, s, h1, _, h3, h4, _, _⟩ := HSB.out.1
   obtain ⟨Av, cv, rfl⟩ := Kd.R_slice h3
   rw [h4, HIE.out] at h1
   exact ⟨Av, cv, gm, h1⟩
theorem below_of_none {w w' : World} (h : w.grownBy w' none) : Below w.heap.size w w' := ⟨h.os, h.tape, h.output, h.size, fun k hk => h.block k hk (by simp)⟩
theorem index.Get.calls {w : World} {g : Nat} (h : IX w g) (x : ByteArray) (hx : x.size ≤ 1000) : Calls Tryz.prog 271 #[.pointer (some ⟨g, 0, none⟩), .string x] w fun e w' => e = .returned (.tuple #[.agg #[.string x, .slice none 0 0], .bool false]) ∧ Below w.heap.size w w' := by
 have HI := Aside0.mk h
 clear h
 go_enter Tryz.func271, Tryz.ntmps271
 go_wp2_with fail
 have hb := below_alloc (below_alloc (Below.refl w.heap.size w) (.cells #[.string ⟨#[]⟩, .slice none 0 0] 91)) (.cells #[.string x, .slice none 0 0] 91)
 refine (index.Has.calls (HI.out.below hb) x hx).mono ?_
 rintro e w4 ⟨rfl, rfl⟩
 go_wp2
 refine bodyPost_ret (results_ct rfl _ _ w.heap.size 91 #[.string x, .slice none 0 0] (0, 0) _ rfl (blk_below (blk_new w _) (below_alloc (Below.refl _ _) _)) Tryz.underlying91 rfl (by kernel_rfl)) rfl ?_
 exact ⟨rfl, below_alloc (below_alloc (Below.refl _ _) _) _⟩
set_option maxRecDepth 100000 in
theorem idxHas.calls {w : World} {g : Nat} {A : Option Addr} {c : Nat} {xs : List ByteArray} (h : IX w g) (hr : Kd.string.C w A xs.length xs) (hn : xs.length ≤ 1000) (hs : ∀ x ∈ xs, x.size ≤ 1000) : Calls Tryz.prog 317 #[.slice A xs.length c, .func (.func 154) #[.pointer (some ⟨g, 0, none⟩)] #[]] w fun e w' => e = .returned (.int .i64 (-1)) ∧ w' = w := by
 have HI := Aside0.mk h
 have HR := Aside0.mk hr
 have HL := Aside0.mk (And.intro hn hs)
 clear h hr hn hs
 go_enter Tryz.func317, Tryz.ntmps317
 go_wp2
 go_loopw [8] (fun iv wr => ∃ i : Nat, iv = .int .i64 (i : Int) ∧ i ≤ xs.length ∧ wr = w) (fun iv _ => xs.length - (intOf iv).toNat)
 case atStart => exact ⟨0, rfl, by omega, rfl⟩
 case round =>
  obtain ⟨i, rfl, hi, rfl⟩ := hrel
  by_cases hil : i < xs.length
  ·have q0 : decide ((i : Int) < (xs.length : Int)) = true := decide_eq_true (by omega)
   have r0 : (0 : Int) ≤ (i : Int) := by omega
   have r1 : (i : Int) < (xs.length : Int) := by omega
   have hl1 := HL.out.1
   have a9 : wrap64 ((i : Int) + 1) = (i : Int) + 1 := wrap_id (by omega) (by omega)
   obtain ⟨ad, ea, hx⟩ := Kd.at_string HR.out (i : Int) r0 r1
   cases ea
   rw [strAt xs i hil] at hx
   have HM := Aside0.mk (HL.out.2 _ (List.getElem_mem hil))
   generalize xs[i] = y at hx HM
   rw [Int.toNat_natCast] at hx
   go_wp2_with fail
   refine (index.Has.calls HI.out y HM.out).mono ?_
   rintro e w5 ⟨rfl, rfl⟩
   go_wp2
   go_roundw
   case rel => exact ⟨i + 1, by go_num, by omega, trivial⟩
   case measure => simp [intOf]; omega
  ·have q0 : decide ((i : Int) < (xs.length : Int)) = false := decide_eq_false (by omega)
   go_wp2
   go_ret
   exact ⟨rfl, rfl⟩
theorem delHas.calls {w : World} {g : Nat} {A : Option Addr} {c : Nat} {xs : List ByteArray} (h : IX w g) (hr : Kd.string.C w A xs.length xs) (hn : xs.length ≤ 1000) (hs : ∀ x ∈ xs, x.size ≤ 1000) : Calls Tryz.prog 260 #[.slice A xs.length c, .func (.func 154) #[.pointer (some ⟨g, 0, none⟩)] #[]] w fun e w' => e = .returned (.slice A xs.length c) ∧ w' = w := by
 go_enter Tryz.func260, Tryz.ntmps260
 go_wp2_with fail
 refine (idxHas.calls h hr hn hs).mono ?_
 rintro e w5 ⟨rfl, rfl⟩
 clear h hr hn hs
 go_wp2
 go_ret
 exact ⟨rfl, rfl⟩
theorem mani.Names.calls (x : ByteArray) (w : World) : Calls Tryz.prog 319 #[.agg #[.string x, .slice none 0 0]] w fun e w' => e = .returned (.slice none 0 0) ∧ Below w.heap.size w w' := by
 have hmm := @run_makeMap Tryz.prog
 go_enter Tryz.func319, Tryz.ntmps319
 go_wp2
 have HB := Aside0.mk (below_alloc (below_alloc (Below.refl w.heap.size w) (.cells #[.string x, .slice none 0 0] 91)) (.map #[] 0))
 generalize (w.alloc (.cells #[.string x, .slice none 0 0] 91)).alloc (.map #[] 0) = w1 at HB ⊢
 go_loopw [13, 4] (fun iv ov wr => iv = .int .i64 0 ∧ ov = .slice none 0 0 ∧ wr = w1) (fun _ _ _ => 0)
 case atStart => exact ⟨rfl, rfl, rfl⟩
 case round =>
  obtain ⟨rfl, rfl, rfl⟩ := hrel
  go_wp2_with fail
  refine (sortOS.calls (Kd.R_nil Kd.string 9 wr wr.heap.size (fun _ => True)) (fun _ => rfl) (by simp)).mono ?_
  rintro e w5 ⟨rfl, ys, _, _, hg⟩
  have HB2 := Aside0.mk (below_step HB.out (below_of_none hg))
  go_wp2
  go_ret
  exact ⟨rfl, HB2.out⟩
def Sm (xs : List ByteArray) : Prop := ∀ x ∈ xs, x.size ≤ 1000
theorem Sm.snoc {xs : List ByteArray} {x : ByteArray} (h : Sm xs) (hx : x.size ≤ 1000) : Sm (xs ++ [x]) := fun y hy => by
 rcases List.mem_append.1 hy with h1 | h1
 ·exact h y h1
 ·rw [List.mem_singleton.1 h1]; exact hx
structure NB (w : World) (base ga gb gc m s : Nat) (pl : Lit → Option Value) (vt vo : Value) (todo out : List ByteArray) : Prop where
 ba : w.heap[ga]? = some (.cells #[.map (some m)] 165 (0, 0))
 mv : MV 9 w m s pl
 bb : w.heap[gb]? = some (.cells #[vt] 193 (0, 0))
 bc : w.heap[gc]? = some (.cells #[vo] 193 (0, 0))
 rt : Kd.string.R 9 w base (fun _ => True) vt todo
 ro : Kd.string.R 9 w base (fun _ => True) vo out
 sep : ∀ k, vt.ownBlock = some k → vo.ownBlock ≠ some k
 tf : ∀ k, ∃ t, (pl k).getD (.bool false) = .bool t
 ne : gb ≠ gc
 low : base ≤ gb ∧ base ≤ gc ∧ base ≤ m ∧ base ≤ ga
 nil : out = [] → vo = .slice none 0 0
 len : todo.length ≤ 100 ∧ out.length ≤ 100 ∧ s ≤ 100
theorem NB.below {w w' : World} {base ga gb gc m s : Nat} {pl : Lit → Option Value} {vt vo : Value} {todo out : List ByteArray} (h : NB w base ga gb gc m s pl vt vo todo out) (hb : Below w.heap.size w w') : NB w' base ga gb gc m s pl vt vo todo out :=
 { h with ba := blk_below h.ba hb, mv := h.mv.below hb, bb := blk_below h.bb hb, bc := blk_below h.bc hb, rt := Kd.R_below h.rt hb, ro := Kd.R_below h.ro hb }
theorem MV.rowk {k : TypeId} {w w' : World} {m s : Nat} {pl : Lit → Option Value} {α : Type} {d : Kd α} {e base : Nat} {ok : Nat → Prop} {v : Value} {xs : List α} (h : MV k w m s pl) (hr : d.R e w base ok v xs) (hg : w.grownBy w' v.ownBlock) : MV k w' m s pl := h.grown hg (fun e => by
 obtain ⟨es, cl, hm_⟩ := h.blk
 obtain ⟨cells_, hc_⟩ := Kd.R_typed hr _ e.symm
 rw [hm_] at hc_
 cases hc_)
theorem R_mapk {k : TypeId} {w w' : World} {m s : Nat} {pl : Lit → Option Value} {α : Type} {d : Kd α} {e base : Nat} {ok : Nat → Prop} {v : Value} {xs : List α} (hr : d.R e w base ok v xs) (h : MV k w m s pl) (hg : w.grownBy w' (some m)) : d.R e w' base ok v xs := Kd.R_mono (Kd.R_grown (Kd.R_bound hr) hg (fun k hk e => by
 injection e with e
 subst e
 obtain ⟨es, cl, hm_⟩ := h.blk
 obtain ⟨_, _, _, q, hq, cells, hc_⟩ := hk
 rw [hm_] at hc_
 cases hc_)) (fun _ hk => hk.1)
theorem sepA {vt vo v : Value} {N : Nat} (hs : ∀ k, vt.ownBlock = some k → vo.ownBlock ≠ some k) (ha : v.ownBlock = vt.ownBlock ∨ ∃ b, v.ownBlock = some b ∧ N ≤ b) (hl : ∀ k, vo.ownBlock = some k → k < N) : ∀ k, v.ownBlock = some k → vo.ownBlock ≠ some k := fun k hk e => by
 rcases ha with ha | ⟨b, ha, hb⟩
 ·exact hs k (ha ▸ hk) e
 ·rw [ha] at hk
  injection hk with hk
  have := hl k e
  omega
theorem sepB {vt vo v : Value} {N : Nat} (hs : ∀ k, vt.ownBlock = some k → vo.ownBlock ≠ some k) (ha : v.ownBlock = vo.ownBlock ∨ ∃ b, v.ownBlock = some b ∧ N ≤ b) (hl : ∀ k, vt.ownBlock = some k → k < N) : ∀ k, vt.ownBlock = some k → v.ownBlock ≠ some k := fun k hk e => by
 rcases ha with ha | ⟨b, ha, hb⟩
 ·exact hs k hk (ha ▸ e)
 ·rw [ha] at e
  injection e with e
  have := hl k hk
  omega
structure NA (w : World) (base ga gb gc m s : Nat) (pl : Lit → Option Value) (vt vt2 vo : Value) (todo out : List ByteArray) : Prop where
 ba : w.heap[ga]? = some (.cells #[.map (some m)] 165 (0, 0))
 mv : MV 9 w m s pl
 bb : w.heap[gb]? = some (.cells #[vt] 193 (0, 0))
 bc : w.heap[gc]? = some (.cells #[vo] 193 (0, 0))
 rt : Kd.string.R 9 w base (fun _ => True) vt2 todo
 ro : Kd.string.R 9 w base (fun _ => True) vo out
 sep : ∀ k, vt2.ownBlock = some k → vo.ownBlock ≠ some k
 tf : ∀ k, ∃ t, (pl k).getD (.bool false) = .bool t
 ne : gb ≠ gc
 low : base ≤ gb ∧ base ≤ gc ∧ base ≤ m ∧ base ≤ ga
theorem NA.below {w w' : World} {base ga gb gc m s : Nat} {pl : Lit → Option Value} {vt vt2 vo : Value} {todo out : List ByteArray} (h : NA w base ga gb gc m s pl vt vt2 vo todo out) (hb : Below w.heap.size w w') : NA w' base ga gb gc m s pl vt vt2 vo todo out :=
 { h with ba := blk_below h.ba hb, mv := h.mv.below hb, bb := blk_below h.bb hb, bc := blk_below h.bc hb, rt := Kd.R_below h.rt hb, ro := Kd.R_below h.ro hb }
theorem NB.addT {w w' : World} {base ga gb gc m s : Nat} {pl : Lit → Option Value} {vt vt2 vo : Value} {todo todo2 out : List ByteArray} (h : NB w base ga gb gc m s pl vt vo todo out) (hr : Kd.string.R 9 w' base (fun _ => True) vt2 todo2) (hg : w.grownBy w' vt.ownBlock) (ha : vt2.ownBlock = vt.ownBlock ∨ ∃ b, vt2.ownBlock = some b ∧ w.heap.size ≤ b) : NA w' base ga gb gc m s pl vt vt2 vo todo2 out :=
 ⟨blk_grown h.ba hg (Kd.R_ne h.rt h.ba (by decide)), h.mv.rowk h.rt hg, blk_grown h.bb hg (Kd.R_ne h.rt h.bb (by decide)), blk_grown h.bc hg (Kd.R_ne h.rt h.bc (by decide)), hr, Kd.R_mono (Kd.R_grown (Kd.R_tight rfl h.ro) hg (fun k hk e => h.sep k e.symm hk.symm)) (fun _ _ => trivial), sepA h.sep ha (Kd.R_lt h.ro), h.tf, h.ne, h.low⟩
structure NO (w : World) (base ga gb gc m s : Nat) (pl : Lit → Option Value) (vt vt2 vo vo2 : Value) (todo out : List ByteArray) : Prop where
 ba : w.heap[ga]? = some (.cells #[.map (some m)] 165 (0, 0))
 mv : MV 9 w m s pl
 bb : w.heap[gb]? = some (.cells #[vt] 193 (0, 0))
 bc : w.heap[gc]? = some (.cells #[vo] 193 (0, 0))
 rt : Kd.string.R 9 w base (fun _ => True) vt2 todo
 ro : Kd.string.R 9 w base (fun _ => True) vo2 out
 sep : ∀ k, vt2.ownBlock = some k → vo2.ownBlock ≠ some k
 tf : ∀ k, ∃ t, (pl k).getD (.bool false) = .bool t
 ne : gb ≠ gc
 low : base ≤ gb ∧ base ≤ gc ∧ base ≤ m ∧ base ≤ ga
theorem NA.addO {w w' : World} {base ga gb gc m s : Nat} {pl : Lit → Option Value} {vt vt2 vo vo2 : Value} {todo out out2 : List ByteArray} (h : NA w base ga gb gc m s pl vt vt2 vo todo out) (hr : Kd.string.R 9 w' base (fun _ => True) vo2 out2) (hg : w.grownBy w' vo.ownBlock) (ha : vo2.ownBlock = vo.ownBlock ∨ ∃ b, vo2.ownBlock = some b ∧ w.heap.size ≤ b) : NO w' base ga gb gc m s pl vt vt2 vo vo2 todo out2 :=
 ⟨blk_grown h.ba hg (Kd.R_ne h.ro h.ba (by decide)), h.mv.rowk h.ro hg, blk_grown h.bb hg (Kd.R_ne h.ro h.bb (by decide)), blk_grown h.bc hg (Kd.R_ne h.ro h.bc (by decide)), Kd.R_mono (Kd.R_grown (Kd.R_tight rfl h.rt) hg (fun k hk e => h.sep k hk.symm e.symm)) (fun _ _ => trivial), hr, sepB h.sep ha (Kd.R_lt h.rt), h.tf, h.ne, h.low⟩
theorem NO.put {w : World} {base ga gb gc m s : Nat} {pl : Lit → Option Value} {vt vt2 vo vo2 : Value} {todo out : List ByteArray} (h : NO w base ga gb gc m s pl vt vt2 vo vo2 todo out) (ho : out ≠ []) (hl : todo.length ≤ 100 ∧ out.length ≤ 100 ∧ s ≤ 100) : NB ((w.setCell ⟨gb, 0, none⟩ vt2).setCell ⟨gc, 0, none⟩ vo2) base ga gb gc m s pl vt2 vo2 todo out := by
 have g1 := grown_set w gb 0 vt2
 have g2 := grown_set (w.setCell ⟨gb, 0, none⟩ vt2) gc 0 vo2
 have hc1 := blk_grown h.bc g1 (fun e => by injection e with e; exact h.ne e.symm)
 have hb1 : (w.setCell ⟨gb, 0, none⟩ vt2).heap[gb]? = some (.cells #[vt2] 193 (0, 0)) := blk_put h.bb 0 _ rfl
 exact ⟨blk_grown (blk_grown h.ba g1 (fun e => by injection e with e; exact absurd e (blk_ne h.ba h.bb (by decide)))) g2 (fun e => by injection e with e; exact absurd e (blk_ne h.ba h.bc (by decide))), (h.mv.grown g1 (fun e => by injection e with e; exact h.mv.ne h.bb e)).grown g2 (fun e => by injection e with e; exact h.mv.ne h.bc e), blk_grown hb1 g2 (fun e => by injection e with e; exact h.ne e), blk_put hc1 0 _ rfl, Kd.R_set (Kd.R_set h.rt h.bb (by decide) 0 vt2) hc1 (by decide) 0 vo2, Kd.R_set (Kd.R_set h.ro h.bb (by decide) 0 vt2) hc1 (by decide) 0 vo2, h.sep, h.tf, h.ne, h.low, fun e => absurd e ho, hl⟩
def NTE2.T2 : Bool × List (List Nat × List Nat) := (true, [([], []), ([], []), ([1], [1]), ([0, 2], [0, 2]), ([], []), ([], []), ([5], [5]), ([4, 6, 3], [4, 6]), ([3, 7, 0, 1, 2, 3], [3]), ([7, 8, 0, 1, 2, 3, 4, 5, 6, 7, 8], [7])])
def NTE2.B2 : List Nat := [0, 0, 2, 7, 0, 0, 32, 127, 255, 511]
theorem NTE2.tab2 : rtab .any (opsOf Tryz.f318 2) = NTE2.T2 := by kernel_rfl
theorem NTE2.bits2 : waitsOk NTE2.T2.2 NTE2.B2 = true := by kernel_rfl
set_option maxRecDepth 100000 in
set_option maxHeartbeats 8000000 in
theorem note.calls {w : World} {base ga gb gc m s : Nat} {pl : Lit → Option Value} {vt vo : Value} {todo out : List ByteArray} (h : NB w base ga gb gc m s pl vt vo todo out) (hw : base ≤ w.heap.size) (hl : todo.length < 100 ∧ out.length < 100 ∧ s < 100) (x : ByteArray) (hx : x.size ≤ 1000) : Calls Tryz.prog 318 #[.string x, .pointer (some ⟨ga, 0, none⟩), .pointer (some ⟨gb, 0, none⟩), .pointer (some ⟨gc, 0, none⟩)] w fun e w' => e = .returned (.tuple #[]) ∧ (∃ s' pl' vt' vo' todo' out', NB w' base ga gb gc m s' pl' vt' vo' todo' out' ∧ s' ≤ s + 1 ∧ todo'.length ≤ todo.length + 1 ∧ out'.length ≤ out.length + 1 ∧ (Sm todo → Sm todo') ∧ (Sm out → Sm out')) ∧ Below base w w' := by
 obtain ⟨At, ct, rfl⟩ := Kd.R_slice h.rt
 obtain ⟨Ao, co, rfl⟩ := Kd.R_slice h.ro
 obtain ⟨t, ht⟩ := h.tf (ky x)
 have HX := Aside0.mk hx
 have HL := Aside0.mk hl
 have c0 : w.cell? ⟨ga, 0, none⟩ = some (.map (some m)) := (blk_cell h.ba 0).trans rfl
 have l1 := h.mv.look1 lawS Tryz.underlying165 zeroB (keyS hx) (ky_key x)
 rw [ht] at l1
 cases t with
 | true =>
  have H := Aside0.mk h
  clear h ht
  go_enter Tryz.func318, Tryz.ntmps318
  go_wp2
  go_end0
  exact ⟨rfl, ⟨s, pl, _, _, todo, out, H.out, by omega, by omega, by omega, fun h => h, fun h => h⟩, Below.refl _ _⟩
 | false =>
  obtain ⟨w6, r6, m6, g6⟩ := h.mv.put lawS Tryz.underlying165 (by omega) (keyS hx) (ky_key x) (.bool true)
  obtain ⟨s6, hs6⟩ : ∃ s6, (if (pl (ky x)).isSome then s else s + 1) = s6 := ⟨_, rfl⟩
  rw [hs6] at m6
  have HS6 := Aside0.mk (show s6 ≤ s + 1 by rw [← hs6]; split <;> omega)
  have htf : ∀ k, ∃ t, (updM pl (ky x) (.bool true) k).getD (.bool false) = .bool t := fun k => by
   unfold updM
   split
   ·exact ⟨true, rfl⟩
   ·exact h.tf k
  generalize updM pl (ky x) (.bool true) = pl6 at m6 htf
  have HN0 := Aside0.mk (show NB w6 base ga gb gc m s6 pl6 (.slice At todo.length ct) (.slice Ao out.length co) todo out from
   { h with
    ba := blk_grown h.ba g6 (fun e => by injection e with e; exact h.mv.ne h.ba e.symm), mv := m6, bb := blk_grown h.bb g6 (fun e => by injection e with e; exact h.mv.ne h.bb e.symm), bc := blk_grown h.bc g6 (fun e => by injection e with e; exact h.mv.ne h.bc e.symm),
    rt := R_mapk h.rt h.mv g6, ro := R_mapk h.ro h.mv g6,
    tf := htf, len := ⟨by omega, by omega, by have := HS6.out; omega⟩ })
  have HB0 := Aside0.mk (show Below base w w6 from below_of_grown g6 h.low.2.2.1 hw)
  have HW0 := Aside0.mk (show base ≤ w6.heap.size from Nat.le_trans hw g6.size)
  clear h ht hs6 htf m6 g6 hw
  go_enter Tryz.func318, Tryz.ntmps318
  go_wp2
  have HN := Aside0.mk (HN0.out.below (below_drew (Below.refl w6.heap.size w6)))
  have HB := Aside0.mk (below_drew HB0.out)
  have HW := Aside0.mk (show base ≤ w6.drew.heap.size from HW0.out)
  have HLT := Aside0.mk (show ∀ k, (Value.slice At todo.length ct).ownBlock = some k → k < w6.heap.size from Kd.R_lt HN0.out.rt)
  have hlen := HN.out.len
  clear HN0 HB0 HW0 r6 l1 c0
  refine start_ (n := 10) (S := fun w' => w'.cell? ⟨gb, 0, none⟩ = some (.slice At todo.length ct) ∧ w'.cell? ⟨gc, 0, none⟩ = some (.slice Ao out.length co)) (ds := [7, 8, 9]) #[O,O,O,O,O,O,O,O,O,O] (by kernel_rfl) rfl rfl ⟨((blk_cell HN.out.bb 0).trans rfl), ((blk_cell HN.out.bc 0).trans rfl)⟩ (fun hHeld => ?_)
  refine with_tabW NTE2.tab2 NTE2.bits2 (fun HT_ HW_ => ?_)
  refine pure_ (i := 1) (N := some 12) (v := ?_) (a' := ?_) #[O,Y,O,O,O,O,O,O,O,O] rfl rfl (any_of HT_.out (by kernel_rfl)) (fun _ _ _ h => h) (Or.inl ⟨by rfl, ?_⟩) ?_ ?_
  rotate_left
  ·intro w'
   go_simp
   with_reducible rfl
  rotate_left
  ·simp only [PN]
   rfl
  refine pure_ (i := 5) (N := some 16) (v := ?_) (a' := ?_) #[O,Y,O,O,O,Y,O,O,O,O] rfl rfl (any_of HT_.out (by kernel_rfl)) (fun _ _ _ h => h) (Or.inl ⟨by rfl, ?_⟩) ?_ ?_
  rotate_left
  ·intro w'
   go_simp
   with_reducible rfl
  rotate_left
  ·simp only [PN]
   rfl
  refine take_ (i := 0) (N := some 11) (v := ?_) (a' := ?_) #[Y,Y,O,O,O,Y,O,O,O,O] rfl rfl (take_ofW HT_.out HW_.out (by kernel_rfl)) (fun _ _ _ h => h) (Or.inl ⟨by rfl, ?_⟩) hHeld ?_ ?_
  rotate_left
  ·rintro w' ⟨s0, s1⟩
   go_simp
   with_reducible rfl
  rotate_left
  ·simp only [PN]
   rfl
  refine take_ (i := 4) (N := some 15) (v := ?_) (a' := ?_) #[Y,Y,O,O,Y,Y,O,O,O,O] rfl rfl (take_ofW HT_.out HW_.out (by kernel_rfl)) (fun _ _ _ h => h) (Or.inl ⟨by rfl, ?_⟩) hHeld ?_ ?_
  rotate_left
  ·rintro w' ⟨s0, s1⟩
   go_simp
   with_reducible rfl
  rotate_left
  ·simp only [PN]
   rfl
  refine join_ (σ := Nat × (Value × Nat)) 3 #[Y,Y,Y,Y,Y,Y,Y,O,O,O] (fun s => [(13, .slice (some ⟨s.1, 0, none⟩) 1 1), (14, s.2.1), (17, .slice (some ⟨s.2.2, 0, none⟩) 1 1)]) (fun s w' => w'.cell? ⟨gb, 0, none⟩ = some (.slice At todo.length ct) ∧ w'.cell? ⟨gc, 0, none⟩ = some (.slice Ao out.length co) ∧ NA w' base ga gb gc m s6 pl6 (.slice At todo.length ct) s.2.1 (.slice Ao out.length co) (todo ++ [x]) out ∧ Below base w w' ∧ base ≤ w'.heap.size ∧ w'.heap[s.2.2]? = some (.cells #[.string x] 9 (0, 0))) ?_ ?_
  rotate_left
  ·intro hCont
   refine two_ (i := 2) (j := 6) (Ni := some 13) (Nj := some 17) #[Y,Y,Y,O,Y,Y,O,O,O,O] #[Y,Y,O,O,Y,Y,Y,O,O,O] rfl rfl rfl rfl (two_of HT_.out (by kernel_rfl)) (by decide) (by decide) (fun K hK => ?_) (fun K hK => ?_)
   ·skip
    have hba_ := below_alloc (Below.refl w6.drew.heap.size w6.drew) (.cells #[.string x] 9)
    replace HN := Aside0.mk (NB.below HN.out hba_)
    replace HB := Aside0.mk (below_then HB.out HW.out hba_)
    replace HW := Aside0.mk (Nat.le_trans HW.out hba_.size)
    have hcn_ := blk_new w6.drew (.cells #[.string x] 9)
    have HC2 := Aside0.mk (show (w6.drew.alloc (.cells #[.string x] 9)).heap[w6.heap.size]? = some (.cells #[.string x] 9 (0, 0)) from hcn_)
    clear hcn_ hba_
    refine value_ (w1 := ?_) (v := ?_) (by rfl) rfl ?_ ?_
    rotate_left 2
    ·go_simp
     constructor
     ·rfl
     ·rfl
    refine hK.out _ _ ⟨((blk_cell HN.out.bb 0).trans rfl), ((blk_cell HN.out.bc 0).trans rfl)⟩ (fun hHeld => ?_)
    clear hK K
    refine norm_ (a' := ?_) ?_ ?_
    rotate_left
    ·show Act.put _ (some 13) _ = _
     simp only [PN]
     rfl
    refine two_ (i := 3) (j := 6) (Ni := some 14) (Nj := some 17) #[Y,Y,Y,Y,Y,Y,O,O,O,O] #[Y,Y,Y,O,Y,Y,Y,O,O,O] rfl rfl rfl rfl (two_of HT_.out (by kernel_rfl)) (by decide) (by decide) (fun K hK => ?_) (fun K hK => ?_)
    ·skip
     refine Kd.R_append_rows_step Kd.string (w0 := w) (base) (by rfl) (.tmp 11) (.tmp 13) 193 9 (.string ⟨#[]⟩) 16 rfl Tryz.underlying193 infoStr rfl (by decide) (by omega) (.slice At todo.length ct) (todo) [x] (some ⟨w6.heap.size, 0, none⟩) 1 1 (fun _ => True) (fun _ => False) rfl rfl HN.out.rt (reads1 x HC2.out) (fun _ _ hk => by obtain ⟨rfl, rfl⟩ := hk; exact rfl) (fun _ hk => hk.elim) (fun _ _ => trivial) HB.out HW.out (by omega) ?_
     intro vA wA hrA hbA hgA hatA
     have HNA := Aside0.mk (HN.out.addT hrA hgA hatA)
     replace HB := Aside0.mk hbA
     replace HW := Aside0.mk (Nat.le_trans HW.out hgA.size)
     clear hrA hbA hgA hatA HN
     refine hK.out _ _ ⟨((blk_cell HNA.out.bb 0).trans rfl), ((blk_cell HNA.out.bc 0).trans rfl)⟩ (fun hHeld => ?_)
     clear hK K
     refine norm_ (a' := ?_) ?_ ?_
     rotate_left
     ·show Act.put _ (some 14) _ = _
      simp only [PN]
      rfl
     refine one_ (i := 6) (N := some 17) #[Y,Y,Y,Y,Y,Y,Y,O,O,O] rfl rfl (one_of HT_.out (by kernel_rfl)) (by decide) (fun K hK => ?_)
     have hba_ := below_alloc (Below.refl wA.heap.size wA) (.cells #[.string x] 9)
     replace HNA := Aside0.mk (NA.below HNA.out hba_)
     replace HB := Aside0.mk (below_then HB.out HW.out hba_)
     replace HW := Aside0.mk (Nat.le_trans HW.out hba_.size)
     have hcn_ := blk_new wA (.cells #[.string x] 9)
     have HC6 := Aside0.mk (show (wA.alloc (.cells #[.string x] 9)).heap[wA.heap.size]? = some (.cells #[.string x] 9 (0, 0)) from hcn_)
     clear hcn_ hba_
     refine value_ (w1 := ?_) (v := ?_) (by rfl) rfl ?_ ?_
     rotate_left 2
     ·go_simp
      constructor
      ·rfl
      ·rfl
     refine hK.out _ _ ⟨((blk_cell HNA.out.bb 0).trans rfl), ((blk_cell HNA.out.bc 0).trans rfl)⟩ (fun hHeld => ?_)
     clear hK K
     refine norm_ (a' := ?_) ?_ ?_
     rotate_left
     ·show Act.put _ (some 17) _ = _
      simp only [PN]
      rfl
     exact norm_ (by simp only [putAll, PN]) (hCont (w6.heap.size, (vA, wA.heap.size)) _ ⟨(blk_cell HNA.out.bb 0).trans rfl, (blk_cell HNA.out.bc 0).trans rfl, HNA.out, HB.out, HW.out, HC6.out⟩)
    ·skip
     have hba_ := below_alloc (Below.refl (w6.drew.alloc (.cells #[.string x] 9)).heap.size (w6.drew.alloc (.cells #[.string x] 9))) (.cells #[.string x] 9)
     replace HN := Aside0.mk (NB.below HN.out hba_)
     replace HB := Aside0.mk (below_then HB.out HW.out hba_)
     replace HW := Aside0.mk (Nat.le_trans HW.out hba_.size)
     replace HC2 := Aside0.mk (blk_below HC2.out hba_)
     have hcn_ := blk_new (w6.drew.alloc (.cells #[.string x] 9)) (.cells #[.string x] 9)
     rw [show ((w6.drew.alloc (.cells #[.string x] 9))).heap.size = w6.heap.size + 1 from (by simp : ((w6.drew.alloc (.cells #[.string x] 9))).heap.size = w6.drew.heap.size + 1)] at hcn_
     have HC6 := Aside0.mk (show ((w6.drew.alloc (.cells #[.string x] 9)).alloc (.cells #[.string x] 9)).heap[w6.heap.size + 1]? = some (.cells #[.string x] 9 (0, 0)) from hcn_)
     clear hcn_ hba_
     refine value_ (w1 := ?_) (v := ?_) (by rfl) rfl ?_ ?_
     rotate_left 2
     ·go_simp
      constructor
      ·rfl
      ·rfl
     refine hK.out _ _ ⟨((blk_cell HN.out.bb 0).trans rfl), ((blk_cell HN.out.bc 0).trans rfl)⟩ (fun hHeld => ?_)
     clear hK K
     refine norm_ (a' := ?_) ?_ ?_
     rotate_left
     ·show Act.put _ (some 17) _ = _
      simp only [PN]
      rfl
     refine one_ (i := 3) (N := some 14) #[Y,Y,Y,Y,Y,Y,Y,O,O,O] rfl rfl (one_of HT_.out (by kernel_rfl)) (by decide) (fun K hK => ?_)
     refine Kd.R_append_rows_step Kd.string (w0 := w) (base) (by rfl) (.tmp 11) (.tmp 13) 193 9 (.string ⟨#[]⟩) 16 rfl Tryz.underlying193 infoStr rfl (by decide) (by omega) (.slice At todo.length ct) (todo) [x] (some ⟨w6.heap.size, 0, none⟩) 1 1 (fun _ => True) (fun _ => False) rfl rfl HN.out.rt (reads1 x HC2.out) (fun _ _ hk => by obtain ⟨rfl, rfl⟩ := hk; exact rfl) (fun _ hk => hk.elim) (fun _ _ => trivial) HB.out HW.out (by omega) ?_
     intro vA wA hrA hbA hgA hatA
     have HNA := Aside0.mk (HN.out.addT hrA hgA hatA)
     replace HC6 := Aside0.mk (blk_grown HC6.out hgA (fun e => by have := HLT.out _ e.symm; omega))
     replace HB := Aside0.mk hbA
     replace HW := Aside0.mk (Nat.le_trans HW.out hgA.size)
     clear hrA hbA hgA hatA HN
     refine hK.out _ _ ⟨((blk_cell HNA.out.bb 0).trans rfl), ((blk_cell HNA.out.bc 0).trans rfl)⟩ (fun hHeld => ?_)
     clear hK K
     refine norm_ (a' := ?_) ?_ ?_
     rotate_left
     ·show Act.put _ (some 14) _ = _
      simp only [PN]
      rfl
     exact norm_ (by simp only [putAll, PN]) (hCont (w6.heap.size, (vA, w6.heap.size + 1)) _ ⟨(blk_cell HNA.out.bb 0).trans rfl, (blk_cell HNA.out.bc 0).trans rfl, HNA.out, HB.out, HW.out, HC6.out⟩)
   ·skip
    have hba_ := below_alloc (Below.refl w6.drew.heap.size w6.drew) (.cells #[.string x] 9)
    replace HN := Aside0.mk (NB.below HN.out hba_)
    replace HB := Aside0.mk (below_then HB.out HW.out hba_)
    replace HW := Aside0.mk (Nat.le_trans HW.out hba_.size)
    have hcn_ := blk_new w6.drew (.cells #[.string x] 9)
    have HC6 := Aside0.mk (show (w6.drew.alloc (.cells #[.string x] 9)).heap[w6.heap.size]? = some (.cells #[.string x] 9 (0, 0)) from hcn_)
    clear hcn_ hba_
    refine value_ (w1 := ?_) (v := ?_) (by rfl) rfl ?_ ?_
    rotate_left 2
    ·go_simp
     constructor
     ·rfl
     ·rfl
    refine hK.out _ _ ⟨((blk_cell HN.out.bb 0).trans rfl), ((blk_cell HN.out.bc 0).trans rfl)⟩ (fun hHeld => ?_)
    clear hK K
    refine norm_ (a' := ?_) ?_ ?_
    rotate_left
    ·show Act.put _ (some 17) _ = _
     simp only [PN]
     rfl
    refine one_ (i := 2) (N := some 13) #[Y,Y,Y,O,Y,Y,Y,O,O,O] rfl rfl (one_of HT_.out (by kernel_rfl)) (by decide) (fun K hK => ?_)
    have hba_ := below_alloc (Below.refl (w6.drew.alloc (.cells #[.string x] 9)).heap.size (w6.drew.alloc (.cells #[.string x] 9))) (.cells #[.string x] 9)
    replace HN := Aside0.mk (NB.below HN.out hba_)
    replace HB := Aside0.mk (below_then HB.out HW.out hba_)
    replace HW := Aside0.mk (Nat.le_trans HW.out hba_.size)
    replace HC6 := Aside0.mk (blk_below HC6.out hba_)
    have hcn_ := blk_new (w6.drew.alloc (.cells #[.string x] 9)) (.cells #[.string x] 9)
    rw [show ((w6.drew.alloc (.cells #[.string x] 9))).heap.size = w6.heap.size + 1 from (by simp : ((w6.drew.alloc (.cells #[.string x] 9))).heap.size = w6.drew.heap.size + 1)] at hcn_
    have HC2 := Aside0.mk (show ((w6.drew.alloc (.cells #[.string x] 9)).alloc (.cells #[.string x] 9)).heap[w6.heap.size + 1]? = some (.cells #[.string x] 9 (0, 0)) from hcn_)
    clear hcn_ hba_
    refine value_ (w1 := ?_) (v := ?_) (by rfl) rfl ?_ ?_
    rotate_left 2
    ·go_simp
     constructor
     ·rfl
     ·rfl
    refine hK.out _ _ ⟨((blk_cell HN.out.bb 0).trans rfl), ((blk_cell HN.out.bc 0).trans rfl)⟩ (fun hHeld => ?_)
    clear hK K
    refine norm_ (a' := ?_) ?_ ?_
    rotate_left
    ·show Act.put _ (some 13) _ = _
     simp only [PN]
     rfl
    refine one_ (i := 3) (N := some 14) #[Y,Y,Y,Y,Y,Y,Y,O,O,O] rfl rfl (one_of HT_.out (by kernel_rfl)) (by decide) (fun K hK => ?_)
    refine Kd.R_append_rows_step Kd.string (w0 := w) (base) (by rfl) (.tmp 11) (.tmp 13) 193 9 (.string ⟨#[]⟩) 16 rfl Tryz.underlying193 infoStr rfl (by decide) (by omega) (.slice At todo.length ct) (todo) [x] (some ⟨w6.heap.size + 1, 0, none⟩) 1 1 (fun _ => True) (fun _ => False) rfl rfl HN.out.rt (reads1 x HC2.out) (fun _ _ hk => by obtain ⟨rfl, rfl⟩ := hk; exact rfl) (fun _ hk => hk.elim) (fun _ _ => trivial) HB.out HW.out (by omega) ?_
    intro vA wA hrA hbA hgA hatA
    have HNA := Aside0.mk (HN.out.addT hrA hgA hatA)
    replace HC6 := Aside0.mk (blk_grown HC6.out hgA (fun e => by have := HLT.out _ e.symm; omega))
    replace HB := Aside0.mk hbA
    replace HW := Aside0.mk (Nat.le_trans HW.out hgA.size)
    clear hrA hbA hgA hatA HN
    refine hK.out _ _ ⟨((blk_cell HNA.out.bb 0).trans rfl), ((blk_cell HNA.out.bc 0).trans rfl)⟩ (fun hHeld => ?_)
    clear hK K
    refine norm_ (a' := ?_) ?_ ?_
    rotate_left
    ·show Act.put _ (some 14) _ = _
     simp only [PN]
     rfl
    exact norm_ (by simp only [putAll, PN]) (hCont (w6.heap.size + 1, (vA, w6.heap.size)) _ ⟨(blk_cell HNA.out.bb 0).trans rfl, (blk_cell HNA.out.bc 0).trans rfl, HNA.out, HB.out, HW.out, HC6.out⟩)
  rintro ⟨p1, vA, p2⟩ w7 ⟨hk0, hk1, hn7, hb7, hw7, hc7⟩
  have hHeld : w7.cell? ⟨gb, 0, none⟩ = some (.slice At todo.length ct) ∧ w7.cell? ⟨gc, 0, none⟩ = some (.slice Ao out.length co) := ⟨hk0, hk1⟩
  dsimp only at hn7 hc7
  dsimp only
  have HN7 := Aside0.mk hn7
  have HB7 := Aside0.mk hb7
  have HW7 := Aside0.mk hw7
  have HC7 := Aside0.mk hc7
  clear hk0 hk1 hn7 hb7 hw7 hc7
  refine norm_ (a' := ?_) ?_ ?_
  rotate_left
  ·simp only [putAll, PN]
   rfl
  refine last_ (i := 7) (N := some 18) #[Y,Y,Y,Y,Y,Y,Y,Y,O,O] rfl rfl (one_of HT_.out (by kernel_rfl)) (by decide) (fun K hK => ?_)
  refine Kd.R_append_rows_step Kd.string (w0 := w) (base) (by rfl) (.tmp 15) (.tmp 17) 193 9 (.string ⟨#[]⟩) 16 rfl Tryz.underlying193 infoStr rfl (by decide) (by omega) (.slice Ao out.length co) (out) [x] (some ⟨p2, 0, none⟩) 1 1 (fun _ => True) (fun _ => False) rfl rfl HN7.out.ro (reads1 x HC7.out) (fun _ _ hk => by obtain ⟨rfl, rfl⟩ := hk; exact rfl) (fun _ hk => hk.elim) (fun _ _ => trivial) HB7.out HW7.out (by omega) ?_
  intro vB wB hrB hbB hgB hatB
  have HNB := Aside0.mk (HN7.out.addO hrB hgB hatB)
  have HBB := Aside0.mk hbB
  have HWB := Aside0.mk (Nat.le_trans HW7.out hgB.size)
  obtain ⟨T2, hT2⟩ : ∃ T2, todo ++ [x] = T2 := ⟨_, rfl⟩
  obtain ⟨O2, hO2⟩ : ∃ O2, out ++ [x] = O2 := ⟨_, rfl⟩
  rw [hT2, hO2] at HNB
  have HTO := Aside0.mk (And.intro hT2 hO2)
  clear hT2 hO2
  obtain ⟨A2, c2, rfl⟩ := Kd.R_slice HNB.out.rt
  obtain ⟨A3, c3, rfl⟩ := Kd.R_slice HNB.out.ro
  have k0 : wB.cell? ⟨gb, 0, none⟩ = some (.slice At todo.length ct) := (blk_cell HNB.out.bb 0).trans rfl
  have f0 := blk_frozen HNB.out.bb 0
  clear hrB hbB hgB hatB HN7 HB7 HC7 HW7
  refine hK.out _ _ ?_
  clear hK K
  refine norm_ (a' := ?_) ?_ ?_
  rotate_left
  ·show Act.put _ (some 18) _ = _
   simp only [PN]
   rfl
  refine last_ (i := 8) (N := none) #[Y,Y,Y,Y,Y,Y,Y,Y,Y,O] rfl rfl (one_of HT_.out (by kernel_rfl)) (by decide) (fun K hK => ?_)
  refine skip_ (w1 := ?_) (by rfl) rfl ?_ ?_
  rotate_left
  ·go_simp
   rfl
  refine hK.out _ _ ?_
  clear hK K
  refine last_ (i := 9) (N := none) #[Y,Y,Y,Y,Y,Y,Y,Y,Y,Y] rfl rfl (one_of HT_.out (by kernel_rfl)) (by decide) (fun K hK => ?_)
  have hgc8 := blk_grown HNB.out.bc (grown_set wB gb 0 (.slice A2 T2.length c2)) (fun e => by injection e with e; exact HNB.out.ne e.symm)
  have k1 : (wB.setCell ⟨gb, 0, none⟩ (.slice A2 T2.length c2)).cell? ⟨gc, 0, none⟩ = some (.slice Ao out.length co) := (blk_cell hgc8 0).trans rfl
  have f1 := blk_frozen hgc8 0
  clear hgc8
  refine skip_ (w1 := ?_) (by rfl) rfl ?_ ?_
  rotate_left
  ·go_simp
   rfl
  refine hK.out _ _ ?_
  clear hK K
  refine done_ (done_of HT_.out (by kernel_rfl)) ?_
  clear hHeld k0 f0 k1 f1
  have HF := Aside0.mk (HNB.out.put (by rw [← HTO.out.2]; simp) (by have := HL.out; have := HS6.out; rw [← HTO.out.1, ← HTO.out.2]; simp; omega))
  have HBF := Aside0.mk ((HBB.out.setCell (p := ⟨gb, 0, none⟩) HNB.out.low.1 (.slice A2 T2.length c2)).setCell (p := ⟨gc, 0, none⟩) HNB.out.low.2.1 (.slice A3 O2.length c3))
  clear HNB HBB HWB
  generalize (wB.setCell ⟨gb, 0, none⟩ (.slice A2 T2.length c2)).setCell ⟨gc, 0, none⟩ (.slice A3 O2.length c3) = wF at HF HBF ⊢
  go_wp2
  go_end0
  exact ⟨rfl, ⟨s6, pl6, _, _, _, _, HF.out, HS6.out, by rw [← HTO.out.1]; simp, by rw [← HTO.out.2]; simp, fun h => by rw [← HTO.out.1]; exact h.snoc HX.out, fun h => by rw [← HTO.out.2]; exact h.snoc HX.out⟩, HBF.out⟩
theorem NB.new (w : World) : NB ((((w.alloc (.map #[] 0)).alloc (.cells #[.map (some w.heap.size)] 165)).alloc (.cells #[.slice none 0 0] 193)).alloc (.cells #[.slice none 0 0] 193)) w.heap.size (w.heap.size + 1) (w.heap.size + 1 + 1) (w.heap.size + 1 + 1 + 1) w.heap.size 0 (fun _ => none) (.slice none 0 0) (.slice none 0 0) [] [] := by
 have h1 := MV.new 9 w
 have e1 : (w.alloc (.map #[] 0)).heap.size = w.heap.size + 1 := by simp
 have h2 := blk_new (w.alloc (.map #[] 0)) (.cells #[.map (some w.heap.size)] 165)
 rw [e1] at h2
 have b2 := below_alloc (Below.refl _ (w.alloc (.map #[] 0))) (.cells #[.map (some w.heap.size)] 165)
 have h12 := h1.below b2
 have e2 : ((w.alloc (.map #[] 0)).alloc (.cells #[.map (some w.heap.size)] 165)).heap.size = w.heap.size + 1 + 1 := by simp
 generalize (w.alloc (.map #[] 0)).alloc (.cells #[.map (some w.heap.size)] 165) = w2 at h2 h12 e2 ⊢
 have h3 := blk_new w2 (.cells #[.slice none 0 0] 193)
 rw [e2] at h3
 have b3 := below_alloc (Below.refl _ w2) (.cells #[.slice none 0 0] 193)
 have e3 : (w2.alloc (.cells #[.slice none 0 0] 193)).heap.size = w.heap.size + 1 + 1 + 1 := by simp [e2]
 have h23 := blk_below h2 b3
 have h13 := h12.below b3
 generalize w2.alloc (.cells #[.slice none 0 0] 193) = w3 at h3 h23 h13 e3 ⊢
 have h4 := blk_new w3 (.cells #[.slice none 0 0] 193)
 rw [e3] at h4
 have b4 := below_alloc (Below.refl _ w3) (.cells #[.slice none 0 0] 193)
 exact ⟨blk_below h23 b4, h13.below b4, blk_below h3 b4, h4, Kd.R_nil _ _ _ _ _, Kd.R_nil _ _ _ _ _, fun k hk => by simp [Value.ownBlock] at hk, fun k => ⟨false, rfl⟩, by omega, by omega, fun _ => rfl, by simp⟩
theorem qlen_blk {w : World} {gb n c t : Nat} {B : Option Addr} (h : w.heap[gb]? = some (.cells #[.slice B n c] t (0, 0))) : qlen w gb 0 = n := by
 unfold qlen
 rw [show w.cell? ⟨gb, 0, none⟩ = some (.slice B n c) from (blk_cell h 0).trans rfl]
set_option maxRecDepth 100000 in
set_option maxHeartbeats 1000000 in
theorem reach.Names.calls {w : World} {g : Nat} {A : Option Addr} {c : Nat} {xs : List Nd} (hi : IX w g) (h : kNd.C w A xs.length xs) (hl : xs.length ≤ 6) (hs : ∀ x ∈ xs, x.1.size ≤ 1000) : Calls Tryz.prog 270 #[.pointer (some ⟨g, 0, none⟩), .slice A xs.length c] w fun e w' => ∃ v ys, e = .returned v ∧ Kd.string.R 9 w' w.heap.size (fun _ => True) v ys ∧ (ys = [] → v = .slice none 0 0) ∧ ys.length ≤ xs.length ∧ Sm ys ∧ Below w.heap.size w w' := by
 have HI := Aside0.mk hi
 have HX := Aside0.mk h
 have HL := Aside0.mk (And.intro hl hs)
 have hmf := makeFn
 have hmm := @run_makeMap Tryz.prog
 have HN0 := Aside0.mk (NB.new w)
 have HB0 := Aside0.mk (below_alloc (below_alloc (below_alloc (below_alloc (Below.refl w.heap.size w) (.map #[] 0)) (.cells #[.map (some w.heap.size)] 165)) (.cells #[.slice none 0 0] 193)) (.cells #[.slice none 0 0] 193))
 clear hi h hl hs
 go_enter Tryz.func270, Tryz.ntmps270
 go_wp2
 generalize (((w.alloc (.map #[] 0)).alloc (.cells #[.map (some w.heap.size)] 165)).alloc (.cells #[.slice none 0 0] 193)).alloc (.cells #[.slice none 0 0] 193) = w1 at HN0 HB0 ⊢
 generalize hgc : w.heap.size + 1 + 1 + 1 = gc at HN0 ⊢
 generalize hgb : w.heap.size + 1 + 1 = gb at HN0 ⊢
 generalize hga : w.heap.size + 1 = ga at HN0 ⊢
 clear hga hgb hgc
 go_loopw [20] (fun iv wr => ∃ (i s : Nat) (pl : Lit → Option Value) (vt vo : Value) (todo out : List ByteArray), iv = .int .i64 (i : Int) ∧ i ≤ xs.length ∧ Aside0 (NB wr w.heap.size ga gb gc w.heap.size s pl vt vo todo out) ∧ Aside0 (s ≤ i ∧ todo.length ≤ i ∧ out.length ≤ i ∧ Sm todo ∧ Sm out) ∧ Aside0 (Below w.heap.size w wr)) (fun iv _ => ((xs.length : Int) - intOf iv).toNat)
 case atStart => exact ⟨0, 0, _, _, _, _, _, rfl, by omega, HN0, ⟨by simp [Sm]⟩, HB0⟩
 case round =>
  clear HN0 HB0
  obtain ⟨i, s, pl, vt, vo, todo, out, rfl, hi, HN, HS, HB⟩ := hrel
  have hl6 := HL.out.1
  by_cases hlt : i < xs.length
  ·have q0 : decide ((i : Int) < (xs.length : Int)) = true := decide_eq_true (by omega)
   have u0 : (0 : Int) ≤ (i : Int) := by omega
   have u1 : (i : Int) < (xs.length : Int) := by omega
   have HA9 := Aside0.mk (show wrap64 ((i : Int) + 1) = (i : Int) + 1 from wrap_id (by omega) (by omega))
   obtain ⟨ad, A1, c1, rfl, k0, k1, hlc, hcs⟩ := at_Nd (Kd.C_below HX.out HB.out) i hlt
   have HXX := Aside0.mk (HL.out.2 _ (getD_mem xs zNd i hlt))
   generalize xs.getD i zNd = x at k0 k1 hlc hcs HXX
   have HBA := Aside0.mk (below_alloc (Below.refl wr.heap.size wr) (.cells #[.string x.1, .slice A1 x.2.length c1] 117))
   have HNA := Aside0.mk (HN.out.below HBA.out)
   have HBB := Aside0.mk (below_step HB.out HBA.out)
   clear hlc hcs HN HB
   go_wp2_with fail
   refine (note.calls HNA.out HBB.out.size (by have := HS.out; omega) x.1 HXX.out).mono ?_
   rintro e w5 ⟨rfl, ⟨s5, pl5, vt5, vo5, todo5, out5, hn5, hs5, ht5, ho5, hst5, hso5⟩, hb5⟩
   have HN5 := Aside0.mk hn5
   have HS5 := Aside0.mk (show s5 ≤ i + 1 ∧ todo5.length ≤ i + 1 ∧ out5.length ≤ i + 1 ∧ Sm todo5 ∧ Sm out5 from by
    obtain ⟨h1, h2, h3, h4, h5⟩ := HS.out
    exact ⟨by omega, by omega, by omega, hst5 h4, hso5 h5⟩)
   have HB5 := Aside0.mk (below_go HBB.out hb5)
   have a9 := HA9.out
   clear hn5 hs5 ht5 ho5 hst5 hso5 hb5 HNA HS HBA HBB k0 k1
   go_wp2
   go_roundw
   case rel => exact ⟨i + 1, _, _, _, _, _, _, by go_num, hlt, HN5, HS5, HB5⟩
   case measure => first | (rw [a9]; exact meas _ _ hlt) | exact meas _ _ hlt
  ·have q0 : decide ((i : Int) < (xs.length : Int)) = false := decide_eq_false (by omega)
   have HS2 := Aside0.mk (show todo.length ≤ 6 ∧ out.length ≤ xs.length ∧ Sm todo ∧ Sm out from by
    obtain ⟨h1, h2, h3, h4, h5⟩ := HS.out
    exact ⟨by omega, by omega, h4, h5⟩)
   obtain ⟨At, ct, rfl⟩ := Kd.R_slice HN.out.rt
   have HRT := Aside0.mk (Kd.R_reads' HN.out.rt)
   have HNE := Aside0.mk HN.out.ne
   have HLW := Aside0.mk HN.out.low
   have HNIL := Aside0.mk HN.out.nil
   clear HS hi
   go_wp2
   go_loopw [11] (fun _ wr2 => ∃ (k r : Nat) (B : Option Addr) (cb : Nat), k + r = todo.length ∧ r ≤ cb ∧ Aside0 (0 < r → B = At.map (·.add k)) ∧ Aside0 (wr2.heap[gb]? = some (.cells #[.slice B r cb] 193 (0, 0))) ∧ Aside0 (wr2.heap[gc]? = some (.cells #[vo] 193 (0, 0))) ∧ Aside0 (Kd.string.R 9 wr2 w.heap.size (fun _ => True) (.slice At todo.length ct) todo) ∧ Aside0 (Kd.string.R 9 wr2 w.heap.size (fun _ => True) vo out) ∧ Aside0 (Below w.heap.size w wr2)) (fun _ wr2 => qlen wr2 gb 0)
   case atStart =>
    refine ⟨0, todo.length, At, ct, by omega, HRT.out.2.1, ⟨fun _ => ?_⟩, ⟨HN.out.bb⟩, ⟨HN.out.bc⟩, ⟨HN.out.rt⟩, ⟨HN.out.ro⟩, HB⟩
    cases At with
    | none => rfl
    | some a => simp [Addr.add]
   case round =>
    clear HN HB HRT
    obtain ⟨k, r, B, cb, hkr, hrc, HBE, HGB, HGC, HRT, HRO, HB⟩ := hrel
    have c1 : wr.cell? ⟨gc, 0, none⟩ = some vo := (blk_cell HGC.out 0).trans rfl
    have c0 : wr.cell? ⟨gb, 0, none⟩ = some (.slice B r cb) := (blk_cell HGB.out 0).trans rfl
    cases r with
    | zero =>
     go_wp2_with fail
     refine (sortOS.calls HRO.out HNIL.out (by have := HS2.out; have := HL.out; omega)).mono ?_
     rintro e w5 ⟨rfl, ys, hp, hr5, hg5⟩
     have HR5 := Aside0.mk hr5
     have HP := Aside0.mk hp
     have HB5 := Aside0.mk (pw_below_grown HB.out _ HB.out.size hg5 (fun k hk => Kd.R_base HRO.out k hk))
     have c2 : w5.cell? ⟨gc, 0, none⟩ = some vo := (blk_cell (blk_grown HGC.out hg5 (Kd.R_ne HRO.out HGC.out (by decide))) 0).trans rfl
     clear hp hr5 hg5 c0 c1
     go_wp2
     go_ret
     exact ⟨vo, ys, rfl, HR5.out, fun e => HNIL.out (List.Perm.nil_eq (e ▸ HP.out)).symm, by rw [HP.out.length_eq]; exact HS2.out.2.1, fun x hx => HS2.out.2.2.2 x (HP.out.mem_iff.1 hx), HB5.out⟩
    | succ r =>
     obtain ⟨ad, ea, hx⟩ := Kd.at_string (Kd.R_reads' HRT.out).2.2 (k : Int) (by omega) (by omega)
     cases ea
     rw [strAt todo k (by omega), Int.toNat_natCast] at hx
     have HM := Aside0.mk (HS2.out.2.2.1 _ (List.getElem_mem (show k < todo.length by omega)))
     generalize todo[k] = y at hx HM
     have hB := HBE.out (Nat.succ_pos r)
     simp only [Option.map_some] at hB
     subst hB
     have HK := Aside0.mk (And.intro hkr hrc)
     have HAD := Aside0.mk (rfl : ad.add k = ad.add k)
     generalize had : ad.add k = a2 at hx c0 HGB
     have HA2 := Aside0.mk had
     obtain ⟨n, hn⟩ : ∃ n, r + 1 = n := ⟨_, rfl⟩
     have HNN := Aside0.mk hn
     rw [hn] at c0 HGB HK
     have q0 : decide ((0 : Int) < (n : Int)) = true := decide_eq_true (by omega)
     have u0 : (0 : Int) < (n : Int) := by omega
     have u1 : (1 : Int) ≤ (n : Int) := by omega
     have u2 : (n : Int) ≤ (cb : Int) := by omega
     have f0 := blk_frozen HGB.out 0
     clear had hn hkr hrc HBE
     go_wp2_with fail
     ·clear HAD
      have hg := grown_set wr gb 0 (.slice (some a2) 0 0)
      have HGB4 := Aside0.mk (show (wr.setCell ⟨gb, 0, none⟩ (.slice (some a2) 0 0)).heap[gb]? = some (.cells #[.slice (some a2) 0 0] 193 (0, 0)) from blk_put HGB.out 0 _ rfl)
      have HGC4 := Aside0.mk (blk_grown HGC.out hg (fun e => by injection e with e; exact HNE.out e.symm))
      have HRT4 := Aside0.mk (Kd.R_set HRT.out HGB.out (by decide) 0 (.slice (some a2) 0 0))
      have HRO4 := Aside0.mk (Kd.R_set HRO.out HGB.out (by decide) 0 (.slice (some a2) 0 0))
      have HB4 := Aside0.mk (HB.out.setCell (p := ⟨gb, 0, none⟩) HLW.out.1 (.slice (some a2) 0 0))
      have HI4 := Aside0.mk (HI.out.below HB4.out)
      have HQ := Aside0.mk (qlen_blk HGB.out)
      clear hg HGB HGC HRT HRO HB c0 c1 f0 hx
      generalize wr.setCell ⟨gb, 0, none⟩ (.slice (some a2) 0 0) = w4 at HGB4 HGC4 HRT4 HRO4 HB4 HI4 ⊢
      refine (index.Get.calls HI4.out y HM.out).mono ?_
      rintro e w5 ⟨rfl, hb5⟩
      have HB5 := Aside0.mk (below_step hb5 (below_alloc (Below.refl w5.heap.size w5) (.cells #[.string y, .slice none 0 0] 91)))
      clear hb5
      go_wp2_with fail
      refine (mani.Names.calls y _).mono ?_
      rintro e w6 ⟨rfl, hb6⟩
      have hb := below_step HB5.out hb6
      have HGB6 := Aside0.mk (blk_below HGB4.out hb)
      have HGC6 := Aside0.mk (blk_below HGC4.out hb)
      have HRT6 := Aside0.mk (Kd.R_below HRT4.out hb)
      have HRO6 := Aside0.mk (Kd.R_below HRO4.out hb)
      have HB6 := Aside0.mk (below_step HB4.out hb)
      clear hb hb6 HB5 HGB4 HGC4 HRT4 HRO4 HB4 HI4
      go_wp2
      go_loopw [50] (fun iv wr => iv = .int .i64 0 ∧ wr = w6) (fun _ _ => 0)
      case atStart => exact ⟨rfl, rfl⟩
      case round =>
       obtain ⟨rfl, rfl⟩ := hrel
       go_wp2
       go_roundw
       case rel => exact ⟨k + 1, 0, _, _, by have := HK.out; omega, Nat.le_refl _, ⟨fun h => absurd h (by omega)⟩, HGB6, HGC6, HRT6, HRO6, HB6⟩
       case measure => rw [HQ.out, qlen_blk HGB6.out]; have := HNN.out; omega
     ·clear HAD
      have hg := grown_set wr gb 0 (.slice (some ⟨a2.block, a2.off + 1, none⟩) (n - 1) (n - 1))
      have HGB4 := Aside0.mk (show (wr.setCell ⟨gb, 0, none⟩ (.slice (some ⟨a2.block, a2.off + 1, none⟩) (n - 1) (n - 1))).heap[gb]? = some (.cells #[.slice (some ⟨a2.block, a2.off + 1, none⟩) (n - 1) (n - 1)] 193 (0, 0)) from blk_put HGB.out 0 _ rfl)
      have HGC4 := Aside0.mk (blk_grown HGC.out hg (fun e => by injection e with e; exact HNE.out e.symm))
      have HRT4 := Aside0.mk (Kd.R_set HRT.out HGB.out (by decide) 0 (.slice (some ⟨a2.block, a2.off + 1, none⟩) (n - 1) (n - 1)))
      have HRO4 := Aside0.mk (Kd.R_set HRO.out HGB.out (by decide) 0 (.slice (some ⟨a2.block, a2.off + 1, none⟩) (n - 1) (n - 1)))
      have HB4 := Aside0.mk (HB.out.setCell (p := ⟨gb, 0, none⟩) HLW.out.1 (.slice (some ⟨a2.block, a2.off + 1, none⟩) (n - 1) (n - 1)))
      have HI4 := Aside0.mk (HI.out.below HB4.out)
      have HQ := Aside0.mk (qlen_blk HGB.out)
      clear hg HGB HGC HRT HRO HB c0 c1 f0 hx
      generalize wr.setCell ⟨gb, 0, none⟩ (.slice (some ⟨a2.block, a2.off + 1, none⟩) (n - 1) (n - 1)) = w4 at HGB4 HGC4 HRT4 HRO4 HB4 HI4 ⊢
      refine (index.Get.calls HI4.out y HM.out).mono ?_
      rintro e w5 ⟨rfl, hb5⟩
      have HB5 := Aside0.mk (below_step hb5 (below_alloc (Below.refl w5.heap.size w5) (.cells #[.string y, .slice none 0 0] 91)))
      clear hb5
      go_wp2_with fail
      refine (mani.Names.calls y _).mono ?_
      rintro e w6 ⟨rfl, hb6⟩
      have hb := below_step HB5.out hb6
      have HGB6 := Aside0.mk (blk_below HGB4.out hb)
      have HGC6 := Aside0.mk (blk_below HGC4.out hb)
      have HRT6 := Aside0.mk (Kd.R_below HRT4.out hb)
      have HRO6 := Aside0.mk (Kd.R_below HRO4.out hb)
      have HB6 := Aside0.mk (below_step HB4.out hb)
      clear hb hb6 HB5 HGB4 HGC4 HRT4 HRO4 HB4 HI4
      go_wp2
      go_loopw [50] (fun iv wr => iv = .int .i64 0 ∧ wr = w6) (fun _ _ => 0)
      case atStart => exact ⟨rfl, rfl⟩
      case round =>
       obtain ⟨rfl, rfl⟩ := hrel
       go_wp2
       go_roundw
       case rel => exact ⟨k + 1, n - 1, _, _, by have := HK.out; omega, Nat.le_refl _, ⟨fun h => by simp [← HA2.out, Addr.add]; split <;> simp <;> omega⟩, HGB6, HGC6, HRT6, HRO6, HB6⟩
       case measure => rw [HQ.out, qlen_blk HGB6.out]; have := HNN.out; omega
theorem reach.Missing.calls {w : World} {g : Nat} {A : Option Addr} {c : Nat} {xs : List Nd} (hi : IX w g) (h : kNd.C w A xs.length xs) (hl : xs.length ≤ 6) (hs : ∀ x ∈ xs, x.1.size ≤ 1000) : Calls Tryz.prog 210 #[.pointer (some ⟨g, 0, none⟩), .slice A xs.length c] w fun e w' => ∃ v ys, e = .returned v ∧ Kd.string.R 9 w' w.heap.size (fun _ => True) v ys ∧ ys.length ≤ xs.length ∧ Sm ys ∧ Below w.heap.size w w' := by
 have HI := Aside0.mk hi
 have hmf := makeFn
 go_enter Tryz.func210, Tryz.ntmps210
 go_wp2_with fail
 refine (reach.Names.calls hi h hl hs).mono ?_
 rintro e w4 ⟨v4, ys, rfl, hr4, _, hl4, hs4, hb4⟩
 obtain ⟨A4, c4, rfl⟩ := Kd.R_slice hr4
 have HR := Aside0.mk hr4
 have HL := Aside0.mk (And.intro hl4 (And.intro hs4 hb4))
 have HL6 := Aside0.mk hl
 clear hi h hl hs hr4 hl4 hs4 hb4
 go_wp2_with fail
 refine (delHas.calls (HI.out.below HL.out.2.2) (Kd.R_reads' HR.out).2.2 (by have := HL.out.1; have := HL6.out; omega) HL.out.2.1).mono ?_
 rintro e w5 ⟨rfl, rfl⟩
 go_wp2
 go_ret
 exact ⟨_, ys, rfl, HR.out, HL.out.1, HL.out.2.1, HL.out.2.2⟩
set_option maxRecDepth 100000 in
set_option maxHeartbeats 2000000 in
theorem want.List.calls {w : World} {g : Nat} {A : Option Addr} {c : Nat} {xs : List Nd} (hi : IX w g) (h : kNd.C w A xs.length xs) (hl : xs.length ≤ 6) (hs : ∀ x ∈ xs, x.1.size ≤ 1000) (lk : ByteArray) (hk : lk.size ≤ 1000) (hf : PlainRune.fit lk = true) (ah : Bool) : Calls Tryz.prog 157 #[.pointer (some ⟨g, 0, none⟩), .slice A xs.length c, .string lk, .bool ah] w fun e w' => ∃ v ys, e = .returned v ∧ Kd.string.R 9 w' w.heap.size (fun _ => True) v ys ∧ ys.length ≤ 7 ∧ Sm ys ∧ Below w.heap.size w w' := by
 have HI := Aside0.mk hi
 have HX := Aside0.mk h
 have HL := Aside0.mk (And.intro hl hs)
 have HK := Aside0.mk (And.intro hk hf)
 clear hi h hl hs hk hf
 go_enter Tryz.func157, Tryz.ntmps157
 go_wp2_with fail
 refine (Label.Fit.calls lk w (by have := HK.out.1; omega)).mono ?_
 rintro e w4 ⟨rfl, hb4⟩
 rw [HK.out.2]
 have HB4 := Aside0.mk hb4
 have HI4 := Aside0.mk (HI.out.below hb4)
 clear hb4
 go_wp2_with fail
 refine (index.Has.calls HI4.out lk HK.out.1).mono ?_
 rintro e w5 ⟨rfl, rfl⟩
 have HR0 := Aside0.mk (Kd.R_nil Kd.string 9 w5 w.heap.size (fun _ => True))
 have HW0 := Aside0.mk HB4.out.size
 cases ah with
 | false =>
  go_wp2_with (first | ((with_reducible refine gate_builtin (b := .append) (xs := #[.tmp 20, .tmp 22]) rfl ?_); at_builtin; refine Kd.R_append Kd.string (w0 := w) (w.heap.size) rfl (.tmp 20) (.tmp 22) 193 9 (.string ⟨#[]⟩) 16 rfl Tryz.underlying193 infoStr rfl (by decide) (by omega) (.slice none 0 0) (([] : List ByteArray)) (lk) [.string lk] (fun _ => True) (fun _ => False) rfl rfl rfl (fun _ hk => hk.elim) (fun _ _ => trivial) HR0.out HB4.out HW0.out (by simp) ?_; intro v9 w9 hr9 hb9 hg9 hat9; have n0_ := Aside0.mk hr9; have n1_ := Aside0.mk hb9; clear hr9 hb9 hg9 hat9))
  rw [List.nil_append] at n0_
  clear HR0 HB4 HI4 HW0
  go_ret
  exact ⟨v9, [lk], rfl, n0_.out, by simp, fun x hx => by rw [List.mem_singleton.1 hx]; exact HK.out.1, n1_.out⟩
 | true =>
  go_wp2_with (first | ((with_reducible refine gate_builtin (b := .append) (xs := #[.tmp 20, .tmp 22]) rfl ?_); at_builtin; refine Kd.R_append Kd.string (w0 := w) (w.heap.size) rfl (.tmp 20) (.tmp 22) 193 9 (.string ⟨#[]⟩) 16 rfl Tryz.underlying193 infoStr rfl (by decide) (by omega) (.slice none 0 0) (([] : List ByteArray)) (lk) [.string lk] (fun _ => True) (fun _ => False) rfl rfl rfl (fun _ hk => hk.elim) (fun _ _ => trivial) HR0.out HB4.out HW0.out (by simp) ?_; intro v9 w9 hr9 hb9 hg9 hat9; have n0_ := Aside0.mk hr9; have n1_ := Aside0.mk hb9; clear hr9 hb9 hg9 hat9))
  rw [List.nil_append] at n0_
  clear HR0 HB4 HI4 HW0
  have HI9 := Aside0.mk (HI.out.below n1_.out)
  have HX9 := Aside0.mk (Kd.C_below HX.out n1_.out)
  refine (reach.Missing.calls HI9.out HX9.out HL.out.1 HL.out.2).mono ?_
  rintro e w10 ⟨vn, ns, rfl, hrn, hln, hsn, hb10⟩
  obtain ⟨An, cn, rfl⟩ := Kd.R_slice hrn
  have HRO := Aside0.mk (Kd.R_below n0_.out hb10)
  have HSEP := Aside0.mk (show ∀ k, v9.ownBlock = some k → (Value.slice An ns.length cn).ownBlock ≠ some k from fun k hk e => by
   have h1 := Kd.R_lt n0_.out k hk
   have h2 := Kd.R_base hrn k e
   omega)
  have HRN := Aside0.mk (Kd.R_lower hrn n1_.out.size)
  have HLN := Aside0.mk (And.intro hln hsn)
  have HB := Aside0.mk (below_step n1_.out hb10)
  clear hrn hln hsn hb10 HI9 HX9 n0_ n1_
  go_wp2
  go_loopw [9, 29] (fun ov iv wr => ∃ (i : Nat) (ys : List ByteArray), iv = .int .i64 (i : Int) ∧ i ≤ ns.length ∧ Aside0 (ys.length ≤ 1 + i ∧ Sm ys) ∧ Aside0 (Kd.string.R 9 wr w.heap.size (fun _ => True) ov ys) ∧ Aside0 (Kd.string.R 9 wr w.heap.size (fun _ => True) (.slice An ns.length cn) ns) ∧ Aside0 (∀ k, ov.ownBlock = some k → (Value.slice An ns.length cn).ownBlock ≠ some k) ∧ Aside0 (Below w.heap.size w wr)) (fun _ iv _ => ((ns.length : Int) - intOf iv).toNat)
  case atStart => exact ⟨0, [lk], rfl, by omega, ⟨by simp, fun x hx => by rw [List.mem_singleton.1 hx]; exact HK.out.1⟩, HRO, HRN, HSEP, HB⟩
  case round =>
   clear HRO HRN HSEP HB
   obtain ⟨i, ys, rfl, hi, HY, HRO, HRN, HSEP, HB⟩ := hrel
   obtain ⟨Ao, co, rfl⟩ := Kd.R_slice HRO.out
   have hl6 := HLN.out.1
   have hl7 := HL.out.1
   by_cases hlt : i < ns.length
   ·have q0 : decide ((i : Int) < (ns.length : Int)) = true := decide_eq_true (by omega)
    have u0 : (0 : Int) ≤ (i : Int) := by omega
    have u1 : (i : Int) < (ns.length : Int) := by omega
    have a9 : wrap64 ((i : Int) + 1) = (i : Int) + 1 := wrap_id (by omega) (by omega)
    have HLY := Aside0.mk (show ys.length ≤ 7 by have := HY.out.1; omega)
    obtain ⟨ad, ea, hx⟩ := Kd.at_string (Kd.R_reads' HRN.out).2.2 (i : Int) u0 u1
    cases ea
    rw [strAt ns i hlt, Int.toNat_natCast] at hx
    have HM := Aside0.mk (HLN.out.2 _ (List.getElem_mem hlt))
    generalize ns[i] = y at hx HM
    by_cases he : y = lk
    ·have e1 : (y.toList == lk.toList) = true := by rw [he]; exact beq_self_eq_true _
     clear he
     go_wp2
     go_roundw
     case rel => exact ⟨i + 1, ys, by go_num, hlt, ⟨by have := HY.out.1; omega, HY.out.2⟩, HRO, HRN, HSEP, HB⟩
     case measure => first | (rw [a9]; exact meas _ _ hlt) | exact meas _ _ hlt
    ·have e1 : (y.toList == lk.toList) = false := beq_eq_false_iff_ne.2 (toList_ne he)
     have HW := Aside0.mk HB.out.size
     clear he
     go_wp2_with (first | ((with_reducible refine gate_builtin (b := .append) (xs := #[.tmp 36, .tmp 38]) rfl ?_); at_builtin; refine Kd.R_append Kd.string (w0 := w) (w.heap.size) rfl (.tmp 36) (.tmp 38) 193 9 (.string ⟨#[]⟩) 16 rfl Tryz.underlying193 infoStr rfl (by decide) (by omega) (.slice Ao ys.length co) (ys) (y) [.string y] (fun _ => True) (fun _ => False) rfl rfl rfl (fun _ hk => hk.elim) (fun _ _ => trivial) HRO.out HB.out HW.out (by have := HLY.out; simp; omega) ?_; intro v9 w9 hr9 hb9 hg9 hat9; have n0_ := Aside0.mk hr9; have n1_ := Aside0.mk hb9; have n2_ := Aside0.mk (Kd.R_mono (Kd.R_grown (Kd.R_tight rfl HRN.out) hg9 (fun k hk e => HSEP.out k e.symm hk.symm)) (ok' := fun _ => True) (fun _ _ => trivial)); have n3_ := Aside0.mk (sepA HSEP.out hat9 (Kd.R_lt HRN.out)); clear hr9 hb9 hg9 hat9))
     go_roundw
     case rel => exact ⟨i + 1, ys ++ [y], by go_num, hlt, ⟨by have := HY.out.1; simp; omega, HY.out.2.snoc HM.out⟩, n0_, n2_, n3_, n1_⟩
     case measure => first | (rw [a9]; exact meas _ _ hlt) | exact meas _ _ hlt
   ·have q0 : decide ((i : Int) < (ns.length : Int)) = false := decide_eq_false (by omega)
    have HF := Aside0.mk (show ys.length ≤ 7 by have := HY.out.1; omega)
    go_wp2
    go_ret
    exact ⟨_, ys, rfl, HRO.out, HF.out, HY.out.2, HB.out⟩
def FST4.T4 : Bool × List (List Nat × List Nat) := (true, [([], []), ([0], [0]), ([1], [1]), ([2], [2]), ([], []), ([4], [4]), ([3, 5], [3, 5]), ([6], [6])])
def FST4.B4 : List Nat := [0, 1, 3, 7, 0, 16, 63, 127]
theorem FST4.tab4 : rtab .any (opsOf Tryz.f211 4) = FST4.T4 := by kernel_rfl
theorem FST4.bits4 : waitsOk FST4.T4.2 FST4.B4 = true := by kernel_rfl
set_option maxRecDepth 100000 in
set_option maxHeartbeats 1000000 in
theorem core.first.lacks {w0 w : World} {N0 gc gx : Nat} {x : Nd} {r : List Nd} (h : CN w0 N0 w gc gx (x :: r)) (hb : Below w0.heap.size w0 w) (hi : IX w gx) (hx : x.1.size ≤ 1000) : Calls Tryz.prog 211 #[.pointer (some ⟨gc, 0, none⟩)] w fun e w' => e = .returned (.tuple #[.int .i64 3, .string x.1]) ∧ Below w.heap.size w w' := by
 obtain ⟨vr, gt, gs, a4, a5, a6, vlog, a8, a12, h1, h2, _⟩ := h
 obtain ⟨Ar, cr, rfl⟩ := Kd.R_slice h2
 have hC := kNm_read hb (Kd.R_reads' h2).2.2
 have hl := (Kd.R_reads' h2).2.1
 have HI := Aside0.mk hi
 have HX := Aside0.mk hx
 have HC := Aside0.mk h1
 have c1 : w.cell? ⟨gc, 1, none⟩ = some (.slice Ar (x :: r).length cr) := (blk_cell h1 1).trans rfl
 obtain ⟨ad, A1, c1', rfl, k0, k1, hlc, hcs⟩ := at_Nd hC 0 (by simp)
 rw [show (x :: r).getD 0 zNd = x from rfl] at k0 k1 hlc hcs
 have ead : ad.add (0 * 2) = ad := by cases ad; rfl
 rw [ead] at k0 k1
 obtain ⟨n, hn⟩ : ∃ n, (x :: r).length = n := ⟨_, rfl⟩
 rw [hn] at c1
 have q0 : decide ((0 : Int) < (n : Int)) = true := decide_eq_true (by simp at hn; omega)
 have u1 : (0 : Int) < (n : Int) := by simp at hn; omega
 clear h1 h2 hC hl hi hx hb ead hlc hcs hn
 go_enter Tryz.func211, Tryz.ntmps211
 go_wp2
 go_loopw [15] (fun iv wr => iv = .int .i64 0 ∧ wr = w) (fun _ _ => 0)
 case atStart => exact ⟨rfl, rfl⟩
 case round =>
  obtain ⟨rfl, rfl⟩ := hrel
  have hba := below_alloc (Below.refl wr.heap.size wr) (.cells #[.string x.1, .slice A1 x.2.length c1'] 117)
  have HG1 := Aside0.mk (blk_new wr (.cells #[.string x.1, .slice A1 x.2.length c1'] 117))
  have HC1 := Aside0.mk (blk_below HC.out hba)
  have HI1 := Aside0.mk (HI.out.below hba)
  have HB1 := Aside0.mk hba
  clear hba
  go_wp2
  generalize wr.alloc (.cells #[.string x.1, .slice A1 x.2.length c1'] 117) = w1 at HG1 HC1 HI1 HB1 ⊢
  generalize wr.heap.size = gb at HG1 ⊢
  have HG2 := Aside0.mk (show w1.drew.heap[gb]? = _ from HG1.out)
  have HC2 := Aside0.mk (show w1.drew.heap[gc]? = _ from HC1.out)
  have HI2 := Aside0.mk (show IX w1.drew gx from HI1.out.below (below_drew (Below.refl _ _)))
  have HB2 := Aside0.mk (below_drew HB1.out)
  clear HG1 HC1 HI1 HB1
  refine start_ (n := 8) (S := fun w' => w'.cell? ⟨gc, 0, none⟩ = some (.pointer (some ⟨gx, 0, none⟩)) ∧ w'.cell? ⟨gb, 0, none⟩ = some (.string x.1)) (ds := []) #[O,O,O,O,O,O,O,O] (by kernel_rfl) rfl rfl ⟨((blk_cell HC2.out 0).trans rfl), ((blk_cell HG2.out 0).trans rfl)⟩ (fun hHeld => ?_)
  refine with_tabW FST4.tab4 FST4.bits4 (fun HT_ HW_ => ?_)
  refine pure_ (i := 0) (N := some 19) (v := ?_) (a' := ?_) #[Y,O,O,O,O,O,O,O] rfl rfl (any_of HT_.out (by kernel_rfl)) (fun _ _ _ h => h) (Or.inl ⟨by rfl, ?_⟩) ?_ ?_
  rotate_left
  ·intro w'
   go_simp
   with_reducible rfl
  rotate_left
  ·simp only [PN]
   rfl
  refine pure_ (i := 1) (N := some 20) (v := ?_) (a' := ?_) #[Y,Y,O,O,O,O,O,O] rfl rfl (any_of HT_.out (by kernel_rfl)) (fun _ _ _ h => h) (Or.inl ⟨by rfl, ?_⟩) ?_ ?_
  rotate_left
  ·intro w'
   go_simp
   with_reducible rfl
  rotate_left
  ·simp only [PN]
   rfl
  refine pure_ (i := 2) (N := some 21) (v := ?_) (a' := ?_) #[Y,Y,Y,O,O,O,O,O] rfl rfl (any_of HT_.out (by kernel_rfl)) (fun _ _ _ h => h) (Or.inl ⟨by rfl, ?_⟩) ?_ ?_
  rotate_left
  ·intro w'
   go_simp
   with_reducible rfl
  rotate_left
  ·simp only [PN]
   rfl
  refine pure_ (i := 4) (N := some 23) (v := ?_) (a' := ?_) #[Y,Y,Y,O,Y,O,O,O] rfl rfl (any_of HT_.out (by kernel_rfl)) (fun _ _ _ h => h) (Or.inl ⟨by rfl, ?_⟩) ?_ ?_
  rotate_left
  ·intro w'
   go_simp
   with_reducible rfl
  rotate_left
  ·simp only [PN]
   rfl
  refine take_ (i := 3) (N := some 22) (v := ?_) (a' := ?_) #[Y,Y,Y,Y,Y,O,O,O] rfl rfl (take_ofW HT_.out HW_.out (by kernel_rfl)) (fun _ _ _ h => h) (Or.inl ⟨by rfl, ?_⟩) hHeld ?_ ?_
  rotate_left
  ·rintro w' ⟨s0, s1⟩
   go_simp
   with_reducible rfl
  rotate_left
  ·simp only [PN]
   rfl
  refine take_ (i := 5) (N := some 24) (v := ?_) (a' := ?_) #[Y,Y,Y,Y,Y,Y,O,O] rfl rfl (take_ofW HT_.out HW_.out (by kernel_rfl)) (fun _ _ _ h => h) (Or.inl ⟨by rfl, ?_⟩) hHeld ?_ ?_
  rotate_left
  ·rintro w' ⟨s0, s1⟩
   go_simp
   with_reducible rfl
  rotate_left
  ·simp only [PN]
   rfl
  refine one_ (i := 6) (N := some 25) #[Y,Y,Y,Y,Y,Y,Y,O] rfl rfl (one_of HT_.out (by kernel_rfl)) (by decide) (fun K hK => ?_)
  refine goes_ Tryz.func154 (by kernel_rfl) rfl #[.pointer (some ⟨gx, 0, none⟩), .string x.1] (by rfl) rfl rfl (by (try simp only [List.map_toArray, List.map_cons, List.map_nil]); first | done | rfl) ?_
  refine (index.Has.calls HI2.out x.1 HX.out).mono ?_
  rintro e w5 ⟨rfl, rfl⟩
  refine ⟨_, rfl, ?_⟩
  refine hK.out _ _ ⟨((blk_cell HC2.out 0).trans rfl), ((blk_cell HG2.out 0).trans rfl)⟩ (fun hHeld => ?_)
  clear hK K
  refine norm_ (a' := ?_) ?_ ?_
  rotate_left
  ·show Act.put _ (some 25) _ = _
   simp only [PN]
   rfl
  refine pure_ (i := 7) (N := some 26) (v := ?_) (a' := ?_) #[Y,Y,Y,Y,Y,Y,Y,Y] rfl rfl (any_of HT_.out (by kernel_rfl)) (fun _ _ _ h => h) (Or.inl ⟨by rfl, ?_⟩) ?_ ?_
  rotate_left
  ·intro w'
   go_simp
   with_reducible rfl
  rotate_left
  ·simp only [PN]
   rfl
  refine done_ (done_of HT_.out (by kernel_rfl)) ?_
  clear hHeld
  generalize w1.drew = w2 at HG2 HB2 ⊢
  have k2 : w2.cell? ⟨gb, 0, none⟩ = some (.string x.1) := (blk_cell HG2.out 0).trans rfl
  go_wp2
  go_quiet (fail)
  go_wp2
  go_ret2
  exact ⟨rfl, pw_below_drewN HB2.out _⟩
theorem core.Run.lacks {w0 w : World} {N0 gc gx : Nat} {x : Nd} {r : List Nd} (h : CN w0 N0 w gc gx (x :: r)) (hb : Below w0.heap.size w0 w) (hi : IX w gx) (hx : x.1.size ≤ 1000) : Calls Tryz.prog 158 #[.pointer (some ⟨gc, 0, none⟩)] w fun e w' => e = .returned (.tuple #[.int .i64 3, .string x.1]) ∧ Below w.heap.size w w' := by
 have HF := Aside0.mk (core.first.lacks h hb hi hx)
 obtain ⟨vr, gt, gs, a4, a5, a6, vlog, a8, a12, h1, h2, _⟩ := h
 have c1 : w.cell? ⟨gc, 10, none⟩ = some (.int .i64 0) := (blk_cell h1 10).trans rfl
 clear h1 h2 hb hi
 go_enter Tryz.func158, Tryz.ntmps158
 go_wp2_with fail
 refine HF.out.mono ?_
 rintro e w4 ⟨rfl, hb4⟩
 have HB := Aside0.mk hb4
 clear hb4 c1 HF
 go_wp2
 go_ret2
 exact ⟨rfl, HB.out⟩
theorem trail.Picks.nil {w : World} {g : Nat} (h : w.heap[g]? = some (.cells #[.slice none 0 0, .slice none 0 0] 359 (0, 0))) : Calls Tryz.prog 274 #[.pointer (some ⟨g, 0, none⟩)] w fun e w' => e = .returned (.slice none 0 0) ∧ w' = w := by
 have c1 : w.cell? ⟨g, 1, none⟩ = some (.slice none 0 0) := (blk_cell h 1).trans rfl
 clear h
 go_enter Tryz.func274, Tryz.ntmps274
 go_wp2
 go_loopw [3, 16] (fun ov iv wr => ov = .slice none 0 0 ∧ iv = .int .i64 0 ∧ wr = w) (fun _ _ _ => 0)
 case atStart => exact ⟨rfl, rfl, rfl⟩
 case round =>
  obtain ⟨rfl, rfl, rfl⟩ := hrel
  go_wp2
  go_ret
  exact ⟨rfl, rfl⟩
theorem core.first.nil {w0 w : World} {N0 gc gx : Nat} (h : CN w0 N0 w gc gx []) : Calls Tryz.prog 211 #[.pointer (some ⟨gc, 0, none⟩)] w fun e w' => e = .returned (.tuple #[.int .i64 0, .string ⟨#[]⟩]) ∧ w' = w := by
 obtain ⟨vr, gt, gs, a4, a5, a6, vlog, a8, a12, h1, h2, _⟩ := h
 obtain ⟨Ar, cr, rfl⟩ := Kd.R_slice h2
 have c1 : w.cell? ⟨gc, 1, none⟩ = some (.slice Ar 0 cr) := (blk_cell h1 1).trans rfl
 clear h1 h2
 go_enter Tryz.func211, Tryz.ntmps211
 go_wp2
 go_loopw [15] (fun iv wr => iv = .int .i64 0 ∧ wr = w) (fun _ _ => 0)
 case atStart => exact ⟨rfl, rfl⟩
 case round =>
  obtain ⟨rfl, rfl⟩ := hrel
  go_wp2
  go_loopw [35] (fun iv w2 => iv = .int .i64 0 ∧ w2 = wr) (fun _ _ => 0)
  case atStart => exact ⟨rfl, rfl⟩
  case round =>
   obtain ⟨rfl, rfl⟩ := hrel
   go_wp2
   go_ret2
   exact ⟨rfl, rfl⟩
theorem store.Live.nil {w : World} {g : Nat} {Av : Option Addr} {cv m : Nat} (h : w.heap[g]? = some (.cells #[.slice Av 0 cv, .map (some m)] 363 (0, 0))) : Calls Tryz.prog 341 #[.pointer (some ⟨g, 0, none⟩)] w fun e w' => e = .returned (.slice none 0 0) ∧ w' = w := by
 have c1 : w.cell? ⟨g, 0, none⟩ = some (.slice Av 0 cv) := (blk_cell h 0).trans rfl
 clear h
 go_enter Tryz.func341, Tryz.ntmps341
 go_wp2
 go_loopw [3, 7] (fun ov iv wr => ov = .slice none 0 0 ∧ iv = .int .i64 0 ∧ wr = w) (fun _ _ _ => 0)
 case atStart => exact ⟨rfl, rfl, rfl⟩
 case round =>
  obtain ⟨rfl, rfl, rfl⟩ := hrel
  go_wp2
  go_ret
  exact ⟨rfl, rfl⟩
theorem unit.look.nil {w : World} {g gt : Nat} {Av : Option Addr} {cv m : Nat} (h : w.heap[g]? = some (.cells #[.slice Av 0 cv, .map (some m)] 363 (0, 0))) : Calls Tryz.prog 329 #[.pointer (some ⟨gt, 0, none⟩), .pointer (some ⟨g, 0, none⟩)] w fun e w' => e = .returned (.tuple #[.int .i64 (-1), .int .i64 (-1), .string ⟨#[]⟩]) ∧ w' = w := by
 go_enter Tryz.func329, Tryz.ntmps329
 go_wp2_with fail
 refine (store.Live.nil h).mono ?_
 rintro e w4 ⟨rfl, rfl⟩
 clear h
 go_wp2
 go_loopw [4, 5, 6, 16] (fun av bv cv iv wr => av = .int .i64 (-1) ∧ bv = .int .i64 (-1) ∧ cv = .string ⟨#[]⟩ ∧ iv = .int .i64 0 ∧ wr = w4) (fun _ _ _ _ _ => 0)
 case atStart => exact ⟨rfl, rfl, rfl, rfl, rfl⟩
 case round =>
  obtain ⟨rfl, rfl, rfl, rfl, rfl⟩ := hrel
  go_wp2
  go_ret3
  exact ⟨rfl, rfl⟩
theorem unit.Run.nil {w : World} {g gt : Nat} {Av : Option Addr} {cv m : Nat} (h : w.heap[g]? = some (.cells #[.slice Av 0 cv, .map (some m)] 363 (0, 0))) : Calls Tryz.prog 217 #[.pointer (some ⟨gt, 0, none⟩), .pointer (some ⟨g, 0, none⟩)] w fun e w' => e = .returned (.tuple #[.int .i64 0, .bool false]) ∧ w' = w := by
 have on : Calls Tryz.prog 276 #[.pointer (some ⟨gt, 0, none⟩), .pointer (some ⟨g, 0, none⟩), .func (.func 277) #[] #[]] w fun e w' => e = .returned (.tuple #[.int .i64 0, .int .i64 (-1)]) ∧ w' = w := by
  have H := Aside0.mk h
  clear h
  go_enter Tryz.func276, Tryz.ntmps276
  go_wp2
  go_loopw [8] (fun iv wr => iv = .int .i64 0 ∧ wr = w) (fun _ _ => 0)
  case atStart => exact ⟨rfl, rfl⟩
  case round =>
   obtain ⟨rfl, rfl⟩ := hrel
   go_wp2_with fail
   refine (unit.look.nil H.out).mono ?_
   rintro e w4 ⟨rfl, rfl⟩
   go_wp2
   go_ret2
   exact ⟨rfl, rfl⟩
 clear h
 go_enter Tryz.func217, Tryz.ntmps217
 go_wp2_with fail
 refine on.mono ?_
 rintro e w4 ⟨rfl, rfl⟩
 clear on
 go_wp2
 go_ret2
 exact ⟨rfl, rfl⟩
theorem plain.Next1.nil (A : Option Addr) (c : Nat) (p1 p2 : Value) (w : World) : Calls Tryz.prog 344 #[.slice A 0 c, p1, p2] w fun e w' => e = .returned (.tuple #[]) ∧ w' = w := by
 go_enter Tryz.func344, Tryz.ntmps344
 go_wp2
 go_loopw [10] (fun iv wr => iv = .int .i64 0 ∧ wr = w) (fun _ _ => 0)
 case atStart => exact ⟨rfl, rfl⟩
 case round =>
  obtain ⟨rfl, rfl⟩ := hrel
  go_wp2
  go_end0
  exact ⟨rfl, rfl⟩
theorem plain.Next.nil (A : Option Addr) (c gx : Nat) (w : World) : Calls Tryz.prog 286 #[.pointer (some ⟨gx, 0, none⟩), .slice A 0 c, .slice none 0 0] w fun e w' => e = .returned (.tuple #[.string ⟨#[]⟩, .bool false]) ∧ Below w.heap.size w w' := by
 have hmf := makeFn
 have HB := Aside0.mk (below_alloc (below_alloc (Below.refl w.heap.size w) (.cells #[.slice none 0 0] 46)) (.cells #[.slice none 0 0] 193))
 have hs1 : (w.alloc (.cells #[.slice none 0 0] 46)).heap.size = w.heap.size + 1 := by simp
 have h1 := blk_below (blk_new w (.cells #[.slice none 0 0] 46)) (below_alloc (Below.refl _ _) (.cells #[.slice none 0 0] 193))
 have h2 := blk_new (w.alloc (.cells #[.slice none 0 0] 46)) (.cells #[.slice none 0 0] 193)
 rw [hs1] at h2
 go_enter Tryz.func286, Tryz.ntmps286
 go_wp2_with fail
 generalize (w.alloc (.cells #[.slice none 0 0] 46)).alloc (.cells #[.slice none 0 0] 193) = w1 at HB h1 h2 ⊢
 have k1 : w1.cell? ⟨w.heap.size, 0, none⟩ = some (.slice none 0 0) := (blk_cell h1 0).trans rfl
 have k2 : w1.cell? ⟨w.heap.size + 1, 0, none⟩ = some (.slice none 0 0) := (blk_cell h2 0).trans rfl
 clear h1 h2 hs1
 refine (plain.Next1.nil A c _ _ w1).mono ?_
 rintro e w4 ⟨rfl, rfl⟩
 go_wp2
 go_loopw [18] (fun iv wr => iv = .int .i64 0 ∧ wr = w4) (fun _ _ => 0)
 case atStart => exact ⟨rfl, rfl⟩
 case round =>
  obtain ⟨rfl, rfl⟩ := hrel
  go_wp2
  go_ret2
  exact ⟨rfl, HB.out⟩
set_option maxRecDepth 100000 in
theorem choice.done.nil {w : World} {g : Nat} {cs : Array Value} (h : w.heap[g]? = some (.cells cs 412 (0, 0))) (hc : cs[4]? = some (.bool false)) : Calls Tryz.prog 287 #[.pointer (some ⟨g, 0, none⟩)] w fun e w' => e = .returned (.tuple #[.agg #[.int .i64 1, .string ⟨#[]⟩, .int .i64 0], .bool true]) ∧ Below w.heap.size w w' := by
 have hb := below_alloc (Below.refl w.heap.size w) (.cells #[.int .i64 0, .string ⟨#[]⟩, .int .i64 0] 417)
 have hg := blk_below h hb
 have hn := blk_new w (.cells #[.int .i64 0, .string ⟨#[]⟩, .int .i64 0] 417)
 have HB := Aside0.mk hb
 have HN := Aside0.mk hn
 go_enter Tryz.func287, Tryz.ntmps287
 go_wp2
 have hne : g ≠ w.heap.size := Nat.ne_of_lt (blk_lt h)
 generalize w.alloc (.cells #[.int .i64 0, .string ⟨#[]⟩, .int .i64 0] 417) = w1 at HB HN hg ⊢
 generalize hg2 : w.heap.size = g2 at HN hne ⊢
 have HLE := Aside0.mk (show w.heap.size ≤ g2 by omega)
 have k0 : w1.cell? ⟨g, 4, none⟩ = some (.bool false) := (blk_cell hg 4).trans hc
 have k1 : w1.cell? ⟨g2, 0, none⟩ = some (.int .i64 0) := (blk_cell HN.out 0).trans rfl
 have k2 : w1.cell? ⟨g2, 1, none⟩ = some (.string ⟨#[]⟩) := (blk_cell HN.out 1).trans rfl
 have k3 : w1.cell? ⟨g2, 2, none⟩ = some (.int .i64 0) := (blk_cell HN.out 2).trans rfl
 have f1 := blk_frozen HN.out 0
 have f2 := blk_frozen HN.out 1
 have f3 := blk_frozen HN.out 2
 clear hb hg hn h hc
 go_region
 have hle : w.heap.size ≤ g2 := HLE.out
 have HP := Aside0.mk (blk_put (blk_put (blk_put HN.out 0 (.int .i64 1) rfl) 1 (.string ⟨#[]⟩) rfl) 2 (.int .i64 0) rfl)
 have HQ := Aside0.mk (((HB.out.setCell (p := ⟨g2, 0, none⟩) hle (.int .i64 1)).setCell (p := ⟨g2, 1, none⟩) hle (.string ⟨#[]⟩)).setCell (p := ⟨g2, 2, none⟩) hle (.int .i64 0))
 generalize ((w1.setCell ⟨g2, 0, none⟩ (.int .i64 1)).setCell ⟨g2, 1, none⟩ (.string ⟨#[]⟩)).setCell ⟨g2, 2, none⟩ (.int .i64 0) = w6 at HP HQ ⊢
 go_wp2
 refine bodyPost_ret (results_ct rfl _ _ g2 417 #[.int .i64 1, .string ⟨#[]⟩, .int .i64 0] (0, 0) _ rfl (show w6.drew.heap[g2]? = _ from HP.out) Tryz.underlying417 rfl (by kernel_rfl)) rfl ?_
 exact ⟨rfl, below_drew HQ.out⟩
set_option maxRecDepth 100000 in
theorem choice.Next.nil (A : Option Addr) (c gx : Nat) {gt : Nat} {w : World} (h : w.heap[gt]? = some (.cells #[.slice none 0 0, .slice none 0 0] 359 (0, 0))) : Calls Tryz.prog 220 #[.pointer (some ⟨gx, 0, none⟩), .slice A 0 c, .pointer (some ⟨gt, 0, none⟩)] w fun e w' => e = .returned (.tuple #[.int .i64 1, .string ⟨#[]⟩, .int .i64 0]) ∧ Below w.heap.size w w' := by
 have hmf := makeFn
 have hb := below_alloc (Below.refl w.heap.size w) (.cells #[.pointer (some ⟨gx, 0, none⟩), .slice A 0 c, .pointer (some ⟨gt, 0, none⟩), .string ⟨#[]⟩, .bool false] 412)
 have HN := Aside0.mk (blk_new w (.cells #[.pointer (some ⟨gx, 0, none⟩), .slice A 0 c, .pointer (some ⟨gt, 0, none⟩), .string ⟨#[]⟩, .bool false] 412))
 have HT := Aside0.mk (blk_below h hb)
 have HB := Aside0.mk hb
 clear hb h
 go_enter Tryz.func220, Tryz.ntmps220
 go_wp2_with fail
 generalize w.alloc (.cells #[.pointer (some ⟨gx, 0, none⟩), .slice A 0 c, .pointer (some ⟨gt, 0, none⟩), .string ⟨#[]⟩, .bool false] 412) = w1 at HN HT HB ⊢
 generalize hg : w.heap.size = g at HN ⊢
 have HLE := Aside0.mk (show w.heap.size ≤ g by omega)
 clear hg
 refine (trail.Picks.nil HT.out).mono ?_
 rintro e w4 ⟨rfl, rfl⟩
 go_wp2_with fail
 refine (plain.Next.nil A c gx w4).mono ?_
 rintro e w5 ⟨rfl, hb5⟩
 have HN5 := Aside0.mk (blk_below HN.out hb5)
 have k3 : w5.cell? ⟨g, 3, none⟩ = some (.string ⟨#[]⟩) := (blk_cell HN5.out 3).trans rfl
 have k4 : w5.cell? ⟨g, 4, none⟩ = some (.bool false) := (blk_cell HN5.out 4).trans rfl
 have f3 := blk_frozen HN5.out 3
 have f4 := blk_frozen HN5.out 4
 have HP := Aside0.mk (blk_put (blk_put HN5.out 3 (.string ⟨#[]⟩) rfl) 4 (.bool false) rfl)
 have HB5 := Aside0.mk (((below_step HB.out hb5).setCell (p := ⟨g, 3, none⟩) HLE.out (.string ⟨#[]⟩)).setCell (p := ⟨g, 4, none⟩) HLE.out (.bool false))
 clear hb5 HN HT HN5
 go_wp2
 clear k3 k4 f3 f4
 generalize (w5.setCell ⟨g, 3, none⟩ (.string ⟨#[]⟩)).setCell ⟨g, 4, none⟩ (.bool false) = w6 at HP HB5 ⊢
 go_loopw [42] (fun iv wr => iv = .int .i64 0 ∧ wr = w6) (fun _ _ => 0)
 case atStart => exact ⟨rfl, rfl⟩
 case round =>
  obtain ⟨rfl, rfl⟩ := hrel
  have hix : ∀ w : World, (Instr.index 415 (.agg #[.func (.func 287) #[.pointer (some ⟨g, 0, none⟩)] #[], .func (.func 288) #[.pointer (some ⟨g, 0, none⟩)] #[], .func (.func 289) #[.pointer (some ⟨g, 0, none⟩)] #[], .func (.func 290) #[.pointer (some ⟨g, 0, none⟩)] #[]]) (.int .i64 0)).run Tryz.prog w = .ok (.func (.func 287) #[.pointer (some ⟨g, 0, none⟩)] #[]) w := fun w => by kernel_rfl
  go_wp2_with fail
  refine (choice.done.nil HP.out rfl).mono ?_
  rintro e w7 ⟨rfl, hb7⟩
  have HB8 := Aside0.mk (below_step HB5.out (below_alloc hb7 (.cells #[.int .i64 1, .string ⟨#[]⟩, .int .i64 0] 417)))
  have HN8 := Aside0.mk (blk_new w7 (.cells #[.int .i64 1, .string ⟨#[]⟩, .int .i64 0] 417))
  clear hb7 HP HB5
  go_wp2
  generalize w7.alloc (.cells #[.int .i64 1, .string ⟨#[]⟩, .int .i64 0] 417) = w8 at HB8 HN8 ⊢
  generalize w7.heap.size = g8 at HN8 ⊢
  have k0 : w8.cell? ⟨g8, 0, none⟩ = some (.int .i64 1) := (blk_cell HN8.out 0).trans rfl
  have k1 : w8.cell? ⟨g8, 1, none⟩ = some (.string ⟨#[]⟩) := (blk_cell HN8.out 1).trans rfl
  have k2 : w8.cell? ⟨g8, 2, none⟩ = some (.int .i64 0) := (blk_cell HN8.out 2).trans rfl
  go_quiet (fail)
  go_wp2
  go_ret3
  exact ⟨rfl, pw_below_drewN HB8.out _⟩
section
variable {w : World} {gc gx gt gs : Nat} {vr a4 a5 a6 vlog a8 a12 : Value}
theorem core.end.calls (kn : Int) (h : w.heap[gc]? = some (.cells #[.pointer (some ⟨gx, 0, none⟩), vr, .pointer (some ⟨gt, 0, none⟩), .pointer (some ⟨gs, 0, none⟩), a4, a5, a6, vlog, a8, .int .i64 0, .int .i64 0, .string ⟨#[]⟩, a12] 306 (0, 0))) : Calls Tryz.prog 212 #[.pointer (some ⟨gc, 0, none⟩), .int .i64 1, .string ⟨#[]⟩] w fun e w' => e = .returned (.tuple #[.int .i64 1, .string ⟨#[]⟩]) ∧ w'.heap[gc]? = some (.cells #[.pointer (some ⟨gx, 0, none⟩), vr, .pointer (some ⟨gt, 0, none⟩), .pointer (some ⟨gs, 0, none⟩), a4, a5, a6, vlog, a8, .int .i64 0, .int .i64 1, .string ⟨#[]⟩, a12] 306 (0, 0)) ∧ w.grownBy w' (some gc) := by
 have k0 : w.cell? ⟨gc, 10, none⟩ = some (.int .i64 0) := (blk_cell h 10).trans rfl
 have k1 : w.cell? ⟨gc, 11, none⟩ = some (.string ⟨#[]⟩) := (blk_cell h 11).trans rfl
 have f0 := blk_frozen h 10
 have f1 := blk_frozen h 11
 have HP := Aside0.mk (blk_put (blk_put h 10 (.int .i64 1) rfl) 11 (.string ⟨#[]⟩) rfl)
 clear h
 go_enter Tryz.func212, Tryz.ntmps212
 go_wp2
 go_ret2
 exact ⟨rfl, HP.out, (grown_set _ gc _ _).trans_row (grown_set _ gc _ _)⟩
theorem core.done.nil (h : w.heap[gc]? = some (.cells #[.pointer (some ⟨gx, 0, none⟩), vr, .pointer (some ⟨gt, 0, none⟩), .pointer (some ⟨gs, 0, none⟩), a4, a5, a6, vlog, a8, .int .i64 0, .int .i64 0, .string ⟨#[]⟩, a12] 306 (0, 0))) (ht : w.heap[gt]? = some (.cells #[.slice none 0 0, .slice none 0 0] 359 (0, 0))) : Calls Tryz.prog 214 #[.pointer (some ⟨gc, 0, none⟩), .string ⟨#[]⟩, .int .i64 0] w fun e w' => e = .returned (.bool true) ∧ w'.heap[gc]? = some (.cells #[.pointer (some ⟨gx, 0, none⟩), vr, .pointer (some ⟨gt, 0, none⟩), .pointer (some ⟨gs, 0, none⟩), a4, a5, a6, vlog, a8, .int .i64 0, .int .i64 1, .string ⟨#[]⟩, .slice none 0 0] 306 (0, 0)) ∧ w.grownBy w' (some gc) := by
 have k0 : w.cell? ⟨gc, 2, none⟩ = some (.pointer (some ⟨gt, 0, none⟩)) := (blk_cell h 2).trans rfl
 have k1 : w.cell? ⟨gc, 12, none⟩ = some a12 := (blk_cell h 12).trans rfl
 have f1 := blk_frozen h 12
 have HP := Aside0.mk (show (w.setCell ⟨gc, 12, none⟩ (.slice none 0 0)).heap[gc]? = some (.cells #[.pointer (some ⟨gx, 0, none⟩), vr, .pointer (some ⟨gt, 0, none⟩), .pointer (some ⟨gs, 0, none⟩), a4, a5, a6, vlog, a8, .int .i64 0, .int .i64 0, .string ⟨#[]⟩, .slice none 0 0] 306 (0, 0)) from blk_put h 12 (.slice none 0 0) rfl)
 have HT := Aside0.mk ht
 clear h ht
 go_enter Tryz.func214, Tryz.ntmps214
 go_wp2_with fail
 refine (trail.Picks.nil HT.out).mono ?_
 rintro e w4 ⟨rfl, rfl⟩
 go_wp2_with fail
 refine (core.end.calls 0 HP.out).mono ?_
 rintro e w5 ⟨rfl, h5, hg5⟩
 have HF := Aside0.mk (And.intro h5 ((grown_set w4 gc 12 (.slice none 0 0)).trans_row hg5))
 clear h5 hg5
 go_wp2
 go_ret
 exact ⟨rfl, HF.out.1, HF.out.2⟩
end
theorem Kd.C_nil0 {α : Type} (d : Kd α) (w : World) (A : Option Addr) : d.C w A 0 [] := ⟨rfl, by simp, fun h => by simp at h⟩
def CRD0.T0 : Bool × List (List Nat × List Nat) := (true, [([], []), ([0], [0]), ([1], [1]), ([2], [2]), ([], []), ([4], [4]), ([5], [5]), ([6], [6]), ([3, 7], [3, 7]), ([8], [8]), ([], [])])
def CRD0.B0 : List Nat := [0, 1, 3, 7, 0, 16, 48, 112, 255, 511, 0]
theorem CRD0.tab0 : rtab .any (opsOf Tryz.f213 0) = CRD0.T0 := by kernel_rfl
theorem CRD0.bits0 : waitsOk CRD0.T0.2 CRD0.B0 = true := by kernel_rfl
set_option maxRecDepth 100000 in
theorem core.read.nil {w0 w : World} {N0 gc gx : Nat} (h : CN w0 N0 w gc gx []) (hi : IX w gx) : Calls Tryz.prog 213 #[.pointer (some ⟨gc, 0, none⟩)] w fun e w' => e = .returned (.tuple #[]) ∧ Below w.heap.size w w' := by
 obtain ⟨vr, gt, gs, a4, a5, a6, vlog, a8, a12, h1, h2, _⟩ := h
 obtain ⟨Ar, cr, rfl⟩ := Kd.R_slice h2
 replace h1 : w.heap[gc]? = some (.cells #[.pointer (some ⟨gx, 0, none⟩), .slice Ar 0 cr, .pointer (some ⟨gt, 0, none⟩), .pointer (some ⟨gs, 0, none⟩), a4, a5, a6, vlog, a8, .int .i64 0, .int .i64 0, .string ⟨#[]⟩, a12] 306 (0, 0)) := h1
 have HC2 := Aside0.mk (show w.drew.heap[gc]? = _ from h1)
 have HI2 := Aside0.mk (show IX w.drew gx from hi.below (below_drew (Below.refl _ _)))
 have HB2 := Aside0.mk (show Below w.heap.size w w.drew from below_drew (Below.refl _ _))
 clear h1 h2 hi
 go_enter Tryz.func213, Tryz.ntmps213
 go_wp2
 refine start_ (n := 11) (S := fun w' => w'.cell? ⟨gc, 0, none⟩ = some (.pointer (some ⟨gx, 0, none⟩)) ∧ w'.cell? ⟨gc, 1, none⟩ = some (.slice Ar 0 cr)) (ds := []) #[O,O,O,O,O,O,O,O,O,O,O] (by kernel_rfl) rfl rfl ⟨((blk_cell HC2.out 0).trans rfl), ((blk_cell HC2.out 1).trans rfl)⟩ (fun hHeld => ?_)
 refine with_tabW CRD0.tab0 CRD0.bits0 (fun HT_ HW_ => ?_)
 refine pure_ (i := 0) (N := some 8) (v := ?_) (a' := ?_) #[Y,O,O,O,O,O,O,O,O,O,O] rfl rfl (any_of HT_.out (by kernel_rfl)) (fun _ _ _ h => h) (Or.inl ⟨by rfl, ?_⟩) ?_ ?_
 rotate_left
 ·intro w'
  go_simp
  with_reducible rfl
 rotate_left
 ·simp only [PN]
  rfl
 refine pure_ (i := 1) (N := some 9) (v := ?_) (a' := ?_) #[Y,Y,O,O,O,O,O,O,O,O,O] rfl rfl (any_of HT_.out (by kernel_rfl)) (fun _ _ _ h => h) (Or.inl ⟨by rfl, ?_⟩) ?_ ?_
 rotate_left
 ·intro w'
  go_simp
  with_reducible rfl
 rotate_left
 ·simp only [PN]
  rfl
 refine pure_ (i := 2) (N := some 10) (v := ?_) (a' := ?_) #[Y,Y,Y,O,O,O,O,O,O,O,O] rfl rfl (any_of HT_.out (by kernel_rfl)) (fun _ _ _ h => h) (Or.inl ⟨by rfl, ?_⟩) ?_ ?_
 rotate_left
 ·intro w'
  go_simp
  with_reducible rfl
 rotate_left
 ·simp only [PN]
  rfl
 refine pure_ (i := 4) (N := some 12) (v := ?_) (a' := ?_) #[Y,Y,Y,O,Y,O,O,O,O,O,O] rfl rfl (any_of HT_.out (by kernel_rfl)) (fun _ _ _ h => h) (Or.inl ⟨by rfl, ?_⟩) ?_ ?_
 rotate_left
 ·intro w'
  go_simp
  with_reducible rfl
 rotate_left
 ·simp only [PN]
  rfl
 refine pure_ (i := 5) (N := some 13) (v := ?_) (a' := ?_) #[Y,Y,Y,O,Y,Y,O,O,O,O,O] rfl rfl (any_of HT_.out (by kernel_rfl)) (fun _ _ _ h => h) (Or.inl ⟨by rfl, ?_⟩) ?_ ?_
 rotate_left
 ·intro w'
  go_simp
  with_reducible rfl
 rotate_left
 ·simp only [PN]
  rfl
 refine pure_ (i := 6) (N := some 14) (v := ?_) (a' := ?_) #[Y,Y,Y,O,Y,Y,Y,O,O,O,O] rfl rfl (any_of HT_.out (by kernel_rfl)) (fun _ _ _ h => h) (Or.inl ⟨by rfl, ?_⟩) ?_ ?_
 rotate_left
 ·intro w'
  go_simp
  with_reducible rfl
 rotate_left
 ·simp only [PN]
  rfl
 refine pure_ (i := 10) (N := some 18) (v := ?_) (a' := ?_) #[Y,Y,Y,O,Y,Y,Y,O,O,O,Y] rfl rfl (any_of HT_.out (by kernel_rfl)) (fun _ _ _ h => h) (Or.inl ⟨by rfl, ?_⟩) ?_ ?_
 rotate_left
 ·intro w'
  go_simp
  with_reducible rfl
 rotate_left
 ·simp only [PN]
  rfl
 refine take_ (i := 3) (N := some 11) (v := ?_) (a' := ?_) #[Y,Y,Y,Y,Y,Y,Y,O,O,O,Y] rfl rfl (take_ofW HT_.out HW_.out (by kernel_rfl)) (fun _ _ _ h => h) (Or.inl ⟨by rfl, ?_⟩) hHeld ?_ ?_
 rotate_left
 ·rintro w' ⟨s0, s1⟩
  go_simp
  with_reducible rfl
 rotate_left
 ·simp only [PN]
  rfl
 refine take_ (i := 7) (N := some 15) (v := ?_) (a' := ?_) #[Y,Y,Y,Y,Y,Y,Y,Y,O,O,Y] rfl rfl (take_ofW HT_.out HW_.out (by kernel_rfl)) (fun _ _ _ h => h) (Or.inl ⟨by rfl, ?_⟩) hHeld ?_ ?_
 rotate_left
 ·rintro w' ⟨s0, s1⟩
  go_simp
  with_reducible rfl
 rotate_left
 ·simp only [PN]
  rfl
 refine one_ (i := 8) (N := some 16) #[Y,Y,Y,Y,Y,Y,Y,Y,Y,O,Y] rfl rfl (one_of HT_.out (by kernel_rfl)) (by decide) (fun K hK => ?_)
 refine goes_ Tryz.func270 (by kernel_rfl) rfl #[.pointer (some ⟨gx, 0, none⟩), .slice Ar 0 cr] (by rfl) rfl rfl (by (try simp only [List.map_toArray, List.map_cons, List.map_nil]); first | done | rfl) ?_
 refine (reach.Names.calls (xs := []) HI2.out (Kd.C_nil0 _ _ _) (by decide) (fun _ h => by cases h)).mono ?_
 rintro e w5 ⟨v5, ys5, rfl, hr5, hn5, hl5, hs5, hb5⟩
 refine ⟨_, rfl, ?_⟩
 have hv5 := hn5 (List.eq_nil_of_length_eq_zero (by simpa using hl5))
 subst hv5
 have HC5 := Aside0.mk (blk_below HC2.out hb5)
 have HB5 := Aside0.mk (below_step HB2.out hb5)
 clear hr5 hn5 hl5 hs5 hb5
 refine hK.out _ _ ⟨((blk_cell HC5.out 0).trans rfl), ((blk_cell HC5.out 1).trans rfl)⟩ (fun hHeld => ?_)
 clear hK K
 refine norm_ (a' := ?_) ?_ ?_
 rotate_left
 ·show Act.put _ (some 16) _ = _
  simp only [PN]
  rfl
 refine pure_ (i := 9) (N := some 17) (v := ?_) (a' := ?_) #[Y,Y,Y,Y,Y,Y,Y,Y,Y,Y,Y] rfl rfl (any_of HT_.out (by kernel_rfl)) (fun _ _ _ h => h) (Or.inl ⟨by rfl, ?_⟩) ?_ ?_
 rotate_left
 ·intro w'
  go_simp
  with_reducible rfl
 rotate_left
 ·simp only [PN]
  rfl
 refine done_ (done_of HT_.out (by kernel_rfl)) ?_
 clear hHeld
 go_wp2
 go_loopw [18] (fun iv wr => iv = .int .i64 0 ∧ wr = w5) (fun _ _ => 0)
 case atStart => exact ⟨rfl, rfl⟩
 case round =>
  obtain ⟨rfl, rfl⟩ := hrel
  go_wp2
  go_end0
  exact ⟨rfl, HB5.out⟩
theorem CN.below {w0 w w' : World} {N0 gc gx : Nat} {xs : List Nd} (h : CN w0 N0 w gc gx xs) (hb : Below w.heap.size w w') : CN w0 N0 w' gc gx xs := h.kf (N0 := 0) (Ts := []) (X := fun _ => False) (Kf.below hb) (by decide)
theorem zeroF : ∃ z, ∀ w : World, (zeroValue 333).run Tryz.prog w = .ok z w := ⟨.nilFunc, fun w => by kernel_rfl⟩
theorem map3 (T E : TypeId) (hT : Tryz.prog.underlying T = some (.map 3 E)) (w : World) (f1 f2 f3 : Value) : ∃ w1 w2 w3, (Instr.mapUpdate T (.map (some w.heap.size)) (.int .i64 1) f1).run Tryz.prog (w.alloc (.map #[] 0)) = .ok () w1 ∧ (Instr.mapUpdate T (.map (some w.heap.size)) (.int .i64 2) f2).run Tryz.prog w1 = .ok () w2 ∧ (Instr.mapUpdate T (.map (some w.heap.size)) (.int .i64 3) f3).run Tryz.prog w2 = .ok () w3 ∧ Below w.heap.size w w3 ∧ ∃ s pl, MV 3 w3 w.heap.size s pl ∧ s ≤ 3 ∧ pl (.int .i64 1) = some f1 ∧ pl (.int .i64 2) = some f2 := by
 have kk : ∀ a : Int, WideAt.IsKeyLit (.int .i64 a) := fun a => by simp [WideAt.IsKeyLit]
 obtain ⟨w1, r1, m1, g1⟩ := (MV.new 3 w).put lawI hT (by omega) (keyI (a := 1) (by omega) (by omega)) (kk _) f1
 obtain ⟨w2, r2, m2, g2⟩ := m1.put lawI hT (by split <;> omega) (keyI (a := 2) (by omega) (by omega)) (kk _) f2
 obtain ⟨w3, r3, m3, g3⟩ := m2.put lawI hT (by split <;> split <;> omega) (keyI (a := 3) (by omega) (by omega)) (kk _) f3
 refine ⟨w1, w2, w3, r1, r2, r3, ?_, _, _, m3, by split <;> split <;> split <;> omega, ?_, ?_⟩
 ·exact below_go (below_go (below_of_grown g1 (Nat.le_refl _) (by simp) |> below_go (below_alloc (Below.refl _ _) _)) (below_of_grown g2 (Nat.le_refl _) (by have := g1.size; simp at this; omega))) (below_of_grown g3 (Nat.le_refl _) (by have := g1.size; have := g2.size; simp at *; omega))
 ·simp [updM]
 ·simp [updM]
def CRN13.T13 : Bool × List (List Nat × List Nat) := (true, [([], []), ([0], [0]), ([1], [1]), ([2], [2]), ([], []), ([4], [4]), ([5], [5]), ([6], [6]), ([3, 7], [3, 7]), ([8], [8]), ([9], [9]), ([9], [9]), ([10, 8, 0, 1, 2, 3, 4, 5, 6, 7, 8, 9, 10], [10]), ([11, 12, 0, 1, 2, 3, 4, 5, 6, 7, 8, 9, 10, 11, 12], [11])])
def CRN13.B13 : List Nat := [0, 1, 3, 7, 0, 16, 48, 112, 255, 511, 1023, 1023, 2047, 8191]
theorem CRN13.tab13 : rtab .any (opsOf Tryz.f158 13) = CRN13.T13 := by kernel_rfl
theorem CRN13.bits13 : waitsOk CRN13.T13.2 CRN13.B13 = true := by kernel_rfl
def CRN18.T18 : Bool × List (List Nat × List Nat) := (true, [([], []), ([0], [0]), ([1], [1]), ([2], [2]), ([], []), ([4], [4]), ([5], [5]), ([6], [6]), ([], []), ([8], [8]), ([9], [9]), ([10], [10]), ([3, 7, 11], [3, 7, 11]), ([12], [12]), ([13], [13]), ([13], [13]), ([13], [13]), ([14, 12, 0, 1, 2, 3, 4, 5, 6, 7, 8, 9, 10, 11, 12, 13, 14], [14]), ([15, 17, 0, 1, 2, 3, 4, 5, 6, 7, 8, 9, 10, 11, 12, 13, 14, 15, 17], [15]), ([16, 18, 0, 1, 2, 3, 4, 5, 6, 7, 8, 9, 10, 11, 12, 13, 14, 15, 16, 17, 18], [16])])
def CRN18.B18 : List Nat := [0, 1, 3, 7, 0, 16, 48, 112, 0, 256, 768, 1792, 4095, 8191, 16383, 16383, 16383, 32767, 196607, 524287]
theorem CRN18.tab18 : rtab .any (opsOf Tryz.f158 18) = CRN18.T18 := by kernel_rfl
theorem CRN18.bits18 : waitsOk CRN18.T18.2 CRN18.B18 = true := by kernel_rfl
set_option maxRecDepth 100000 in
set_option maxHeartbeats 1000000 in
theorem core.Run.nil {w0 w : World} {N0 gc gx : Nat} (h : CN w0 N0 w gc gx []) (hi : IX w gx) : Calls Tryz.prog 158 #[.pointer (some ⟨gc, 0, none⟩)] w fun e w' => e = .returned (.tuple #[.int .i64 1, .string ⟨#[]⟩]) ∧ w.grownBy w' (some gc) ∧ w'.cell? ⟨gc, 10, none⟩ = some (.int .i64 1) ∧ w'.cell? ⟨gc, 12, none⟩ = some (.slice none 0 0) := by
 have HF := Aside0.mk (core.first.nil h)
 have HR := Aside0.mk (core.read.nil h hi)
 have HC := Aside0.mk h
 have hmm := @run_makeMap Tryz.prog
 have hmf := makeFn
 have c1 : w.cell? ⟨gc, 10, none⟩ = some (.int .i64 0) := by
  obtain ⟨vr, gt, gs, a4, a5, a6, vlog, a8, a12, h1, h2, _⟩ := h
  exact (blk_cell h1 10).trans rfl
 clear h
 go_enter Tryz.func158, Tryz.ntmps158
 go_wp2_with fail
 refine HF.out.mono ?_
 rintro e w4 ⟨rfl, rfl⟩
 clear HF
 go_wp2_with fail
 refine HR.out.mono ?_
 rintro e w5 ⟨rfl, hb5⟩
 obtain ⟨w6, w7, w8, r6, r7, r8, hb8, s, pl, hm8, hs8, hp1, _⟩ := map3 334 _ Tryz.underlying334 w5 (.func (.func 214) #[.pointer (some ⟨gc, 0, none⟩)] #[]) (.func (.func 215) #[.pointer (some ⟨gc, 0, none⟩)] #[]) (.func (.func 216) #[.pointer (some ⟨gc, 0, none⟩)] #[])
 have hb := below_step hb5 hb8
 obtain ⟨vr, gt, gs, a4, a5, a6, vlog, a8, a12, h1, h2, h3, Av, cv, mm, h4⟩ := HC.out.below hb
 obtain ⟨Ar, cr, rfl⟩ := Kd.R_slice h2
 have HK0 := Aside0.mk (show w8.heap[gc]? = some (.cells #[.pointer (some ⟨gx, 0, none⟩), .slice Ar 0 cr, .pointer (some ⟨gt, 0, none⟩), .pointer (some ⟨gs, 0, none⟩), a4, a5, a6, vlog, a8, .int .i64 0, .int .i64 0, .string ⟨#[]⟩, a12] 306 (0, 0)) from h1)
 have HTR0 := Aside0.mk h3
 have HST0 := Aside0.mk (show w8.heap[gs]? = some (.cells #[.slice Av 0 cv, .map (some mm)] 363 (0, 0)) from h4)
 have HM0 := Aside0.mk hm8
 have HP := Aside0.mk hp1
 have HB0 := Aside0.mk hb
 clear hb5 hb8 hm8 hs8 hp1 hb h1 h2 h3 h4 HR HC hi c1
 go_wp2
 clear r6 r7 r8
 go_loopw [7] (fun _ wr => wr = w8) (fun _ _ => 0)
 case atStart => exact rfl
 case round =>
  subst hrel
  have HK := Aside0.mk (show wr.drew.heap[gc]? = _ from HK0.out)
  have HST := Aside0.mk (show wr.drew.heap[gs]? = _ from HST0.out)
  go_wp2
  refine start_ (n := 14) (S := fun w' => w'.cell? ⟨gc, 2, none⟩ = some (.pointer (some ⟨gt, 0, none⟩)) ∧ w'.cell? ⟨gc, 3, none⟩ = some (.pointer (some ⟨gs, 0, none⟩))) (ds := []) #[O,O,O,O,O,O,O,O,O,O,O,O,O,O] (by kernel_rfl) rfl rfl ⟨((blk_cell HK.out 2).trans rfl), ((blk_cell HK.out 3).trans rfl)⟩ (fun hHeld => ?_)
  refine with_tabW CRN13.tab13 CRN13.bits13 (fun HT_ HW_ => ?_)
  refine pure_ (i := 0) (N := some 58) (v := ?_) (a' := ?_) #[Y,O,O,O,O,O,O,O,O,O,O,O,O,O] rfl rfl (any_of HT_.out (by kernel_rfl)) (fun _ _ _ h => h) (Or.inl ⟨by rfl, ?_⟩) ?_ ?_
  rotate_left
  ·intro w'
   go_simp
   with_reducible rfl
  rotate_left
  ·simp only [PN]
   rfl
  refine pure_ (i := 1) (N := some 59) (v := ?_) (a' := ?_) #[Y,Y,O,O,O,O,O,O,O,O,O,O,O,O] rfl rfl (any_of HT_.out (by kernel_rfl)) (fun _ _ _ h => h) (Or.inl ⟨by rfl, ?_⟩) ?_ ?_
  rotate_left
  ·intro w'
   go_simp
   with_reducible rfl
  rotate_left
  ·simp only [PN]
   rfl
  refine pure_ (i := 2) (N := some 60) (v := ?_) (a' := ?_) #[Y,Y,Y,O,O,O,O,O,O,O,O,O,O,O] rfl rfl (any_of HT_.out (by kernel_rfl)) (fun _ _ _ h => h) (Or.inl ⟨by rfl, ?_⟩) ?_ ?_
  rotate_left
  ·intro w'
   go_simp
   with_reducible rfl
  rotate_left
  ·simp only [PN]
   rfl
  refine pure_ (i := 4) (N := some 62) (v := ?_) (a' := ?_) #[Y,Y,Y,O,Y,O,O,O,O,O,O,O,O,O] rfl rfl (any_of HT_.out (by kernel_rfl)) (fun _ _ _ h => h) (Or.inl ⟨by rfl, ?_⟩) ?_ ?_
  rotate_left
  ·intro w'
   go_simp
   with_reducible rfl
  rotate_left
  ·simp only [PN]
   rfl
  refine pure_ (i := 5) (N := some 63) (v := ?_) (a' := ?_) #[Y,Y,Y,O,Y,Y,O,O,O,O,O,O,O,O] rfl rfl (any_of HT_.out (by kernel_rfl)) (fun _ _ _ h => h) (Or.inl ⟨by rfl, ?_⟩) ?_ ?_
  rotate_left
  ·intro w'
   go_simp
   with_reducible rfl
  rotate_left
  ·simp only [PN]
   rfl
  refine pure_ (i := 6) (N := some 64) (v := ?_) (a' := ?_) #[Y,Y,Y,O,Y,Y,Y,O,O,O,O,O,O,O] rfl rfl (any_of HT_.out (by kernel_rfl)) (fun _ _ _ h => h) (Or.inl ⟨by rfl, ?_⟩) ?_ ?_
  rotate_left
  ·intro w'
   go_simp
   with_reducible rfl
  rotate_left
  ·simp only [PN]
   rfl
  refine take_ (i := 3) (N := some 61) (v := ?_) (a' := ?_) #[Y,Y,Y,Y,Y,Y,Y,O,O,O,O,O,O,O] rfl rfl (take_ofW HT_.out HW_.out (by kernel_rfl)) (fun _ _ _ h => h) (Or.inl ⟨by rfl, ?_⟩) hHeld ?_ ?_
  rotate_left
  ·rintro w' ⟨s0, s1⟩
   go_simp
   with_reducible rfl
  rotate_left
  ·simp only [PN]
   rfl
  refine take_ (i := 7) (N := some 65) (v := ?_) (a' := ?_) #[Y,Y,Y,Y,Y,Y,Y,Y,O,O,O,O,O,O] rfl rfl (take_ofW HT_.out HW_.out (by kernel_rfl)) (fun _ _ _ h => h) (Or.inl ⟨by rfl, ?_⟩) hHeld ?_ ?_
  rotate_left
  ·rintro w' ⟨s0, s1⟩
   go_simp
   with_reducible rfl
  rotate_left
  ·simp only [PN]
   rfl
  refine one_ (i := 8) (N := some 66) #[Y,Y,Y,Y,Y,Y,Y,Y,Y,O,O,O,O,O] rfl rfl (one_of HT_.out (by kernel_rfl)) (by decide) (fun K hK => ?_)
  refine goes_ Tryz.func217 (by kernel_rfl) rfl #[.pointer (some ⟨gt, 0, none⟩), .pointer (some ⟨gs, 0, none⟩)] (by rfl) rfl rfl (by (try simp only [List.map_toArray, List.map_cons, List.map_nil]); first | done | rfl) ?_
  refine (unit.Run.nil HST.out).mono ?_
  rintro e w9 ⟨rfl, rfl⟩
  refine ⟨_, rfl, ?_⟩
  refine hK.out _ _ ⟨((blk_cell HK.out 2).trans rfl), ((blk_cell HK.out 3).trans rfl)⟩ (fun hHeld => ?_)
  clear hK K
  refine norm_ (a' := ?_) ?_ ?_
  rotate_left
  ·show Act.put _ (some 66) _ = _
   simp only [PN]
   rfl
  refine pure_ (i := 9) (N := some 57) (v := ?_) (a' := ?_) #[Y,Y,Y,Y,Y,Y,Y,Y,Y,Y,O,O,O,O] rfl rfl (any_of HT_.out (by kernel_rfl)) (fun _ _ _ h => h) (Or.inl ⟨by rfl, ?_⟩) ?_ ?_
  rotate_left
  ·intro w'
   go_simp
   with_reducible rfl
  rotate_left
  ·simp only [PN]
   rfl
  refine pure_ (i := 10) (N := some 67) (v := ?_) (a' := ?_) #[Y,Y,Y,Y,Y,Y,Y,Y,Y,Y,Y,O,O,O] rfl rfl (any_of HT_.out (by kernel_rfl)) (fun _ _ _ h => h) (Or.inl ⟨by rfl, ?_⟩) ?_ ?_
  rotate_left
  ·intro w'
   go_simp
   with_reducible rfl
  rotate_left
  ·simp only [PN]
   rfl
  refine pure_ (i := 11) (N := some 68) (v := ?_) (a' := ?_) #[Y,Y,Y,Y,Y,Y,Y,Y,Y,Y,Y,Y,O,O] rfl rfl (any_of HT_.out (by kernel_rfl)) (fun _ _ _ h => h) (Or.inl ⟨by rfl, ?_⟩) ?_ ?_
  rotate_left
  ·intro w'
   go_simp
   with_reducible rfl
  rotate_left
  ·simp only [PN]
   rfl
  refine pure_ (i := 12) (N := some 7) (v := ?_) (a' := ?_) #[Y,Y,Y,Y,Y,Y,Y,Y,Y,Y,Y,Y,Y,O] rfl rfl (any_of HT_.out (by kernel_rfl)) (fun _ _ _ h => h) (Or.inl ⟨by rfl, ?_⟩) ?_ ?_
  rotate_left
  ·intro w'
   go_simp
   with_reducible rfl
  rotate_left
  ·simp only [PN]
   rfl
  refine pure_ (i := 13) (N := some 8) (v := ?_) (a' := ?_) #[Y,Y,Y,Y,Y,Y,Y,Y,Y,Y,Y,Y,Y,Y] rfl rfl (any_of HT_.out (by kernel_rfl)) (fun _ _ _ h => h) (Or.inl ⟨by rfl, ?_⟩) ?_ ?_
  rotate_left
  ·intro w'
   go_simp
   with_reducible rfl
  rotate_left
  ·simp only [PN]
   rfl
  refine done_ (done_of HT_.out (by kernel_rfl)) ?_
  clear hHeld
  have HK2 := Aside0.mk (show wr.drew.drew.heap[gc]? = some (.cells #[.pointer (some ⟨gx, 0, none⟩), .slice Ar 0 cr, .pointer (some ⟨gt, 0, none⟩), .pointer (some ⟨gs, 0, none⟩), a4, a5, a6, vlog, a8, .int .i64 0, .int .i64 0, .string ⟨#[]⟩, a12] 306 (0, 0)) from HK0.out)
  have HTR2 := Aside0.mk (show wr.drew.drew.heap[gt]? = some (.cells #[.slice none 0 0, .slice none 0 0] 359 (0, 0)) from HTR0.out)
  have HM2 := Aside0.mk (show MV 3 wr.drew.drew w5.heap.size s pl from HM0.out.below (below_drew (below_drew (Below.refl _ _))))
  have HB2 := Aside0.mk (show Below w4.heap.size w4 wr.drew.drew from below_drew (below_drew HB0.out))
  clear HK HST HK0 HTR0 HST0 HM0 HB0
  go_wp2
  refine start_ (n := 20) (S := fun w' => w'.cell? ⟨gc, 0, none⟩ = some (.pointer (some ⟨gx, 0, none⟩)) ∧ w'.cell? ⟨gc, 1, none⟩ = some (.slice Ar 0 cr) ∧ w'.cell? ⟨gc, 2, none⟩ = some (.pointer (some ⟨gt, 0, none⟩))) (ds := []) #[O,O,O,O,O,O,O,O,O,O,O,O,O,O,O,O,O,O,O,O] (by kernel_rfl) rfl rfl ⟨((blk_cell HK2.out 0).trans rfl), ((blk_cell HK2.out 1).trans rfl), ((blk_cell HK2.out 2).trans rfl)⟩ (fun hHeld => ?_)
  refine with_tabW CRN18.tab18 CRN18.bits18 (fun HT_ HW_ => ?_)
  refine pure_ (i := 0) (N := some 81) (v := ?_) (a' := ?_) #[Y,O,O,O,O,O,O,O,O,O,O,O,O,O,O,O,O,O,O,O] rfl rfl (any_of HT_.out (by kernel_rfl)) (fun _ _ _ h => h) (Or.inl ⟨by rfl, ?_⟩) ?_ ?_
  rotate_left
  ·intro w'
   go_simp
   with_reducible rfl
  rotate_left
  ·simp only [PN]
   rfl
  refine pure_ (i := 1) (N := some 82) (v := ?_) (a' := ?_) #[Y,Y,O,O,O,O,O,O,O,O,O,O,O,O,O,O,O,O,O,O] rfl rfl (any_of HT_.out (by kernel_rfl)) (fun _ _ _ h => h) (Or.inl ⟨by rfl, ?_⟩) ?_ ?_
  rotate_left
  ·intro w'
   go_simp
   with_reducible rfl
  rotate_left
  ·simp only [PN]
   rfl
  refine pure_ (i := 2) (N := some 83) (v := ?_) (a' := ?_) #[Y,Y,Y,O,O,O,O,O,O,O,O,O,O,O,O,O,O,O,O,O] rfl rfl (any_of HT_.out (by kernel_rfl)) (fun _ _ _ h => h) (Or.inl ⟨by rfl, ?_⟩) ?_ ?_
  rotate_left
  ·intro w'
   go_simp
   with_reducible rfl
  rotate_left
  ·simp only [PN]
   rfl
  refine pure_ (i := 4) (N := some 85) (v := ?_) (a' := ?_) #[Y,Y,Y,O,Y,O,O,O,O,O,O,O,O,O,O,O,O,O,O,O] rfl rfl (any_of HT_.out (by kernel_rfl)) (fun _ _ _ h => h) (Or.inl ⟨by rfl, ?_⟩) ?_ ?_
  rotate_left
  ·intro w'
   go_simp
   with_reducible rfl
  rotate_left
  ·simp only [PN]
   rfl
  refine pure_ (i := 5) (N := some 86) (v := ?_) (a' := ?_) #[Y,Y,Y,O,Y,Y,O,O,O,O,O,O,O,O,O,O,O,O,O,O] rfl rfl (any_of HT_.out (by kernel_rfl)) (fun _ _ _ h => h) (Or.inl ⟨by rfl, ?_⟩) ?_ ?_
  rotate_left
  ·intro w'
   go_simp
   with_reducible rfl
  rotate_left
  ·simp only [PN]
   rfl
  refine pure_ (i := 6) (N := some 87) (v := ?_) (a' := ?_) #[Y,Y,Y,O,Y,Y,Y,O,O,O,O,O,O,O,O,O,O,O,O,O] rfl rfl (any_of HT_.out (by kernel_rfl)) (fun _ _ _ h => h) (Or.inl ⟨by rfl, ?_⟩) ?_ ?_
  rotate_left
  ·intro w'
   go_simp
   with_reducible rfl
  rotate_left
  ·simp only [PN]
   rfl
  refine pure_ (i := 8) (N := some 89) (v := ?_) (a' := ?_) #[Y,Y,Y,O,Y,Y,Y,O,Y,O,O,O,O,O,O,O,O,O,O,O] rfl rfl (any_of HT_.out (by kernel_rfl)) (fun _ _ _ h => h) (Or.inl ⟨by rfl, ?_⟩) ?_ ?_
  rotate_left
  ·intro w'
   go_simp
   with_reducible rfl
  rotate_left
  ·simp only [PN]
   rfl
  refine pure_ (i := 9) (N := some 90) (v := ?_) (a' := ?_) #[Y,Y,Y,O,Y,Y,Y,O,Y,Y,O,O,O,O,O,O,O,O,O,O] rfl rfl (any_of HT_.out (by kernel_rfl)) (fun _ _ _ h => h) (Or.inl ⟨by rfl, ?_⟩) ?_ ?_
  rotate_left
  ·intro w'
   go_simp
   with_reducible rfl
  rotate_left
  ·simp only [PN]
   rfl
  refine pure_ (i := 10) (N := some 91) (v := ?_) (a' := ?_) #[Y,Y,Y,O,Y,Y,Y,O,Y,Y,Y,O,O,O,O,O,O,O,O,O] rfl rfl (any_of HT_.out (by kernel_rfl)) (fun _ _ _ h => h) (Or.inl ⟨by rfl, ?_⟩) ?_ ?_
  rotate_left
  ·intro w'
   go_simp
   with_reducible rfl
  rotate_left
  ·simp only [PN]
   rfl
  refine take_ (i := 3) (N := some 84) (v := ?_) (a' := ?_) #[Y,Y,Y,Y,Y,Y,Y,O,Y,Y,Y,O,O,O,O,O,O,O,O,O] rfl rfl (take_ofW HT_.out HW_.out (by kernel_rfl)) (fun _ _ _ h => h) (Or.inl ⟨by rfl, ?_⟩) hHeld ?_ ?_
  rotate_left
  ·rintro w' ⟨s0, s1, s2⟩
   go_simp
   with_reducible rfl
  rotate_left
  ·simp only [PN]
   rfl
  refine take_ (i := 7) (N := some 88) (v := ?_) (a' := ?_) #[Y,Y,Y,Y,Y,Y,Y,Y,Y,Y,Y,O,O,O,O,O,O,O,O,O] rfl rfl (take_ofW HT_.out HW_.out (by kernel_rfl)) (fun _ _ _ h => h) (Or.inl ⟨by rfl, ?_⟩) hHeld ?_ ?_
  rotate_left
  ·rintro w' ⟨s0, s1, s2⟩
   go_simp
   with_reducible rfl
  rotate_left
  ·simp only [PN]
   rfl
  refine take_ (i := 11) (N := some 92) (v := ?_) (a' := ?_) #[Y,Y,Y,Y,Y,Y,Y,Y,Y,Y,Y,Y,O,O,O,O,O,O,O,O] rfl rfl (take_ofW HT_.out HW_.out (by kernel_rfl)) (fun _ _ _ h => h) (Or.inl ⟨by rfl, ?_⟩) hHeld ?_ ?_
  rotate_left
  ·rintro w' ⟨s0, s1, s2⟩
   go_simp
   with_reducible rfl
  rotate_left
  ·simp only [PN]
   rfl
  refine one_ (i := 12) (N := some 93) #[Y,Y,Y,Y,Y,Y,Y,Y,Y,Y,Y,Y,Y,O,O,O,O,O,O,O] rfl rfl (one_of HT_.out (by kernel_rfl)) (by decide) (fun K hK => ?_)
  refine goes_ Tryz.func220 (by kernel_rfl) rfl #[.pointer (some ⟨gx, 0, none⟩), .slice Ar 0 cr, .pointer (some ⟨gt, 0, none⟩)] (by rfl) rfl rfl (by (try simp only [List.map_toArray, List.map_cons, List.map_nil]); first | done | rfl) ?_
  refine (choice.Next.nil Ar cr gx HTR2.out).mono ?_
  rintro e w9 ⟨rfl, hb9⟩
  refine ⟨_, rfl, ?_⟩
  have HB9 := Aside0.mk (below_step HB2.out hb9)
  have HK9 := Aside0.mk (blk_below HK2.out hb9)
  have HTR9 := Aside0.mk (blk_below HTR2.out hb9)
  have HM9 := Aside0.mk (HM2.out.below hb9)
  clear hb9
  refine hK.out _ _ ⟨((blk_cell HK9.out 0).trans rfl), ((blk_cell HK9.out 1).trans rfl), ((blk_cell HK9.out 2).trans rfl)⟩ (fun hHeld => ?_)
  clear hK K
  refine norm_ (a' := ?_) ?_ ?_
  rotate_left
  ·show Act.put _ (some 93) _ = _
   simp only [PN]
   rfl
  refine pure_ (i := 13) (N := some 80) (v := ?_) (a' := ?_) #[Y,Y,Y,Y,Y,Y,Y,Y,Y,Y,Y,Y,Y,Y,O,O,O,O,O,O] rfl rfl (any_of HT_.out (by kernel_rfl)) (fun _ _ _ h => h) (Or.inl ⟨by rfl, ?_⟩) ?_ ?_
  rotate_left
  ·intro w'
   go_simp
   with_reducible rfl
  rotate_left
  ·simp only [PN]
   rfl
  refine pure_ (i := 14) (N := some 94) (v := ?_) (a' := ?_) #[Y,Y,Y,Y,Y,Y,Y,Y,Y,Y,Y,Y,Y,Y,Y,O,O,O,O,O] rfl rfl (any_of HT_.out (by kernel_rfl)) (fun _ _ _ h => h) (Or.inl ⟨by rfl, ?_⟩) ?_ ?_
  rotate_left
  ·intro w'
   go_simp
   with_reducible rfl
  rotate_left
  ·simp only [PN]
   rfl
  refine pure_ (i := 15) (N := some 95) (v := ?_) (a' := ?_) #[Y,Y,Y,Y,Y,Y,Y,Y,Y,Y,Y,Y,Y,Y,Y,Y,O,O,O,O] rfl rfl (any_of HT_.out (by kernel_rfl)) (fun _ _ _ h => h) (Or.inl ⟨by rfl, ?_⟩) ?_ ?_
  rotate_left
  ·intro w'
   go_simp
   with_reducible rfl
  rotate_left
  ·simp only [PN]
   rfl
  refine pure_ (i := 16) (N := some 96) (v := ?_) (a' := ?_) #[Y,Y,Y,Y,Y,Y,Y,Y,Y,Y,Y,Y,Y,Y,Y,Y,Y,O,O,O] rfl rfl (any_of HT_.out (by kernel_rfl)) (fun _ _ _ h => h) (Or.inl ⟨by rfl, ?_⟩) ?_ ?_
  rotate_left
  ·intro w'
   go_simp
   with_reducible rfl
  rotate_left
  ·simp only [PN]
   rfl
  refine pure_ (i := 17) (N := some 9) (v := ?_) (a' := ?_) #[Y,Y,Y,Y,Y,Y,Y,Y,Y,Y,Y,Y,Y,Y,Y,Y,Y,Y,O,O] rfl rfl (any_of HT_.out (by kernel_rfl)) (fun _ _ _ h => h) (Or.inl ⟨by rfl, ?_⟩) ?_ ?_
  rotate_left
  ·intro w'
   go_simp
   with_reducible rfl
  rotate_left
  ·simp only [PN]
   rfl
  refine pure_ (i := 18) (N := some 10) (v := ?_) (a' := ?_) #[Y,Y,Y,Y,Y,Y,Y,Y,Y,Y,Y,Y,Y,Y,Y,Y,Y,Y,Y,O] rfl rfl (any_of HT_.out (by kernel_rfl)) (fun _ _ _ h => h) (Or.inl ⟨by rfl, ?_⟩) ?_ ?_
  rotate_left
  ·intro w'
   go_simp
   with_reducible rfl
  rotate_left
  ·simp only [PN]
   rfl
  refine pure_ (i := 19) (N := some 11) (v := ?_) (a' := ?_) #[Y,Y,Y,Y,Y,Y,Y,Y,Y,Y,Y,Y,Y,Y,Y,Y,Y,Y,Y,Y] rfl rfl (any_of HT_.out (by kernel_rfl)) (fun _ _ _ h => h) (Or.inl ⟨by rfl, ?_⟩) ?_ ?_
  rotate_left
  ·intro w'
   go_simp
   with_reducible rfl
  rotate_left
  ·simp only [PN]
   rfl
  refine done_ (done_of HT_.out (by kernel_rfl)) ?_
  clear hHeld
  obtain ⟨zf, hzf⟩ := zeroF
  have hl := HM9.out.look2 lawI Tryz.underlying334 hzf (keyI (a := 1) (by omega) (by omega)) (by simp [WideAt.IsKeyLit])
  rw [HP.out] at hl
  simp only [Option.getD_some, Option.isSome_some] at hl
  go_wp2_with fail
  refine (core.done.nil HK9.out HTR9.out).mono ?_
  rintro e w10 ⟨rfl, h10, g10⟩
  have c10 : w10.cell? ⟨gc, 10, none⟩ = some (.int .i64 1) := (blk_cell h10 10).trans rfl
  have c11 : w10.cell? ⟨gc, 11, none⟩ = some (.string ⟨#[]⟩) := (blk_cell h10 11).trans rfl
  have HE := Aside0.mk (show w10.cell? ⟨gc, 12, none⟩ = some (.slice none 0 0) from (blk_cell h10 12).trans rfl)
  have HG := Aside0.mk ((grown_of_below HB9.out (some gc)).trans_row g10)
  clear h10 g10 hl hzf HB9 HK9 HTR9 HM9
  go_wp2
  go_quiet (fail)
  go_wp2
  go_ret2
  exact ⟨rfl, HG.out.trans_row (grown_of_below (pw_below_drewN (Below.refl _ _) _) _), c10, HE.out⟩
theorem core.Picks.nil {w : World} {gc : Nat} (h10 : w.cell? ⟨gc, 10, none⟩ = some (.int .i64 1)) (h12 : w.cell? ⟨gc, 12, none⟩ = some (.slice none 0 0)) : Calls Tryz.prog 159 #[.pointer (some ⟨gc, 0, none⟩)] w fun e w' => ∃ A c, e = .returned (.slice A 0 c) ∧ Below w.heap.size w w' := by
 have hap : ∀ (w : World) (a : Addr), (Builtin.append_ #[46, 46] 46 #[.slice (some a) 0 0, .slice none 0 0]).run Tryz.prog w = .ok (.slice (some a) 0 0) w := fun w a => by kernel_rfl
 have hb := below_alloc (Below.refl w.heap.size w) (.cells #[] 141)
 have k12 := (hb.cell (World.block_lt_of_cell? _ _ h12)).trans h12
 go_enter Tryz.func159, Tryz.ntmps159
 go_wp2
 go_ret
 exact ⟨_, _, rfl, hb⟩
def SU (w0 : World) (N0 : Nat) (w : World) (gu gx : Nat) (xs : List Nd) : Prop := N0 ≤ gu ∧ ∃ vr gc st lk kn, w.heap[gu]? = some (.cells #[.pointer (some ⟨gx, 0, none⟩), vr, .pointer (some ⟨gc, 0, none⟩), .int .i64 st, .string lk, .int .i64 kn] 256 (0, 0)) ∧ (kNm w0).R 117 w N0 (fun _ => True) vr xs ∧ CN w0 N0 w gc gx xs ∧ N0 ≤ gc ∧ (kn = -1 ∨ kn = 0 ∧ ∃ x r, xs = x :: r ∧ lk = x.1)
theorem SU.lower {w0 w : World} {N0 N1 gu gx : Nat} {xs : List Nd} (h : SU w0 N1 w gu gx xs) (hn : N0 ≤ N1) : SU w0 N0 w gu gx xs := by
 obtain ⟨h0, vr, gc, st, lk, kn, h1, h2, h3, h4, h5⟩ := h
 exact ⟨Nat.le_trans hn h0, vr, gc, st, lk, kn, h1, Kd.R_lower h2 hn, h3.lower hn, Nat.le_trans hn h4, h5⟩
theorem SU.kf {w0 w w' : World} {N0 N1 gu gx : Nat} {Ts : List Nat} {X : Nat → Prop} {xs : List Nd} (h : SU w0 N1 w gu gx xs) (hk : Kf N0 Ts X w w') (ht : 306 ∉ Ts ∧ 117 ∉ Ts ∧ 126 ∉ Ts ∧ 359 ∉ Ts ∧ 363 ∉ Ts) (hs : 256 ∉ Ts) : SU w0 N1 w' gu gx xs := by
 obtain ⟨h0, vr, gc, st, lk, kn, h1, h2, h3, h4, h5⟩ := h
 refine ⟨h0, vr, gc, st, lk, kn, hk.blk h1 hs, R_kf h2 hk (fun q hq => ?_), h3.kf hk ht, h4, h5⟩
 rcases List.mem_cons.1 hq with rfl | hq
 ·exact ht.2.1
 ·rw [kNmE] at hq
  rw [List.mem_singleton.1 hq]
  exact ht.2.2.1
theorem suit.New.calls {w0 w : World} {gx : Nat} {A : Option Addr} {c : Nat} {xs : List Nd} (h : kNd.C w0 A xs.length xs) (hb : Below w0.heap.size w0 w) (hl : xs.length ≤ 6) (hk : NdOk 0 8 xs) (rs kp : Int) : Calls Tryz.prog 102 #[.pointer (some ⟨gx, 0, none⟩), .slice A xs.length c, .int .i64 rs, .int .i64 kp] w fun e w' => ∃ gu, e = .returned (.pointer (some ⟨gu, 0, none⟩)) ∧ SU w0 w.heap.size w' gu gx xs ∧ Below w.heap.size w w' := by
 have H := Aside0.mk h
 have HB0 := Aside0.mk hb
 have HL := Aside0.mk (And.intro hl (NdOk_small hk))
 go_enter Tryz.func102, Tryz.ntmps102
 go_wp2_with fail
 refine (core.New.calls (gx := gx) h hb hl hk rs kp).mono ?_
 rintro e w3 ⟨gc, rfl, hc3, hb3, hgc⟩
 have HC3 := Aside0.mk (And.intro hc3 hgc)
 have HB3 := Aside0.mk hb3
 clear hc3 hgc hb3 h hb hl hk
 go_wp2_with fail
 refine (need.Both.calls H.out (HB0.out.trans (HB3.out.mono HB0.out.size)) HL.out.1 (fun x hx => (HL.out.2 x hx).1)).mono ?_
 rintro e w4 ⟨v4, rfl, hr4, hb4⟩
 obtain ⟨A4, c4, rfl⟩ := Kd.R_slice hr4
 have hba := below_alloc (Below.refl w4.heap.size w4) (.cells #[.pointer (some ⟨gx, 0, none⟩), .slice A4 xs.length c4, .pointer (some ⟨gc, 0, none⟩), .int .i64 0, .string ⟨#[]⟩, .int .i64 (-1)] 256)
 have HF := Aside0.mk (show SU w0 w.heap.size (w4.alloc (.cells #[.pointer (some ⟨gx, 0, none⟩), .slice A4 xs.length c4, .pointer (some ⟨gc, 0, none⟩), .int .i64 0, .string ⟨#[]⟩, .int .i64 (-1)] 256)) w4.heap.size gx xs from
  ⟨Nat.le_trans HB3.out.size hb4.size, _, gc, _, _, _, blk_new w4 _, Kd.R_lower (Kd.R_below hr4 hba) HB3.out.size, (HC3.out.1.below hb4).below hba, HC3.out.2, .inl rfl⟩)
 have HBF := Aside0.mk (below_step (below_step HB3.out hb4) hba)
 clear hr4 hb4 hba HC3
 go_wp2
 go_ret
 exact ⟨_, rfl, HF.out, HBF.out⟩
theorem IX.grown {w w' : World} {gx gu t : Nat} {cs : Array Value} (h : IX w gx) (hg : w.grownBy w' (some gu)) (hb : w.heap[gu]? = some (.cells cs t (0, 0))) (ht : 157 ≠ t) : IX w' gx := by
 obtain ⟨m, h1, h2⟩ := h
 exact ⟨m, blk_grown h1 hg (fun e => by injection e with e; exact blk_ne h1 hb ht e), h2.grown hg (fun e => by injection e with e; exact h2.ne hb e)⟩
def STP4.T4 : Bool × List (List Nat × List Nat) := (true, [([], []), ([0], [0]), ([1], [1]), ([2], [2]), ([], []), ([4], [4]), ([5], [5]), ([6], [6]), ([7], [7]), ([3, 8], [3, 8])])
def STP4.B4 : List Nat := [0, 1, 3, 7, 0, 16, 48, 112, 240, 511]
theorem STP4.tab4 : rtab .any (opsOf Tryz.f110 4) = STP4.T4 := by kernel_rfl
theorem STP4.bits4 : waitsOk STP4.T4.2 STP4.B4 = true := by kernel_rfl
def STP5.T5 : Bool × List (List Nat × List Nat) := (true, [([], []), ([], []), ([1], [1]), ([2], [2]), ([3], [3]), ([], []), ([5], [5]), ([6], [6]), ([7], [7]), ([], []), ([9], [9]), ([10], [10]), ([11], [11]), ([], []), ([4, 8, 12, 13], [4, 8, 12, 13]), ([0, 14, 0], [0]), ([15, 0, 15], []), ([14, 16, 0, 1, 2, 3, 4, 5, 6, 7, 8, 9, 10, 11, 12, 13, 14, 15, 16], [14])])
def STP5.B5 : List Nat := [0, 0, 2, 6, 14, 0, 32, 96, 224, 0, 512, 1536, 3584, 0, 16382, 32767, 65535, 131071]
theorem STP5.tab5 : rtab .any (opsOf Tryz.f110 5) = STP5.T5 := by kernel_rfl
theorem STP5.bits5 : waitsOk STP5.T5.2 STP5.B5 = true := by kernel_rfl
def STP9.T9 : Bool × List (List Nat × List Nat) := (true, [([], []), ([], []), ([1], [1]), ([2], [2]), ([3], [3]), ([], []), ([5], [5]), ([6], [6]), ([7], [7]), ([], []), ([], []), ([4, 8, 9, 10], [4, 8, 9, 10]), ([0, 11, 0], [0]), ([12, 0, 12], []), ([11, 13, 0, 1, 2, 3, 4, 5, 6, 7, 8, 9, 10, 11, 12, 13], [11])])
def STP9.B9 : List Nat := [0, 0, 2, 6, 14, 0, 32, 96, 224, 0, 0, 2046, 4095, 8191, 16383]
theorem STP9.tab9 : rtab .any (opsOf Tryz.f110 9) = STP9.T9 := by kernel_rfl
theorem STP9.bits9 : waitsOk STP9.T9.2 STP9.B9 = true := by kernel_rfl
set_option maxRecDepth 100000 in
set_option maxHeartbeats 1000000 in
theorem suit.Step.lacks {w0 w : World} {N0 gu gx : Nat} {x : Nd} {r : List Nd} (h : SU w0 N0 w gu gx (x :: r)) (hb : Below w0.heap.size w0 w) (hN : w0.heap.size ≤ N0) (hi : IX w gx) (hl : (x :: r).length ≤ 6) (hk : NdOk 0 8 (x :: r)) (ah : Bool) : Calls Tryz.prog 110 #[.pointer (some ⟨gu, 0, none⟩), .bool ah] w fun e w' => ∃ v ys, e = .returned (.tuple #[.agg #[.int .i64 0, .slice none 0 0, .slice none 0 0], .bool false, v]) ∧ Kd.string.R 9 w' w.heap.size (fun _ => True) v ys ∧ ys.length ≤ 7 ∧ Sm ys ∧ SU w0 N0 w' gu gx (x :: r) ∧ w.grownBy w' (some gu) := by
 obtain ⟨h0, vr, gc, st, lk, kn, h1, h2, h3, h4, h5⟩ := h
 obtain ⟨Ar, cr, rfl⟩ := Kd.R_slice h2
 have HNN := Aside0.mk (And.intro hN hb)
 have hfit : PlainRune.fit x.1 = true := by
  obtain ⟨j, _, hj, e, _⟩ := hk
  rw [e]
  exact fit_nm j hj
 have HFIT := Aside0.mk hfit
 generalize hn : (x :: r).length = n at h1 h2
 clear hfit hN
 have HS := Aside0.mk (NdOk_small hk)
 have hba := below_alloc (Below.refl w.heap.size w) (.cells #[.int .i64 0, .slice none 0 0, .slice none 0 0] 49)
 have HR1 := Aside0.mk (blk_new w (.cells #[.int .i64 0, .slice none 0 0, .slice none 0 0] 49))
 have hu1 := blk_below h1 hba
 have HG1 := Aside0.mk (hi.below hba)
 have HSL := Aside0.mk (And.intro hl (And.intro hb (And.intro hk hn)))
 have HB1 := Aside0.mk hba
 have HX := Aside0.mk (And.intro h0 (And.intro h4 (And.intro h5 hk)))
 have HRR := Aside0.mk (Kd.R_below h2 hba)
 have HCN := Aside0.mk (h3.below hba)
 have hst : ∃ st2, wrap64 (st + 1) = st2 := ⟨_, rfl⟩
 obtain ⟨st2, hst⟩ := hst
 clear h1 h2 h3 h4 h5 h0 hb hi hl hk hn hba
 go_enter Tryz.func110, Tryz.ntmps110
 have k3 : (w.alloc (.cells #[.int .i64 0, .slice none 0 0, .slice none 0 0] 49)).cell? ⟨gu, 3, none⟩ = some (.int .i64 st) := (blk_cell hu1 3).trans rfl
 have f3 := blk_frozen hu1 3
 go_wp2
 have hg1 := grown_set (w.alloc (.cells #[.int .i64 0, .slice none 0 0, .slice none 0 0] 49)) gu 3 (.int .i64 st2)
 have HU2 := Aside0.mk (show ((w.alloc (.cells #[.int .i64 0, .slice none 0 0, .slice none 0 0] 49)).setCell ⟨gu, 3, none⟩ (.int .i64 st2)).drew.heap[gu]? = some (.cells #[.pointer (some ⟨gx, 0, none⟩), .slice Ar n cr, .pointer (some ⟨gc, 0, none⟩), .int .i64 st2, .string lk, .int .i64 kn] 256 (0, 0)) from blk_put hu1 3 (.int .i64 st2) rfl)
 have HI2 := Aside0.mk (show IX ((w.alloc (.cells #[.int .i64 0, .slice none 0 0, .slice none 0 0] 49)).setCell ⟨gu, 3, none⟩ (.int .i64 st2)).drew gx from (IX.grown HG1.out hg1 hu1 (by decide)).below (below_drew (Below.refl _ _)))
 have HR2 := Aside0.mk (show ((w.alloc (.cells #[.int .i64 0, .slice none 0 0, .slice none 0 0] 49)).setCell ⟨gu, 3, none⟩ (.int .i64 st2)).drew.heap[w.heap.size]? = _ from blk_grown HR1.out hg1.drew_ (fun e => by injection e with e; exact blk_ne HR1.out hu1 (by decide) e))
 have HG2 := Aside0.mk (show w.grownBy ((w.alloc (.cells #[.int .i64 0, .slice none 0 0, .slice none 0 0] 49)).setCell ⟨gu, 3, none⟩ (.int .i64 st2)).drew (some gu) from ((grown_of_below HB1.out _).trans_row hg1).drew_)
 have HRR2 := Aside0.mk (show (kNm w0).R 117 ((w.alloc (.cells #[.int .i64 0, .slice none 0 0, .slice none 0 0] 49)).setCell ⟨gu, 3, none⟩ (.int .i64 st2)).drew N0 (fun _ => True) (.slice Ar n cr) (x :: r) from Kd.R_drewN (Kd.R_set HRR.out hu1 (by rw [kNmE]; decide) 3 (.int .i64 st2)) 1)
 have HCN2 := Aside0.mk (show CN w0 N0 ((w.alloc (.cells #[.int .i64 0, .slice none 0 0, .slice none 0 0] 49)).setCell ⟨gu, 3, none⟩ (.int .i64 st2)).drew gc gx (x :: r) from (HCN.out.kf (N0 := 0) (Ts := [256]) (X := fun _ => False) (Kf.grown hg1 hu1 (by simp) (Nat.zero_le _)) (by decide)).below (below_drew (Below.refl _ _)))
 clear hg1 hu1 k3 f3 HR1 HG1 HB1 HRR HCN
 generalize (w.alloc (.cells #[.int .i64 0, .slice none 0 0, .slice none 0 0] 49)).setCell ⟨gu, 3, none⟩ (.int .i64 st2) = w2 at HU2 HI2 HR2 HG2 HRR2 HCN2 ⊢
 generalize hgr : w.heap.size = gr at HR2 ⊢
 have HGR := Aside0.mk (show w.heap.size ≤ gr by omega)
 have HGE := Aside0.mk hgr
 clear hgr
 refine start_ (n := 10) (S := fun w' => w'.cell? ⟨gu, 0, none⟩ = some (.pointer (some ⟨gx, 0, none⟩)) ∧ w'.cell? ⟨gu, 5, none⟩ = some (.int .i64 kn)) (ds := []) #[O,O,O,O,O,O,O,O,O,O] (by kernel_rfl) rfl rfl ⟨((blk_cell HU2.out 0).trans rfl), ((blk_cell HU2.out 5).trans rfl)⟩ (fun hHeld => ?_)
 refine with_tabW STP4.tab4 STP4.bits4 (fun HT_ HW_ => ?_)
 refine pure_ (i := 0) (N := some 19) (v := ?_) (a' := ?_) #[Y,O,O,O,O,O,O,O,O,O] rfl rfl (any_of HT_.out (by kernel_rfl)) (fun _ _ _ h => h) (Or.inl ⟨by rfl, ?_⟩) ?_ ?_
 rotate_left
 ·intro w'
  go_simp
  with_reducible rfl
 rotate_left
 ·simp only [PN]
  rfl
 refine pure_ (i := 1) (N := some 20) (v := ?_) (a' := ?_) #[Y,Y,O,O,O,O,O,O,O,O] rfl rfl (any_of HT_.out (by kernel_rfl)) (fun _ _ _ h => h) (Or.inl ⟨by rfl, ?_⟩) ?_ ?_
 rotate_left
 ·intro w'
  go_simp
  with_reducible rfl
 rotate_left
 ·simp only [PN]
  rfl
 refine pure_ (i := 2) (N := some 21) (v := ?_) (a' := ?_) #[Y,Y,Y,O,O,O,O,O,O,O] rfl rfl (any_of HT_.out (by kernel_rfl)) (fun _ _ _ h => h) (Or.inl ⟨by rfl, ?_⟩) ?_ ?_
 rotate_left
 ·intro w'
  go_simp
  with_reducible rfl
 rotate_left
 ·simp only [PN]
  rfl
 refine pure_ (i := 4) (N := some 23) (v := ?_) (a' := ?_) #[Y,Y,Y,O,Y,O,O,O,O,O] rfl rfl (any_of HT_.out (by kernel_rfl)) (fun _ _ _ h => h) (Or.inl ⟨by rfl, ?_⟩) ?_ ?_
 rotate_left
 ·intro w'
  go_simp
  with_reducible rfl
 rotate_left
 ·simp only [PN]
  rfl
 refine pure_ (i := 5) (N := some 24) (v := ?_) (a' := ?_) #[Y,Y,Y,O,Y,Y,O,O,O,O] rfl rfl (any_of HT_.out (by kernel_rfl)) (fun _ _ _ h => h) (Or.inl ⟨by rfl, ?_⟩) ?_ ?_
 rotate_left
 ·intro w'
  go_simp
  with_reducible rfl
 rotate_left
 ·simp only [PN]
  rfl
 refine pure_ (i := 6) (N := some 25) (v := ?_) (a' := ?_) #[Y,Y,Y,O,Y,Y,Y,O,O,O] rfl rfl (any_of HT_.out (by kernel_rfl)) (fun _ _ _ h => h) (Or.inl ⟨by rfl, ?_⟩) ?_ ?_
 rotate_left
 ·intro w'
  go_simp
  with_reducible rfl
 rotate_left
 ·simp only [PN]
  rfl
 refine take_ (i := 3) (N := some 22) (v := ?_) (a' := ?_) #[Y,Y,Y,Y,Y,Y,Y,O,O,O] rfl rfl (take_ofW HT_.out HW_.out (by kernel_rfl)) (fun _ _ _ h => h) (Or.inl ⟨by rfl, ?_⟩) hHeld ?_ ?_
 rotate_left
 ·rintro w' ⟨s0, s1⟩
  go_simp
  with_reducible rfl
 rotate_left
 ·simp only [PN]
  rfl
 refine take_ (i := 7) (N := some 26) (v := ?_) (a' := ?_) #[Y,Y,Y,Y,Y,Y,Y,Y,O,O] rfl rfl (take_ofW HT_.out HW_.out (by kernel_rfl)) (fun _ _ _ h => h) (Or.inl ⟨by rfl, ?_⟩) hHeld ?_ ?_
 rotate_left
 ·rintro w' ⟨s0, s1⟩
  go_simp
  with_reducible rfl
 rotate_left
 ·simp only [PN]
  rfl
 refine one_ (i := 8) (N := some 27) #[Y,Y,Y,Y,Y,Y,Y,Y,Y,O] rfl rfl (one_of HT_.out (by kernel_rfl)) (by decide) (fun K hK => ?_)
 refine goes_ Tryz.func156 (by kernel_rfl) rfl #[.pointer (some ⟨gx, 0, none⟩)] (by rfl) rfl rfl (by (try simp only [List.map_toArray, List.map_cons, List.map_nil]); first | done | rfl) ?_
 refine (index.Len.calls HI2.out).mono ?_
 rintro e w5 ⟨rfl, rfl⟩
 refine ⟨_, rfl, ?_⟩
 refine hK.out _ _ ⟨((blk_cell HU2.out 0).trans rfl), ((blk_cell HU2.out 5).trans rfl)⟩ (fun hHeld => ?_)
 clear hK K
 refine norm_ (a' := ?_) ?_ ?_
 rotate_left
 ·show Act.put _ (some 27) _ = _
  simp only [PN]
  rfl
 refine pure_ (i := 9) (N := some 28) (v := ?_) (a' := ?_) #[Y,Y,Y,Y,Y,Y,Y,Y,Y,Y] rfl rfl (any_of HT_.out (by kernel_rfl)) (fun _ _ _ h => h) (Or.inl ⟨by rfl, ?_⟩) ?_ ?_
 rotate_left
 ·intro w'
  go_simp
  with_reducible rfl
 rotate_left
 ·simp only [PN]
  rfl
 refine done_ (done_of HT_.out (by kernel_rfl)) ?_
 clear hHeld
 generalize w2.drew = w3 at HU2 HI2 HR2 HG2 HRR2 HCN2 ⊢
 obtain ⟨k5v, hkn⟩ : ∃ k5v, (kn == 0) = k5v := ⟨_, rfl⟩
 rcases HX.out.2.2.1 with e5 | ⟨e5, x1, r1, e6, e7⟩
 ·subst e5
  have hbW : Below w0.heap.size w0 w3 := HNN.out.2.trans (below_of_grown HG2.out (Nat.le_trans HNN.out.1 HX.out.1) HNN.out.2.size)
  have HRUN := Aside0.mk (core.Run.lacks HCN2.out hbW HI2.out (HS.out x List.mem_cons_self).2)
  have c2 : w3.cell? ⟨gu, 2, none⟩ = some (.pointer (some ⟨gc, 0, none⟩)) := (blk_cell HU2.out 2).trans rfl
  clear hbW hkn
  go_wp2_with fail
  refine HRUN.out.mono ?_
  rintro e w4 ⟨rfl, hb4⟩
  have HU4 := Aside0.mk (blk_below HU2.out hb4)
  have HI4 := Aside0.mk (HI2.out.below hb4)
  have HR4 := Aside0.mk (blk_below HR2.out hb4)
  have HG4 := Aside0.mk (HG2.out.trans_row (grown_of_below hb4 _))
  have HRR4 := Aside0.mk (Kd.R_below HRR2.out hb4)
  have HCN4 := Aside0.mk (HCN2.out.below hb4)
  clear hb4 HRUN c2 HU2 HI2 HR2 HG2 HRR2 HCN2
  have c0 : w4.cell? ⟨gu, 0, none⟩ = some (.pointer (some ⟨gx, 0, none⟩)) := (blk_cell HU4.out 0).trans rfl
  have c4 : w4.cell? ⟨gu, 4, none⟩ = some (.string lk) := (blk_cell HU4.out 4).trans rfl
  have c5 : w4.cell? ⟨gu, 5, none⟩ = some (.int .i64 (-1)) := (blk_cell HU4.out 5).trans rfl
  have f4 := blk_frozen HU4.out 4
  have f5 := blk_frozen HU4.out 5
  go_wp2_with fail
  refine (index.Len.calls HI4.out).mono ?_
  rintro e w5 ⟨rfl, rfl⟩
  go_wp2
  have g1 := (grown_set w5 gu 4 (.string x.1)).trans_row (grown_set (w5.setCell ⟨gu, 4, none⟩ (.string x.1)) gu 5 (.int .i64 0))
  have HUq := Aside0.mk (blk_put (blk_put HU4.out 4 (.string x.1) rfl) 5 (.int .i64 0) rfl)
  have HIq := Aside0.mk (IX.grown HI4.out g1 HU4.out (by decide))
  have HRq := Aside0.mk (blk_grown HR4.out g1 (fun e => by injection e with e; exact blk_ne HR4.out HU4.out (by decide) e))
  have HGq := Aside0.mk (HG4.out.trans_row g1)
  have hkq : Kf 0 [256] (fun _ => False) w5 ((w5.setCell ⟨gu, 4, none⟩ (.string x.1)).setCell ⟨gu, 5, none⟩ (.int .i64 0)) := Kf.grown g1 HU4.out (by simp) (Nat.zero_le _)
  have HRRq := Aside0.mk (R_kf HRR4.out hkq (by rw [kNmE]; decide))
  have HCNq := Aside0.mk (HCN4.out.kf hkq (by decide))
  clear g1 hkq c0 c4 c5 f4 f5 HU4 HI4 HR4 HG4 HRR4 HCN4
  generalize (w5.setCell ⟨gu, 4, none⟩ (.string x.1)).setCell ⟨gu, 5, none⟩ (.int .i64 0) = wq at HUq HIq HRq HGq HRRq HCNq ⊢
  obtain ⟨lk, hlk⟩ : ∃ l, x.1 = l := ⟨_, rfl⟩
  have HLK := Aside0.mk hlk.symm
  rw [hlk] at HUq ⊢
  clear hlk
  have HU3 := Aside0.mk (show wq.drew.heap[gu]? = some (.cells #[.pointer (some ⟨gx, 0, none⟩), .slice Ar n cr, .pointer (some ⟨gc, 0, none⟩), .int .i64 st2, .string lk, .int .i64 0] 256 (0, 0)) from HUq.out)
  have HI3 := Aside0.mk (show IX wq.drew gx from HIq.out.below (below_drew (Below.refl _ _)))
  have HR3 := Aside0.mk (show wq.drew.heap[gr]? = some (.cells #[.int .i64 0, .slice none 0 0, .slice none 0 0] 49 (0, 0)) from HRq.out)
  have HG3 := Aside0.mk (show w.grownBy wq.drew (some gu) from HGq.out.drew_)
  have HRR3 := Aside0.mk (show (kNm w0).R 117 wq.drew N0 (fun _ => True) (.slice Ar n cr) (x :: r) from Kd.R_drewN HRRq.out 1)
  have HCN3 := Aside0.mk (show CN w0 N0 wq.drew gc gx (x :: r) from HCNq.out.below (below_drew (Below.refl _ _)))
  have hbW : Below w0.heap.size w0 wq.drew := HNN.out.2.trans (below_of_grown HG3.out (Nat.le_trans HNN.out.1 HX.out.1) HNN.out.2.size)
  have HWANT := Aside0.mk (show Calls Tryz.prog 157 #[.pointer (some ⟨gx, 0, none⟩), .slice Ar n cr, .string lk, .bool ah] wq.drew _ from by
   have h1 := want.List.calls (c := cr) HI3.out (kNm_read hbW (Kd.R_reads' HRR3.out).2.2) HSL.out.1 (fun x hx => (HS.out x hx).2) lk (by rw [HLK.out]; exact (HS.out x List.mem_cons_self).2) (by rw [HLK.out]; exact HFIT.out) ah
   rw [HSL.out.2.2.2] at h1
   exact h1)
  clear hbW HUq HIq HRq HGq HRRq HCNq
  refine start_ (n := 15) (S := fun w' => w'.cell? ⟨gu, 0, none⟩ = some (.pointer (some ⟨gx, 0, none⟩)) ∧ w'.cell? ⟨gu, 1, none⟩ = some (.slice Ar n cr)) (ds := [12]) #[O,O,O,O,O,O,O,O,O,O,O,O,O,O,O] (by kernel_rfl) rfl rfl ⟨((blk_cell HU3.out 0).trans rfl), ((blk_cell HU3.out 1).trans rfl)⟩ (fun hHeld => ?_)
  refine with_tabW STP9.tab9 STP9.bits9 (fun HT_ HW_ => ?_)
  refine pure_ (i := 0) (N := some 65) (v := ?_) (a' := ?_) #[Y,O,O,O,O,O,O,O,O,O,O,O,O,O,O] rfl rfl (any_of HT_.out (by kernel_rfl)) (fun _ _ _ h => h) (Or.inl ⟨by rfl, ?_⟩) ?_ ?_
  rotate_left
  ·intro w'
   go_simp
   with_reducible rfl
  rotate_left
  ·simp only [PN]
   rfl
  refine pure_ (i := 1) (N := some 66) (v := ?_) (a' := ?_) #[Y,Y,O,O,O,O,O,O,O,O,O,O,O,O,O] rfl rfl (any_of HT_.out (by kernel_rfl)) (fun _ _ _ h => h) (Or.inl ⟨by rfl, ?_⟩) ?_ ?_
  rotate_left
  ·intro w'
   go_simp
   with_reducible rfl
  rotate_left
  ·simp only [PN]
   rfl
  refine pure_ (i := 2) (N := some 67) (v := ?_) (a' := ?_) #[Y,Y,Y,O,O,O,O,O,O,O,O,O,O,O,O] rfl rfl (any_of HT_.out (by kernel_rfl)) (fun _ _ _ h => h) (Or.inl ⟨by rfl, ?_⟩) ?_ ?_
  rotate_left
  ·intro w'
   go_simp
   with_reducible rfl
  rotate_left
  ·simp only [PN]
   rfl
  refine pure_ (i := 3) (N := some 68) (v := ?_) (a' := ?_) #[Y,Y,Y,Y,O,O,O,O,O,O,O,O,O,O,O] rfl rfl (any_of HT_.out (by kernel_rfl)) (fun _ _ _ h => h) (Or.inl ⟨by rfl, ?_⟩) ?_ ?_
  rotate_left
  ·intro w'
   go_simp
   with_reducible rfl
  rotate_left
  ·simp only [PN]
   rfl
  refine pure_ (i := 5) (N := some 70) (v := ?_) (a' := ?_) #[Y,Y,Y,Y,O,Y,O,O,O,O,O,O,O,O,O] rfl rfl (any_of HT_.out (by kernel_rfl)) (fun _ _ _ h => h) (Or.inl ⟨by rfl, ?_⟩) ?_ ?_
  rotate_left
  ·intro w'
   go_simp
   with_reducible rfl
  rotate_left
  ·simp only [PN]
   rfl
  refine pure_ (i := 6) (N := some 71) (v := ?_) (a' := ?_) #[Y,Y,Y,Y,O,Y,Y,O,O,O,O,O,O,O,O] rfl rfl (any_of HT_.out (by kernel_rfl)) (fun _ _ _ h => h) (Or.inl ⟨by rfl, ?_⟩) ?_ ?_
  rotate_left
  ·intro w'
   go_simp
   with_reducible rfl
  rotate_left
  ·simp only [PN]
   rfl
  refine pure_ (i := 7) (N := some 72) (v := ?_) (a' := ?_) #[Y,Y,Y,Y,O,Y,Y,Y,O,O,O,O,O,O,O] rfl rfl (any_of HT_.out (by kernel_rfl)) (fun _ _ _ h => h) (Or.inl ⟨by rfl, ?_⟩) ?_ ?_
  rotate_left
  ·intro w'
   go_simp
   with_reducible rfl
  rotate_left
  ·simp only [PN]
   rfl
  refine pure_ (i := 9) (N := some 74) (v := ?_) (a' := ?_) #[Y,Y,Y,Y,O,Y,Y,Y,O,Y,O,O,O,O,O] rfl rfl (any_of HT_.out (by kernel_rfl)) (fun _ _ _ h => h) (Or.inl ⟨by rfl, ?_⟩) ?_ ?_
  rotate_left
  ·intro w'
   go_simp
   with_reducible rfl
  rotate_left
  ·simp only [PN]
   rfl
  refine pure_ (i := 10) (N := some 75) (v := ?_) (a' := ?_) #[Y,Y,Y,Y,O,Y,Y,Y,O,Y,Y,O,O,O,O] rfl rfl (any_of HT_.out (by kernel_rfl)) (fun _ _ _ h => h) (Or.inl ⟨by rfl, ?_⟩) ?_ ?_
  rotate_left
  ·intro w'
   go_simp
   with_reducible rfl
  rotate_left
  ·simp only [PN]
   rfl
  refine take_ (i := 4) (N := some 69) (v := ?_) (a' := ?_) #[Y,Y,Y,Y,Y,Y,Y,Y,O,Y,Y,O,O,O,O] rfl rfl (take_ofW HT_.out HW_.out (by kernel_rfl)) (fun _ _ _ h => h) (Or.inl ⟨by rfl, ?_⟩) hHeld ?_ ?_
  rotate_left
  ·rintro w' ⟨s0, s1⟩
   go_simp
   with_reducible rfl
  rotate_left
  ·simp only [PN]
   rfl
  refine take_ (i := 8) (N := some 73) (v := ?_) (a' := ?_) #[Y,Y,Y,Y,Y,Y,Y,Y,Y,Y,Y,O,O,O,O] rfl rfl (take_ofW HT_.out HW_.out (by kernel_rfl)) (fun _ _ _ h => h) (Or.inl ⟨by rfl, ?_⟩) hHeld ?_ ?_
  rotate_left
  ·rintro w' ⟨s0, s1⟩
   go_simp
   with_reducible rfl
  rotate_left
  ·simp only [PN]
   rfl
  refine one_ (i := 11) (N := some 76) #[Y,Y,Y,Y,Y,Y,Y,Y,Y,Y,Y,Y,O,O,O] rfl rfl (one_of HT_.out (by kernel_rfl)) (by decide) (fun K hK => ?_)
  refine goes_ Tryz.func157 (by kernel_rfl) rfl #[.pointer (some ⟨gx, 0, none⟩), .slice Ar n cr, .string lk, .bool ah] (by rfl) rfl rfl (by (try simp only [List.map_toArray, List.map_cons, List.map_nil]); first | done | rfl) ?_
  refine (HWANT.out).mono ?_
  rintro e w7 ⟨v7, ys, rfl, hr7, hl7, hs7, hb7⟩
  refine ⟨_, rfl, ?_⟩
  obtain ⟨A7, c7, rfl⟩ := Kd.R_slice hr7
  have HY7 := Aside0.mk (And.intro hr7 (And.intro hl7 hs7))
  have HB7 := Aside0.mk hb7
  have HU7 := Aside0.mk (blk_below HU3.out hb7)
  have HR7 := Aside0.mk (blk_below HR3.out hb7)
  clear hr7 hl7 hs7 hb7 HWANT
  have k0 : w7.cell? ⟨gr, 0, none⟩ = some (.int .i64 0) := (blk_cell HR7.out 0).trans rfl
  have k1 : w7.cell? ⟨gr, 1, none⟩ = some (.slice none 0 0) := (blk_cell HR7.out 1).trans rfl
  have k2 : w7.cell? ⟨gr, 2, none⟩ = some (.slice none 0 0) := (blk_cell HR7.out 2).trans rfl
  have f0 := blk_frozen HR7.out 0
  have f1 := blk_frozen HR7.out 1
  have f2 := blk_frozen HR7.out 2
  refine hK.out _ _ ⟨((blk_cell HU7.out 0).trans rfl), ((blk_cell HU7.out 1).trans rfl)⟩ (fun hHeld => ?_)
  clear hK K
  refine norm_ (a' := ?_) ?_ ?_
  rotate_left
  ·show Act.put _ (some 76) _ = _
   simp only [PN]
   rfl
  refine last_ (i := 12) (N := none) #[Y,Y,Y,Y,Y,Y,Y,Y,Y,Y,Y,Y,Y,O,O] rfl rfl (one_of HT_.out (by kernel_rfl)) (by decide) (fun K hK => ?_)
  refine skip_ (w1 := ?_) (by rfl) rfl ?_ ?_
  rotate_left
  ·go_simp
   rfl
  refine hK.out _ _ ?_
  clear hK K
  refine pure_ (i := 13) (N := some 5) (v := ?_) (a' := ?_) #[Y,Y,Y,Y,Y,Y,Y,Y,Y,Y,Y,Y,Y,Y,O] rfl rfl (any_of HT_.out (by kernel_rfl)) (fun _ _ _ h => h) (Or.inl ⟨by rfl, ?_⟩) ?_ ?_
  rotate_left
  ·intro w'
   go_simp
   with_reducible rfl
  rotate_left
  ·simp only [PN]
   rfl
  refine pure_ (i := 14) (N := some 6) (v := ?_) (a' := ?_) #[Y,Y,Y,Y,Y,Y,Y,Y,Y,Y,Y,Y,Y,Y,Y] rfl rfl (any_of HT_.out (by kernel_rfl)) (fun _ _ _ h => h) (Or.inl ⟨by rfl, ?_⟩) ?_ ?_
  rotate_left
  ·intro w'
   go_simp
   with_reducible rfl
  rotate_left
  ·simp only [PN]
   rfl
  refine done_ (done_of HT_.out (by kernel_rfl)) ?_
  clear hHeld k0 k1 k2 f0 f1 f2
  have HB7S := Aside0.mk (HG3.out.trans_row (grown_of_below HB7.out (some gu)))
  have HBL := Aside0.mk (Nat.le_trans HG3.out.size (Nat.le_refl _))
  have HRR7 := Aside0.mk (Kd.R_below HRR3.out HB7.out)
  have HCN7 := Aside0.mk (HCN3.out.below HB7.out)
  have g8 := ((grown_set w7 gr 0 (.int .i64 0)).trans_row (grown_set _ gr 1 (.slice none 0 0))).trans_row (grown_set _ gr 2 (.slice none 0 0))
  have hk8 : Kf 0 [49] (fun _ => False) w7 _ := Kf.grown g8 HR7.out (by simp) (Nat.zero_le _)
  have HSU8 := Aside0.mk (SU.kf (w0 := w0) (N1 := N0) ⟨HX.out.1, _, gc, st2, lk, 0, HU7.out, HRR7.out, HCN7.out, HX.out.2.1, .inr ⟨rfl, x, r, rfl, HLK.out⟩⟩ hk8 (by decide) (by decide))
  have HY8 := Aside0.mk (R_kf (Kd.R_lower HY7.out.1 HBL.out) hk8 (by decide))
  have HG8 := Aside0.mk (HB7S.out.far g8 HGR.out)
  have HR8 := Aside0.mk (blk_put (blk_put (blk_put HR7.out 0 (.int .i64 0) rfl) 1 (.slice none 0 0) rfl) 2 (.slice none 0 0) rfl)
  clear g8 hk8
  generalize ((w7.setCell ⟨gr, 0, none⟩ (.int .i64 0)).setCell ⟨gr, 1, none⟩ (.slice none 0 0)).setCell ⟨gr, 2, none⟩ (.slice none 0 0) = w8 at HSU8 HY8 HG8 HR8 ⊢
  go_wp2
  refine bodyPost_ret (results_ctt rfl _ _ gr 49 #[.int .i64 0, .slice none 0 0, .slice none 0 0] (0, 0) _ rfl HR8.out Tryz.underlying49 rfl (by kernel_rfl)) rfl ?_
  exact ⟨_, ys, rfl, HY8.out, HY7.out.2.1, HY7.out.2.2, HSU8.out, HG8.out⟩
 ·injection e6 with e6 e8
  subst e5
  subst e6
  have HLK := Aside0.mk e7
  have HUq := Aside0.mk HU2.out
  have HIq := Aside0.mk HI2.out
  have HRq := Aside0.mk HR2.out
  have HGq := Aside0.mk HG2.out
  have HRRq := Aside0.mk HRR2.out
  have HCNq := Aside0.mk HCN2.out
  clear hkn e7 e8 HU2 HI2 HR2 HG2 HRR2 HCN2
  go_wp2
  have HU3 := Aside0.mk (show w3.drew.heap[gu]? = some (.cells #[.pointer (some ⟨gx, 0, none⟩), .slice Ar n cr, .pointer (some ⟨gc, 0, none⟩), .int .i64 st2, .string lk, .int .i64 0] 256 (0, 0)) from HUq.out)
  have HI3 := Aside0.mk (show IX w3.drew gx from HIq.out.below (below_drew (Below.refl _ _)))
  have HR3 := Aside0.mk (show w3.drew.heap[gr]? = some (.cells #[.int .i64 0, .slice none 0 0, .slice none 0 0] 49 (0, 0)) from HRq.out)
  have HG3 := Aside0.mk (show w.grownBy w3.drew (some gu) from HGq.out.drew_)
  have HRR3 := Aside0.mk (show (kNm w0).R 117 w3.drew N0 (fun _ => True) (.slice Ar n cr) (x :: r) from Kd.R_drewN HRRq.out 1)
  have HCN3 := Aside0.mk (show CN w0 N0 w3.drew gc gx (x :: r) from HCNq.out.below (below_drew (Below.refl _ _)))
  have hbW : Below w0.heap.size w0 w3.drew := HNN.out.2.trans (below_of_grown HG3.out (Nat.le_trans HNN.out.1 HX.out.1) HNN.out.2.size)
  have HWANT := Aside0.mk (show Calls Tryz.prog 157 #[.pointer (some ⟨gx, 0, none⟩), .slice Ar n cr, .string lk, .bool ah] w3.drew _ from by
   have h1 := want.List.calls (c := cr) HI3.out (kNm_read hbW (Kd.R_reads' HRR3.out).2.2) HSL.out.1 (fun x hx => (HS.out x hx).2) lk (by rw [HLK.out]; exact (HS.out x List.mem_cons_self).2) (by rw [HLK.out]; exact HFIT.out) ah
   rw [HSL.out.2.2.2] at h1
   exact h1)
  clear hbW HUq HIq HRq HGq HRRq HCNq
  refine start_ (n := 18) (S := fun w' => w'.cell? ⟨gu, 0, none⟩ = some (.pointer (some ⟨gx, 0, none⟩)) ∧ w'.cell? ⟨gu, 1, none⟩ = some (.slice Ar n cr) ∧ w'.cell? ⟨gu, 4, none⟩ = some (.string lk)) (ds := [15]) #[O,O,O,O,O,O,O,O,O,O,O,O,O,O,O,O,O,O] (by kernel_rfl) rfl rfl ⟨((blk_cell HU3.out 0).trans rfl), ((blk_cell HU3.out 1).trans rfl), ((blk_cell HU3.out 4).trans rfl)⟩ (fun hHeld => ?_)
  refine with_tabW STP5.tab5 STP5.bits5 (fun HT_ HW_ => ?_)
  refine pure_ (i := 0) (N := some 29) (v := ?_) (a' := ?_) #[Y,O,O,O,O,O,O,O,O,O,O,O,O,O,O,O,O,O] rfl rfl (any_of HT_.out (by kernel_rfl)) (fun _ _ _ h => h) (Or.inl ⟨by rfl, ?_⟩) ?_ ?_
  rotate_left
  ·intro w'
   go_simp
   with_reducible rfl
  rotate_left
  ·simp only [PN]
   rfl
  refine pure_ (i := 1) (N := some 30) (v := ?_) (a' := ?_) #[Y,Y,O,O,O,O,O,O,O,O,O,O,O,O,O,O,O,O] rfl rfl (any_of HT_.out (by kernel_rfl)) (fun _ _ _ h => h) (Or.inl ⟨by rfl, ?_⟩) ?_ ?_
  rotate_left
  ·intro w'
   go_simp
   with_reducible rfl
  rotate_left
  ·simp only [PN]
   rfl
  refine pure_ (i := 2) (N := some 31) (v := ?_) (a' := ?_) #[Y,Y,Y,O,O,O,O,O,O,O,O,O,O,O,O,O,O,O] rfl rfl (any_of HT_.out (by kernel_rfl)) (fun _ _ _ h => h) (Or.inl ⟨by rfl, ?_⟩) ?_ ?_
  rotate_left
  ·intro w'
   go_simp
   with_reducible rfl
  rotate_left
  ·simp only [PN]
   rfl
  refine pure_ (i := 3) (N := some 32) (v := ?_) (a' := ?_) #[Y,Y,Y,Y,O,O,O,O,O,O,O,O,O,O,O,O,O,O] rfl rfl (any_of HT_.out (by kernel_rfl)) (fun _ _ _ h => h) (Or.inl ⟨by rfl, ?_⟩) ?_ ?_
  rotate_left
  ·intro w'
   go_simp
   with_reducible rfl
  rotate_left
  ·simp only [PN]
   rfl
  refine pure_ (i := 5) (N := some 34) (v := ?_) (a' := ?_) #[Y,Y,Y,Y,O,Y,O,O,O,O,O,O,O,O,O,O,O,O] rfl rfl (any_of HT_.out (by kernel_rfl)) (fun _ _ _ h => h) (Or.inl ⟨by rfl, ?_⟩) ?_ ?_
  rotate_left
  ·intro w'
   go_simp
   with_reducible rfl
  rotate_left
  ·simp only [PN]
   rfl
  refine pure_ (i := 6) (N := some 35) (v := ?_) (a' := ?_) #[Y,Y,Y,Y,O,Y,Y,O,O,O,O,O,O,O,O,O,O,O] rfl rfl (any_of HT_.out (by kernel_rfl)) (fun _ _ _ h => h) (Or.inl ⟨by rfl, ?_⟩) ?_ ?_
  rotate_left
  ·intro w'
   go_simp
   with_reducible rfl
  rotate_left
  ·simp only [PN]
   rfl
  refine pure_ (i := 7) (N := some 36) (v := ?_) (a' := ?_) #[Y,Y,Y,Y,O,Y,Y,Y,O,O,O,O,O,O,O,O,O,O] rfl rfl (any_of HT_.out (by kernel_rfl)) (fun _ _ _ h => h) (Or.inl ⟨by rfl, ?_⟩) ?_ ?_
  rotate_left
  ·intro w'
   go_simp
   with_reducible rfl
  rotate_left
  ·simp only [PN]
   rfl
  refine pure_ (i := 9) (N := some 38) (v := ?_) (a' := ?_) #[Y,Y,Y,Y,O,Y,Y,Y,O,Y,O,O,O,O,O,O,O,O] rfl rfl (any_of HT_.out (by kernel_rfl)) (fun _ _ _ h => h) (Or.inl ⟨by rfl, ?_⟩) ?_ ?_
  rotate_left
  ·intro w'
   go_simp
   with_reducible rfl
  rotate_left
  ·simp only [PN]
   rfl
  refine pure_ (i := 10) (N := some 39) (v := ?_) (a' := ?_) #[Y,Y,Y,Y,O,Y,Y,Y,O,Y,Y,O,O,O,O,O,O,O] rfl rfl (any_of HT_.out (by kernel_rfl)) (fun _ _ _ h => h) (Or.inl ⟨by rfl, ?_⟩) ?_ ?_
  rotate_left
  ·intro w'
   go_simp
   with_reducible rfl
  rotate_left
  ·simp only [PN]
   rfl
  refine pure_ (i := 11) (N := some 40) (v := ?_) (a' := ?_) #[Y,Y,Y,Y,O,Y,Y,Y,O,Y,Y,Y,O,O,O,O,O,O] rfl rfl (any_of HT_.out (by kernel_rfl)) (fun _ _ _ h => h) (Or.inl ⟨by rfl, ?_⟩) ?_ ?_
  rotate_left
  ·intro w'
   go_simp
   with_reducible rfl
  rotate_left
  ·simp only [PN]
   rfl
  refine pure_ (i := 13) (N := some 42) (v := ?_) (a' := ?_) #[Y,Y,Y,Y,O,Y,Y,Y,O,Y,Y,Y,O,Y,O,O,O,O] rfl rfl (any_of HT_.out (by kernel_rfl)) (fun _ _ _ h => h) (Or.inl ⟨by rfl, ?_⟩) ?_ ?_
  rotate_left
  ·intro w'
   go_simp
   with_reducible rfl
  rotate_left
  ·simp only [PN]
   rfl
  refine take_ (i := 4) (N := some 33) (v := ?_) (a' := ?_) #[Y,Y,Y,Y,Y,Y,Y,Y,O,Y,Y,Y,O,Y,O,O,O,O] rfl rfl (take_ofW HT_.out HW_.out (by kernel_rfl)) (fun _ _ _ h => h) (Or.inl ⟨by rfl, ?_⟩) hHeld ?_ ?_
  rotate_left
  ·rintro w' ⟨s0, s1, s2⟩
   go_simp
   with_reducible rfl
  rotate_left
  ·simp only [PN]
   rfl
  refine take_ (i := 8) (N := some 37) (v := ?_) (a' := ?_) #[Y,Y,Y,Y,Y,Y,Y,Y,Y,Y,Y,Y,O,Y,O,O,O,O] rfl rfl (take_ofW HT_.out HW_.out (by kernel_rfl)) (fun _ _ _ h => h) (Or.inl ⟨by rfl, ?_⟩) hHeld ?_ ?_
  rotate_left
  ·rintro w' ⟨s0, s1, s2⟩
   go_simp
   with_reducible rfl
  rotate_left
  ·simp only [PN]
   rfl
  refine take_ (i := 12) (N := some 41) (v := ?_) (a' := ?_) #[Y,Y,Y,Y,Y,Y,Y,Y,Y,Y,Y,Y,Y,Y,O,O,O,O] rfl rfl (take_ofW HT_.out HW_.out (by kernel_rfl)) (fun _ _ _ h => h) (Or.inl ⟨by rfl, ?_⟩) hHeld ?_ ?_
  rotate_left
  ·rintro w' ⟨s0, s1, s2⟩
   go_simp
   with_reducible rfl
  rotate_left
  ·simp only [PN]
   rfl
  refine one_ (i := 14) (N := some 43) #[Y,Y,Y,Y,Y,Y,Y,Y,Y,Y,Y,Y,Y,Y,Y,O,O,O] rfl rfl (one_of HT_.out (by kernel_rfl)) (by decide) (fun K hK => ?_)
  refine goes_ Tryz.func157 (by kernel_rfl) rfl #[.pointer (some ⟨gx, 0, none⟩), .slice Ar n cr, .string lk, .bool ah] (by rfl) rfl rfl (by (try simp only [List.map_toArray, List.map_cons, List.map_nil]); first | done | rfl) ?_
  refine (HWANT.out).mono ?_
  rintro e w7 ⟨v7, ys, rfl, hr7, hl7, hs7, hb7⟩
  refine ⟨_, rfl, ?_⟩
  obtain ⟨A7, c7, rfl⟩ := Kd.R_slice hr7
  have HY7 := Aside0.mk (And.intro hr7 (And.intro hl7 hs7))
  have HB7 := Aside0.mk hb7
  have HU7 := Aside0.mk (blk_below HU3.out hb7)
  have HR7 := Aside0.mk (blk_below HR3.out hb7)
  clear hr7 hl7 hs7 hb7 HWANT
  have k0 : w7.cell? ⟨gr, 0, none⟩ = some (.int .i64 0) := (blk_cell HR7.out 0).trans rfl
  have k1 : w7.cell? ⟨gr, 1, none⟩ = some (.slice none 0 0) := (blk_cell HR7.out 1).trans rfl
  have k2 : w7.cell? ⟨gr, 2, none⟩ = some (.slice none 0 0) := (blk_cell HR7.out 2).trans rfl
  have f0 := blk_frozen HR7.out 0
  have f1 := blk_frozen HR7.out 1
  have f2 := blk_frozen HR7.out 2
  refine hK.out _ _ ⟨((blk_cell HU7.out 0).trans rfl), ((blk_cell HU7.out 1).trans rfl), ((blk_cell HU7.out 4).trans rfl)⟩ (fun hHeld => ?_)
  clear hK K
  refine norm_ (a' := ?_) ?_ ?_
  rotate_left
  ·show Act.put _ (some 43) _ = _
   simp only [PN]
   rfl
  refine last_ (i := 15) (N := none) #[Y,Y,Y,Y,Y,Y,Y,Y,Y,Y,Y,Y,Y,Y,Y,Y,O,O] rfl rfl (one_of HT_.out (by kernel_rfl)) (by decide) (fun K hK => ?_)
  refine skip_ (w1 := ?_) (by rfl) rfl ?_ ?_
  rotate_left
  ·go_simp
   rfl
  refine hK.out _ _ ?_
  clear hK K
  refine pure_ (i := 16) (N := some 5) (v := ?_) (a' := ?_) #[Y,Y,Y,Y,Y,Y,Y,Y,Y,Y,Y,Y,Y,Y,Y,Y,Y,O] rfl rfl (any_of HT_.out (by kernel_rfl)) (fun _ _ _ h => h) (Or.inl ⟨by rfl, ?_⟩) ?_ ?_
  rotate_left
  ·intro w'
   go_simp
   with_reducible rfl
  rotate_left
  ·simp only [PN]
   rfl
  refine pure_ (i := 17) (N := some 6) (v := ?_) (a' := ?_) #[Y,Y,Y,Y,Y,Y,Y,Y,Y,Y,Y,Y,Y,Y,Y,Y,Y,Y] rfl rfl (any_of HT_.out (by kernel_rfl)) (fun _ _ _ h => h) (Or.inl ⟨by rfl, ?_⟩) ?_ ?_
  rotate_left
  ·intro w'
   go_simp
   with_reducible rfl
  rotate_left
  ·simp only [PN]
   rfl
  refine done_ (done_of HT_.out (by kernel_rfl)) ?_
  clear hHeld k0 k1 k2 f0 f1 f2
  have HB7S := Aside0.mk (HG3.out.trans_row (grown_of_below HB7.out (some gu)))
  have HBL := Aside0.mk (Nat.le_trans HG3.out.size (Nat.le_refl _))
  have HRR7 := Aside0.mk (Kd.R_below HRR3.out HB7.out)
  have HCN7 := Aside0.mk (HCN3.out.below HB7.out)
  have g8 := ((grown_set w7 gr 0 (.int .i64 0)).trans_row (grown_set _ gr 1 (.slice none 0 0))).trans_row (grown_set _ gr 2 (.slice none 0 0))
  have hk8 : Kf 0 [49] (fun _ => False) w7 _ := Kf.grown g8 HR7.out (by simp) (Nat.zero_le _)
  have HSU8 := Aside0.mk (SU.kf (w0 := w0) (N1 := N0) ⟨HX.out.1, _, gc, st2, lk, 0, HU7.out, HRR7.out, HCN7.out, HX.out.2.1, .inr ⟨rfl, x, r, rfl, HLK.out⟩⟩ hk8 (by decide) (by decide))
  have HY8 := Aside0.mk (R_kf (Kd.R_lower HY7.out.1 HBL.out) hk8 (by decide))
  have HG8 := Aside0.mk (HB7S.out.far g8 HGR.out)
  have HR8 := Aside0.mk (blk_put (blk_put (blk_put HR7.out 0 (.int .i64 0) rfl) 1 (.slice none 0 0) rfl) 2 (.slice none 0 0) rfl)
  clear g8 hk8
  generalize ((w7.setCell ⟨gr, 0, none⟩ (.int .i64 0)).setCell ⟨gr, 1, none⟩ (.slice none 0 0)).setCell ⟨gr, 2, none⟩ (.slice none 0 0) = w8 at HSU8 HY8 HG8 HR8 ⊢
  go_wp2
  refine bodyPost_ret (results_ctt rfl _ _ gr 49 #[.int .i64 0, .slice none 0 0, .slice none 0 0] (0, 0) _ rfl HR8.out Tryz.underlying49 rfl (by kernel_rfl)) rfl ?_
  exact ⟨_, ys, rfl, HY8.out, HY7.out.2.1, HY7.out.2.2, HSU8.out, HG8.out⟩
theorem Kf.new {N0 : Nat} {Ts : List Nat} {X : Nat → Prop} {a b c : World} {g : Nat} (h : Kf N0 Ts X a b) (k : b.grownBy c (some g)) (hl : a.heap.size ≤ g) : Kf N0 Ts X a c :=
 have hs : ∀ i, i < a.heap.size → c.heap[i]? = b.heap[i]? := fun i hi => k.block i (Nat.lt_of_lt_of_le hi h.size) (fun e => by injection e with e; omega)
 ⟨k.os.trans h.os, k.tape.trans h.tape, k.output.trans h.output, Nat.le_trans h.size k.size, fun i hi hl => (hs i hl).trans (h.low i hi hl), fun i cells t hi ht => (hs i (blk_lt hi)).trans (h.keep i cells t hi ht), fun i es cl hi hx => (hs i (blk_lt hi)).trans (h.maps i es cl hi hx)⟩
set_option maxRecDepth 100000 in
set_option maxHeartbeats 1000000 in
theorem suit.Step.nil {w0 w : World} {N0 gu gx : Nat} (h : SU w0 N0 w gu gx []) (hi : IX w gx) (ah : Bool) : Calls Tryz.prog 110 #[.pointer (some ⟨gu, 0, none⟩), .bool ah] w fun e w' => (∃ A c, e = .returned (.tuple #[.agg #[.int .i64 1, .slice A 0 c, .slice none 0 0], .bool true, .slice none 0 0])) ∧ Kf N0 [256, 306] (fun _ => False) w w' := by
 obtain ⟨h0, vr, gc, st, lk, kn, h1, h2, h3, h4, h5⟩ := h
 have e5 : kn = -1 := by
  rcases h5 with e5 | ⟨_, x, r, e, _⟩
  ·exact e5
  ·cases e
 subst e5
 have hba := below_alloc (Below.refl w.heap.size w) (.cells #[.int .i64 0, .slice none 0 0, .slice none 0 0] 49)
 have HR1 := Aside0.mk (blk_new w (.cells #[.int .i64 0, .slice none 0 0, .slice none 0 0] 49))
 have hu1 := blk_below h1 hba
 have HG1 := Aside0.mk (hi.below hba)
 have HX := Aside0.mk (And.intro h0 h4)
 have HK1 := Aside0.mk (show Kf N0 [256, 306] (fun _ => False) w _ from Kf.below hba)
 have HCN := Aside0.mk (h3.below hba)
 have HGR := Aside0.mk (show N0 ≤ w.heap.size from Nat.le_of_lt (Nat.lt_of_le_of_lt h0 (blk_lt h1)))
 obtain ⟨st2, hst⟩ : ∃ st2, wrap64 (st + 1) = st2 := ⟨_, rfl⟩
 clear h1 h2 h3 h4 h0 hi hba
 go_enter Tryz.func110, Tryz.ntmps110
 have k3 : (w.alloc (.cells #[.int .i64 0, .slice none 0 0, .slice none 0 0] 49)).cell? ⟨gu, 3, none⟩ = some (.int .i64 st) := (blk_cell hu1 3).trans rfl
 have f3 := blk_frozen hu1 3
 go_wp2
 have hg1 := grown_set (w.alloc (.cells #[.int .i64 0, .slice none 0 0, .slice none 0 0] 49)) gu 3 (.int .i64 st2)
 have HU2 := Aside0.mk (show ((w.alloc (.cells #[.int .i64 0, .slice none 0 0, .slice none 0 0] 49)).setCell ⟨gu, 3, none⟩ (.int .i64 st2)).drew.heap[gu]? = some (.cells #[.pointer (some ⟨gx, 0, none⟩), vr, .pointer (some ⟨gc, 0, none⟩), .int .i64 st2, .string lk, .int .i64 (-1)] 256 (0, 0)) from blk_put hu1 3 (.int .i64 st2) rfl)
 have HI2 := Aside0.mk (show IX ((w.alloc (.cells #[.int .i64 0, .slice none 0 0, .slice none 0 0] 49)).setCell ⟨gu, 3, none⟩ (.int .i64 st2)).drew gx from (IX.grown HG1.out hg1 hu1 (by decide)).below (below_drew (Below.refl _ _)))
 have HR2 := Aside0.mk (show ((w.alloc (.cells #[.int .i64 0, .slice none 0 0, .slice none 0 0] 49)).setCell ⟨gu, 3, none⟩ (.int .i64 st2)).drew.heap[w.heap.size]? = _ from blk_grown HR1.out hg1.drew_ (fun e => by injection e with e; exact blk_ne HR1.out hu1 (by decide) e))
 have hkf : Kf N0 [256, 306] (fun _ => False) (w.alloc (.cells #[.int .i64 0, .slice none 0 0, .slice none 0 0] 49)) ((w.alloc (.cells #[.int .i64 0, .slice none 0 0, .slice none 0 0] 49)).setCell ⟨gu, 3, none⟩ (.int .i64 st2)).drew := Kf.grown hg1.drew_ hu1 (by simp) HX.out.1
 have HK2 := Aside0.mk (HK1.out.trans hkf)
 have HCN2 := Aside0.mk (show CN w0 N0 ((w.alloc (.cells #[.int .i64 0, .slice none 0 0, .slice none 0 0] 49)).setCell ⟨gu, 3, none⟩ (.int .i64 st2)).drew gc gx [] from HCN.out.kf (N0 := 0) (Ts := [256]) (X := fun _ => False) (Kf.grown hg1.drew_ hu1 (by simp) (Nat.zero_le _)) (by decide))
 clear hg1 hu1 k3 f3 HR1 HG1 HK1 HCN hkf
 generalize (w.alloc (.cells #[.int .i64 0, .slice none 0 0, .slice none 0 0] 49)).setCell ⟨gu, 3, none⟩ (.int .i64 st2) = w2 at HU2 HI2 HR2 HK2 HCN2 ⊢
 generalize hgr : w.heap.size = gr at HR2 ⊢
 have HGE := Aside0.mk (show w.heap.size ≤ gr by omega)
 clear hgr
 refine start_ (n := 10) (S := fun w' => w'.cell? ⟨gu, 0, none⟩ = some (.pointer (some ⟨gx, 0, none⟩)) ∧ w'.cell? ⟨gu, 5, none⟩ = some (.int .i64 (-1))) (ds := []) #[O,O,O,O,O,O,O,O,O,O] (by kernel_rfl) rfl rfl ⟨((blk_cell HU2.out 0).trans rfl), ((blk_cell HU2.out 5).trans rfl)⟩ (fun hHeld => ?_)
 refine with_tabW STP4.tab4 STP4.bits4 (fun HT_ HW_ => ?_)
 refine pure_ (i := 0) (N := some 19) (v := ?_) (a' := ?_) #[Y,O,O,O,O,O,O,O,O,O] rfl rfl (any_of HT_.out (by kernel_rfl)) (fun _ _ _ h => h) (Or.inl ⟨by rfl, ?_⟩) ?_ ?_
 rotate_left
 ·intro w'
  go_simp
  with_reducible rfl
 rotate_left
 ·simp only [PN]
  rfl
 refine pure_ (i := 1) (N := some 20) (v := ?_) (a' := ?_) #[Y,Y,O,O,O,O,O,O,O,O] rfl rfl (any_of HT_.out (by kernel_rfl)) (fun _ _ _ h => h) (Or.inl ⟨by rfl, ?_⟩) ?_ ?_
 rotate_left
 ·intro w'
  go_simp
  with_reducible rfl
 rotate_left
 ·simp only [PN]
  rfl
 refine pure_ (i := 2) (N := some 21) (v := ?_) (a' := ?_) #[Y,Y,Y,O,O,O,O,O,O,O] rfl rfl (any_of HT_.out (by kernel_rfl)) (fun _ _ _ h => h) (Or.inl ⟨by rfl, ?_⟩) ?_ ?_
 rotate_left
 ·intro w'
  go_simp
  with_reducible rfl
 rotate_left
 ·simp only [PN]
  rfl
 refine pure_ (i := 4) (N := some 23) (v := ?_) (a' := ?_) #[Y,Y,Y,O,Y,O,O,O,O,O] rfl rfl (any_of HT_.out (by kernel_rfl)) (fun _ _ _ h => h) (Or.inl ⟨by rfl, ?_⟩) ?_ ?_
 rotate_left
 ·intro w'
  go_simp
  with_reducible rfl
 rotate_left
 ·simp only [PN]
  rfl
 refine pure_ (i := 5) (N := some 24) (v := ?_) (a' := ?_) #[Y,Y,Y,O,Y,Y,O,O,O,O] rfl rfl (any_of HT_.out (by kernel_rfl)) (fun _ _ _ h => h) (Or.inl ⟨by rfl, ?_⟩) ?_ ?_
 rotate_left
 ·intro w'
  go_simp
  with_reducible rfl
 rotate_left
 ·simp only [PN]
  rfl
 refine pure_ (i := 6) (N := some 25) (v := ?_) (a' := ?_) #[Y,Y,Y,O,Y,Y,Y,O,O,O] rfl rfl (any_of HT_.out (by kernel_rfl)) (fun _ _ _ h => h) (Or.inl ⟨by rfl, ?_⟩) ?_ ?_
 rotate_left
 ·intro w'
  go_simp
  with_reducible rfl
 rotate_left
 ·simp only [PN]
  rfl
 refine take_ (i := 3) (N := some 22) (v := ?_) (a' := ?_) #[Y,Y,Y,Y,Y,Y,Y,O,O,O] rfl rfl (take_ofW HT_.out HW_.out (by kernel_rfl)) (fun _ _ _ h => h) (Or.inl ⟨by rfl, ?_⟩) hHeld ?_ ?_
 rotate_left
 ·rintro w' ⟨s0, s1⟩
  go_simp
  with_reducible rfl
 rotate_left
 ·simp only [PN]
  rfl
 refine take_ (i := 7) (N := some 26) (v := ?_) (a' := ?_) #[Y,Y,Y,Y,Y,Y,Y,Y,O,O] rfl rfl (take_ofW HT_.out HW_.out (by kernel_rfl)) (fun _ _ _ h => h) (Or.inl ⟨by rfl, ?_⟩) hHeld ?_ ?_
 rotate_left
 ·rintro w' ⟨s0, s1⟩
  go_simp
  with_reducible rfl
 rotate_left
 ·simp only [PN]
  rfl
 refine one_ (i := 8) (N := some 27) #[Y,Y,Y,Y,Y,Y,Y,Y,Y,O] rfl rfl (one_of HT_.out (by kernel_rfl)) (by decide) (fun K hK => ?_)
 refine goes_ Tryz.func156 (by kernel_rfl) rfl #[.pointer (some ⟨gx, 0, none⟩)] (by rfl) rfl rfl (by (try simp only [List.map_toArray, List.map_cons, List.map_nil]); first | done | rfl) ?_
 refine (index.Len.calls HI2.out).mono ?_
 rintro e w5 ⟨rfl, rfl⟩
 refine ⟨_, rfl, ?_⟩
 refine hK.out _ _ ⟨((blk_cell HU2.out 0).trans rfl), ((blk_cell HU2.out 5).trans rfl)⟩ (fun hHeld => ?_)
 clear hK K
 refine norm_ (a' := ?_) ?_ ?_
 rotate_left
 ·show Act.put _ (some 27) _ = _
  simp only [PN]
  rfl
 refine pure_ (i := 9) (N := some 28) (v := ?_) (a' := ?_) #[Y,Y,Y,Y,Y,Y,Y,Y,Y,Y] rfl rfl (any_of HT_.out (by kernel_rfl)) (fun _ _ _ h => h) (Or.inl ⟨by rfl, ?_⟩) ?_ ?_
 rotate_left
 ·intro w'
  go_simp
  with_reducible rfl
 rotate_left
 ·simp only [PN]
  rfl
 refine done_ (done_of HT_.out (by kernel_rfl)) ?_
 clear hHeld
 generalize w2.drew = w3 at HU2 HI2 HR2 HK2 HCN2 ⊢
 have c2 : w3.cell? ⟨gu, 2, none⟩ = some (.pointer (some ⟨gc, 0, none⟩)) := (blk_cell HU2.out 2).trans rfl
 have HCB := Aside0.mk (show ∃ cs, w3.heap[gc]? = some (.cells cs 306 (0, 0)) from by
  obtain ⟨_, _, _, _, _, _, _, _, _, h1, _⟩ := HCN2.out
  exact ⟨_, h1⟩)
 go_wp2_with fail
 refine (core.Run.nil HCN2.out HI2.out).mono ?_
 rintro e w4 ⟨rfl, hg4, h10, h12⟩
 obtain ⟨cs, hcs⟩ := HCB.out
 have HU4 := Aside0.mk (blk_grown HU2.out hg4 (fun e => by injection e with e; exact blk_ne HU2.out hcs (by decide) e))
 have HR4 := Aside0.mk (blk_grown HR2.out hg4 (fun e => by injection e with e; exact blk_ne HR2.out hcs (by decide) e))
 have hkf : Kf N0 [256, 306] (fun _ => False) w3 w4 := Kf.grown hg4 hcs (by simp) HX.out.2
 have HK4 := Aside0.mk (HK2.out.trans hkf)
 have HPK := Aside0.mk (core.Picks.nil h10 h12)
 clear hg4 h10 h12 hcs hkf c2 HU2 HR2 HK2 HCN2 HI2 HCB
 have c2 : w4.cell? ⟨gu, 2, none⟩ = some (.pointer (some ⟨gc, 0, none⟩)) := (blk_cell HU4.out 2).trans rfl
 go_wp2_with fail
 refine HPK.out.mono ?_
 rintro e w5 ⟨Ap, cp, rfl, hb5⟩
 have HR5 := Aside0.mk (blk_below HR4.out hb5)
 have HK5 := Aside0.mk (HK4.out.trans (Kf.below hb5))
 have k0 : w5.cell? ⟨gr, 0, none⟩ = some (.int .i64 0) := (blk_cell HR5.out 0).trans rfl
 have k1 : w5.cell? ⟨gr, 1, none⟩ = some (.slice none 0 0) := (blk_cell HR5.out 1).trans rfl
 have k2 : w5.cell? ⟨gr, 2, none⟩ = some (.slice none 0 0) := (blk_cell HR5.out 2).trans rfl
 have f0 := blk_frozen HR5.out 0
 have f1 := blk_frozen HR5.out 1
 have f2 := blk_frozen HR5.out 2
 have HP := Aside0.mk (blk_put (blk_put (blk_put HR5.out 0 (.int .i64 1) rfl) 1 (.slice Ap 0 cp) rfl) 2 (.slice none 0 0) rfl)
 have HKF := Aside0.mk (HK5.out.new (((grown_set w5 gr 0 (.int .i64 1)).trans_row (grown_set _ gr 1 (.slice Ap 0 cp))).trans_row (grown_set _ gr 2 (.slice none 0 0))) HGE.out)
 clear hb5 c2 HPK
 go_wp2
 generalize ((w5.setCell ⟨gr, 0, none⟩ (.int .i64 1)).setCell ⟨gr, 1, none⟩ (.slice Ap 0 cp)).setCell ⟨gr, 2, none⟩ (.slice none 0 0) = w8 at HP HKF ⊢
 refine bodyPost_ret (results_ctt rfl _ _ gr 49 #[.int .i64 1, .slice Ap 0 cp, .slice none 0 0] (0, 0) _ rfl HP.out Tryz.underlying49 rfl (by kernel_rfl)) rfl ?_
 exact ⟨⟨_, _, rfl⟩, HKF.out⟩
def tcs (f : Nat → Int × Int) (n gv : Int) : Array Value := #[.int .i64 (f 0).1, .int .i64 (f 0).2, .int .i64 (f 1).1, .int .i64 (f 1).2, .int .i64 (f 2).1, .int .i64 (f 2).2, .int .i64 (f 3).1, .int .i64 (f 3).2, .int .i64 (f 4).1, .int .i64 (f 4).2, .int .i64 (f 5).1, .int .i64 (f 5).2, .int .i64 (f 6).1, .int .i64 (f 6).2, .int .i64 (f 7).1, .int .i64 (f 7).2, .int .i64 n, .int .i64 gv]
def TB (w : World) (g : Nat) (f : Nat → Int × Int) (n gv : Int) : Prop := w.heap[g]? = some (.cells (tcs f n gv) 162 (0, 0))
section
variable {w w' : World} {g : Nat} {f : Nat → Int × Int} {n gv : Int}
theorem TB.below (h : TB w g f n gv) (hb : Below w.heap.size w w') : TB w' g f n gv := blk_below h hb
theorem TB.size (h : TB w g f n gv) : w.cell? ⟨g, 16, none⟩ = some (.int .i64 n) := (blk_cell h 16).trans rfl
theorem TB.given (h : TB w g f n gv) : w.cell? ⟨g, 17, none⟩ = some (.int .i64 gv) := (blk_cell h 17).trans rfl
theorem TB.at (h : TB w g f n gv) (i : Nat) (hi : i < 8) : w.cell? ⟨g, i * 2, none⟩ = some (.int .i64 (f i).1) ∧ w.cell? ⟨g, i * 2 + 1, none⟩ = some (.int .i64 (f i).2) := by
 match i, hi with
 | 0, _ => exact ⟨(blk_cell h 0).trans rfl, (blk_cell h 1).trans rfl⟩
 | 1, _ => exact ⟨(blk_cell h 2).trans rfl, (blk_cell h 3).trans rfl⟩
 | 2, _ => exact ⟨(blk_cell h 4).trans rfl, (blk_cell h 5).trans rfl⟩
 | 3, _ => exact ⟨(blk_cell h 6).trans rfl, (blk_cell h 7).trans rfl⟩
 | 4, _ => exact ⟨(blk_cell h 8).trans rfl, (blk_cell h 9).trans rfl⟩
 | 5, _ => exact ⟨(blk_cell h 10).trans rfl, (blk_cell h 11).trans rfl⟩
 | 6, _ => exact ⟨(blk_cell h 12).trans rfl, (blk_cell h 13).trans rfl⟩
 | 7, _ => exact ⟨(blk_cell h 14).trans rfl, (blk_cell h 15).trans rfl⟩
def updT (f : Nat → Int × Int) (i : Nat) (v : Int × Int) : Nat → Int × Int := fun j => if j = i then v else f j
theorem TB.put (h : TB w g f n gv) (i : Nat) (hi : i < 8) (v : Int × Int) : TB ((w.setCell ⟨g, i * 2, none⟩ (.int .i64 v.1)).setCell ⟨g, i * 2 + 1, none⟩ (.int .i64 v.2)) g (updT f i v) n gv := by
 refine blk_put (blk_put h (i * 2) _ rfl) (i * 2 + 1) _ ?_
 match i, hi with
 | 0, _ => rfl
 | 1, _ => rfl
 | 2, _ => rfl
 | 3, _ => rfl
 | 4, _ => rfl
 | 5, _ => rfl
 | 6, _ => rfl
 | 7, _ => rfl
theorem table.New.calls (n : Int) (h1 : 1 ≤ n) (h2 : n ≤ 8) (w : World) : Calls Tryz.prog 37 #[.int .i64 n] w fun e w' => e = .returned (.pointer (some ⟨w.heap.size, 0, none⟩)) ∧ TB w' w.heap.size (fun _ => (0, 0)) n 0 ∧ Below w.heap.size w w' := by
 have q1 : decide (n < 1) = false := decide_eq_false (by omega)
 have q2 : decide ((8 : Int) < n) = false := decide_eq_false (by omega)
 go_enter Tryz.func37, Tryz.ntmps37
 go_wp2
 go_ret
 exact ⟨rfl, blk_new w _, below_alloc (Below.refl _ _) _⟩
theorem table.has.calls (h : TB w g f n gv) (i : Nat) (hi : i < 8) (hn : n ≤ 8) : Calls Tryz.prog 113 #[.pointer (some ⟨g, 0, none⟩), .int .i64 (i : Int)] w fun e w' => e = .returned (.bool (decide ((i : Int) < n) && !((f i).1 == 0 && (f i).2 == 0))) ∧ w' = w := by
 have hs := h.size
 obtain ⟨a0, a1⟩ := h.at i hi
 have q0 : decide ((i : Int) < 0) = false := decide_eq_false (by omega)
 have q3 : (0 : Int) ≤ (i : Int) := by omega
 have q4 : (i : Int) < (8 : Int) := by omega
 generalize (f i).1 = x at a0
 generalize (f i).2 = y at a1
 by_cases hl : (i : Int) < n
 ·have q1 : decide (n ≤ (i : Int)) = false := decide_eq_false (by omega)
  have q2 : decide ((i : Int) < n) = true := decide_eq_true hl
  rw [q2]
  clear q2 h hi hn
  go_enter Tryz.func113, Tryz.ntmps113
  go_wp2
  all_goals (go_ret; exact ⟨by simp_all, rfl⟩)
 ·have q1 : decide (n ≤ (i : Int)) = true := decide_eq_true (by omega)
  have q2 : decide ((i : Int) < n) = false := decide_eq_false hl
  rw [q2]
  clear q2 h hi hn
  go_enter Tryz.func113, Tryz.ntmps113
  go_wp2
  go_ret
  exact ⟨rfl, rfl⟩
def busy (f : Nat → Int × Int) (n : Int) (i : Nat) : Bool := decide ((i : Int) < n) && !((f i).1 == 0 && (f i).2 == 0)
set_option maxHeartbeats 2000000 in
theorem table.Free.calls (h : TB w g f n gv) (i : Nat) (hi : i < 8) (hn : n ≤ 8) (hbz : busy f n i = true) : Calls Tryz.prog 145 #[.pointer (some ⟨g, 0, none⟩), .int .i64 (i : Int)] w fun e w' => e = .returned (.bool true) ∧ TB w' g (updT f i (0, 0)) n gv ∧ w.grownBy w' (some g) := by
 have HP := Aside0.mk (h.put i hi (0, 0))
 have H := Aside0.mk h
 have HN := Aside0.mk (And.intro hi hn)
 have HZ := Aside0.mk hbz
 obtain ⟨a0, a1⟩ := h.at i hi
 have f0 := blk_frozen h (i * 2)
 have f1 := blk_frozen h (i * 2 + 1)
 have q3 : (0 : Int) ≤ (i : Int) := by omega
 have q4 : (i : Int) < (8 : Int) := by omega
 clear h hn hbz
 go_enter Tryz.func145, Tryz.ntmps145
 go_wp2_with fail
 refine (table.has.calls H.out i HN.out.1 HN.out.2).mono ?_
 rintro e w1 ⟨rfl, rfl⟩
 rw [show (decide ((i : Int) < n) && !((f i).1 == 0 && (f i).2 == 0)) = true from HZ.out]
 go_wp2
 go_ret
 exact ⟨rfl, HP.out, (grown_set _ g _ _).trans_row (grown_set _ g _ _)⟩
theorem table.At.calls (h : TB w g f n gv) (i : Nat) (hi : i < 8) (hn : n ≤ 8) (hbz : busy f n i = true) : Calls Tryz.prog 66 #[.pointer (some ⟨g, 0, none⟩), .int .i64 (i : Int)] w fun e w' => e = .returned (.tuple #[.int .i64 (f i).1, .int .i64 (f i).2, .bool true]) ∧ Below w.heap.size w w' := by
 have H := Aside0.mk h
 have HN := Aside0.mk (And.intro hi hn)
 have HZ := Aside0.mk hbz
 obtain ⟨a0, a1⟩ := h.at i hi
 have q3 : (0 : Int) ≤ (i : Int) := by omega
 have q4 : (i : Int) < (8 : Int) := by omega
 clear h hn hbz
 go_enter Tryz.func66, Tryz.ntmps66
 go_wp2_with fail
 refine (table.has.calls H.out i HN.out.1 HN.out.2).mono ?_
 rintro e w1 ⟨rfl, rfl⟩
 rw [show (decide ((i : Int) < n) && !((f i).1 == 0 && (f i).2 == 0)) = true from HZ.out]
 obtain ⟨x, hx⟩ : ∃ x, (f i).1 = x := ⟨_, rfl⟩
 obtain ⟨y, hy⟩ : ∃ y, (f i).2 = y := ⟨_, rfl⟩
 rw [hx] at a0
 rw [hy] at a1
 have HXY := Aside0.mk (And.intro hx hy)
 clear hx hy
 go_wp2
 go_quiet (fail)
 go_wp2
 go_ret3
 exact ⟨by rw [HXY.out.1, HXY.out.2]; rfl, pw_below_drewN (Below.refl _ _) _⟩
def free (f : Nat → Int × Int) : Nat → Nat → Option Nat
 | 0, _ => none
 | d + 1, i => if (f i).1 = 0 ∧ (f i).2 = 0 then some i else free f d (i + 1)
theorem free_succ (f : Nat → Int × Int) (d i : Nat) : free f (d + 1) i = if (f i).1 = 0 ∧ (f i).2 = 0 then some i else free f d (i + 1) := rfl
def freeV (f : Nat → Int × Int) (m : Nat) : Int := match free f m 0 with | some i => (i : Int) | none => -1
set_option maxHeartbeats 2000000 in
theorem slices.Index.calls (h : TB w g f n gv) (m : Nat) (hm : m ≤ 8) (cp : Nat) : Calls Tryz.prog 139 #[.slice (some ⟨g, 0, none⟩) m cp, .agg #[.int .i64 0, .int .i64 0]] w fun e w' => e = .returned (.int .i64 (freeV f m)) ∧ Below w.heap.size w w' := by
 have H := Aside0.mk h
 have HM := Aside0.mk hm
 clear h hm
 go_enter Tryz.func139, Tryz.ntmps139
 go_wp2
 have HB := Aside0.mk (blk_new w (.cells #[.int .i64 0, .int .i64 0] 159))
 have HA := Aside0.mk (below_alloc (Below.refl w.heap.size w) (.cells #[.int .i64 0, .int .i64 0] 159))
 have H2 := Aside0.mk (H.out.below HA.out)
 generalize w.alloc (.cells #[.int .i64 0, .int .i64 0] 159) = w1 at HB HA H2 ⊢
 clear H
 have HF := HA
 clear HA
 generalize w.heap.size = gb at HB ⊢
 have b0 := (blk_cell HB.out 0).trans rfl
 have b1 := (blk_cell HB.out 1).trans rfl
 go_loopw [8] (fun iv wr => ∃ i k : Nat, iv = .int .i64 (i : Int) ∧ i ≤ m ∧ wr = w1.drewN k ∧ Aside0 (free f (m - i) i = free f m 0)) (fun iv _ => m - (intOf iv).toNat)
 case atStart => exact ⟨0, 0, rfl, by omega, rfl, ⟨rfl⟩⟩
 case round =>
  obtain ⟨i, k, rfl, hi, rfl, HQ⟩ := hrel
  by_cases hil : i < m
  ·have q0 : decide ((i : Int) < (m : Int)) = true := decide_eq_true (by omega)
   have q1 : (0 : Int) ≤ (i : Int) := by omega
   have q2 : (i : Int) < (m : Int) := by omega
   obtain ⟨a0, a1⟩ := H2.out.at i (by have := HM.out; omega)
   have hq := HQ.out
   rw [show m - i = (m - (i + 1)) + 1 by omega, free_succ] at hq
   generalize (f i).1 = x at a0 hq
   generalize (f i).2 = y at a1 hq
   have HQ2 := Aside0.mk hq
   clear hq HQ
   have hm8 := HM.out
   have a9 : wrap64 ((i : Int) + 1) = (i : Int) + 1 := wrap_id (by omega) (by omega)
   by_cases hz : x = 0 ∧ y = 0
   ·have HV := Aside0.mk (show freeV f m = (i : Int) by
     have h := HQ2.out
     rw [if_pos hz] at h
     unfold freeV
     rw [← h])
    obtain ⟨rfl, rfl⟩ := hz
    clear HQ2
    go_wp2
    go_quiet (fail)
    go_wp2
    go_ret
    exact ⟨by rw [HV.out]; rfl, pw_below_drewN (pw_below_drewN HF.out _) _⟩
   ·have HQ3 := Aside0.mk (show free f (m - (i + 1)) (i + 1) = free f m 0 by
     have h := HQ2.out
     rw [if_neg hz] at h
     exact h)
    clear HQ2
    by_cases hx : x = 0
    ·have hy : ¬ y = 0 := fun hy => hz ⟨hx, hy⟩
     have e1 : (0 == y) = false := beq_eq_false_iff_ne.2 (fun e => hy e.symm)
     have e2 : (y == 0) = false := beq_eq_false_iff_ne.2 hy
     subst hx
     clear hz hy
     go_wp2
     go_quiet (fail)
     go_wp2
     go_roundw
     case rel => exact ⟨i + 1, k + nq, by go_num, by omega, rfl, HQ3⟩
     case measure => simp [intOf]; omega
    ·have e1 : (0 == x) = false := beq_eq_false_iff_ne.2 (fun e => hx e.symm)
     have e2 : (x == 0) = false := beq_eq_false_iff_ne.2 hx
     clear hz hx
     go_wp2
     go_quiet (fail)
     go_wp2
     go_roundw
     case rel => exact ⟨i + 1, k + nq, by go_num, by omega, rfl, HQ3⟩
     case measure => simp [intOf]; omega
  ·have q0 : decide ((i : Int) < (m : Int)) = false := decide_eq_false (by omega)
   have HV := Aside0.mk (show freeV f m = -1 by
    have h := HQ.out
    rw [show m - i = 0 by omega] at h
    unfold freeV
    rw [← h]
    rfl)
   clear HQ
   go_wp2
   go_ret
   exact ⟨by rw [HV.out]; rfl, pw_below_drewN HF.out _⟩
end
end Go.Proofs.YtceffpgcbihckaaGreat.Top
