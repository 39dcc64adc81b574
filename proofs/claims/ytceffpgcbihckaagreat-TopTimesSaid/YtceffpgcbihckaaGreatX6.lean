/- The walk of TopTimes, part 6. No condition but what each theorem names. -/
import Derived.Test.YtceffpgcbihckaaGreatX5
set_option linter.unusedVariables false
set_option linter.unusedSimpArgs false
namespace Go.Proofs.YtceffpgcbihckaaGreat.Top
open Go.RowKit Go.Proofs.YtceffpgcbihckaaGreatW.PrintWords Go.Proofs.YtceffpgcbihckaaGreatW.PrintLast Go.Proofs.YtceffpgcbihckaaGreatW.PrintMore Go.Proofs.YtceffpgcbihckaaGreat.Base
theorem zeroAsk (w : World) : (zeroValue 76).run Tryz.prog w = .ok (.agg #[.int .i64 0, .slice none 0 0]) w := by kernel_rfl
theorem infoTold : (Tryz.prog.info? 51).map (fun i => (i.zero, i.size, i.bytes)) = some (some (.agg #[.int .i64 0, .int .i64 0, .int .i64 0, .slice none 0 0, .int .i64 0, .slice none 0 0, .slice none 0 0]), 7, 104) := by kernel_rfl
def NOT4.T4 : Bool × List (List Nat × List Nat) := (true, [([], []), ([0], [0]), ([1], [1]), ([2], [2]), ([], []), ([4], [4]), ([3, 5], [3, 5]), ([], []), ([7, 6, 0, 1, 2, 3, 4, 5, 6, 7], [6, 7])])
def NOT4.B4 : List Nat := [0, 1, 3, 7, 0, 16, 63, 0, 255]
theorem NOT4.tab4 : rtab .any (opsOf Tryz.f24 4) = NOT4.T4 := by kernel_rfl
theorem NOT4.bits4 : waitsOk NOT4.T4.2 NOT4.B4 = true := by kernel_rfl
def NOT5.T5 : Bool × List (List Nat × List Nat) := (true, [([], []), ([], []), ([1], [1]), ([2], [2]), ([3], [3]), ([], []), ([5], [5]), ([], []), ([7], [7]), ([], []), ([9], [9]), ([], []), ([11], [11]), ([], []), ([13], [13]), ([6, 8, 10, 12, 14], [6, 8, 10, 12, 14]), ([15], [15]), ([4, 16, 10], [4, 16]), ([0, 0, 1, 2, 3, 4, 5, 6, 7, 8, 9, 10, 11, 12, 13, 14, 15, 16, 17], [0]), ([18, 0, 1, 2, 3, 4, 5, 6, 7, 8, 9, 10, 11, 12, 13, 14, 15, 16, 17], [18]), ([19, 17, 17, 0, 1, 2, 3, 4, 5, 6, 7, 8, 9, 10, 11, 12, 13, 14, 15, 16, 17], [17, 19])])
def NOT5.B5 : List Nat := [0, 0, 2, 6, 14, 0, 32, 0, 128, 0, 512, 0, 2048, 0, 8192, 32736, 65504, 131070, 262143, 524287, 1048575]
theorem NOT5.tab5 : rtab .any (opsOf Tryz.f24 5) = NOT5.T5 := by kernel_rfl
theorem NOT5.bits5 : waitsOk NOT5.T5.2 NOT5.B5 = true := by kernel_rfl
theorem tk_take (rows : List (List Value)) (i : Nat) (h : i < rows.length) : (rows.take (i + 1)).flatMap tk = (rows.take i).flatMap tk ++ tk (rows.getD i []) := by
 rw [take_at rows [] i h, List.flatMap_append]
 simp
section
variable {w0 : World} {N0 : Nat} {w w' : World} {gw gs gx gt gf mx gr gm : Nat} {Z U : Nat → Prop} {P : PL} {xs : List Nd} {now gv : Nat} {f : Nat → Int × Int} {su : Nat → Value} {va : Value} {rows r2 tr : List (List Value)} {b E m s : Nat}
set_option maxRecDepth 100000 in
set_option maxHeartbeats 1000000 in
theorem world.note.calls {A : Option Addr} {c : Nat} (hB : WB w0 N0 w gw gs gr gm xs E m s tr) (hS : SE w0 N0 w gs gx gt gf mx Z U P xs now gv f su va r2 b) (hr : (Kd.raw 7).R 131 w N0 (fun _ => True) (.slice A rows.length c) rows) (hok : ∀ r ∈ rows, AOk r) (hl : rows.length ≤ 20) (hN : N0 ≤ w.heap.size) (htl : tr.length ≤ 10000) (hm : m ≤ 90000) (hE : rows.flatMap tk ≠ [] → now ≤ E) (hko : KO xs (rows.flatMap tk)) : Calls Tryz.prog 24 #[.pointer (some ⟨gw, 0, none⟩), .slice A rows.length c] w fun e w' => e = .returned (.tuple #[]) ∧ (∃ tr', tr'.length = tr.length + (rows.flatMap tk).length ∧ WB w0 N0 w' gw gs gr gm xs E (m + 20) s tr') ∧ Kf N0 [66, 51, 112, 208] (fun _ => False) w w' := by
 have HB0 := Aside0.mk hB
 have HS0 := Aside0.mk hS
 have HR0 := Aside0.mk hr
 have HOK := Aside0.mk hok
 have HL := Aside0.mk (And.intro hN (And.intro hl (And.intro htl hm)))
 have HKE := Aside0.mk (And.intro hE hko)
 clear hB hS hr hok hl hN htl hm hE hko
 go_enter Tryz.func24, Tryz.ntmps24
 go_wp2
 go_loopw [9] (fun iv wr => ∃ (i : Nat) (tr2 : List (List Value)), iv = .int .i64 (i : Int) ∧ i ≤ rows.length ∧ Aside0 (tr2.length = tr.length + ((rows.take i).flatMap tk).length) ∧ Aside0 (WB w0 N0 wr gw gs gr gm xs E m s tr2) ∧ Aside0 (Kf N0 [66, 51, 112, 208] (fun _ => False) w wr)) (fun iv _ => ((rows.length : Int) - intOf iv).toNat)
 case atStart => exact ⟨0, tr, rfl, by omega, ⟨by simp⟩, HB0, ⟨Kf.refl⟩⟩
 case round =>
  obtain ⟨i, tr2, rfl, hi, HT, HB, HK⟩ := hrel
  have hll := HL.out.2.1
  by_cases hlt : i < rows.length
  ·have q0 : decide ((i : Int) < (rows.length : Int)) = true := decide_eq_true (by omega)
   have u0 : (0 : Int) ≤ (i : Int) := by omega
   have u1 : (i : Int) < (rows.length : Int) := by omega
   have HA9 := Aside0.mk (show wrap64 ((i : Int) + 1) = (i : Int) + 1 from wrap_id (by omega) (by omega))
   have HI := Aside0.mk hlt
   have hrw := R_kf HR0.out HK.out (by decide)
   have hro := HOK.out _ (getD_mem rows [] i hlt)
   have htk := tk_take rows i hlt
   clear hi
   rcases hro with ⟨id, k, Ap, cp, er, hid0, hid1, hk⟩ | ⟨t, x, er⟩
   ·obtain ⟨ad, rfl, x0, x1, x2, x3, x4, x5, x6⟩ := at_Act7 (Kd.R_reads' hrw).2.2 i hlt er
    rw [er] at htk
    have HKK := Aside0.mk (show (k = 1 ∨ k = 4 ∨ k = 5) ∧ ((k = 4 ∨ k = 5 ∨ xs = []) ∧ (xs = [] → k = 1)) ∧ now ≤ E ∧ tr2.length + 1 = tr.length + ((rows.take (i + 1)).flatMap tk).length from by
     have hmem : k ∈ rows.flatMap tk := by
      have h1 : k ∈ (rows.take (i + 1)).flatMap tk := by rw [htk]; exact List.mem_append_right _ (List.mem_singleton.2 rfl)
      obtain ⟨r, hr1, hr2⟩ := List.mem_flatMap.1 h1
      exact List.mem_flatMap.2 ⟨r, List.mem_of_mem_take hr1, hr2⟩
     refine ⟨hk, HKE.out.2 k hmem, HKE.out.1 (fun e => by rw [e] at hmem; cases hmem), ?_⟩
     rw [htk, List.length_append, HT.out]
     show _ = _ + (_ + [k].length)
     simp
     omega)
    obtain ⟨z, pl, ham, hz, hav⟩ := HB.out.am
    have hq : ∃ (at_ : Int) (Av : Option Addr) (cv : Nat) (ys : List Nd), (pl (.int .i64 id)).getD (.agg #[.int .i64 0, .slice none 0 0]) = .agg #[.int .i64 at_, .slice Av ys.length cv] ∧ (kNm w0).R 117 wr N0 (fun _ => True) (.slice Av ys.length cv) ys ∧ (ys = xs ∨ ys = []) := by
     cases hp : pl (.int .i64 id) with
     | none => exact ⟨0, none, 0, [], rfl, Kd.R_nil _ _ _ _ _, .inr rfl⟩
     | some v => exact hav _ _ hp
    obtain ⟨at_, Av, cv, ys, hqv, hqr, hqy⟩ := hq
    have hlk := ham.look1 lawI Tryz.underlying64 zeroAsk (keyI (a := id) (by omega) (by omega)) (by simp [WideAt.IsKeyLit])
    rw [hqv] at hlk
    have hlk2 : ∀ W, Below (wr.alloc (.cells #[.int .i64 2, .int .i64 0, .string ⟨#[]⟩, .int .i64 id, .int .i64 k, .slice Ap 0 cp, .slice none 0 0] 131)).heap.size (wr.alloc (.cells #[.int .i64 2, .int .i64 0, .string ⟨#[]⟩, .int .i64 id, .int .i64 k, .slice Ap 0 cp, .slice none 0 0] 131)) W → (Instr.lookup 64 (.map (some gm)) (.int .i64 id) false).run Tryz.prog W = .ok (.agg #[.int .i64 at_, .slice Av ys.length cv]) W := fun W hW => by
     have h2 := ((ham.below (below_alloc (Below.refl wr.heap.size wr) (.cells #[.int .i64 2, .int .i64 0, .string ⟨#[]⟩, .int .i64 id, .int .i64 k, .slice Ap 0 cp, .slice none 0 0] 131))).below hW).look1 lawI Tryz.underlying64 zeroAsk (keyI (a := id) (by omega) (by omega)) (by simp [WideAt.IsKeyLit])
     rw [hqv] at h2
     exact h2
    have hba := below_alloc (Below.refl wr.heap.size wr) (.cells #[.int .i64 2, .int .i64 0, .string ⟨#[]⟩, .int .i64 id, .int .i64 k, .slice Ap 0 cp, .slice none 0 0] 131)
    have HQ := Aside0.mk (And.intro (Kd.R_below hqr hba) hqy)
    have HGB4 := Aside0.mk (blk_new wr (.cells #[.int .i64 2, .int .i64 0, .string ⟨#[]⟩, .int .i64 id, .int .i64 k, .slice Ap 0 cp, .slice none 0 0] 131))
    have HB4 := Aside0.mk (HB.out.below hba)
    have HK4 := Aside0.mk (HK.out.trans (Kf.below hba))
    have k0 : (wr.alloc (.cells #[.int .i64 2, .int .i64 0, .string ⟨#[]⟩, .int .i64 id, .int .i64 k, .slice Ap 0 cp, .slice none 0 0] 131)).cell? ⟨wr.heap.size, 0, none⟩ = some (.int .i64 2) := (blk_cell HGB4.out 0).trans rfl
    have k3 : (wr.alloc (.cells #[.int .i64 2, .int .i64 0, .string ⟨#[]⟩, .int .i64 id, .int .i64 k, .slice Ap 0 cp, .slice none 0 0] 131)).cell? ⟨wr.heap.size, 3, none⟩ = some (.int .i64 id) := (blk_cell HGB4.out 3).trans rfl
    have c2 : (wr.alloc (.cells #[.int .i64 2, .int .i64 0, .string ⟨#[]⟩, .int .i64 id, .int .i64 k, .slice Ap 0 cp, .slice none 0 0] 131)).cell? ⟨gw, 2, none⟩ = some (.map (some gm)) := by obtain ⟨At, ct, hb, _⟩ := HB4.out.blk; exact (blk_cell hb 2).trans rfl
    clear hba hrw er HB HK hll hqr hqy hqv hav hlk ham hz htk hk
    go_wp2
    clear x0 x1 x2 x3 x4 x5 x6
    have hwd : Below (wr.alloc (.cells #[.int .i64 2, .int .i64 0, .string ⟨#[]⟩, .int .i64 id, .int .i64 k, .slice Ap 0 cp, .slice none 0 0] 131)).heap.size (wr.alloc (.cells #[.int .i64 2, .int .i64 0, .string ⟨#[]⟩, .int .i64 id, .int .i64 k, .slice Ap 0 cp, .slice none 0 0] 131)) (wr.alloc (.cells #[.int .i64 2, .int .i64 0, .string ⟨#[]⟩, .int .i64 id, .int .i64 k, .slice Ap 0 cp, .slice none 0 0] 131)).drew := below_drew (Below.refl _ _)
    have HLK := Aside0.mk (show (Instr.lookup 64 (.map (some gm)) (.int .i64 id) false).run Tryz.prog (wr.alloc (.cells #[.int .i64 2, .int .i64 0, .string ⟨#[]⟩, .int .i64 id, .int .i64 k, .slice Ap 0 cp, .slice none 0 0] 131)).drew = .ok (.agg #[.int .i64 at_, .slice Av ys.length cv]) (wr.alloc (.cells #[.int .i64 2, .int .i64 0, .string ⟨#[]⟩, .int .i64 id, .int .i64 k, .slice Ap 0 cp, .slice none 0 0] 131)).drew from hlk2 _ hwd)
    generalize wr.alloc (.cells #[.int .i64 2, .int .i64 0, .string ⟨#[]⟩, .int .i64 id, .int .i64 k, .slice Ap 0 cp, .slice none 0 0] 131) = w3 at HGB4 HB4 HK4 HQ HLK hlk2 hwd k0 k3 c2 ⊢
    generalize wr.heap.size = gb at HGB4 k0 k3 ⊢
    have HBd := Aside0.mk (HB4.out.below hwd)
    have HKd := Aside0.mk (HK4.out.trans (Kf.below hwd))
    have HGBd := Aside0.mk (blk_below HGB4.out hwd)
    have HLKF := Aside0.mk hlk2
    clear hwd k0 k3 c2 hlk2
    refine start_ (n := 9) (S := fun w' => w'.cell? ⟨gw, 2, none⟩ = some (.map (some gm)) ∧ w'.cell? ⟨gb, 3, none⟩ = some (.int .i64 id) ∧ (Instr.lookup 64 (.map (some gm)) (.int .i64 id) false).run Tryz.prog w' = .ok (.agg #[.int .i64 at_, .slice Av ys.length cv]) w') (ds := [8]) #[O,O,O,O,O,O,O,O,O] (by kernel_rfl) rfl rfl ⟨(by obtain ⟨At, ct, hb, _⟩ := HBd.out.blk; exact (blk_cell hb 2).trans rfl), ((blk_cell HGBd.out 3).trans rfl), HLK.out⟩ (fun hHeld => ?_)
    refine with_tabW NOT4.tab4 NOT4.bits4 (fun HT_ HW_ => ?_)
    refine pure_ (i := 0) (N := some 16) (v := ?_) (a' := ?_) #[Y,O,O,O,O,O,O,O,O] rfl rfl (any_of HT_.out (by kernel_rfl)) (fun _ _ _ h => h) (Or.inl ⟨by rfl, ?_⟩) ?_ ?_
    rotate_left
    ·intro w'
     go_simp
     with_reducible rfl
    rotate_left
    ·simp only [PN]
     rfl
    refine pure_ (i := 1) (N := some 17) (v := ?_) (a' := ?_) #[Y,Y,O,O,O,O,O,O,O] rfl rfl (any_of HT_.out (by kernel_rfl)) (fun _ _ _ h => h) (Or.inl ⟨by rfl, ?_⟩) ?_ ?_
    rotate_left
    ·intro w'
     go_simp
     with_reducible rfl
    rotate_left
    ·simp only [PN]
     rfl
    refine pure_ (i := 2) (N := some 18) (v := ?_) (a' := ?_) #[Y,Y,Y,O,O,O,O,O,O] rfl rfl (any_of HT_.out (by kernel_rfl)) (fun _ _ _ h => h) (Or.inl ⟨by rfl, ?_⟩) ?_ ?_
    rotate_left
    ·intro w'
     go_simp
     with_reducible rfl
    rotate_left
    ·simp only [PN]
     rfl
    refine pure_ (i := 4) (N := some 20) (v := ?_) (a' := ?_) #[Y,Y,Y,O,Y,O,O,O,O] rfl rfl (any_of HT_.out (by kernel_rfl)) (fun _ _ _ h => h) (Or.inl ⟨by rfl, ?_⟩) ?_ ?_
    rotate_left
    ·intro w'
     go_simp
     with_reducible rfl
    rotate_left
    ·simp only [PN]
     rfl
    refine take_ (i := 3) (N := some 19) (v := ?_) (a' := ?_) #[Y,Y,Y,Y,Y,O,O,O,O] rfl rfl (take_ofW HT_.out HW_.out (by kernel_rfl)) (fun _ _ _ h => h) (Or.inl ⟨by rfl, ?_⟩) hHeld ?_ ?_
    rotate_left
    ·rintro w' ⟨s0, s1, s2⟩
     go_simp
     with_reducible rfl
    rotate_left
    ·simp only [PN]
     rfl
    refine take_ (i := 5) (N := some 21) (v := ?_) (a' := ?_) #[Y,Y,Y,Y,Y,Y,O,O,O] rfl rfl (take_ofW HT_.out HW_.out (by kernel_rfl)) (fun _ _ _ h => h) (Or.inl ⟨by rfl, ?_⟩) hHeld ?_ ?_
    rotate_left
    ·rintro w' ⟨s0, s1, s2⟩
     go_simp
     with_reducible rfl
    rotate_left
    ·simp only [PN]
     rfl
    refine take_ (i := 6) (N := some 22) (v := ?_) (a' := ?_) #[Y,Y,Y,Y,Y,Y,Y,O,O] rfl rfl (take_ofW HT_.out HW_.out (by kernel_rfl)) (fun _ _ _ h => h) (Or.inl ⟨by rfl, ?_⟩) hHeld ?_ ?_
    rotate_left
    ·rintro w' ⟨s0, s1, s2⟩
     go_simp
     with_reducible rfl
    rotate_left
    ·simp only [PN]
     rfl
    refine one_ (i := 7) (N := some 6) #[Y,Y,Y,Y,Y,Y,Y,Y,O] rfl rfl (one_of HT_.out (by kernel_rfl)) (by decide) (fun K hK => ?_)
    have hba_ := below_alloc (Below.refl w3.drew.heap.size w3.drew) (.cells #[.int .i64 0, .slice none 0 0] 76)
    have HBe := Aside0.mk (HBd.out.below hba_)
    have HKe := Aside0.mk (HKd.out.trans (Kf.below hba_))
    have HGBe := Aside0.mk (blk_below HGBd.out hba_)
    have HGQ := Aside0.mk (blk_new w3.drew (.cells #[.int .i64 0, .slice none 0 0] 76))
    have HLKe := Aside0.mk (HLKF.out _ (below_go (below_drew (Below.refl _ _)) hba_))
    clear hba_
    refine value_ (w1 := ?_) (v := ?_) (by rfl) rfl ?_ ?_
    rotate_left 2
    ·go_simp
     constructor
     ·rfl
     ·rfl
    refine hK.out _ _ ⟨(by obtain ⟨At, ct, hb, _⟩ := HBe.out.blk; exact (blk_cell hb 2).trans rfl), ((blk_cell HGBe.out 3).trans rfl), HLKe.out⟩ (fun hHeld => ?_)
    clear hK K
    refine norm_ (a' := ?_) ?_ ?_
    rotate_left
    ·show Act.put _ (some 6) _ = _
     simp only [PN]
     rfl
    refine last_ (i := 8) (N := none) #[Y,Y,Y,Y,Y,Y,Y,Y,Y] rfl rfl (one_of HT_.out (by kernel_rfl)) (by decide) (fun K hK => ?_)
    have c0 : (w3.drew.alloc (.cells #[.int .i64 0, .slice none 0 0] 76)).cell? ⟨w3.heap.size, 0, none⟩ = some (.int .i64 0) := (blk_cell HGQ.out 0).trans rfl
    have c1 : (w3.drew.alloc (.cells #[.int .i64 0, .slice none 0 0] 76)).cell? ⟨w3.heap.size, 1, none⟩ = some (.slice none 0 0) := (blk_cell HGQ.out 1).trans rfl
    have f0 := blk_frozen HGQ.out 0
    have f1 := blk_frozen HGQ.out 1
    refine skip_ (w1 := ?_) (by rfl) rfl ?_ ?_
    rotate_left
    ·go_simp
     rfl
    refine hK.out _ _ ?_
    clear hK K
    refine done_ (done_of HT_.out (by kernel_rfl)) ?_
    have hbb := below_alloc (Below.refl w3.heap.size w3) (.cells #[.int .i64 at_, .slice Av ys.length cv] 76)
    have HB5 := Aside0.mk (HB4.out.below (below_drew hbb))
    have HK5 := Aside0.mk (HK4.out.trans (Kf.below (below_drew hbb)))
    have HGB5 := Aside0.mk (blk_below HGB4.out (below_drew hbb))
    have HGQ5 := Aside0.mk (show (w3.alloc (.cells #[.int .i64 at_, .slice Av ys.length cv] 76)).drew.heap[w3.heap.size]? = _ from blk_new w3 (.cells #[.int .i64 at_, .slice Av ys.length cv] 76))
    have HQ5 := Aside0.mk (And.intro (Kd.R_below HQ.out.1 (below_drew hbb)) HQ.out.2)
    clear hHeld HB4 HK4 HGB4 HBd HKd HGBd HLK HLKF HBe HKe HGBe HGQ HLKe c0 c1 f0 f1 hbb HQ
    go_wp2
    generalize (w3.alloc (.cells #[.int .i64 at_, .slice Av ys.length cv] 76)).drew = w4 at HB5 HK5 HGB5 HGQ5 HQ5 ⊢
    generalize w3.heap.size = gq at HGQ5 ⊢
    have hwd := below_drew (Below.refl w4.heap.size w4)
    have HBw := Aside0.mk (HB5.out.below hwd)
    have HKw := Aside0.mk (HK5.out.trans (Kf.below hwd))
    have HE := Aside0.mk (HS0.out.kf HKw.out (by decide) (fun _ h => h.elim))
    have HGB := Aside0.mk (blk_below HGB5.out hwd)
    have HGQ := Aside0.mk (blk_below HGQ5.out hwd)
    have HQ := Aside0.mk (And.intro (Kd.R_below HQ5.out.1 hwd) HQ5.out.2)
    have HW := Aside0.mk (show N0 ≤ w4.drew.heap.size from Nat.le_trans HL.out.1 HKw.out.size)
    obtain ⟨At, ct, hbw, hrw⟩ := HBw.out.blk
    have HGW := Aside0.mk hbw
    have HRT := Aside0.mk hrw
    have HLN := Aside0.mk (show tr2.length ≤ 20000 from by
     have h1 := HT.out
     have h2 : ∀ l : List (List Value), (l.flatMap tk).length ≤ l.length := fun l => by
      induction l with
      | nil => simp
      | cons r l ih =>
       have h9 : (tk r).length ≤ 1 := by unfold tk; split <;> simp
       rw [List.flatMap_cons, List.length_append, List.length_cons]
       omega
     have h3 := h2 (rows.take i)
     have h4 := HL.out
     rw [List.length_take] at h3
     omega)
    clear hbw hrw hwd HB5 HK5 HGB5 HGQ5 HQ5
    refine start_ (n := 21) (S := fun w' => w'.cell? ⟨gw, 3, none⟩ = some (.slice At tr2.length ct) ∧ w'.cell? ⟨gb, 3, none⟩ = some (.int .i64 id) ∧ w'.cell? ⟨gq, 0, none⟩ = some (.int .i64 at_) ∧ w'.cell? ⟨gq, 1, none⟩ = some (.slice Av ys.length cv) ∧ w'.cell? ⟨gb, 4, none⟩ = some (.int .i64 k) ∧ w'.cell? ⟨gb, 5, none⟩ = some (.slice Ap 0 cp) ∧ w'.cell? ⟨gb, 6, none⟩ = some (.slice none 0 0)) (ds := [17, 20]) #[O,O,O,O,O,O,O,O,O,O,O,O,O,O,O,O,O,O,O,O,O] (by kernel_rfl) rfl rfl ⟨((blk_cell HGW.out 3).trans rfl), ((blk_cell HGB.out 3).trans rfl), ((blk_cell HGQ.out 0).trans rfl), ((blk_cell HGQ.out 1).trans rfl), ((blk_cell HGB.out 4).trans rfl), ((blk_cell HGB.out 5).trans rfl), ((blk_cell HGB.out 6).trans rfl)⟩ (fun hHeld => ?_)
    refine with_tabW NOT5.tab5 NOT5.bits5 (fun HT_ HW_ => ?_)
    refine pure_ (i := 0) (N := some 23) (v := ?_) (a' := ?_) #[Y,O,O,O,O,O,O,O,O,O,O,O,O,O,O,O,O,O,O,O,O] rfl rfl (any_of HT_.out (by kernel_rfl)) (fun _ _ _ h => h) (Or.inl ⟨by rfl, ?_⟩) ?_ ?_
    rotate_left
    ·intro w'
     go_simp
     with_reducible rfl
    rotate_left
    ·simp only [PN]
     rfl
    refine pure_ (i := 1) (N := some 24) (v := ?_) (a' := ?_) #[Y,Y,O,O,O,O,O,O,O,O,O,O,O,O,O,O,O,O,O,O,O] rfl rfl (any_of HT_.out (by kernel_rfl)) (fun _ _ _ h => h) (Or.inl ⟨by rfl, ?_⟩) ?_ ?_
    rotate_left
    ·intro w'
     go_simp
     with_reducible rfl
    rotate_left
    ·simp only [PN]
     rfl
    refine pure_ (i := 2) (N := some 25) (v := ?_) (a' := ?_) #[Y,Y,Y,O,O,O,O,O,O,O,O,O,O,O,O,O,O,O,O,O,O] rfl rfl (any_of HT_.out (by kernel_rfl)) (fun _ _ _ h => h) (Or.inl ⟨by rfl, ?_⟩) ?_ ?_
    rotate_left
    ·intro w'
     go_simp
     with_reducible rfl
    rotate_left
    ·simp only [PN]
     rfl
    refine pure_ (i := 3) (N := some 26) (v := ?_) (a' := ?_) #[Y,Y,Y,Y,O,O,O,O,O,O,O,O,O,O,O,O,O,O,O,O,O] rfl rfl (any_of HT_.out (by kernel_rfl)) (fun _ _ _ h => h) (Or.inl ⟨by rfl, ?_⟩) ?_ ?_
    rotate_left
    ·intro w'
     go_simp
     with_reducible rfl
    rotate_left
    ·simp only [PN]
     rfl
    refine pure_ (i := 5) (N := some 28) (v := ?_) (a' := ?_) #[Y,Y,Y,Y,O,Y,O,O,O,O,O,O,O,O,O,O,O,O,O,O,O] rfl rfl (any_of HT_.out (by kernel_rfl)) (fun _ _ _ h => h) (Or.inl ⟨by rfl, ?_⟩) ?_ ?_
    rotate_left
    ·intro w'
     go_simp
     with_reducible rfl
    rotate_left
    ·simp only [PN]
     rfl
    refine pure_ (i := 7) (N := some 30) (v := ?_) (a' := ?_) #[Y,Y,Y,Y,O,Y,O,Y,O,O,O,O,O,O,O,O,O,O,O,O,O] rfl rfl (any_of HT_.out (by kernel_rfl)) (fun _ _ _ h => h) (Or.inl ⟨by rfl, ?_⟩) ?_ ?_
    rotate_left
    ·intro w'
     go_simp
     with_reducible rfl
    rotate_left
    ·simp only [PN]
     rfl
    refine pure_ (i := 9) (N := some 32) (v := ?_) (a' := ?_) #[Y,Y,Y,Y,O,Y,O,Y,O,Y,O,O,O,O,O,O,O,O,O,O,O] rfl rfl (any_of HT_.out (by kernel_rfl)) (fun _ _ _ h => h) (Or.inl ⟨by rfl, ?_⟩) ?_ ?_
    rotate_left
    ·intro w'
     go_simp
     with_reducible rfl
    rotate_left
    ·simp only [PN]
     rfl
    refine pure_ (i := 11) (N := some 34) (v := ?_) (a' := ?_) #[Y,Y,Y,Y,O,Y,O,Y,O,Y,O,Y,O,O,O,O,O,O,O,O,O] rfl rfl (any_of HT_.out (by kernel_rfl)) (fun _ _ _ h => h) (Or.inl ⟨by rfl, ?_⟩) ?_ ?_
    rotate_left
    ·intro w'
     go_simp
     with_reducible rfl
    rotate_left
    ·simp only [PN]
     rfl
    refine pure_ (i := 13) (N := some 36) (v := ?_) (a' := ?_) #[Y,Y,Y,Y,O,Y,O,Y,O,Y,O,Y,O,Y,O,O,O,O,O,O,O] rfl rfl (any_of HT_.out (by kernel_rfl)) (fun _ _ _ h => h) (Or.inl ⟨by rfl, ?_⟩) ?_ ?_
    rotate_left
    ·intro w'
     go_simp
     with_reducible rfl
    rotate_left
    ·simp only [PN]
     rfl
    refine take_ (i := 4) (N := some 27) (v := ?_) (a' := ?_) #[Y,Y,Y,Y,Y,Y,O,Y,O,Y,O,Y,O,Y,O,O,O,O,O,O,O] rfl rfl (take_ofW HT_.out HW_.out (by kernel_rfl)) (fun _ _ _ h => h) (Or.inl ⟨by rfl, ?_⟩) hHeld ?_ ?_
    rotate_left
    ·rintro w' ⟨s0, s1, s2, s3, s4, s5, s6⟩
     go_simp
     with_reducible rfl
    rotate_left
    ·simp only [PN]
     rfl
    refine take_ (i := 6) (N := some 29) (v := ?_) (a' := ?_) #[Y,Y,Y,Y,Y,Y,Y,Y,O,Y,O,Y,O,Y,O,O,O,O,O,O,O] rfl rfl (take_ofW HT_.out HW_.out (by kernel_rfl)) (fun _ _ _ h => h) (Or.inl ⟨by rfl, ?_⟩) hHeld ?_ ?_
    rotate_left
    ·rintro w' ⟨s0, s1, s2, s3, s4, s5, s6⟩
     go_simp
     with_reducible rfl
    rotate_left
    ·simp only [PN]
     rfl
    refine take_ (i := 8) (N := some 31) (v := ?_) (a' := ?_) #[Y,Y,Y,Y,Y,Y,Y,Y,Y,Y,O,Y,O,Y,O,O,O,O,O,O,O] rfl rfl (take_ofW HT_.out HW_.out (by kernel_rfl)) (fun _ _ _ h => h) (Or.inl ⟨by rfl, ?_⟩) hHeld ?_ ?_
    rotate_left
    ·rintro w' ⟨s0, s1, s2, s3, s4, s5, s6⟩
     go_simp
     with_reducible rfl
    rotate_left
    ·simp only [PN]
     rfl
    refine take_ (i := 12) (N := some 35) (v := ?_) (a' := ?_) #[Y,Y,Y,Y,Y,Y,Y,Y,Y,Y,O,Y,Y,Y,O,O,O,O,O,O,O] rfl rfl (take_ofW HT_.out HW_.out (by kernel_rfl)) (fun _ _ _ h => h) (Or.inl ⟨by rfl, ?_⟩) hHeld ?_ ?_
    rotate_left
    ·rintro w' ⟨s0, s1, s2, s3, s4, s5, s6⟩
     go_simp
     with_reducible rfl
    rotate_left
    ·simp only [PN]
     rfl
    refine take_ (i := 14) (N := some 37) (v := ?_) (a' := ?_) #[Y,Y,Y,Y,Y,Y,Y,Y,Y,Y,O,Y,Y,Y,Y,O,O,O,O,O,O] rfl rfl (take_ofW HT_.out HW_.out (by kernel_rfl)) (fun _ _ _ h => h) (Or.inl ⟨by rfl, ?_⟩) hHeld ?_ ?_
    rotate_left
    ·rintro w' ⟨s0, s1, s2, s3, s4, s5, s6⟩
     go_simp
     with_reducible rfl
    rotate_left
    ·simp only [PN]
     rfl
    refine one_ (i := 10) (N := some 33) #[Y,Y,Y,Y,Y,Y,Y,Y,Y,Y,Y,Y,Y,Y,Y,O,O,O,O,O,O] rfl rfl (one_of HT_.out (by kernel_rfl)) (by decide) (fun K hK => ?_)
    refine goes_ Tryz.func10 (by kernel_rfl) rfl #[.pointer (some ⟨gw, 0, none⟩)] (by rfl) rfl rfl (by (try simp only [List.map_toArray, List.map_cons, List.map_nil]); first | done | rfl) ?_
    refine (world.Now.calls HE.out ((blk_cell HGW.out 0).trans rfl)).mono ?_
    rintro e w5 ⟨rfl, rfl⟩
    refine ⟨_, rfl, ?_⟩
    refine hK.out _ _ ⟨((blk_cell HGW.out 3).trans rfl), ((blk_cell HGB.out 3).trans rfl), ((blk_cell HGQ.out 0).trans rfl), ((blk_cell HGQ.out 1).trans rfl), ((blk_cell HGB.out 4).trans rfl), ((blk_cell HGB.out 5).trans rfl), ((blk_cell HGB.out 6).trans rfl)⟩ (fun hHeld => ?_)
    clear hK K
    refine norm_ (a' := ?_) ?_ ?_
    rotate_left
    ·show Act.put _ (some 33) _ = _
     simp only [PN]
     rfl
    refine pure_ (i := 15) (N := some 38) (v := ?_) (a' := ?_) #[Y,Y,Y,Y,Y,Y,Y,Y,Y,Y,Y,Y,Y,Y,Y,Y,O,O,O,O,O] rfl rfl (any_of HT_.out (by kernel_rfl)) (fun _ _ _ h => h) (Or.inl ⟨by rfl, ?_⟩) ?_ ?_
    rotate_left
    ·intro w'
     go_simp
     with_reducible rfl
    rotate_left
    ·simp only [PN]
     rfl
    refine one_ (i := 16) (N := some 39) #[Y,Y,Y,Y,Y,Y,Y,Y,Y,Y,Y,Y,Y,Y,Y,Y,Y,O,O,O,O] rfl rfl (one_of HT_.out (by kernel_rfl)) (by decide) (fun K hK => ?_)
    have hba_ := below_alloc (Below.refl w4.drew.heap.size w4.drew) (.cells #[.int .i64 id, .int .i64 at_, .int .i64 (now : Int), .slice Av ys.length cv, .int .i64 k, .slice Ap 0 cp, .slice none 0 0] 51)
    have HGW6 := Aside0.mk (blk_below HGW.out hba_)
    have HGB6 := Aside0.mk (blk_below HGB.out hba_)
    have HGQ6 := Aside0.mk (blk_below HGQ.out hba_)
    clear hba_
    refine value_ (w1 := ?_) (v := ?_) (by rfl) rfl ?_ ?_
    rotate_left 2
    ·go_simp
     constructor
     ·rfl
     ·rfl
    refine hK.out _ _ ⟨((blk_cell HGW6.out 3).trans rfl), ((blk_cell HGB6.out 3).trans rfl), ((blk_cell HGQ6.out 0).trans rfl), ((blk_cell HGQ6.out 1).trans rfl), ((blk_cell HGB6.out 4).trans rfl), ((blk_cell HGB6.out 5).trans rfl), ((blk_cell HGB6.out 6).trans rfl)⟩ (fun hHeld => ?_)
    clear hK K
    refine norm_ (a' := ?_) ?_ ?_
    rotate_left
    ·show Act.put _ (some 39) _ = _
     simp only [PN]
     rfl
    refine last_ (i := 17) (N := some 40) #[Y,Y,Y,Y,Y,Y,Y,Y,Y,Y,Y,Y,Y,Y,Y,Y,Y,Y,O,O,O] rfl rfl (one_of HT_.out (by kernel_rfl)) (by decide) (fun K hK => ?_)
    refine Kd.R_append_step (Kd.raw 7) (w0 := w4.drew) (N0) (by rfl) (.tmp 27) (.tmp 39) 44 51 (.agg #[.int .i64 0, .int .i64 0, .int .i64 0, .slice none 0 0, .int .i64 0, .slice none 0 0, .slice none 0 0]) 104 rfl Tryz.underlying44 infoTold rfl (by decide) (by omega) (.slice At tr2.length ct) (tr2) ([.int .i64 id, .int .i64 at_, .int .i64 (now : Int), .slice Av ys.length cv, .int .i64 k, .slice Ap 0 cp, .slice none 0 0]) [.int .i64 id, .int .i64 at_, .int .i64 (now : Int), .slice Av ys.length cv, .int .i64 k, .slice Ap 0 cp, .slice none 0 0] (fun _ => True) (fun _ => False) rfl rfl ⟨rfl, rfl, by intro u hu; simp only [List.mem_cons, List.not_mem_nil, or_false] at hu; rcases hu with rfl | rfl | rfl | rfl | rfl | rfl | rfl <;> rfl⟩ (fun _ hk => hk.elim) (fun _ _ => trivial) HRT.out (Below.refl N0 w4.drew) HW.out (by have := HLN.out; omega) ?_
    intro v9 w9 hr9 hb9 hg9 hat9
    obtain ⟨A9, c9, rfl⟩ := Kd.R_slice hr9
    have HR9 := Aside0.mk hr9
    have HG9 := Aside0.mk hg9
    have HGW9 := Aside0.mk (blk_grown HGW.out hg9 (Kd.R_ne HRT.out HGW.out (by decide)))
    have f9 := blk_frozen HGW9.out 3
    have k9 : w9.cell? ⟨gw, 3, none⟩ = some (.slice At tr2.length ct) := (blk_cell HGW9.out 3).trans rfl
    clear hr9 hb9 hg9 hat9
    refine hK.out _ _ ?_
    clear hK K
    refine norm_ (a' := ?_) ?_ ?_
    rotate_left
    ·show Act.put _ (some 40) _ = _
     simp only [PN]
     rfl
    refine pure_ (i := 18) (N := some 41) (v := ?_) (a' := ?_) #[Y,Y,Y,Y,Y,Y,Y,Y,Y,Y,Y,Y,Y,Y,Y,Y,Y,Y,Y,O,O] rfl rfl (any_of HT_.out (by kernel_rfl)) (fun _ _ _ h => h) (Or.inl ⟨by rfl, ?_⟩) ?_ ?_
    rotate_left
    ·intro w'
     go_simp
     with_reducible rfl
    rotate_left
    ·simp only [PN]
     rfl
    refine pure_ (i := 19) (N := some 42) (v := ?_) (a' := ?_) #[Y,Y,Y,Y,Y,Y,Y,Y,Y,Y,Y,Y,Y,Y,Y,Y,Y,Y,Y,Y,O] rfl rfl (any_of HT_.out (by kernel_rfl)) (fun _ _ _ h => h) (Or.inl ⟨by rfl, ?_⟩) ?_ ?_
    rotate_left
    ·intro w'
     go_simp
     with_reducible rfl
    rotate_left
    ·simp only [PN]
     rfl
    refine last_ (i := 20) (N := none) #[Y,Y,Y,Y,Y,Y,Y,Y,Y,Y,Y,Y,Y,Y,Y,Y,Y,Y,Y,Y,Y] rfl rfl (one_of HT_.out (by kernel_rfl)) (by decide) (fun K hK => ?_)
    refine skip_ (w1 := ?_) (by rfl) rfl ?_ ?_
    rotate_left
    ·go_simp
     rfl
    refine hK.out _ _ ?_
    clear hK K
    refine done_ (done_of HT_.out (by kernel_rfl)) ?_
    clear hHeld f9 k9
    have hrl : (tr2 ++ [([.int .i64 id, .int .i64 at_, .int .i64 (now : Int), .slice Av ys.length cv, .int .i64 k, .slice Ap 0 cp, .slice none 0 0] : List Value)]).length = tr2.length + 1 := by simp
    rw [hrl] at HR9
    have HTL := Aside0.mk (HBw.out.tell HGW.out HRT.out HG9.out HR9.out ⟨id, at_, now, k, Av, cv, Ap, cp, ys, rfl, by have := HKK.out.2.2.1; omega, HKK.out.1, HKK.out.2.1, HQ.out.1, HQ.out.2⟩)
    have HTN := Aside0.mk (show (tr2 ++ [([.int .i64 id, .int .i64 at_, .int .i64 (now : Int), .slice Av ys.length cv, .int .i64 k, .slice Ap 0 cp, .slice none 0 0] : List Value)]).length = tr.length + ((rows.take (i + 1)).flatMap tk).length from by rw [hrl]; exact HKK.out.2.2.2)
    have HKN := Aside0.mk (HKw.out.trans (HTL.out.2.mono (fun t ht => by simp at ht; simp; omega) (fun _ h => h)))
    have HBN := Aside0.mk HTL.out.1
    clear hrl HTL
    have a9 := HA9.out
    have hlt := HI.out
    go_wp2
    go_roundw
    case rel => exact ⟨i + 1, _, by go_num, hlt, HTN, HBN, HKN⟩
    case measure => first | (rw [a9]; exact meas _ _ hlt) | exact meas _ _ hlt
   ·obtain ⟨ad, rfl, x0, x1, x2, x3, x4, x5, x6⟩ := at_Act7 (Kd.R_reads' hrw).2.2 i hlt er
    rw [er] at htk
    have HTN := Aside0.mk (show tr2.length = tr.length + ((rows.take (i + 1)).flatMap tk).length from by rw [htk, HT.out, List.length_append]; rfl)
    have hba := below_alloc (Below.refl wr.heap.size wr) (.cells #[.int .i64 1, .int .i64 t, .string x, .int .i64 0, .int .i64 0, .slice none 0 0, .slice none 0 0] 131)
    have HB2 := Aside0.mk (HB.out.below hba)
    have HK2 := Aside0.mk (HK.out.trans (Kf.below hba))
    have hgb := blk_new wr (.cells #[.int .i64 1, .int .i64 t, .string x, .int .i64 0, .int .i64 0, .slice none 0 0, .slice none 0 0] 131)
    have k0 : (wr.alloc (.cells #[.int .i64 1, .int .i64 t, .string x, .int .i64 0, .int .i64 0, .slice none 0 0, .slice none 0 0] 131)).cell? ⟨wr.heap.size, 0, none⟩ = some (.int .i64 1) := (blk_cell hgb 0).trans rfl
    clear hba hrw er hgb HB HK hll htk HT
    have a9 := HA9.out
    have hlt := HI.out
    go_wp2
    go_roundw
    case rel => exact ⟨i + 1, tr2, by go_num, hlt, HTN, HB2, HK2⟩
    case measure => first | (rw [a9]; exact meas _ _ hlt) | exact meas _ _ hlt
  ·have q0 : decide ((i : Int) < (rows.length : Int)) = false := decide_eq_false (by omega)
   have hie : i = rows.length := by omega
   subst hie
   have hT := HT.out
   rw [List.take_length] at hT
   have HTE := Aside0.mk hT
   have k1 : wr.cell? ⟨gw, 1, none⟩ = some (.pointer (some ⟨gr, 0, none⟩)) := by obtain ⟨At, ct, hb, _⟩ := HB.out.blk; exact (blk_cell hb 1).trans rfl
   clear hT
   go_wp2_with fail
   refine (stand.Take.calls HB.out.st (R_kf HR0.out HK.out (by decide)) HOK.out (Nat.le_trans HL.out.1 HK.out.size) (by have := HL.out; omega) (by have := HL.out; omega)).mono ?_
   rintro e w5 ⟨⟨n, rfl⟩, hs5, hk5⟩
   have HB5 := Aside0.mk ((HB.out.stand hs5 hk5).mono (Nat.le_refl _) (show m + rows.length ≤ m + 20 by have := HL.out; omega) (Nat.le_refl _))
   have HK5 := Aside0.mk (HK.out.trans (hk5.mono (fun t ht => by simp at ht; simp; omega) (fun _ h => h)))
   clear hs5 hk5 HB HK k1
   go_wp2
   go_end0
   exact ⟨rfl, ⟨tr2, HTE.out, HB5.out⟩, HK5.out⟩
end
def DT : List Nat := ST ++ [66, 51, 112, 208]
theorem evts1 (W : World) : (Instr.index 71 evts (.int .i64 1)).run Tryz.prog W = .ok (.func (.func 41) #[] #[]) W := by kernel_rfl
theorem evts2 (W : World) : (Instr.index 71 evts (.int .i64 2)).run Tryz.prog W = .ok (.func (.func 42) #[] #[]) W := by kernel_rfl
structure WS (w0 : World) (N0 : Nat) (w : World) (gw gs gx gt gf mx gr gm : Nat) (P : PL) (xs : List Nd) (now gv E : Nat) (f : Nat → Int × Int) (su : Nat → Value) (tr : List (List Value)) : Prop where
 se : SE w0 N0 w gs gx gt gf mx (fun k => k = gm) (fun j => busy f (P.t : Int) j = true) P xs now gv f su (.slice none 0 0) [] (120 * (gv + now))
 wb : WB w0 N0 w gw gs gr gm xs E (20 * (gv + now)) gv tr
 inv : INV xs P.t now gv E f tr.length
 hN : N0 ≤ w.heap.size
 hW : Below w0.heap.size w0 w
 hNW : w0.heap.size ≤ N0
section
variable {w0 : World} {N0 : Nat} {w w' : World} {gw gs gx gt gf mx gr gm : Nat} {P : PL} {xs : List Nd} {now gv : Nat} {f : Nat → Int × Int} {su : Nat → Value} {tr : List (List Value)} {E : Nat}
def WDO3.T3 : Bool × List (List Nat × List Nat) := (true, [([], []), ([], []), ([1], [1]), ([0, 2], [0, 2]), ([], []), ([], []), ([3, 4, 5, 0], [3, 4, 5]), ([6], [6]), ([7], [7]), ([7], [7]), ([], []), ([10, 8, 6, 0, 1, 2, 3, 4, 5, 6, 7, 8, 10], [8, 10]), ([9, 11, 0, 1, 2, 3, 4, 5, 6, 7, 8, 9, 10, 11], [9])])
def WDO3.B3 : List Nat := [0, 0, 2, 7, 0, 0, 63, 127, 255, 255, 0, 1535, 4095]
theorem WDO3.tab3 : rtab .any (opsOf Tryz.f9 3) = WDO3.T3 := by kernel_rfl
theorem WDO3.bits3 : waitsOk WDO3.T3.2 WDO3.B3 = true := by kernel_rfl
def WDO7.T7 : Bool × List (List Nat × List Nat) := (true, [([], []), ([0], [0]), ([1], [1]), ([2], [2]), ([], []), ([4], [4]), ([5], [5]), ([6], [6]), ([7], [7]), ([8], [8]), ([], []), ([10, 8], [10]), ([], []), ([12], [12]), ([13, 11], [13]), ([11, 14], [11, 14]), ([3, 9, 15, 14, 0, 1, 2, 3, 4, 5, 6, 7, 8, 9, 10, 11, 12, 13, 14, 15], [3, 9, 15])])
def WDO7.B7 : List Nat := [0, 1, 3, 7, 0, 16, 48, 112, 240, 496, 0, 1520, 0, 4096, 15856, 32240, 65535]
theorem WDO7.tab7 : rtab .any (opsOf Tryz.f9 7) = WDO7.T7 := by kernel_rfl
theorem WDO7.bits7 : waitsOk WDO7.T7.2 WDO7.B7 = true := by kernel_rfl
def WDO8.T8 : Bool × List (List Nat × List Nat) := (true, [([], []), ([0], [0]), ([1], [1]), ([2], [2]), ([], []), ([3, 4], [3, 4]), ([5], [5]), ([6], [6]), ([6], [6]), ([7, 5, 0, 1, 2, 3, 4, 5, 6, 7], [7]), ([8, 9, 0, 1, 2, 3, 4, 5, 6, 7, 8, 9], [8])])
def WDO8.B8 : List Nat := [0, 1, 3, 7, 0, 31, 63, 127, 127, 255, 1023]
theorem WDO8.tab8 : rtab .any (opsOf Tryz.f9 8) = WDO8.T8 := by kernel_rfl
theorem WDO8.bits8 : waitsOk WDO8.T8.2 WDO8.B8 = true := by kernel_rfl
set_option maxRecDepth 100000 in
set_option maxHeartbeats 1000000 in
theorem world.Do.ask (h : WS w0 N0 w gw gs gx gt gf mx gr gm P xs now gv E f su tr) {A : Option Addr} {c ticks E' : Nat} (hx : kNd.C w0 A xs.length xs) (hl6 : xs.length ≤ 6) (hk : NdOk 0 8 xs) (hgv : gv ≤ 100) (hnow : now ≤ 300) (hE : now + ticks ≤ E') (hEE : E ≤ E') (htk : xs ≠ [] → 1 ≤ ticks) (hbd : E' ≤ 1000) : Calls Tryz.prog 9 #[.pointer (some ⟨gw, 0, none⟩), .agg #[.int .i64 1, .int .i64 0, .int .i64 0, .int .i64 (ticks : Int), .int .u8 0, .slice A xs.length c]] w fun e w' => e = .returned (.int .i64 0) ∧ (∃ f' su' tr', WS w0 N0 w' gw gs gx gt gf mx gr gm P xs now (gv + 1) E' f' su' tr') ∧ Kf N0 DT (fun _ => True) w w' := by
 have H := Aside0.mk h
 have HX := Aside0.mk (And.intro hx (And.intro hl6 hk))
 have HL := Aside0.mk (And.intro hgv (And.intro hnow (And.intro hE (And.intro hEE (And.intro htk hbd)))))
 have hba := below_alloc (Below.refl w.heap.size w) (.cells #[.int .i64 1, .int .i64 0, .int .i64 0, .int .i64 (ticks : Int), .int .u8 0, .slice A xs.length c] 40)
 have HB1 := Aside0.mk hba
 have HG1 := Aside0.mk (blk_new w (.cells #[.int .i64 1, .int .i64 0, .int .i64 0, .int .i64 (ticks : Int), .int .u8 0, .slice A xs.length c] 40))
 have k0 := (blk_cell HG1.out 0).trans rfl
 clear h hx hl6 hk hgv hnow hE hEE htk hbd hba
 go_enter Tryz.func9, Tryz.ntmps9
 go_wp2
 clear k0
 generalize w.alloc (.cells #[.int .i64 1, .int .i64 0, .int .i64 0, .int .i64 (ticks : Int), .int .u8 0, .slice A xs.length c] 40) = w1 at HB1 HG1 ⊢
 generalize hgb : w.heap.size = gb at HG1 ⊢
 have HGB := Aside0.mk hgb
 have HG := Aside0.mk (show w1.drew.heap[gb]? = _ from HG1.out)
 have HBB := Aside0.mk (Below.refl w1.drew.heap.size w1.drew)
 have HBL := Aside0.mk (Nat.le_refl w1.drew.heap.size)
 have hix := evts1
 clear hgb
 refine start_ (n := 13) (S := fun w' => w'.cell? ⟨gb, 0, none⟩ = some (.int .i64 1) ∧ w'.cell? ⟨gb, 1, none⟩ = some (.int .i64 0) ∧ w'.cell? ⟨gb, 2, none⟩ = some (.int .i64 0) ∧ w'.cell? ⟨gb, 3, none⟩ = some (.int .i64 (ticks : Int)) ∧ w'.cell? ⟨gb, 4, none⟩ = some (.int .u8 0) ∧ w'.cell? ⟨gb, 5, none⟩ = some (.slice A xs.length c)) (ds := [11]) #[O,O,O,O,O,O,O,O,O,O,O,O,O] (by kernel_rfl) rfl rfl ⟨((blk_cell HG.out 0).trans rfl), ((blk_cell HG.out 1).trans rfl), ((blk_cell HG.out 2).trans rfl), ((blk_cell HG.out 3).trans rfl), ((blk_cell HG.out 4).trans rfl), ((blk_cell HG.out 5).trans rfl)⟩ (fun hHeld => ?_)
 refine with_tabW WDO3.tab3 WDO3.bits3 (fun HT_ HW_ => ?_)
 refine pure_ (i := 1) (N := some 23) (v := ?_) (a' := ?_) #[O,Y,O,O,O,O,O,O,O,O,O,O,O] rfl rfl (any_of HT_.out (by kernel_rfl)) (fun _ _ _ h => h) (Or.inl ⟨by rfl, ?_⟩) ?_ ?_
 rotate_left
 ·intro w'
  go_simp
  with_reducible rfl
 rotate_left
 ·simp only [PN]
  rfl
 refine pure_ (i := 4) (N := some 26) (v := ?_) (a' := ?_) #[O,Y,O,O,Y,O,O,O,O,O,O,O,O] rfl rfl (any_of HT_.out (by kernel_rfl)) (fun _ _ _ h => h) (Or.inl ⟨by rfl, ?_⟩) ?_ ?_
 rotate_left
 ·intro w'
  go_simp
  with_reducible rfl
 rotate_left
 ·simp only [PN]
  rfl
 refine take_ (i := 2) (N := some 24) (v := ?_) (a' := ?_) #[O,Y,Y,O,Y,O,O,O,O,O,O,O,O] rfl rfl (take_ofW HT_.out HW_.out (by kernel_rfl)) (fun _ _ _ h => h) (Or.inl ⟨by rfl, ?_⟩) hHeld ?_ ?_
 rotate_left
 ·rintro w' ⟨s0, s1, s2, s3, s4, s5⟩
  go_simp
  with_reducible rfl
 rotate_left
 ·simp only [PN]
  rfl
 refine take_ (i := 5) (N := some 27) (v := ?_) (a' := ?_) #[O,Y,Y,O,Y,Y,O,O,O,O,O,O,O] rfl rfl (take_ofW HT_.out HW_.out (by kernel_rfl)) (fun _ _ _ h => h) (Or.inl ⟨by rfl, ?_⟩) hHeld ?_ ?_
 rotate_left
 ·rintro w' ⟨s0, s1, s2, s3, s4, s5⟩
  go_simp
  with_reducible rfl
 rotate_left
 ·simp only [PN]
  rfl
 refine join_ (σ := Nat) 2 #[Y,Y,Y,Y,Y,Y,Y,Y,Y,Y,Y,O,O] (fun s => [(22, evts), (25, .func (.func 41) #[] #[]), (28, .tuple #[.agg #[.int .i64 1, .slice A xs.length c, .int .i64 (ticks : Int), .int .i64 0, .slice none 0 0], .bool true]), (21, .tuple #[.agg #[.int .i64 1, .slice A xs.length c, .int .i64 (ticks : Int), .int .i64 0, .slice none 0 0], .bool true]), (29, .agg #[.int .i64 1, .slice A xs.length c, .int .i64 (ticks : Int), .int .i64 0, .slice none 0 0]), (30, .bool true), (5, .pointer (some ⟨s, 0, none⟩))]) (fun s w' => w'.cell? ⟨gb, 0, none⟩ = some (.int .i64 1) ∧ w'.cell? ⟨gb, 1, none⟩ = some (.int .i64 0) ∧ w'.cell? ⟨gb, 2, none⟩ = some (.int .i64 0) ∧ w'.cell? ⟨gb, 3, none⟩ = some (.int .i64 (ticks : Int)) ∧ w'.cell? ⟨gb, 4, none⟩ = some (.int .u8 0) ∧ w'.cell? ⟨gb, 5, none⟩ = some (.slice A xs.length c) ∧ w'.heap[gb]? = some (.cells #[.int .i64 1, .int .i64 0, .int .i64 0, .int .i64 (ticks : Int), .int .u8 0, .slice A xs.length c] 40 (0, 0)) ∧ w'.heap[s]? = some (.cells #[.int .i64 0, .slice none 0 0, .int .i64 0, .int .i64 0, .slice none 0 0] 68 (0, 0)) ∧ w1.drew.heap.size ≤ s ∧ Below w1.drew.heap.size w1.drew w') ?_ ?_
 rotate_left
 ·intro hCont
  refine two_ (i := 0) (j := 10) (Ni := some 22) (Nj := some 5) #[Y,Y,Y,O,Y,Y,O,O,O,O,O,O,O] #[O,Y,Y,O,Y,Y,O,O,O,O,Y,O,O] rfl rfl rfl rfl (two_of HT_.out (by kernel_rfl)) (by decide) (by decide) (fun K hK => ?_) (fun K hK => ?_)
  ·skip
   refine goes_ Tryz.func19 (by kernel_rfl) rfl #[] (by rfl) rfl rfl (by (try simp only [List.map_toArray, List.map_cons, List.map_nil]); first | done | rfl) ?_
   refine (world.events.calls w1.drew).mono ?_
   rintro e w4 ⟨rfl, hb4⟩
   refine ⟨_, rfl, ?_⟩
   replace HG := Aside0.mk (blk_below HG.out hb4)
   replace HBB := Aside0.mk (below_step HBB.out hb4)
   have HBL := Aside0.mk HBB.out.size
   clear hb4
   refine hK.out _ _ ⟨((blk_cell HG.out 0).trans rfl), ((blk_cell HG.out 1).trans rfl), ((blk_cell HG.out 2).trans rfl), ((blk_cell HG.out 3).trans rfl), ((blk_cell HG.out 4).trans rfl), ((blk_cell HG.out 5).trans rfl)⟩ (fun hHeld => ?_)
   clear hK K
   refine norm_ (a' := ?_) ?_ ?_
   rotate_left
   ·show Act.put _ (some 22) _ = _
    simp only [PN]
    rfl
   refine take_ (i := 3) (N := some 25) (v := ?_) (a' := ?_) #[Y,Y,Y,Y,Y,Y,O,O,O,O,O,O,O] rfl rfl (take_ofW HT_.out HW_.out (by kernel_rfl)) (fun _ _ _ h => h) (Or.inl ⟨by rfl, ?_⟩) hHeld ?_ ?_
   rotate_left
   ·rintro w' ⟨s0, s1, s2, s3, s4, s5⟩
    go_simp
    with_reducible rfl
   rotate_left
   ·simp only [PN]
    rfl
   refine two_ (i := 6) (j := 10) (Ni := some 28) (Nj := some 5) #[Y,Y,Y,Y,Y,Y,Y,O,O,O,O,O,O] #[Y,Y,Y,Y,Y,Y,O,O,O,O,Y,O,O] rfl rfl rfl rfl (two_of HT_.out (by kernel_rfl)) (by decide) (by decide) (fun K hK => ?_) (fun K hK => ?_)
   ·skip
    refine goesF_ Tryz.func41 (by kernel_rfl) rfl #[.pointer (some ⟨gw, 0, none⟩), .agg #[.int .i64 1, .int .i64 0, .int .i64 0, .int .i64 (ticks : Int), .int .u8 0, .slice A xs.length c]] (by rfl) (by rfl) rfl rfl (by (try simp only [List.map_toArray, List.map_cons, List.map_nil]); first | done | rfl) ?_
    refine (world.ask.calls gw A xs.length c ticks w4).mono ?_
    rintro e w5 ⟨rfl, hb5⟩
    refine ⟨_, rfl, ?_⟩
    replace HG := Aside0.mk (blk_below HG.out hb5)
    replace HBB := Aside0.mk (below_step HBB.out hb5)
    have HBL := Aside0.mk HBB.out.size
    clear hb5
    refine hK.out _ _ ⟨((blk_cell HG.out 0).trans rfl), ((blk_cell HG.out 1).trans rfl), ((blk_cell HG.out 2).trans rfl), ((blk_cell HG.out 3).trans rfl), ((blk_cell HG.out 4).trans rfl), ((blk_cell HG.out 5).trans rfl)⟩ (fun hHeld => ?_)
    clear hK K
    refine norm_ (a' := ?_) ?_ ?_
    rotate_left
    ·show Act.put _ (some 28) _ = _
     simp only [PN]
     rfl
    refine pure_ (i := 7) (N := some 21) (v := ?_) (a' := ?_) #[Y,Y,Y,Y,Y,Y,Y,Y,O,O,O,O,O] rfl rfl (any_of HT_.out (by kernel_rfl)) (fun _ _ _ h => h) (Or.inl ⟨by rfl, ?_⟩) ?_ ?_
    rotate_left
    ·intro w'
     go_simp
     with_reducible rfl
    rotate_left
    ·simp only [PN]
     rfl
    refine pure_ (i := 8) (N := some 29) (v := ?_) (a' := ?_) #[Y,Y,Y,Y,Y,Y,Y,Y,Y,O,O,O,O] rfl rfl (any_of HT_.out (by kernel_rfl)) (fun _ _ _ h => h) (Or.inl ⟨by rfl, ?_⟩) ?_ ?_
    rotate_left
    ·intro w'
     go_simp
     with_reducible rfl
    rotate_left
    ·simp only [PN]
     rfl
    refine pure_ (i := 9) (N := some 30) (v := ?_) (a' := ?_) #[Y,Y,Y,Y,Y,Y,Y,Y,Y,Y,O,O,O] rfl rfl (any_of HT_.out (by kernel_rfl)) (fun _ _ _ h => h) (Or.inl ⟨by rfl, ?_⟩) ?_ ?_
    rotate_left
    ·intro w'
     go_simp
     with_reducible rfl
    rotate_left
    ·simp only [PN]
     rfl
    refine one_ (i := 10) (N := some 5) #[Y,Y,Y,Y,Y,Y,Y,Y,Y,Y,Y,O,O] rfl rfl (one_of HT_.out (by kernel_rfl)) (by decide) (fun K hK => ?_)
    have hba_ := below_alloc (Below.refl w5.heap.size w5) (.cells #[.int .i64 0, .slice none 0 0, .int .i64 0, .int .i64 0, .slice none 0 0] 68)
    replace HG := Aside0.mk (blk_below HG.out hba_)
    replace HBB := Aside0.mk (below_step HBB.out hba_)
    have HP5 := Aside0.mk (blk_new w5 (.cells #[.int .i64 0, .slice none 0 0, .int .i64 0, .int .i64 0, .slice none 0 0] 68))
    have HPL := Aside0.mk (show w1.drew.heap.size ≤ w5.heap.size from by have := HBL.out; exact this)
    clear hba_
    refine value_ (w1 := ?_) (v := ?_) (by rfl) rfl ?_ ?_
    rotate_left 2
    ·go_simp
     constructor
     ·rfl
     ·rfl
    refine hK.out _ _ ⟨((blk_cell HG.out 0).trans rfl), ((blk_cell HG.out 1).trans rfl), ((blk_cell HG.out 2).trans rfl), ((blk_cell HG.out 3).trans rfl), ((blk_cell HG.out 4).trans rfl), ((blk_cell HG.out 5).trans rfl)⟩ (fun hHeld => ?_)
    clear hK K
    refine norm_ (a' := ?_) ?_ ?_
    rotate_left
    ·show Act.put _ (some 5) _ = _
     simp only [PN]
     rfl
    exact norm_ (by simp only [putAll, PN]) (hCont w5.heap.size _ ⟨((blk_cell HG.out 0).trans rfl), ((blk_cell HG.out 1).trans rfl), ((blk_cell HG.out 2).trans rfl), ((blk_cell HG.out 3).trans rfl), ((blk_cell HG.out 4).trans rfl), ((blk_cell HG.out 5).trans rfl), HG.out, HP5.out, HPL.out, HBB.out⟩)
   ·skip
    have hba_ := below_alloc (Below.refl w4.heap.size w4) (.cells #[.int .i64 0, .slice none 0 0, .int .i64 0, .int .i64 0, .slice none 0 0] 68)
    replace HG := Aside0.mk (blk_below HG.out hba_)
    replace HBB := Aside0.mk (below_step HBB.out hba_)
    have HP5 := Aside0.mk (blk_new w4 (.cells #[.int .i64 0, .slice none 0 0, .int .i64 0, .int .i64 0, .slice none 0 0] 68))
    have HPL := Aside0.mk (show w1.drew.heap.size ≤ w4.heap.size from by have := HBL.out; exact this)
    clear hba_
    refine value_ (w1 := ?_) (v := ?_) (by rfl) rfl ?_ ?_
    rotate_left 2
    ·go_simp
     constructor
     ·rfl
     ·rfl
    refine hK.out _ _ ⟨((blk_cell HG.out 0).trans rfl), ((blk_cell HG.out 1).trans rfl), ((blk_cell HG.out 2).trans rfl), ((blk_cell HG.out 3).trans rfl), ((blk_cell HG.out 4).trans rfl), ((blk_cell HG.out 5).trans rfl)⟩ (fun hHeld => ?_)
    clear hK K
    refine norm_ (a' := ?_) ?_ ?_
    rotate_left
    ·show Act.put _ (some 5) _ = _
     simp only [PN]
     rfl
    refine one_ (i := 6) (N := some 28) #[Y,Y,Y,Y,Y,Y,Y,O,O,O,Y,O,O] rfl rfl (one_of HT_.out (by kernel_rfl)) (by decide) (fun K hK => ?_)
    refine goesF_ Tryz.func41 (by kernel_rfl) rfl #[.pointer (some ⟨gw, 0, none⟩), .agg #[.int .i64 1, .int .i64 0, .int .i64 0, .int .i64 (ticks : Int), .int .u8 0, .slice A xs.length c]] (by rfl) (by rfl) rfl rfl (by (try simp only [List.map_toArray, List.map_cons, List.map_nil]); first | done | rfl) ?_
    refine (world.ask.calls gw A xs.length c ticks (w4.alloc (.cells #[.int .i64 0, .slice none 0 0, .int .i64 0, .int .i64 0, .slice none 0 0] 68))).mono ?_
    rintro e w5 ⟨rfl, hb5⟩
    refine ⟨_, rfl, ?_⟩
    replace HG := Aside0.mk (blk_below HG.out hb5)
    replace HBB := Aside0.mk (below_step HBB.out hb5)
    replace HP5 := Aside0.mk (blk_below HP5.out hb5)
    have HBL := Aside0.mk HBB.out.size
    clear hb5
    refine hK.out _ _ ⟨((blk_cell HG.out 0).trans rfl), ((blk_cell HG.out 1).trans rfl), ((blk_cell HG.out 2).trans rfl), ((blk_cell HG.out 3).trans rfl), ((blk_cell HG.out 4).trans rfl), ((blk_cell HG.out 5).trans rfl)⟩ (fun hHeld => ?_)
    clear hK K
    refine norm_ (a' := ?_) ?_ ?_
    rotate_left
    ·show Act.put _ (some 28) _ = _
     simp only [PN]
     rfl
    refine pure_ (i := 7) (N := some 21) (v := ?_) (a' := ?_) #[Y,Y,Y,Y,Y,Y,Y,Y,O,O,Y,O,O] rfl rfl (any_of HT_.out (by kernel_rfl)) (fun _ _ _ h => h) (Or.inl ⟨by rfl, ?_⟩) ?_ ?_
    rotate_left
    ·intro w'
     go_simp
     with_reducible rfl
    rotate_left
    ·simp only [PN]
     rfl
    refine pure_ (i := 8) (N := some 29) (v := ?_) (a' := ?_) #[Y,Y,Y,Y,Y,Y,Y,Y,Y,O,Y,O,O] rfl rfl (any_of HT_.out (by kernel_rfl)) (fun _ _ _ h => h) (Or.inl ⟨by rfl, ?_⟩) ?_ ?_
    rotate_left
    ·intro w'
     go_simp
     with_reducible rfl
    rotate_left
    ·simp only [PN]
     rfl
    refine pure_ (i := 9) (N := some 30) (v := ?_) (a' := ?_) #[Y,Y,Y,Y,Y,Y,Y,Y,Y,Y,Y,O,O] rfl rfl (any_of HT_.out (by kernel_rfl)) (fun _ _ _ h => h) (Or.inl ⟨by rfl, ?_⟩) ?_ ?_
    rotate_left
    ·intro w'
     go_simp
     with_reducible rfl
    rotate_left
    ·simp only [PN]
     rfl
    exact norm_ (by simp only [putAll, PN]) (hCont w4.heap.size _ ⟨((blk_cell HG.out 0).trans rfl), ((blk_cell HG.out 1).trans rfl), ((blk_cell HG.out 2).trans rfl), ((blk_cell HG.out 3).trans rfl), ((blk_cell HG.out 4).trans rfl), ((blk_cell HG.out 5).trans rfl), HG.out, HP5.out, HPL.out, HBB.out⟩)
  ·skip
   have hba_ := below_alloc (Below.refl w1.drew.heap.size w1.drew) (.cells #[.int .i64 0, .slice none 0 0, .int .i64 0, .int .i64 0, .slice none 0 0] 68)
   replace HG := Aside0.mk (blk_below HG.out hba_)
   replace HBB := Aside0.mk (below_step HBB.out hba_)
   have HP5 := Aside0.mk (blk_new w1.drew (.cells #[.int .i64 0, .slice none 0 0, .int .i64 0, .int .i64 0, .slice none 0 0] 68))
   have HPL := Aside0.mk (show w1.drew.heap.size ≤ w1.drew.heap.size from by have := HBL.out; exact this)
   clear hba_
   refine value_ (w1 := ?_) (v := ?_) (by rfl) rfl ?_ ?_
   rotate_left 2
   ·go_simp
    constructor
    ·rfl
    ·rfl
   refine hK.out _ _ ⟨((blk_cell HG.out 0).trans rfl), ((blk_cell HG.out 1).trans rfl), ((blk_cell HG.out 2).trans rfl), ((blk_cell HG.out 3).trans rfl), ((blk_cell HG.out 4).trans rfl), ((blk_cell HG.out 5).trans rfl)⟩ (fun hHeld => ?_)
   clear hK K
   refine norm_ (a' := ?_) ?_ ?_
   rotate_left
   ·show Act.put _ (some 5) _ = _
    simp only [PN]
    rfl
   refine one_ (i := 0) (N := some 22) #[Y,Y,Y,O,Y,Y,O,O,O,O,Y,O,O] rfl rfl (one_of HT_.out (by kernel_rfl)) (by decide) (fun K hK => ?_)
   refine goes_ Tryz.func19 (by kernel_rfl) rfl #[] (by rfl) rfl rfl (by (try simp only [List.map_toArray, List.map_cons, List.map_nil]); first | done | rfl) ?_
   refine (world.events.calls (w1.drew.alloc (.cells #[.int .i64 0, .slice none 0 0, .int .i64 0, .int .i64 0, .slice none 0 0] 68))).mono ?_
   rintro e w4 ⟨rfl, hb4⟩
   refine ⟨_, rfl, ?_⟩
   replace HG := Aside0.mk (blk_below HG.out hb4)
   replace HBB := Aside0.mk (below_step HBB.out hb4)
   replace HP5 := Aside0.mk (blk_below HP5.out hb4)
   have HBL := Aside0.mk HBB.out.size
   clear hb4
   refine hK.out _ _ ⟨((blk_cell HG.out 0).trans rfl), ((blk_cell HG.out 1).trans rfl), ((blk_cell HG.out 2).trans rfl), ((blk_cell HG.out 3).trans rfl), ((blk_cell HG.out 4).trans rfl), ((blk_cell HG.out 5).trans rfl)⟩ (fun hHeld => ?_)
   clear hK K
   refine norm_ (a' := ?_) ?_ ?_
   rotate_left
   ·show Act.put _ (some 22) _ = _
    simp only [PN]
    rfl
   refine take_ (i := 3) (N := some 25) (v := ?_) (a' := ?_) #[Y,Y,Y,Y,Y,Y,O,O,O,O,Y,O,O] rfl rfl (take_ofW HT_.out HW_.out (by kernel_rfl)) (fun _ _ _ h => h) (Or.inl ⟨by rfl, ?_⟩) hHeld ?_ ?_
   rotate_left
   ·rintro w' ⟨s0, s1, s2, s3, s4, s5⟩
    go_simp
    with_reducible rfl
   rotate_left
   ·simp only [PN]
    rfl
   refine one_ (i := 6) (N := some 28) #[Y,Y,Y,Y,Y,Y,Y,O,O,O,Y,O,O] rfl rfl (one_of HT_.out (by kernel_rfl)) (by decide) (fun K hK => ?_)
   refine goesF_ Tryz.func41 (by kernel_rfl) rfl #[.pointer (some ⟨gw, 0, none⟩), .agg #[.int .i64 1, .int .i64 0, .int .i64 0, .int .i64 (ticks : Int), .int .u8 0, .slice A xs.length c]] (by rfl) (by rfl) rfl rfl (by (try simp only [List.map_toArray, List.map_cons, List.map_nil]); first | done | rfl) ?_
   refine (world.ask.calls gw A xs.length c ticks w4).mono ?_
   rintro e w5 ⟨rfl, hb5⟩
   refine ⟨_, rfl, ?_⟩
   replace HG := Aside0.mk (blk_below HG.out hb5)
   replace HBB := Aside0.mk (below_step HBB.out hb5)
   replace HP5 := Aside0.mk (blk_below HP5.out hb5)
   have HBL := Aside0.mk HBB.out.size
   clear hb5
   refine hK.out _ _ ⟨((blk_cell HG.out 0).trans rfl), ((blk_cell HG.out 1).trans rfl), ((blk_cell HG.out 2).trans rfl), ((blk_cell HG.out 3).trans rfl), ((blk_cell HG.out 4).trans rfl), ((blk_cell HG.out 5).trans rfl)⟩ (fun hHeld => ?_)
   clear hK K
   refine norm_ (a' := ?_) ?_ ?_
   rotate_left
   ·show Act.put _ (some 28) _ = _
    simp only [PN]
    rfl
   refine pure_ (i := 7) (N := some 21) (v := ?_) (a' := ?_) #[Y,Y,Y,Y,Y,Y,Y,Y,O,O,Y,O,O] rfl rfl (any_of HT_.out (by kernel_rfl)) (fun _ _ _ h => h) (Or.inl ⟨by rfl, ?_⟩) ?_ ?_
   rotate_left
   ·intro w'
    go_simp
    with_reducible rfl
   rotate_left
   ·simp only [PN]
    rfl
   refine pure_ (i := 8) (N := some 29) (v := ?_) (a' := ?_) #[Y,Y,Y,Y,Y,Y,Y,Y,Y,O,Y,O,O] rfl rfl (any_of HT_.out (by kernel_rfl)) (fun _ _ _ h => h) (Or.inl ⟨by rfl, ?_⟩) ?_ ?_
   rotate_left
   ·intro w'
    go_simp
    with_reducible rfl
   rotate_left
   ·simp only [PN]
    rfl
   refine pure_ (i := 9) (N := some 30) (v := ?_) (a' := ?_) #[Y,Y,Y,Y,Y,Y,Y,Y,Y,Y,Y,O,O] rfl rfl (any_of HT_.out (by kernel_rfl)) (fun _ _ _ h => h) (Or.inl ⟨by rfl, ?_⟩) ?_ ?_
   rotate_left
   ·intro w'
    go_simp
    with_reducible rfl
   rotate_left
   ·simp only [PN]
    rfl
   exact norm_ (by simp only [putAll, PN]) (hCont w1.heap.size _ ⟨((blk_cell HG.out 0).trans rfl), ((blk_cell HG.out 1).trans rfl), ((blk_cell HG.out 2).trans rfl), ((blk_cell HG.out 3).trans rfl), ((blk_cell HG.out 4).trans rfl), ((blk_cell HG.out 5).trans rfl), HG.out, HP5.out, HPL.out, HBB.out⟩)
 rintro p5 w7 ⟨h0, h1, h2, h3, h4, h5, hg7, hp7, hl7, hb7⟩
 have hHeld : w7.cell? ⟨gb, 0, none⟩ = some (.int .i64 1) ∧ w7.cell? ⟨gb, 1, none⟩ = some (.int .i64 0) ∧ w7.cell? ⟨gb, 2, none⟩ = some (.int .i64 0) ∧ w7.cell? ⟨gb, 3, none⟩ = some (.int .i64 (ticks : Int)) ∧ w7.cell? ⟨gb, 4, none⟩ = some (.int .u8 0) ∧ w7.cell? ⟨gb, 5, none⟩ = some (.slice A xs.length c) := ⟨h0, h1, h2, h3, h4, h5⟩
 have HG7 := Aside0.mk hg7
 have HP7 := Aside0.mk hp7
 have HL7 := Aside0.mk hl7
 have HB7 := Aside0.mk hb7
 have k0 : w7.cell? ⟨p5, 0, none⟩ = some (.int .i64 0) := (blk_cell hp7 0).trans rfl
 have k1 : w7.cell? ⟨p5, 1, none⟩ = some (.slice none 0 0) := (blk_cell hp7 1).trans rfl
 have k2 : w7.cell? ⟨p5, 2, none⟩ = some (.int .i64 0) := (blk_cell hp7 2).trans rfl
 have k3 : w7.cell? ⟨p5, 3, none⟩ = some (.int .i64 0) := (blk_cell hp7 3).trans rfl
 have k4 : w7.cell? ⟨p5, 4, none⟩ = some (.slice none 0 0) := (blk_cell hp7 4).trans rfl
 have f0 := blk_frozen hp7 0
 have f1 := blk_frozen hp7 1
 have f2 := blk_frozen hp7 2
 have f3 := blk_frozen hp7 3
 have f4 := blk_frozen hp7 4
 clear h0 h1 h2 h3 h4 h5 hg7 hp7 hl7 hb7
 refine norm_ (a' := ?_) ?_ ?_
 rotate_left
 ·simp only [putAll, PN]
  rfl
 refine last_ (i := 11) (N := none) #[Y,Y,Y,Y,Y,Y,Y,Y,Y,Y,Y,Y,O] rfl rfl (one_of HT_.out (by kernel_rfl)) (by decide) (fun K hK => ?_)
 refine skip_ (w1 := ?_) (by rfl) rfl ?_ ?_
 rotate_left
 ·go_simp
  rfl
 refine hK.out _ _ ?_
 clear hK K
 refine pure_ (i := 12) (N := some 6) (v := ?_) (a' := ?_) #[Y,Y,Y,Y,Y,Y,Y,Y,Y,Y,Y,Y,Y] rfl rfl (any_of HT_.out (by kernel_rfl)) (fun _ _ _ h => h) (Or.inl ⟨by rfl, ?_⟩) ?_ ?_
 rotate_left
 ·intro w'
  go_simp
  with_reducible rfl
 rotate_left
 ·simp only [PN]
  rfl
 refine done_ (done_of HT_.out (by kernel_rfl)) ?_
 have hg8 := ((((grown_set w7 p5 0 (.int .i64 1)).trans_row (grown_set _ p5 1 (.slice A xs.length c))).trans_row (grown_set _ p5 2 (.int .i64 (ticks : Int)))).trans_row (grown_set _ p5 3 (.int .i64 0))).trans_row (grown_set _ p5 4 (.slice none 0 0))
 have hp8 := blk_put (blk_put (blk_put (blk_put (blk_put HP7.out 0 (.int .i64 1) rfl) 1 (.slice A xs.length c) rfl) 2 (.int .i64 (ticks : Int)) rfl) 3 (.int .i64 0) rfl) 4 (.slice none 0 0) rfl
 have HP8 := Aside0.mk hp8
 have HBW7 := Aside0.mk (below_step (below_drew HB1.out) HB7.out)
 have HPG := Aside0.mk (show w.heap.size ≤ p5 ∧ gb < p5 from by have h1 := HB1.out.size; have h2 := HL7.out; have h3 := blk_lt (show w1.heap[gb]? = _ from HG1.out); have h4 : w1.drew.heap.size = w1.heap.size := rfl; omega)
 have HB8 := Aside0.mk (HBW7.out.trans (below_of_grown hg8 HPG.out.1 HBW7.out.size))
 have HG8 := Aside0.mk (blk_grown HG7.out hg8 (fun e => by injection e with e; have := HPG.out.2; omega))
 clear hHeld k0 k1 k2 k3 k4 f0 f1 f2 f3 f4 hg8 hp8 HP7 HG7 HL7 HB7 HBW7
 generalize ((((w7.setCell ⟨p5, 0, none⟩ (.int .i64 1)).setCell ⟨p5, 1, none⟩ (.slice A xs.length c)).setCell ⟨p5, 2, none⟩ (.int .i64 (ticks : Int))).setCell ⟨p5, 3, none⟩ (.int .i64 0)).setCell ⟨p5, 4, none⟩ (.slice none 0 0) = w8 at HP8 HB8 HG8 ⊢
 have k0 : w8.cell? ⟨gb, 0, none⟩ = some (.int .i64 1) := (blk_cell HG8.out 0).trans rfl
 have k5 : w8.cell? ⟨gb, 5, none⟩ = some (.slice A xs.length c) := (blk_cell HG8.out 5).trans rfl
 go_wp2_with fail
 refine (need.Check.calls (Kd.C_below HX.out.1 (H.out.hW.trans (HB8.out.mono (Nat.le_trans H.out.hNW H.out.hN)))) HX.out.2.1 HX.out.2.2).mono ?_
 rintro e w9 ⟨rfl, hb9⟩
 have hb9' := below_drew hb9
 have HB9 := Aside0.mk (below_step HB8.out hb9')
 have HG9 := Aside0.mk (blk_below HG8.out hb9')
 have HP9 := Aside0.mk (blk_below HP8.out hb9')
 have HSE := Aside0.mk (H.out.se.below HB9.out)
 have HWB := Aside0.mk (H.out.wb.below HB9.out)
 have a0 : wrap64 ((gv : Int) + 1) = (gv : Int) + 1 := wrap_id (by have := HL.out; omega) (by have := HL.out; omega)
 have HS6 := Aside0.mk (NdOk_small HX.out.2.2)
 clear k0 k5 hb9 hb9' HB8 HG8 HP8
 go_wp2
 refine start_ (n := 17) (S := fun w' => w'.cell? ⟨gw, 2, none⟩ = some (.map (some gm)) ∧ w'.cell? ⟨gw, 0, none⟩ = some (.pointer (some ⟨gs, 0, none⟩)) ∧ w'.cell? ⟨gb, 5, none⟩ = some (.slice A xs.length c)) (ds := [16]) #[O,O,O,O,O,O,O,O,O,O,O,O,O,O,O,O,O] (by kernel_rfl) rfl rfl ⟨(by obtain ⟨At, ct, hb, _⟩ := HWB.out.blk; exact (blk_cell hb 2).trans rfl), (by obtain ⟨At, ct, hb, _⟩ := HWB.out.blk; exact (blk_cell hb 0).trans rfl), ((blk_cell HG9.out 5).trans rfl)⟩ (fun hHeld => ?_)
 refine with_tabW WDO7.tab7 WDO7.bits7 (fun HT_ HW_ => ?_)
 refine pure_ (i := 0) (N := some 41) (v := ?_) (a' := ?_) #[Y,O,O,O,O,O,O,O,O,O,O,O,O,O,O,O,O] rfl rfl (any_of HT_.out (by kernel_rfl)) (fun _ _ _ h => h) (Or.inl ⟨by rfl, ?_⟩) ?_ ?_
 rotate_left
 ·intro w'
  go_simp
  with_reducible rfl
 rotate_left
 ·simp only [PN]
  rfl
 refine pure_ (i := 1) (N := some 42) (v := ?_) (a' := ?_) #[Y,Y,O,O,O,O,O,O,O,O,O,O,O,O,O,O,O] rfl rfl (any_of HT_.out (by kernel_rfl)) (fun _ _ _ h => h) (Or.inl ⟨by rfl, ?_⟩) ?_ ?_
 rotate_left
 ·intro w'
  go_simp
  with_reducible rfl
 rotate_left
 ·simp only [PN]
  rfl
 refine pure_ (i := 2) (N := some 43) (v := ?_) (a' := ?_) #[Y,Y,Y,O,O,O,O,O,O,O,O,O,O,O,O,O,O] rfl rfl (any_of HT_.out (by kernel_rfl)) (fun _ _ _ h => h) (Or.inl ⟨by rfl, ?_⟩) ?_ ?_
 rotate_left
 ·intro w'
  go_simp
  with_reducible rfl
 rotate_left
 ·simp only [PN]
  rfl
 refine pure_ (i := 4) (N := some 45) (v := ?_) (a' := ?_) #[Y,Y,Y,O,Y,O,O,O,O,O,O,O,O,O,O,O,O] rfl rfl (any_of HT_.out (by kernel_rfl)) (fun _ _ _ h => h) (Or.inl ⟨by rfl, ?_⟩) ?_ ?_
 rotate_left
 ·intro w'
  go_simp
  with_reducible rfl
 rotate_left
 ·simp only [PN]
  rfl
 refine pure_ (i := 5) (N := some 46) (v := ?_) (a' := ?_) #[Y,Y,Y,O,Y,Y,O,O,O,O,O,O,O,O,O,O,O] rfl rfl (any_of HT_.out (by kernel_rfl)) (fun _ _ _ h => h) (Or.inl ⟨by rfl, ?_⟩) ?_ ?_
 rotate_left
 ·intro w'
  go_simp
  with_reducible rfl
 rotate_left
 ·simp only [PN]
  rfl
 refine pure_ (i := 6) (N := some 47) (v := ?_) (a' := ?_) #[Y,Y,Y,O,Y,Y,Y,O,O,O,O,O,O,O,O,O,O] rfl rfl (any_of HT_.out (by kernel_rfl)) (fun _ _ _ h => h) (Or.inl ⟨by rfl, ?_⟩) ?_ ?_
 rotate_left
 ·intro w'
  go_simp
  with_reducible rfl
 rotate_left
 ·simp only [PN]
  rfl
 refine pure_ (i := 10) (N := some 51) (v := ?_) (a' := ?_) #[Y,Y,Y,O,Y,Y,Y,O,O,O,Y,O,O,O,O,O,O] rfl rfl (any_of HT_.out (by kernel_rfl)) (fun _ _ _ h => h) (Or.inl ⟨by rfl, ?_⟩) ?_ ?_
 rotate_left
 ·intro w'
  go_simp
  with_reducible rfl
 rotate_left
 ·simp only [PN]
  rfl
 refine pure_ (i := 12) (N := some 53) (v := ?_) (a' := ?_) #[Y,Y,Y,O,Y,Y,Y,O,O,O,Y,O,Y,O,O,O,O] rfl rfl (any_of HT_.out (by kernel_rfl)) (fun _ _ _ h => h) (Or.inl ⟨by rfl, ?_⟩) ?_ ?_
 rotate_left
 ·intro w'
  go_simp
  with_reducible rfl
 rotate_left
 ·simp only [PN]
  rfl
 refine take_ (i := 3) (N := some 44) (v := ?_) (a' := ?_) #[Y,Y,Y,Y,Y,Y,Y,O,O,O,Y,O,Y,O,O,O,O] rfl rfl (take_ofW HT_.out HW_.out (by kernel_rfl)) (fun _ _ _ h => h) (Or.inl ⟨by rfl, ?_⟩) hHeld ?_ ?_
 rotate_left
 ·rintro w' ⟨s0, s1, s2⟩
  go_simp
  with_reducible rfl
 rotate_left
 ·simp only [PN]
  rfl
 refine take_ (i := 7) (N := some 48) (v := ?_) (a' := ?_) #[Y,Y,Y,Y,Y,Y,Y,Y,O,O,Y,O,Y,O,O,O,O] rfl rfl (take_ofW HT_.out HW_.out (by kernel_rfl)) (fun _ _ _ h => h) (Or.inl ⟨by rfl, ?_⟩) hHeld ?_ ?_
 rotate_left
 ·rintro w' ⟨s0, s1, s2⟩
  go_simp
  with_reducible rfl
 rotate_left
 ·simp only [PN]
  rfl
 refine take_ (i := 13) (N := some 54) (v := ?_) (a' := ?_) #[Y,Y,Y,Y,Y,Y,Y,Y,O,O,Y,O,Y,Y,O,O,O] rfl rfl (take_ofW HT_.out HW_.out (by kernel_rfl)) (fun _ _ _ h => h) (Or.inl ⟨by rfl, ?_⟩) hHeld ?_ ?_
 rotate_left
 ·rintro w' ⟨s0, s1, s2⟩
  go_simp
  with_reducible rfl
 rotate_left
 ·simp only [PN]
  rfl
 refine one_ (i := 8) (N := some 49) #[Y,Y,Y,Y,Y,Y,Y,Y,Y,O,Y,O,Y,Y,O,O,O] rfl rfl (one_of HT_.out (by kernel_rfl)) (by decide) (fun K hK => ?_)
 refine goes_ Tryz.func22 (by kernel_rfl) rfl #[.pointer (some ⟨gs, 0, none⟩)] (by rfl) rfl rfl (by (try simp only [List.map_toArray, List.map_cons, List.map_nil]); first | done | rfl) ?_
 refine (service.Given.calls HSE.out).mono ?_
 rintro e w5 ⟨rfl, rfl⟩
 refine ⟨_, rfl, ?_⟩
 refine hK.out _ _ ⟨(by obtain ⟨At, ct, hb, _⟩ := HWB.out.blk; exact (blk_cell hb 2).trans rfl), (by obtain ⟨At, ct, hb, _⟩ := HWB.out.blk; exact (blk_cell hb 0).trans rfl), ((blk_cell HG9.out 5).trans rfl)⟩ (fun hHeld => ?_)
 clear hK K
 refine norm_ (a' := ?_) ?_ ?_
 rotate_left
 ·show Act.put _ (some 49) _ = _
  simp only [PN]
  rfl
 refine pure_ (i := 9) (N := some 50) (v := ?_) (a' := ?_) #[Y,Y,Y,Y,Y,Y,Y,Y,Y,Y,Y,O,Y,Y,O,O,O] rfl rfl (any_of HT_.out (by kernel_rfl)) (fun _ _ _ h => h) (Or.inl ⟨by rfl, ?_⟩) ?_ ?_
 rotate_left
 ·intro w'
  go_simp
  with_reducible rfl
 rotate_left
 ·simp only [PN]
  rfl
 refine one_ (i := 11) (N := some 52) #[Y,Y,Y,Y,Y,Y,Y,Y,Y,Y,Y,Y,Y,Y,O,O,O] rfl rfl (one_of HT_.out (by kernel_rfl)) (by decide) (fun K hK => ?_)
 refine goes_ Tryz.func10 (by kernel_rfl) rfl #[.pointer (some ⟨gw, 0, none⟩)] (by rfl) rfl rfl (by (try simp only [List.map_toArray, List.map_cons, List.map_nil]); first | done | rfl) ?_
 refine (world.Now.calls HSE.out (by obtain ⟨At, ct, hb, _⟩ := HWB.out.blk; exact (blk_cell hb 0).trans rfl)).mono ?_
 rintro e w5 ⟨rfl, rfl⟩
 refine ⟨_, rfl, ?_⟩
 refine hK.out _ _ ⟨(by obtain ⟨At, ct, hb, _⟩ := HWB.out.blk; exact (blk_cell hb 2).trans rfl), (by obtain ⟨At, ct, hb, _⟩ := HWB.out.blk; exact (blk_cell hb 0).trans rfl), ((blk_cell HG9.out 5).trans rfl)⟩ (fun hHeld => ?_)
 clear hK K
 refine norm_ (a' := ?_) ?_ ?_
 rotate_left
 ·show Act.put _ (some 52) _ = _
  simp only [PN]
  rfl
 refine one_ (i := 14) (N := some 55) #[Y,Y,Y,Y,Y,Y,Y,Y,Y,Y,Y,Y,Y,Y,Y,O,O] rfl rfl (one_of HT_.out (by kernel_rfl)) (by decide) (fun K hK => ?_)
 refine goes_ Tryz.func21 (by kernel_rfl) rfl #[.slice A xs.length c, .slice none 0 0] (by rfl) rfl rfl (by (try simp only [List.map_toArray, List.map_cons, List.map_nil]); first | done | rfl) ?_
 refine (need.Both.calls HX.out.1 (H.out.hW.trans (HB9.out.mono (Nat.le_trans H.out.hNW H.out.hN))) HX.out.2.1 (fun x hx => (HS6.out x hx).1)).mono ?_
 rintro e wA ⟨vA, rfl, hrA, hbA⟩
 refine ⟨_, rfl, ?_⟩
 obtain ⟨Av, cv, rfl⟩ := Kd.R_slice hrA
 have HRA := Aside0.mk (Kd.R_lower hrA (Nat.le_trans H.out.hN HB9.out.size))
 have HBA := Aside0.mk (below_step HB9.out hbA)
 have HGA := Aside0.mk (blk_below HG9.out hbA)
 have HPA := Aside0.mk (blk_below HP9.out hbA)
 have HSA := Aside0.mk (HSE.out.below hbA)
 have HWA := Aside0.mk (HWB.out.below hbA)
 clear hrA hbA
 refine hK.out _ _ ⟨(by obtain ⟨At, ct, hb, _⟩ := HWA.out.blk; exact (blk_cell hb 2).trans rfl), (by obtain ⟨At, ct, hb, _⟩ := HWA.out.blk; exact (blk_cell hb 0).trans rfl), ((blk_cell HGA.out 5).trans rfl)⟩ (fun hHeld => ?_)
 clear hK K
 refine norm_ (a' := ?_) ?_ ?_
 rotate_left
 ·show Act.put _ (some 55) _ = _
  simp only [PN]
  rfl
 refine pure_ (i := 15) (N := some 56) (v := ?_) (a' := ?_) #[Y,Y,Y,Y,Y,Y,Y,Y,Y,Y,Y,Y,Y,Y,Y,Y,O] rfl rfl (any_of HT_.out (by kernel_rfl)) (fun _ _ _ h => h) (Or.inl ⟨by rfl, ?_⟩) ?_ ?_
 rotate_left
 ·intro w'
  go_simp
  with_reducible rfl
 rotate_left
 ·simp only [PN]
  rfl
 refine last_ (i := 16) (N := none) #[Y,Y,Y,Y,Y,Y,Y,Y,Y,Y,Y,Y,Y,Y,Y,Y,Y] rfl rfl (one_of HT_.out (by kernel_rfl)) (by decide) (fun K hK => ?_)
 obtain ⟨wU, hmu, hwU, hkU⟩ := HWA.out.ask (by have := HL.out; omega) ((gv : Int) + 1) (by omega) (by have := HL.out; omega) (v := .agg #[.int .i64 (now : Int), .slice Av xs.length cv]) ⟨now, Av, cv, xs, rfl, HRA.out, .inl rfl⟩
 have HWU := Aside0.mk hwU
 have HKU := Aside0.mk hkU
 clear hwU hkU
 refine skip_ (w1 := ?_) (by rfl) rfl ?_ ?_
 rotate_left
 ·go_simp
  rfl
 refine hK.out _ _ ?_
 clear hK K
 refine done_ (done_of HT_.out (by kernel_rfl)) ?_
 have hdw := below_drew (Below.refl wU.heap.size wU)
 have HWV := Aside0.mk (HWU.out.below hdw)
 have HSV := Aside0.mk ((HSA.out.kf HKU.out (by simp) (fun k h => h)).below hdw)
 have HKV := Aside0.mk (show Kf N0 DT (fun _ => True) w wU.drew from ((Kf.below HBA.out).trans (HKU.out.mono (by simp) (fun _ _ => trivial))).trans (Kf.below hdw))
 have HPV := Aside0.mk (blk_below (HKU.out.blk HPA.out (by simp)) hdw)
 clear hHeld hmu a0 hdw HWU HKU HSA HGA HPA HBA HRA HWA HSE HWB HG9 HP9 HB9
 go_wp2
 refine start_ (n := 11) (S := fun w' => w'.cell? ⟨gw, 0, none⟩ = some (.pointer (some ⟨gs, 0, none⟩)) ∧ w'.cell? ⟨p5, 0, none⟩ = some (.int .i64 1) ∧ w'.cell? ⟨p5, 1, none⟩ = some (.slice A xs.length c) ∧ w'.cell? ⟨p5, 2, none⟩ = some (.int .i64 (ticks : Int)) ∧ w'.cell? ⟨p5, 3, none⟩ = some (.int .i64 0) ∧ w'.cell? ⟨p5, 4, none⟩ = some (.slice none 0 0)) (ds := []) #[O,O,O,O,O,O,O,O,O,O,O] (by kernel_rfl) rfl rfl ⟨(by obtain ⟨At, ct, hb, _⟩ := HWV.out.blk; exact (blk_cell hb 0).trans rfl), ((blk_cell HPV.out 0).trans rfl), ((blk_cell HPV.out 1).trans rfl), ((blk_cell HPV.out 2).trans rfl), ((blk_cell HPV.out 3).trans rfl), ((blk_cell HPV.out 4).trans rfl)⟩ (fun hHeld => ?_)
 refine with_tabW WDO8.tab8 WDO8.bits8 (fun HT_ HW_ => ?_)
 refine pure_ (i := 0) (N := some 58) (v := ?_) (a' := ?_) #[Y,O,O,O,O,O,O,O,O,O,O] rfl rfl (any_of HT_.out (by kernel_rfl)) (fun _ _ _ h => h) (Or.inl ⟨by rfl, ?_⟩) ?_ ?_
 rotate_left
 ·intro w'
  go_simp
  with_reducible rfl
 rotate_left
 ·simp only [PN]
  rfl
 refine pure_ (i := 1) (N := some 59) (v := ?_) (a' := ?_) #[Y,Y,O,O,O,O,O,O,O,O,O] rfl rfl (any_of HT_.out (by kernel_rfl)) (fun _ _ _ h => h) (Or.inl ⟨by rfl, ?_⟩) ?_ ?_
 rotate_left
 ·intro w'
  go_simp
  with_reducible rfl
 rotate_left
 ·simp only [PN]
  rfl
 refine pure_ (i := 2) (N := some 60) (v := ?_) (a' := ?_) #[Y,Y,Y,O,O,O,O,O,O,O,O] rfl rfl (any_of HT_.out (by kernel_rfl)) (fun _ _ _ h => h) (Or.inl ⟨by rfl, ?_⟩) ?_ ?_
 rotate_left
 ·intro w'
  go_simp
  with_reducible rfl
 rotate_left
 ·simp only [PN]
  rfl
 refine take_ (i := 3) (N := some 61) (v := ?_) (a' := ?_) #[Y,Y,Y,Y,O,O,O,O,O,O,O] rfl rfl (take_ofW HT_.out HW_.out (by kernel_rfl)) (fun _ _ _ h => h) (Or.inl ⟨by rfl, ?_⟩) hHeld ?_ ?_
 rotate_left
 ·rintro w' ⟨s0, s1, s2, s3, s4, s5⟩
  go_simp
  with_reducible rfl
 rotate_left
 ·simp only [PN]
  rfl
 refine take_ (i := 4) (N := some 62) (v := ?_) (a' := ?_) #[Y,Y,Y,Y,Y,O,O,O,O,O,O] rfl rfl (take_ofW HT_.out HW_.out (by kernel_rfl)) (fun _ _ _ h => h) (Or.inl ⟨by rfl, ?_⟩) hHeld ?_ ?_
 rotate_left
 ·rintro w' ⟨s0, s1, s2, s3, s4, s5⟩
  go_simp
  with_reducible rfl
 rotate_left
 ·simp only [PN]
  rfl
 refine one_ (i := 5) (N := some 63) #[Y,Y,Y,Y,Y,Y,O,O,O,O,O] rfl rfl (one_of HT_.out (by kernel_rfl)) (by decide) (fun K hK => ?_)
 refine goes_ Tryz.func23 (by kernel_rfl) rfl #[.pointer (some ⟨gs, 0, none⟩), .agg #[.int .i64 1, .slice A xs.length c, .int .i64 (ticks : Int), .int .i64 0, .slice none 0 0]] (by rfl) rfl rfl (by (try simp only [List.map_toArray, List.map_cons, List.map_nil]); first | done | rfl) ?_
 refine (service.Do.ask HSV.out (Nat.le_trans H.out.hN HKV.out.size) (H.out.hW.trans ((HKV.out.toBelow H.out.hN).mono H.out.hNW)) H.out.hNW H.out.inv HX.out.1 HX.out.2.1 HX.out.2.2 (fun x hx => (HS6.out x hx).1) (by have := HL.out; omega) (by have := HL.out; omega) HL.out.2.2.1 HL.out.2.2.2.1 HL.out.2.2.2.2.1 (by have := HL.out; omega)).mono ?_
 rintro e wD ⟨vD, fD, suD, rowsD, rfl, hrD, hokD, hseD, ⟨hgoD, hlD⟩, hkD⟩
 refine ⟨_, rfl, ?_⟩
 obtain ⟨AD, cD, rfl⟩ := Kd.R_slice hrD
 have HRD := Aside0.mk hrD
 have HOD := Aside0.mk hokD
 have HSD := Aside0.mk hseD
 have HGO := Aside0.mk (And.intro hgoD hlD)
 have HWD := Aside0.mk (HWV.out.kf hkD (by decide) (fun h => h rfl))
 have HPD := Aside0.mk (hkD.blk HPV.out (by decide))
 have HKD := Aside0.mk (HKV.out.trans (hkD.mono (fun t ht => List.mem_append_left _ ht) (fun _ _ => trivial)))
 clear hrD hokD hseD hgoD hlD hkD
 refine hK.out _ _ ⟨(by obtain ⟨At, ct, hb, _⟩ := HWD.out.blk; exact (blk_cell hb 0).trans rfl), ((blk_cell HPD.out 0).trans rfl), ((blk_cell HPD.out 1).trans rfl), ((blk_cell HPD.out 2).trans rfl), ((blk_cell HPD.out 3).trans rfl), ((blk_cell HPD.out 4).trans rfl)⟩ (fun hHeld => ?_)
 clear hK K
 refine norm_ (a' := ?_) ?_ ?_
 rotate_left
 ·show Act.put _ (some 63) _ = _
  simp only [PN]
  rfl
 refine pure_ (i := 6) (N := some 57) (v := ?_) (a' := ?_) #[Y,Y,Y,Y,Y,Y,Y,O,O,O,O] rfl rfl (any_of HT_.out (by kernel_rfl)) (fun _ _ _ h => h) (Or.inl ⟨by rfl, ?_⟩) ?_ ?_
 rotate_left
 ·intro w'
  go_simp
  with_reducible rfl
 rotate_left
 ·simp only [PN]
  rfl
 refine pure_ (i := 7) (N := some 64) (v := ?_) (a' := ?_) #[Y,Y,Y,Y,Y,Y,Y,Y,O,O,O] rfl rfl (any_of HT_.out (by kernel_rfl)) (fun _ _ _ h => h) (Or.inl ⟨by rfl, ?_⟩) ?_ ?_
 rotate_left
 ·intro w'
  go_simp
  with_reducible rfl
 rotate_left
 ·simp only [PN]
  rfl
 refine pure_ (i := 8) (N := some 65) (v := ?_) (a' := ?_) #[Y,Y,Y,Y,Y,Y,Y,Y,Y,O,O] rfl rfl (any_of HT_.out (by kernel_rfl)) (fun _ _ _ h => h) (Or.inl ⟨by rfl, ?_⟩) ?_ ?_
 rotate_left
 ·intro w'
  go_simp
  with_reducible rfl
 rotate_left
 ·simp only [PN]
  rfl
 refine pure_ (i := 9) (N := some 7) (v := ?_) (a' := ?_) #[Y,Y,Y,Y,Y,Y,Y,Y,Y,Y,O] rfl rfl (any_of HT_.out (by kernel_rfl)) (fun _ _ _ h => h) (Or.inl ⟨by rfl, ?_⟩) ?_ ?_
 rotate_left
 ·intro w'
  go_simp
  with_reducible rfl
 rotate_left
 ·simp only [PN]
  rfl
 refine pure_ (i := 10) (N := some 8) (v := ?_) (a' := ?_) #[Y,Y,Y,Y,Y,Y,Y,Y,Y,Y,Y] rfl rfl (any_of HT_.out (by kernel_rfl)) (fun _ _ _ h => h) (Or.inl ⟨by rfl, ?_⟩) ?_ ?_
 rotate_left
 ·intro w'
  go_simp
  with_reducible rfl
 rotate_left
 ·simp only [PN]
  rfl
 refine done_ (done_of HT_.out (by kernel_rfl)) ?_
 clear hHeld HWV HSV HKV HPV HPD
 have HNO := Aside0.mk (world.note.calls (HWD.out.mono (show E ≤ E' from by have := HL.out; omega) (Nat.le_refl _) (Nat.le_refl _)) HSD.out HRD.out HOD.out HGO.out.2 (Nat.le_trans H.out.hN HKD.out.size) (by have := H.out.inv.cnt; have := HL.out; omega) (by have := HL.out; omega) HGO.out.1.2.2 HGO.out.1.2.1)
 go_wp2_with fail
 refine HNO.out.mono ?_
 rintro e wE ⟨rfl, ⟨trE, hlE, hwE⟩, hkE⟩
 have HF := Aside0.mk (show WS w0 N0 wE gw gs gx gt gf mx gr gm P xs now (gv + 1) E' fD suD trE from
  { se := (HSD.out.kf hkE (by decide) (fun _ h => h.elim)).mb (by omega)
    wb := hwE.mono (Nat.le_refl _) (by omega) (Nat.le_refl _)
    inv := by rw [hlE]; exact HGO.out.1.1
    hN := Nat.le_trans H.out.hN (HKD.out.trans (hkE.mono (Ts' := DT) (X' := fun _ => True) (fun t ht => List.mem_append_right _ ht) (fun _ _ => trivial))).size
    hW := H.out.hW.trans (((HKD.out.trans (hkE.mono (Ts' := DT) (X' := fun _ => True) (fun t ht => List.mem_append_right _ ht) (fun _ _ => trivial))).toBelow H.out.hN).mono H.out.hNW)
    hNW := H.out.hNW })
 have HKF := Aside0.mk (HKD.out.trans (hkE.mono (Ts' := DT) (X' := fun _ => True) (fun t ht => List.mem_append_right _ ht) (fun _ _ => trivial)))
 clear hlE hwE hkE HNO HRD HOD HSD HWD HKD
 go_wp2
 go_ret
 exact ⟨rfl, ⟨fD, suD, trE, HF.out⟩, HKF.out⟩
set_option maxRecDepth 100000 in
set_option maxHeartbeats 1000000 in
theorem world.Do.tick (h : WS w0 N0 w gw gs gx gt gf mx gr gm P xs now gv E f su tr) (hl6 : xs.length ≤ 6) (hk : NdOk 0 8 xs) (hgv : gv ≤ 100) (hnow : now ≤ 300) (hbd : E ≤ 1000) : Calls Tryz.prog 9 #[.pointer (some ⟨gw, 0, none⟩), .agg #[.int .i64 2, .int .i64 0, .int .i64 0, .int .i64 0, .int .u8 0, .slice none 0 0]] w fun e w' => e = .returned (.int .i64 0) ∧ (∃ f' su' tr', WS w0 N0 w' gw gs gx gt gf mx gr gm P xs (now + 1) gv E f' su' tr') ∧ Kf N0 DT (fun _ => True) w w' := by
 have H := Aside0.mk h
 have HX := Aside0.mk (And.intro hl6 hk)
 have HL := Aside0.mk (And.intro hgv (And.intro hnow hbd))
 have hba := below_alloc (Below.refl w.heap.size w) (.cells #[.int .i64 2, .int .i64 0, .int .i64 0, .int .i64 0, .int .u8 0, .slice none 0 0] 40)
 have HB1 := Aside0.mk hba
 have HG1 := Aside0.mk (blk_new w (.cells #[.int .i64 2, .int .i64 0, .int .i64 0, .int .i64 0, .int .u8 0, .slice none 0 0] 40))
 have k0 := (blk_cell HG1.out 0).trans rfl
 clear h hl6 hk hgv hnow hbd hba
 go_enter Tryz.func9, Tryz.ntmps9
 go_wp2
 clear k0
 generalize w.alloc (.cells #[.int .i64 2, .int .i64 0, .int .i64 0, .int .i64 0, .int .u8 0, .slice none 0 0] 40) = w1 at HB1 HG1 ⊢
 generalize hgb : w.heap.size = gb at HG1 ⊢
 have HGB := Aside0.mk hgb
 have HG := Aside0.mk (show w1.drew.heap[gb]? = _ from HG1.out)
 have HBB := Aside0.mk (Below.refl w1.drew.heap.size w1.drew)
 have HBL := Aside0.mk (Nat.le_refl w1.drew.heap.size)
 have hix := evts2
 clear hgb
 refine start_ (n := 13) (S := fun w' => w'.cell? ⟨gb, 0, none⟩ = some (.int .i64 2) ∧ w'.cell? ⟨gb, 1, none⟩ = some (.int .i64 0) ∧ w'.cell? ⟨gb, 2, none⟩ = some (.int .i64 0) ∧ w'.cell? ⟨gb, 3, none⟩ = some (.int .i64 0) ∧ w'.cell? ⟨gb, 4, none⟩ = some (.int .u8 0) ∧ w'.cell? ⟨gb, 5, none⟩ = some (.slice none 0 0)) (ds := [11]) #[O,O,O,O,O,O,O,O,O,O,O,O,O] (by kernel_rfl) rfl rfl ⟨((blk_cell HG.out 0).trans rfl), ((blk_cell HG.out 1).trans rfl), ((blk_cell HG.out 2).trans rfl), ((blk_cell HG.out 3).trans rfl), ((blk_cell HG.out 4).trans rfl), ((blk_cell HG.out 5).trans rfl)⟩ (fun hHeld => ?_)
 refine with_tabW WDO3.tab3 WDO3.bits3 (fun HT_ HW_ => ?_)
 refine pure_ (i := 1) (N := some 23) (v := ?_) (a' := ?_) #[O,Y,O,O,O,O,O,O,O,O,O,O,O] rfl rfl (any_of HT_.out (by kernel_rfl)) (fun _ _ _ h => h) (Or.inl ⟨by rfl, ?_⟩) ?_ ?_
 rotate_left
 ·intro w'
  go_simp
  with_reducible rfl
 rotate_left
 ·simp only [PN]
  rfl
 refine pure_ (i := 4) (N := some 26) (v := ?_) (a' := ?_) #[O,Y,O,O,Y,O,O,O,O,O,O,O,O] rfl rfl (any_of HT_.out (by kernel_rfl)) (fun _ _ _ h => h) (Or.inl ⟨by rfl, ?_⟩) ?_ ?_
 rotate_left
 ·intro w'
  go_simp
  with_reducible rfl
 rotate_left
 ·simp only [PN]
  rfl
 refine take_ (i := 2) (N := some 24) (v := ?_) (a' := ?_) #[O,Y,Y,O,Y,O,O,O,O,O,O,O,O] rfl rfl (take_ofW HT_.out HW_.out (by kernel_rfl)) (fun _ _ _ h => h) (Or.inl ⟨by rfl, ?_⟩) hHeld ?_ ?_
 rotate_left
 ·rintro w' ⟨s0, s1, s2, s3, s4, s5⟩
  go_simp
  with_reducible rfl
 rotate_left
 ·simp only [PN]
  rfl
 refine take_ (i := 5) (N := some 27) (v := ?_) (a' := ?_) #[O,Y,Y,O,Y,Y,O,O,O,O,O,O,O] rfl rfl (take_ofW HT_.out HW_.out (by kernel_rfl)) (fun _ _ _ h => h) (Or.inl ⟨by rfl, ?_⟩) hHeld ?_ ?_
 rotate_left
 ·rintro w' ⟨s0, s1, s2, s3, s4, s5⟩
  go_simp
  with_reducible rfl
 rotate_left
 ·simp only [PN]
  rfl
 refine join_ (σ := Nat) 2 #[Y,Y,Y,Y,Y,Y,Y,Y,Y,Y,Y,O,O] (fun s => [(22, evts), (25, .func (.func 42) #[] #[]), (28, .tuple #[.agg #[.int .i64 2, .slice none 0 0, .int .i64 0, .int .i64 0, .slice none 0 0], .bool true]), (21, .tuple #[.agg #[.int .i64 2, .slice none 0 0, .int .i64 0, .int .i64 0, .slice none 0 0], .bool true]), (29, .agg #[.int .i64 2, .slice none 0 0, .int .i64 0, .int .i64 0, .slice none 0 0]), (30, .bool true), (5, .pointer (some ⟨s, 0, none⟩))]) (fun s w' => w'.cell? ⟨gb, 0, none⟩ = some (.int .i64 2) ∧ w'.cell? ⟨gb, 1, none⟩ = some (.int .i64 0) ∧ w'.cell? ⟨gb, 2, none⟩ = some (.int .i64 0) ∧ w'.cell? ⟨gb, 3, none⟩ = some (.int .i64 0) ∧ w'.cell? ⟨gb, 4, none⟩ = some (.int .u8 0) ∧ w'.cell? ⟨gb, 5, none⟩ = some (.slice none 0 0) ∧ w'.heap[gb]? = some (.cells #[.int .i64 2, .int .i64 0, .int .i64 0, .int .i64 0, .int .u8 0, .slice none 0 0] 40 (0, 0)) ∧ w'.heap[s]? = some (.cells #[.int .i64 0, .slice none 0 0, .int .i64 0, .int .i64 0, .slice none 0 0] 68 (0, 0)) ∧ w1.drew.heap.size ≤ s ∧ Below w1.drew.heap.size w1.drew w') ?_ ?_
 rotate_left
 ·intro hCont
  refine two_ (i := 0) (j := 10) (Ni := some 22) (Nj := some 5) #[Y,Y,Y,O,Y,Y,O,O,O,O,O,O,O] #[O,Y,Y,O,Y,Y,O,O,O,O,Y,O,O] rfl rfl rfl rfl (two_of HT_.out (by kernel_rfl)) (by decide) (by decide) (fun K hK => ?_) (fun K hK => ?_)
  ·skip
   refine goes_ Tryz.func19 (by kernel_rfl) rfl #[] (by rfl) rfl rfl (by (try simp only [List.map_toArray, List.map_cons, List.map_nil]); first | done | rfl) ?_
   refine (world.events.calls w1.drew).mono ?_
   rintro e w4 ⟨rfl, hb4⟩
   refine ⟨_, rfl, ?_⟩
   replace HG := Aside0.mk (blk_below HG.out hb4)
   replace HBB := Aside0.mk (below_step HBB.out hb4)
   have HBL := Aside0.mk HBB.out.size
   clear hb4
   refine hK.out _ _ ⟨((blk_cell HG.out 0).trans rfl), ((blk_cell HG.out 1).trans rfl), ((blk_cell HG.out 2).trans rfl), ((blk_cell HG.out 3).trans rfl), ((blk_cell HG.out 4).trans rfl), ((blk_cell HG.out 5).trans rfl)⟩ (fun hHeld => ?_)
   clear hK K
   refine norm_ (a' := ?_) ?_ ?_
   rotate_left
   ·show Act.put _ (some 22) _ = _
    simp only [PN]
    rfl
   refine take_ (i := 3) (N := some 25) (v := ?_) (a' := ?_) #[Y,Y,Y,Y,Y,Y,O,O,O,O,O,O,O] rfl rfl (take_ofW HT_.out HW_.out (by kernel_rfl)) (fun _ _ _ h => h) (Or.inl ⟨by rfl, ?_⟩) hHeld ?_ ?_
   rotate_left
   ·rintro w' ⟨s0, s1, s2, s3, s4, s5⟩
    go_simp
    with_reducible rfl
   rotate_left
   ·simp only [PN]
    rfl
   refine two_ (i := 6) (j := 10) (Ni := some 28) (Nj := some 5) #[Y,Y,Y,Y,Y,Y,Y,O,O,O,O,O,O] #[Y,Y,Y,Y,Y,Y,O,O,O,O,Y,O,O] rfl rfl rfl rfl (two_of HT_.out (by kernel_rfl)) (by decide) (by decide) (fun K hK => ?_) (fun K hK => ?_)
   ·skip
    refine goesF_ Tryz.func42 (by kernel_rfl) rfl #[.pointer (some ⟨gw, 0, none⟩), .agg #[.int .i64 2, .int .i64 0, .int .i64 0, .int .i64 0, .int .u8 0, .slice none 0 0]] (by rfl) (by rfl) rfl rfl (by (try simp only [List.map_toArray, List.map_cons, List.map_nil]); first | done | rfl) ?_
    refine (world.tick.calls gw w4).mono ?_
    rintro e w5 ⟨rfl, hb5⟩
    refine ⟨_, rfl, ?_⟩
    replace HG := Aside0.mk (blk_below HG.out hb5)
    replace HBB := Aside0.mk (below_step HBB.out hb5)
    have HBL := Aside0.mk HBB.out.size
    clear hb5
    refine hK.out _ _ ⟨((blk_cell HG.out 0).trans rfl), ((blk_cell HG.out 1).trans rfl), ((blk_cell HG.out 2).trans rfl), ((blk_cell HG.out 3).trans rfl), ((blk_cell HG.out 4).trans rfl), ((blk_cell HG.out 5).trans rfl)⟩ (fun hHeld => ?_)
    clear hK K
    refine norm_ (a' := ?_) ?_ ?_
    rotate_left
    ·show Act.put _ (some 28) _ = _
     simp only [PN]
     rfl
    refine pure_ (i := 7) (N := some 21) (v := ?_) (a' := ?_) #[Y,Y,Y,Y,Y,Y,Y,Y,O,O,O,O,O] rfl rfl (any_of HT_.out (by kernel_rfl)) (fun _ _ _ h => h) (Or.inl ⟨by rfl, ?_⟩) ?_ ?_
    rotate_left
    ·intro w'
     go_simp
     with_reducible rfl
    rotate_left
    ·simp only [PN]
     rfl
    refine pure_ (i := 8) (N := some 29) (v := ?_) (a' := ?_) #[Y,Y,Y,Y,Y,Y,Y,Y,Y,O,O,O,O] rfl rfl (any_of HT_.out (by kernel_rfl)) (fun _ _ _ h => h) (Or.inl ⟨by rfl, ?_⟩) ?_ ?_
    rotate_left
    ·intro w'
     go_simp
     with_reducible rfl
    rotate_left
    ·simp only [PN]
     rfl
    refine pure_ (i := 9) (N := some 30) (v := ?_) (a' := ?_) #[Y,Y,Y,Y,Y,Y,Y,Y,Y,Y,O,O,O] rfl rfl (any_of HT_.out (by kernel_rfl)) (fun _ _ _ h => h) (Or.inl ⟨by rfl, ?_⟩) ?_ ?_
    rotate_left
    ·intro w'
     go_simp
     with_reducible rfl
    rotate_left
    ·simp only [PN]
     rfl
    refine one_ (i := 10) (N := some 5) #[Y,Y,Y,Y,Y,Y,Y,Y,Y,Y,Y,O,O] rfl rfl (one_of HT_.out (by kernel_rfl)) (by decide) (fun K hK => ?_)
    have hba_ := below_alloc (Below.refl w5.heap.size w5) (.cells #[.int .i64 0, .slice none 0 0, .int .i64 0, .int .i64 0, .slice none 0 0] 68)
    replace HG := Aside0.mk (blk_below HG.out hba_)
    replace HBB := Aside0.mk (below_step HBB.out hba_)
    have HP5 := Aside0.mk (blk_new w5 (.cells #[.int .i64 0, .slice none 0 0, .int .i64 0, .int .i64 0, .slice none 0 0] 68))
    have HPL := Aside0.mk (show w1.drew.heap.size ≤ w5.heap.size from by have := HBL.out; exact this)
    clear hba_
    refine value_ (w1 := ?_) (v := ?_) (by rfl) rfl ?_ ?_
    rotate_left 2
    ·go_simp
     constructor
     ·rfl
     ·rfl
    refine hK.out _ _ ⟨((blk_cell HG.out 0).trans rfl), ((blk_cell HG.out 1).trans rfl), ((blk_cell HG.out 2).trans rfl), ((blk_cell HG.out 3).trans rfl), ((blk_cell HG.out 4).trans rfl), ((blk_cell HG.out 5).trans rfl)⟩ (fun hHeld => ?_)
    clear hK K
    refine norm_ (a' := ?_) ?_ ?_
    rotate_left
    ·show Act.put _ (some 5) _ = _
     simp only [PN]
     rfl
    exact norm_ (by simp only [putAll, PN]) (hCont w5.heap.size _ ⟨((blk_cell HG.out 0).trans rfl), ((blk_cell HG.out 1).trans rfl), ((blk_cell HG.out 2).trans rfl), ((blk_cell HG.out 3).trans rfl), ((blk_cell HG.out 4).trans rfl), ((blk_cell HG.out 5).trans rfl), HG.out, HP5.out, HPL.out, HBB.out⟩)
   ·skip
    have hba_ := below_alloc (Below.refl w4.heap.size w4) (.cells #[.int .i64 0, .slice none 0 0, .int .i64 0, .int .i64 0, .slice none 0 0] 68)
    replace HG := Aside0.mk (blk_below HG.out hba_)
    replace HBB := Aside0.mk (below_step HBB.out hba_)
    have HP5 := Aside0.mk (blk_new w4 (.cells #[.int .i64 0, .slice none 0 0, .int .i64 0, .int .i64 0, .slice none 0 0] 68))
    have HPL := Aside0.mk (show w1.drew.heap.size ≤ w4.heap.size from by have := HBL.out; exact this)
    clear hba_
    refine value_ (w1 := ?_) (v := ?_) (by rfl) rfl ?_ ?_
    rotate_left 2
    ·go_simp
     constructor
     ·rfl
     ·rfl
    refine hK.out _ _ ⟨((blk_cell HG.out 0).trans rfl), ((blk_cell HG.out 1).trans rfl), ((blk_cell HG.out 2).trans rfl), ((blk_cell HG.out 3).trans rfl), ((blk_cell HG.out 4).trans rfl), ((blk_cell HG.out 5).trans rfl)⟩ (fun hHeld => ?_)
    clear hK K
    refine norm_ (a' := ?_) ?_ ?_
    rotate_left
    ·show Act.put _ (some 5) _ = _
     simp only [PN]
     rfl
    refine one_ (i := 6) (N := some 28) #[Y,Y,Y,Y,Y,Y,Y,O,O,O,Y,O,O] rfl rfl (one_of HT_.out (by kernel_rfl)) (by decide) (fun K hK => ?_)
    refine goesF_ Tryz.func42 (by kernel_rfl) rfl #[.pointer (some ⟨gw, 0, none⟩), .agg #[.int .i64 2, .int .i64 0, .int .i64 0, .int .i64 0, .int .u8 0, .slice none 0 0]] (by rfl) (by rfl) rfl rfl (by (try simp only [List.map_toArray, List.map_cons, List.map_nil]); first | done | rfl) ?_
    refine (world.tick.calls gw (w4.alloc (.cells #[.int .i64 0, .slice none 0 0, .int .i64 0, .int .i64 0, .slice none 0 0] 68))).mono ?_
    rintro e w5 ⟨rfl, hb5⟩
    refine ⟨_, rfl, ?_⟩
    replace HG := Aside0.mk (blk_below HG.out hb5)
    replace HBB := Aside0.mk (below_step HBB.out hb5)
    replace HP5 := Aside0.mk (blk_below HP5.out hb5)
    have HBL := Aside0.mk HBB.out.size
    clear hb5
    refine hK.out _ _ ⟨((blk_cell HG.out 0).trans rfl), ((blk_cell HG.out 1).trans rfl), ((blk_cell HG.out 2).trans rfl), ((blk_cell HG.out 3).trans rfl), ((blk_cell HG.out 4).trans rfl), ((blk_cell HG.out 5).trans rfl)⟩ (fun hHeld => ?_)
    clear hK K
    refine norm_ (a' := ?_) ?_ ?_
    rotate_left
    ·show Act.put _ (some 28) _ = _
     simp only [PN]
     rfl
    refine pure_ (i := 7) (N := some 21) (v := ?_) (a' := ?_) #[Y,Y,Y,Y,Y,Y,Y,Y,O,O,Y,O,O] rfl rfl (any_of HT_.out (by kernel_rfl)) (fun _ _ _ h => h) (Or.inl ⟨by rfl, ?_⟩) ?_ ?_
    rotate_left
    ·intro w'
     go_simp
     with_reducible rfl
    rotate_left
    ·simp only [PN]
     rfl
    refine pure_ (i := 8) (N := some 29) (v := ?_) (a' := ?_) #[Y,Y,Y,Y,Y,Y,Y,Y,Y,O,Y,O,O] rfl rfl (any_of HT_.out (by kernel_rfl)) (fun _ _ _ h => h) (Or.inl ⟨by rfl, ?_⟩) ?_ ?_
    rotate_left
    ·intro w'
     go_simp
     with_reducible rfl
    rotate_left
    ·simp only [PN]
     rfl
    refine pure_ (i := 9) (N := some 30) (v := ?_) (a' := ?_) #[Y,Y,Y,Y,Y,Y,Y,Y,Y,Y,Y,O,O] rfl rfl (any_of HT_.out (by kernel_rfl)) (fun _ _ _ h => h) (Or.inl ⟨by rfl, ?_⟩) ?_ ?_
    rotate_left
    ·intro w'
     go_simp
     with_reducible rfl
    rotate_left
    ·simp only [PN]
     rfl
    exact norm_ (by simp only [putAll, PN]) (hCont w4.heap.size _ ⟨((blk_cell HG.out 0).trans rfl), ((blk_cell HG.out 1).trans rfl), ((blk_cell HG.out 2).trans rfl), ((blk_cell HG.out 3).trans rfl), ((blk_cell HG.out 4).trans rfl), ((blk_cell HG.out 5).trans rfl), HG.out, HP5.out, HPL.out, HBB.out⟩)
  ·skip
   have hba_ := below_alloc (Below.refl w1.drew.heap.size w1.drew) (.cells #[.int .i64 0, .slice none 0 0, .int .i64 0, .int .i64 0, .slice none 0 0] 68)
   replace HG := Aside0.mk (blk_below HG.out hba_)
   replace HBB := Aside0.mk (below_step HBB.out hba_)
   have HP5 := Aside0.mk (blk_new w1.drew (.cells #[.int .i64 0, .slice none 0 0, .int .i64 0, .int .i64 0, .slice none 0 0] 68))
   have HPL := Aside0.mk (show w1.drew.heap.size ≤ w1.drew.heap.size from by have := HBL.out; exact this)
   clear hba_
   refine value_ (w1 := ?_) (v := ?_) (by rfl) rfl ?_ ?_
   rotate_left 2
   ·go_simp
    constructor
    ·rfl
    ·rfl
   refine hK.out _ _ ⟨((blk_cell HG.out 0).trans rfl), ((blk_cell HG.out 1).trans rfl), ((blk_cell HG.out 2).trans rfl), ((blk_cell HG.out 3).trans rfl), ((blk_cell HG.out 4).trans rfl), ((blk_cell HG.out 5).trans rfl)⟩ (fun hHeld => ?_)
   clear hK K
   refine norm_ (a' := ?_) ?_ ?_
   rotate_left
   ·show Act.put _ (some 5) _ = _
    simp only [PN]
    rfl
   refine one_ (i := 0) (N := some 22) #[Y,Y,Y,O,Y,Y,O,O,O,O,Y,O,O] rfl rfl (one_of HT_.out (by kernel_rfl)) (by decide) (fun K hK => ?_)
   refine goes_ Tryz.func19 (by kernel_rfl) rfl #[] (by rfl) rfl rfl (by (try simp only [List.map_toArray, List.map_cons, List.map_nil]); first | done | rfl) ?_
   refine (world.events.calls (w1.drew.alloc (.cells #[.int .i64 0, .slice none 0 0, .int .i64 0, .int .i64 0, .slice none 0 0] 68))).mono ?_
   rintro e w4 ⟨rfl, hb4⟩
   refine ⟨_, rfl, ?_⟩
   replace HG := Aside0.mk (blk_below HG.out hb4)
   replace HBB := Aside0.mk (below_step HBB.out hb4)
   replace HP5 := Aside0.mk (blk_below HP5.out hb4)
   have HBL := Aside0.mk HBB.out.size
   clear hb4
   refine hK.out _ _ ⟨((blk_cell HG.out 0).trans rfl), ((blk_cell HG.out 1).trans rfl), ((blk_cell HG.out 2).trans rfl), ((blk_cell HG.out 3).trans rfl), ((blk_cell HG.out 4).trans rfl), ((blk_cell HG.out 5).trans rfl)⟩ (fun hHeld => ?_)
   clear hK K
   refine norm_ (a' := ?_) ?_ ?_
   rotate_left
   ·show Act.put _ (some 22) _ = _
    simp only [PN]
    rfl
   refine take_ (i := 3) (N := some 25) (v := ?_) (a' := ?_) #[Y,Y,Y,Y,Y,Y,O,O,O,O,Y,O,O] rfl rfl (take_ofW HT_.out HW_.out (by kernel_rfl)) (fun _ _ _ h => h) (Or.inl ⟨by rfl, ?_⟩) hHeld ?_ ?_
   rotate_left
   ·rintro w' ⟨s0, s1, s2, s3, s4, s5⟩
    go_simp
    with_reducible rfl
   rotate_left
   ·simp only [PN]
    rfl
   refine one_ (i := 6) (N := some 28) #[Y,Y,Y,Y,Y,Y,Y,O,O,O,Y,O,O] rfl rfl (one_of HT_.out (by kernel_rfl)) (by decide) (fun K hK => ?_)
   refine goesF_ Tryz.func42 (by kernel_rfl) rfl #[.pointer (some ⟨gw, 0, none⟩), .agg #[.int .i64 2, .int .i64 0, .int .i64 0, .int .i64 0, .int .u8 0, .slice none 0 0]] (by rfl) (by rfl) rfl rfl (by (try simp only [List.map_toArray, List.map_cons, List.map_nil]); first | done | rfl) ?_
   refine (world.tick.calls gw w4).mono ?_
   rintro e w5 ⟨rfl, hb5⟩
   refine ⟨_, rfl, ?_⟩
   replace HG := Aside0.mk (blk_below HG.out hb5)
   replace HBB := Aside0.mk (below_step HBB.out hb5)
   replace HP5 := Aside0.mk (blk_below HP5.out hb5)
   have HBL := Aside0.mk HBB.out.size
   clear hb5
   refine hK.out _ _ ⟨((blk_cell HG.out 0).trans rfl), ((blk_cell HG.out 1).trans rfl), ((blk_cell HG.out 2).trans rfl), ((blk_cell HG.out 3).trans rfl), ((blk_cell HG.out 4).trans rfl), ((blk_cell HG.out 5).trans rfl)⟩ (fun hHeld => ?_)
   clear hK K
   refine norm_ (a' := ?_) ?_ ?_
   rotate_left
   ·show Act.put _ (some 28) _ = _
    simp only [PN]
    rfl
   refine pure_ (i := 7) (N := some 21) (v := ?_) (a' := ?_) #[Y,Y,Y,Y,Y,Y,Y,Y,O,O,Y,O,O] rfl rfl (any_of HT_.out (by kernel_rfl)) (fun _ _ _ h => h) (Or.inl ⟨by rfl, ?_⟩) ?_ ?_
   rotate_left
   ·intro w'
    go_simp
    with_reducible rfl
   rotate_left
   ·simp only [PN]
    rfl
   refine pure_ (i := 8) (N := some 29) (v := ?_) (a' := ?_) #[Y,Y,Y,Y,Y,Y,Y,Y,Y,O,Y,O,O] rfl rfl (any_of HT_.out (by kernel_rfl)) (fun _ _ _ h => h) (Or.inl ⟨by rfl, ?_⟩) ?_ ?_
   rotate_left
   ·intro w'
    go_simp
    with_reducible rfl
   rotate_left
   ·simp only [PN]
    rfl
   refine pure_ (i := 9) (N := some 30) (v := ?_) (a' := ?_) #[Y,Y,Y,Y,Y,Y,Y,Y,Y,Y,Y,O,O] rfl rfl (any_of HT_.out (by kernel_rfl)) (fun _ _ _ h => h) (Or.inl ⟨by rfl, ?_⟩) ?_ ?_
   rotate_left
   ·intro w'
    go_simp
    with_reducible rfl
   rotate_left
   ·simp only [PN]
    rfl
   exact norm_ (by simp only [putAll, PN]) (hCont w1.heap.size _ ⟨((blk_cell HG.out 0).trans rfl), ((blk_cell HG.out 1).trans rfl), ((blk_cell HG.out 2).trans rfl), ((blk_cell HG.out 3).trans rfl), ((blk_cell HG.out 4).trans rfl), ((blk_cell HG.out 5).trans rfl), HG.out, HP5.out, HPL.out, HBB.out⟩)
 rintro p5 w7 ⟨h0, h1, h2, h3, h4, h5, hg7, hp7, hl7, hb7⟩
 have hHeld : w7.cell? ⟨gb, 0, none⟩ = some (.int .i64 2) ∧ w7.cell? ⟨gb, 1, none⟩ = some (.int .i64 0) ∧ w7.cell? ⟨gb, 2, none⟩ = some (.int .i64 0) ∧ w7.cell? ⟨gb, 3, none⟩ = some (.int .i64 0) ∧ w7.cell? ⟨gb, 4, none⟩ = some (.int .u8 0) ∧ w7.cell? ⟨gb, 5, none⟩ = some (.slice none 0 0) := ⟨h0, h1, h2, h3, h4, h5⟩
 have HG7 := Aside0.mk hg7
 have HP7 := Aside0.mk hp7
 have HL7 := Aside0.mk hl7
 have HB7 := Aside0.mk hb7
 have k0 : w7.cell? ⟨p5, 0, none⟩ = some (.int .i64 0) := (blk_cell hp7 0).trans rfl
 have k1 : w7.cell? ⟨p5, 1, none⟩ = some (.slice none 0 0) := (blk_cell hp7 1).trans rfl
 have k2 : w7.cell? ⟨p5, 2, none⟩ = some (.int .i64 0) := (blk_cell hp7 2).trans rfl
 have k3 : w7.cell? ⟨p5, 3, none⟩ = some (.int .i64 0) := (blk_cell hp7 3).trans rfl
 have k4 : w7.cell? ⟨p5, 4, none⟩ = some (.slice none 0 0) := (blk_cell hp7 4).trans rfl
 have f0 := blk_frozen hp7 0
 have f1 := blk_frozen hp7 1
 have f2 := blk_frozen hp7 2
 have f3 := blk_frozen hp7 3
 have f4 := blk_frozen hp7 4
 clear h0 h1 h2 h3 h4 h5 hg7 hp7 hl7 hb7
 refine norm_ (a' := ?_) ?_ ?_
 rotate_left
 ·simp only [putAll, PN]
  rfl
 refine last_ (i := 11) (N := none) #[Y,Y,Y,Y,Y,Y,Y,Y,Y,Y,Y,Y,O] rfl rfl (one_of HT_.out (by kernel_rfl)) (by decide) (fun K hK => ?_)
 refine skip_ (w1 := ?_) (by rfl) rfl ?_ ?_
 rotate_left
 ·go_simp
  rfl
 refine hK.out _ _ ?_
 clear hK K
 refine pure_ (i := 12) (N := some 6) (v := ?_) (a' := ?_) #[Y,Y,Y,Y,Y,Y,Y,Y,Y,Y,Y,Y,Y] rfl rfl (any_of HT_.out (by kernel_rfl)) (fun _ _ _ h => h) (Or.inl ⟨by rfl, ?_⟩) ?_ ?_
 rotate_left
 ·intro w'
  go_simp
  with_reducible rfl
 rotate_left
 ·simp only [PN]
  rfl
 refine done_ (done_of HT_.out (by kernel_rfl)) ?_
 have hg8 := ((((grown_set w7 p5 0 (.int .i64 2)).trans_row (grown_set _ p5 1 (.slice none 0 0))).trans_row (grown_set _ p5 2 (.int .i64 0))).trans_row (grown_set _ p5 3 (.int .i64 0))).trans_row (grown_set _ p5 4 (.slice none 0 0))
 have hp8 := blk_put (blk_put (blk_put (blk_put (blk_put HP7.out 0 (.int .i64 2) rfl) 1 (.slice none 0 0) rfl) 2 (.int .i64 0) rfl) 3 (.int .i64 0) rfl) 4 (.slice none 0 0) rfl
 have HP8 := Aside0.mk hp8
 have HBW7 := Aside0.mk (below_step (below_drew HB1.out) HB7.out)
 have HPG := Aside0.mk (show w.heap.size ≤ p5 ∧ gb < p5 from by have h1 := HB1.out.size; have h2 := HL7.out; have h3 := blk_lt (show w1.heap[gb]? = _ from HG1.out); have h4 : w1.drew.heap.size = w1.heap.size := rfl; omega)
 have HB8 := Aside0.mk (HBW7.out.trans (below_of_grown hg8 HPG.out.1 HBW7.out.size))
 have HG8 := Aside0.mk (blk_grown HG7.out hg8 (fun e => by injection e with e; have := HPG.out.2; omega))
 clear hHeld k0 k1 k2 k3 k4 f0 f1 f2 f3 f4 hg8 hp8 HP7 HG7 HL7 HB7 HBW7
 generalize ((((w7.setCell ⟨p5, 0, none⟩ (.int .i64 2)).setCell ⟨p5, 1, none⟩ (.slice none 0 0)).setCell ⟨p5, 2, none⟩ (.int .i64 0)).setCell ⟨p5, 3, none⟩ (.int .i64 0)).setCell ⟨p5, 4, none⟩ (.slice none 0 0) = w8 at HP8 HB8 HG8 ⊢
 have k0 : w8.cell? ⟨gb, 0, none⟩ = some (.int .i64 2) := (blk_cell HG8.out 0).trans rfl
 go_wp2
 have hdw := below_drew (Below.refl w8.heap.size w8)
 have HB9 := Aside0.mk (below_step HB8.out hdw)
 have HWV := Aside0.mk (H.out.wb.below HB9.out)
 have HSV := Aside0.mk (H.out.se.below HB9.out)
 have HKV := Aside0.mk (show Kf N0 DT (fun _ => True) w w8.drew from Kf.below HB9.out)
 have HPV := Aside0.mk (blk_below HP8.out hdw)
 clear k0 hdw HB8 HG8 HP8 HB9
 refine start_ (n := 11) (S := fun w' => w'.cell? ⟨gw, 0, none⟩ = some (.pointer (some ⟨gs, 0, none⟩)) ∧ w'.cell? ⟨p5, 0, none⟩ = some (.int .i64 2) ∧ w'.cell? ⟨p5, 1, none⟩ = some (.slice none 0 0) ∧ w'.cell? ⟨p5, 2, none⟩ = some (.int .i64 0) ∧ w'.cell? ⟨p5, 3, none⟩ = some (.int .i64 0) ∧ w'.cell? ⟨p5, 4, none⟩ = some (.slice none 0 0)) (ds := []) #[O,O,O,O,O,O,O,O,O,O,O] (by kernel_rfl) rfl rfl ⟨(by obtain ⟨At, ct, hb, _⟩ := HWV.out.blk; exact (blk_cell hb 0).trans rfl), ((blk_cell HPV.out 0).trans rfl), ((blk_cell HPV.out 1).trans rfl), ((blk_cell HPV.out 2).trans rfl), ((blk_cell HPV.out 3).trans rfl), ((blk_cell HPV.out 4).trans rfl)⟩ (fun hHeld => ?_)
 refine with_tabW WDO8.tab8 WDO8.bits8 (fun HT_ HW_ => ?_)
 refine pure_ (i := 0) (N := some 58) (v := ?_) (a' := ?_) #[Y,O,O,O,O,O,O,O,O,O,O] rfl rfl (any_of HT_.out (by kernel_rfl)) (fun _ _ _ h => h) (Or.inl ⟨by rfl, ?_⟩) ?_ ?_
 rotate_left
 ·intro w'
  go_simp
  with_reducible rfl
 rotate_left
 ·simp only [PN]
  rfl
 refine pure_ (i := 1) (N := some 59) (v := ?_) (a' := ?_) #[Y,Y,O,O,O,O,O,O,O,O,O] rfl rfl (any_of HT_.out (by kernel_rfl)) (fun _ _ _ h => h) (Or.inl ⟨by rfl, ?_⟩) ?_ ?_
 rotate_left
 ·intro w'
  go_simp
  with_reducible rfl
 rotate_left
 ·simp only [PN]
  rfl
 refine pure_ (i := 2) (N := some 60) (v := ?_) (a' := ?_) #[Y,Y,Y,O,O,O,O,O,O,O,O] rfl rfl (any_of HT_.out (by kernel_rfl)) (fun _ _ _ h => h) (Or.inl ⟨by rfl, ?_⟩) ?_ ?_
 rotate_left
 ·intro w'
  go_simp
  with_reducible rfl
 rotate_left
 ·simp only [PN]
  rfl
 refine take_ (i := 3) (N := some 61) (v := ?_) (a' := ?_) #[Y,Y,Y,Y,O,O,O,O,O,O,O] rfl rfl (take_ofW HT_.out HW_.out (by kernel_rfl)) (fun _ _ _ h => h) (Or.inl ⟨by rfl, ?_⟩) hHeld ?_ ?_
 rotate_left
 ·rintro w' ⟨s0, s1, s2, s3, s4, s5⟩
  go_simp
  with_reducible rfl
 rotate_left
 ·simp only [PN]
  rfl
 refine take_ (i := 4) (N := some 62) (v := ?_) (a' := ?_) #[Y,Y,Y,Y,Y,O,O,O,O,O,O] rfl rfl (take_ofW HT_.out HW_.out (by kernel_rfl)) (fun _ _ _ h => h) (Or.inl ⟨by rfl, ?_⟩) hHeld ?_ ?_
 rotate_left
 ·rintro w' ⟨s0, s1, s2, s3, s4, s5⟩
  go_simp
  with_reducible rfl
 rotate_left
 ·simp only [PN]
  rfl
 refine one_ (i := 5) (N := some 63) #[Y,Y,Y,Y,Y,Y,O,O,O,O,O] rfl rfl (one_of HT_.out (by kernel_rfl)) (by decide) (fun K hK => ?_)
 refine goes_ Tryz.func23 (by kernel_rfl) rfl #[.pointer (some ⟨gs, 0, none⟩), .agg #[.int .i64 2, .slice none 0 0, .int .i64 0, .int .i64 0, .slice none 0 0]] (by rfl) rfl rfl (by (try simp only [List.map_toArray, List.map_cons, List.map_nil]); first | done | rfl) ?_
 refine (service.Do.tick HSV.out (Nat.le_trans H.out.hN HKV.out.size) (H.out.hW.trans ((HKV.out.toBelow H.out.hN).mono H.out.hNW)) H.out.hNW H.out.inv HX.out.1 HX.out.2 (by have := HL.out; omega) (by have := HL.out; omega) (by have := HL.out; omega) (by have := HL.out; omega)).mono ?_
 rintro e wD ⟨vD, fD, suD, rowsD, rfl, hrD, hokD, hseD, ⟨hgoD, hlD⟩, hkD⟩
 refine ⟨_, rfl, ?_⟩
 obtain ⟨AD, cD, rfl⟩ := Kd.R_slice hrD
 have HRD := Aside0.mk hrD
 have HOD := Aside0.mk hokD
 have HSD := Aside0.mk hseD
 have HGO := Aside0.mk (And.intro hgoD hlD)
 have HWD := Aside0.mk (HWV.out.kf hkD (by decide) (fun h => h rfl))
 have HPD := Aside0.mk (hkD.blk HPV.out (by decide))
 have HKD := Aside0.mk (HKV.out.trans (hkD.mono (fun t ht => List.mem_append_left _ ht) (fun _ _ => trivial)))
 clear hrD hokD hseD hgoD hlD hkD
 refine hK.out _ _ ⟨(by obtain ⟨At, ct, hb, _⟩ := HWD.out.blk; exact (blk_cell hb 0).trans rfl), ((blk_cell HPD.out 0).trans rfl), ((blk_cell HPD.out 1).trans rfl), ((blk_cell HPD.out 2).trans rfl), ((blk_cell HPD.out 3).trans rfl), ((blk_cell HPD.out 4).trans rfl)⟩ (fun hHeld => ?_)
 clear hK K
 refine norm_ (a' := ?_) ?_ ?_
 rotate_left
 ·show Act.put _ (some 63) _ = _
  simp only [PN]
  rfl
 refine pure_ (i := 6) (N := some 57) (v := ?_) (a' := ?_) #[Y,Y,Y,Y,Y,Y,Y,O,O,O,O] rfl rfl (any_of HT_.out (by kernel_rfl)) (fun _ _ _ h => h) (Or.inl ⟨by rfl, ?_⟩) ?_ ?_
 rotate_left
 ·intro w'
  go_simp
  with_reducible rfl
 rotate_left
 ·simp only [PN]
  rfl
 refine pure_ (i := 7) (N := some 64) (v := ?_) (a' := ?_) #[Y,Y,Y,Y,Y,Y,Y,Y,O,O,O] rfl rfl (any_of HT_.out (by kernel_rfl)) (fun _ _ _ h => h) (Or.inl ⟨by rfl, ?_⟩) ?_ ?_
 rotate_left
 ·intro w'
  go_simp
  with_reducible rfl
 rotate_left
 ·simp only [PN]
  rfl
 refine pure_ (i := 8) (N := some 65) (v := ?_) (a' := ?_) #[Y,Y,Y,Y,Y,Y,Y,Y,Y,O,O] rfl rfl (any_of HT_.out (by kernel_rfl)) (fun _ _ _ h => h) (Or.inl ⟨by rfl, ?_⟩) ?_ ?_
 rotate_left
 ·intro w'
  go_simp
  with_reducible rfl
 rotate_left
 ·simp only [PN]
  rfl
 refine pure_ (i := 9) (N := some 7) (v := ?_) (a' := ?_) #[Y,Y,Y,Y,Y,Y,Y,Y,Y,Y,O] rfl rfl (any_of HT_.out (by kernel_rfl)) (fun _ _ _ h => h) (Or.inl ⟨by rfl, ?_⟩) ?_ ?_
 rotate_left
 ·intro w'
  go_simp
  with_reducible rfl
 rotate_left
 ·simp only [PN]
  rfl
 refine pure_ (i := 10) (N := some 8) (v := ?_) (a' := ?_) #[Y,Y,Y,Y,Y,Y,Y,Y,Y,Y,Y] rfl rfl (any_of HT_.out (by kernel_rfl)) (fun _ _ _ h => h) (Or.inl ⟨by rfl, ?_⟩) ?_ ?_
 rotate_left
 ·intro w'
  go_simp
  with_reducible rfl
 rotate_left
 ·simp only [PN]
  rfl
 refine done_ (done_of HT_.out (by kernel_rfl)) ?_
 clear hHeld HWV HSV HKV HPV HPD
 have HNO := Aside0.mk (world.note.calls (HWD.out.mono (show E ≤ E from by have := HL.out; omega) (Nat.le_refl _) (Nat.le_refl _)) HSD.out HRD.out HOD.out HGO.out.2 (Nat.le_trans H.out.hN HKD.out.size) (by have := H.out.inv.cnt; have := HL.out; omega) (by have := HL.out; omega) HGO.out.1.2.2 HGO.out.1.2.1)
 go_wp2_with fail
 refine HNO.out.mono ?_
 rintro e wE ⟨rfl, ⟨trE, hlE, hwE⟩, hkE⟩
 have HF := Aside0.mk (show WS w0 N0 wE gw gs gx gt gf mx gr gm P xs (now + 1) gv E fD suD trE from
  { se := (HSD.out.kf hkE (by decide) (fun _ h => h.elim)).mb (by omega)
    wb := hwE.mono (Nat.le_refl _) (by omega) (Nat.le_refl _)
    inv := by rw [hlE]; exact HGO.out.1.1
    hN := Nat.le_trans H.out.hN (HKD.out.trans (hkE.mono (Ts' := DT) (X' := fun _ => True) (fun t ht => List.mem_append_right _ ht) (fun _ _ => trivial))).size
    hW := H.out.hW.trans (((HKD.out.trans (hkE.mono (Ts' := DT) (X' := fun _ => True) (fun t ht => List.mem_append_right _ ht) (fun _ _ => trivial))).toBelow H.out.hN).mono H.out.hNW)
    hNW := H.out.hNW })
 have HKF := Aside0.mk (HKD.out.trans (hkE.mono (Ts' := DT) (X' := fun _ => True) (fun t ht => List.mem_append_right _ ht) (fun _ _ => trivial)))
 clear hlE hwE hkE HNO HRD HOD HSD HWD HKD
 go_wp2
 go_ret
 exact ⟨rfl, ⟨fD, suD, trE, HF.out⟩, HKF.out⟩
end
set_option maxRecDepth 100000 in
set_option maxHeartbeats 1000000 in
theorem world.New.calls {w : World} {P : PL} (hp : PlanOk (P.t : Int) (P.m : Int) P.b P.c) {A : Option Addr} {c : Nat} {es : List En} (h : kEn.C w A es.length es) (hl : es.length ≤ 24) (hk : EnOk 0 8 es) (hd : dok es = true) (xs : List Nd) : Calls Tryz.prog 8 #[plan (P.t : Int) (P.m : Int) P.b P.c P.ah P.rs P.kp, .slice A es.length c] w fun e w' => ∃ gw gs gx gt gf mx gr gm su, e = .returned (.pointer (some ⟨gw, 0, none⟩)) ∧ WS w w.heap.size w' gw gs gx gt gf mx gr gm P xs 0 0 0 (fun _ => (0, 0)) su [] ∧ Below w.heap.size w w' := by
 have HX := Aside0.mk h
 have HL := Aside0.mk (And.intro hl (And.intro hk hd))
 have HP := Aside0.mk hp
 have hmm := @run_makeMap Tryz.prog
 have hgp := blk_new w (.cells #[.int .i64 (P.t : Int), .int .i64 (P.m : Int), .int .i64 P.b, .int .i64 P.c, .bool P.ah, .int .i64 P.rs, .int .i64 P.kp] 26)
 have HB1 := Aside0.mk (below_alloc (Below.refl w.heap.size w) (.cells #[.int .i64 (P.t : Int), .int .i64 (P.m : Int), .int .i64 P.b, .int .i64 P.c, .bool P.ah, .int .i64 P.rs, .int .i64 P.kp] 26))
 have k0 : (w.alloc (.cells #[.int .i64 (P.t : Int), .int .i64 (P.m : Int), .int .i64 P.b, .int .i64 P.c, .bool P.ah, .int .i64 P.rs, .int .i64 P.kp] 26)).cell? ⟨w.heap.size, 0, none⟩ = some (.int .i64 (P.t : Int)) := (blk_cell hgp 0).trans rfl
 have k1 : (w.alloc (.cells #[.int .i64 (P.t : Int), .int .i64 (P.m : Int), .int .i64 P.b, .int .i64 P.c, .bool P.ah, .int .i64 P.rs, .int .i64 P.kp] 26)).cell? ⟨w.heap.size, 1, none⟩ = some (.int .i64 (P.m : Int)) := (blk_cell hgp 1).trans rfl
 have k2 : (w.alloc (.cells #[.int .i64 (P.t : Int), .int .i64 (P.m : Int), .int .i64 P.b, .int .i64 P.c, .bool P.ah, .int .i64 P.rs, .int .i64 P.kp] 26)).cell? ⟨w.heap.size, 2, none⟩ = some (.int .i64 P.b) := (blk_cell hgp 2).trans rfl
 have k3 : (w.alloc (.cells #[.int .i64 (P.t : Int), .int .i64 (P.m : Int), .int .i64 P.b, .int .i64 P.c, .bool P.ah, .int .i64 P.rs, .int .i64 P.kp] 26)).cell? ⟨w.heap.size, 3, none⟩ = some (.int .i64 P.c) := (blk_cell hgp 3).trans rfl
 have k4 : (w.alloc (.cells #[.int .i64 (P.t : Int), .int .i64 (P.m : Int), .int .i64 P.b, .int .i64 P.c, .bool P.ah, .int .i64 P.rs, .int .i64 P.kp] 26)).cell? ⟨w.heap.size, 4, none⟩ = some (.bool P.ah) := (blk_cell hgp 4).trans rfl
 have k5 : (w.alloc (.cells #[.int .i64 (P.t : Int), .int .i64 (P.m : Int), .int .i64 P.b, .int .i64 P.c, .bool P.ah, .int .i64 P.rs, .int .i64 P.kp] 26)).cell? ⟨w.heap.size, 5, none⟩ = some (.int .i64 P.rs) := (blk_cell hgp 5).trans rfl
 have k6 : (w.alloc (.cells #[.int .i64 (P.t : Int), .int .i64 (P.m : Int), .int .i64 P.b, .int .i64 P.c, .bool P.ah, .int .i64 P.rs, .int .i64 P.kp] 26)).cell? ⟨w.heap.size, 6, none⟩ = some (.int .i64 P.kp) := (blk_cell hgp 6).trans rfl
 clear h hl hk hd hp hgp
 go_enter Tryz.func8, Tryz.ntmps8
 go_wp2_with fail
 clear k0 k1 k2 k3 k4 k5 k6
 generalize w.alloc (.cells #[.int .i64 (P.t : Int), .int .i64 (P.m : Int), .int .i64 P.b, .int .i64 P.c, .bool P.ah, .int .i64 P.rs, .int .i64 P.kp] 26) = w1 at HB1 ⊢
 refine (service.New.calls (w0 := w) (N0 := w.heap.size) HP.out HB1.out.size xs).mono ?_
 rintro e w2 ⟨gs, gx, gt, gf, mx, rfl, hse, hb2, hgs⟩
 have HSE := Aside0.mk hse
 have HB2 := Aside0.mk (below_step HB1.out hb2)
 clear hse hb2 HB1
 go_wp2_with fail
 refine (stand.New.calls (Kd.C_below HX.out HB2.out) HL.out.1 HL.out.2.1 HL.out.2.2).mono ?_
 rintro e w4 ⟨gr, vl, rfl, hgr, hlr, hb4⟩
 have HGR := Aside0.mk (And.intro hgr hlr)
 have HB4 := Aside0.mk hb4
 clear hgr hlr hb4
 go_wp2
 go_ret
 have hb5 := below_alloc (Below.refl w4.heap.size w4) (.map #[] 0)
 have e5 : (w4.alloc (.map #[] 0)).heap.size = w4.heap.size + 1 := by simp
 have hb6 := below_alloc (Below.refl (w4.alloc (.map #[] 0)).heap.size (w4.alloc (.map #[] 0))) (.cells #[.pointer (some ⟨gs, 0, none⟩), .pointer (some ⟨gr, 0, none⟩), .map (some w4.heap.size), .slice none 0 0] 66)
 have hb56 := below_step hb5 hb6
 have hbA := below_step HB4.out hb56
 have hbF := below_step HB2.out hbA
 have hgw := blk_new (w4.alloc (.map #[] 0)) (.cells #[.pointer (some ⟨gs, 0, none⟩), .pointer (some ⟨gr, 0, none⟩), .map (some w4.heap.size), .slice none 0 0] 66)
 rw [e5] at hgw
 have hsz := HB2.out.size
 have hsz4 := HB4.out.size
 have hmv := (MV.new 3 w4).below hb6
 have hmx := HSE.out.im.lt
 have hse := HSE.out.below hbA
 have hfz := HSE.out.fz.grow (show Kf w.heap.size [] (fun _ => False) w2 _ from Kf.below hbA) (fun _ _ h => by cases h) (fun _ h => h.elim)
 have hlt := hmv.lt
 refine ⟨w4.heap.size + 1, gs, gx, gt, gf, mx, gr, w4.heap.size, (fun _ => .pointer none), rfl, ⟨?_, ?_, INV.start xs P.t, hbF.size, hbF, Nat.le_refl _⟩, hbF⟩
 ·exact { hse with
   fz := hfz.mono (fun k hk => by
    rcases hk with h | h
    ·exact .inl (.inl h)
    ·exact .inr (by rw [h]; exact ⟨by omega, hlt⟩)) (Nat.le_refl _)
   nz := fun h => by omega }
 ·exact ⟨⟨none, 0, hgw, Kd.R_nil _ _ _ _ _⟩, ⟨by have := HGR.out.2; omega, vl, _, none, 0, [], blk_below HGR.out.1 hb56, Kd.R_nil _ _ _ _ _, by simp⟩, ⟨0, _, hmv, by omega, fun k v h => by cases h⟩, (fun r h => by cases h), ⟨by omega, by omega⟩⟩
def TOK (E : Nat) (xs : List Nd) (r : List Value) : Prop := ∃ (id as_ at_ k : Int) (v : Value), r = [.int .i64 id, .int .i64 as_, .int .i64 at_, v, .int .i64 k, .slice none 0 0, .slice none 0 0] ∧ at_ ≤ (E : Int) ∧ (k = 4 ∨ k = 5 ∨ xs = []) ∧ (xs = [] → k = 1)
section
variable {w0 : World} {N0 : Nat} {w w' : World} {gw gs gr gm : Nat} {xs : List Nd} {E m s : Nat} {tr : List (List Value)}
set_option maxRecDepth 100000 in
set_option maxHeartbeats 1000000 in
theorem world.Told.calls (hB : WB w0 N0 w gw gs gr gm xs E m s tr) (hW : Below w0.heap.size w0 w) (hl6 : xs.length ≤ 6) (hs : ∀ x ∈ xs, x.2.length ≤ 1000) (htl : tr.length ≤ 1000) : Calls Tryz.prog 12 #[.pointer (some ⟨gw, 0, none⟩)] w fun e w' => ∃ A c rows', e = .returned (.slice A rows'.length c) ∧ rows'.length = tr.length ∧ (Kd.raw 7).R 51 w' w.heap.size (fun _ => True) (.slice A rows'.length c) rows' ∧ (∀ r ∈ rows', TOK E xs r) ∧ Below w.heap.size w w' := by
 obtain ⟨At, ct, hb, hr⟩ := hB.blk
 have HR := Aside0.mk hr
 have HT := Aside0.mk hB.td
 have HX := Aside0.mk (And.intro hW (And.intro hl6 (And.intro hs htl)))
 have k3 : w.cell? ⟨gw, 3, none⟩ = some (.slice At tr.length ct) := (blk_cell hb 3).trans rfl
 clear hB hW hl6 hs htl hb hr
 go_enter Tryz.func12, Tryz.ntmps12
 go_wp2
 clear k3
 go_loopw [3, 13] (fun ov iv wr => ∃ (i : Nat) (rs : List (List Value)), iv = .int .i64 (i : Int) ∧ i ≤ tr.length ∧ rs.length = i ∧ Aside0 ((Kd.raw 7).R 51 wr w.heap.size (fun _ => True) ov rs) ∧ Aside0 (∀ r ∈ rs, TOK E xs r) ∧ Aside0 (Below w.heap.size w wr)) (fun _ iv _ => ((tr.length : Int) - intOf iv).toNat)
 case atStart => exact ⟨0, [], rfl, by omega, rfl, ⟨Kd.R_nil _ _ _ _ _⟩, ⟨fun r h => by cases h⟩, ⟨Below.refl _ _⟩⟩
 case round =>
  obtain ⟨i, rs, rfl, hi, hri, HO, HK, HB⟩ := hrel
  obtain ⟨Ao, co, rfl⟩ := Kd.R_slice HO.out
  have htl := HX.out.2.2.2
  by_cases hlt : i < tr.length
  ·have q0 : decide ((i : Int) < (tr.length : Int)) = true := decide_eq_true (by omega)
   have u0 : (0 : Int) ≤ (i : Int) := by omega
   have u1 : (i : Int) < (tr.length : Int) := by omega
   have HA9 := Aside0.mk (show wrap64 ((i : Int) + 1) = (i : Int) + 1 from wrap_id (by omega) (by omega))
   obtain ⟨id, as_, at_, k, Av, cv, Ap, cp, ys, er, hat, hk, hko, hnr, hys⟩ := (HT.out _ (getD_mem tr [] i hlt)).kf (show Kf N0 [] (fun _ => False) w wr from Kf.below HB.out) (by simp)
   obtain ⟨ad, rfl, x0, x1, x2, x3, x4, x5, x6⟩ := at_Act7 (Kd.R_reads' (Kd.R_below HR.out HB.out)).2.2 i hlt er
   have HI := Aside0.mk (And.intro hlt (And.intro hri htl))
   have HTK := Aside0.mk (And.intro hat (And.intro hk hko))
   have HYS := Aside0.mk (show ys.length ≤ 6 ∧ ∀ x ∈ ys, x.2.length ≤ 1000 from by
    rcases hys with rfl | rfl
    ·exact ⟨HX.out.2.1, HX.out.2.2.1⟩
    ·exact ⟨by simp, fun x h => by cases h⟩)
   have hba := below_alloc (Below.refl wr.heap.size wr) (.cells #[.int .i64 id, .int .i64 as_, .int .i64 at_, .slice Av ys.length cv, .int .i64 k, .slice Ap 0 cp, .slice none 0 0] 51)
   have HN1 := Aside0.mk (Kd.C_below (kNm_read (HX.out.1.trans (HB.out.mono HX.out.1.size)) (Kd.R_reads' hnr).2.2) hba)
   have HO1 := Aside0.mk (Kd.R_below (Kd.R_mono (Kd.R_bound HO.out) (ok' := fun kk => kk < wr.heap.size) (fun kk hk => hk.2.2.1)) hba)
   have HB1 := Aside0.mk (below_step HB.out hba)
   have HG1 := Aside0.mk (blk_new wr (.cells #[.int .i64 id, .int .i64 as_, .int .i64 at_, .slice Av ys.length cv, .int .i64 k, .slice Ap 0 cp, .slice none 0 0] 51))
   have HLG := Aside0.mk (show w.heap.size ≤ wr.heap.size from HB.out.size)
   have c3 : (wr.alloc (.cells #[.int .i64 id, .int .i64 as_, .int .i64 at_, .slice Av ys.length cv, .int .i64 k, .slice Ap 0 cp, .slice none 0 0] 51)).cell? ⟨wr.heap.size, 3, none⟩ = some (.slice Av ys.length cv) := (blk_cell HG1.out 3).trans rfl
   clear hba hi hri er hat hk hko hnr hys HO HB htl
   go_wp2_with fail
   clear x0 x1 x2 x3 x4 x5 x6 c3
   generalize wr.alloc (.cells #[.int .i64 id, .int .i64 as_, .int .i64 at_, .slice Av ys.length cv, .int .i64 k, .slice Ap 0 cp, .slice none 0 0] 51) = w1 at HN1 HO1 HB1 HG1 ⊢
   generalize wr.heap.size = gb at HG1 HLG HO1 ⊢
   refine (need.Both.calls HN1.out (Below.refl _ _) HYS.out.1 HYS.out.2).mono ?_
   rintro e w2 ⟨v2, rfl, hr2, hb2⟩
   obtain ⟨An, cn, rfl⟩ := Kd.R_slice hr2
   have HO2 := Aside0.mk (Kd.R_below HO1.out hb2)
   have HB2 := Aside0.mk (below_step HB1.out hb2)
   have HG2 := Aside0.mk (blk_below HG1.out hb2)
   clear hr2 hb2 HN1 HO1 HB1 HG1
   have f3 := blk_frozen HG2.out 3
   have c3 : w2.cell? ⟨gb, 3, none⟩ = some (.slice Av ys.length cv) := (blk_cell HG2.out 3).trans rfl
   have g3 := grown_set w2 gb 3 (.slice An ys.length cn)
   have HO3 := Aside0.mk (Kd.R_grown HO2.out g3 (fun kk hk e => by injection e with e; subst e; exact Nat.lt_irrefl _ hk))
   have HB3 := Aside0.mk (HB2.out.trans (below_of_grown g3 HLG.out HB2.out.size))
   have HG3 := Aside0.mk (show (w2.setCell ⟨gb, 3, none⟩ (.slice An ys.length cn)).heap[gb]? = some (.cells #[.int .i64 id, .int .i64 as_, .int .i64 at_, .slice An ys.length cn, .int .i64 k, .slice Ap 0 cp, .slice none 0 0] 51 (0, 0)) from blk_put HG2.out 3 _ rfl)
   clear g3 HO2 HB2
   have e4 : (w2.setCell ⟨gb, 3, none⟩ (.slice An ys.length cn)).cell? ⟨gb, 4, none⟩ = some (.int .i64 k) := (blk_cell HG3.out 4).trans rfl
   have e5 : (w2.setCell ⟨gb, 3, none⟩ (.slice An ys.length cn)).cell? ⟨gb, 5, none⟩ = some (.slice Ap 0 cp) := (blk_cell HG3.out 5).trans rfl
   have e6 : (w2.setCell ⟨gb, 3, none⟩ (.slice An ys.length cn)).cell? ⟨gb, 6, none⟩ = some (.slice none 0 0) := (blk_cell HG3.out 6).trans rfl
   have e4' : w2.cell? ⟨gb, 4, none⟩ = some (.int .i64 k) := (blk_cell HG2.out 4).trans rfl
   have e5' : w2.cell? ⟨gb, 5, none⟩ = some (.slice Ap 0 cp) := (blk_cell HG2.out 5).trans rfl
   have e6' : w2.cell? ⟨gb, 6, none⟩ = some (.slice none 0 0) := (blk_cell HG2.out 6).trans rfl
   go_wp2_with fail
   clear e4 e5 e6 e4' e5' e6' c3 f3 HG2
   generalize w2.setCell ⟨gb, 3, none⟩ (.slice An ys.length cn) = w3 at HO3 HB3 HG3 ⊢
   refine (answer.Put.calls Ap cp k HTK.out.2.1 w3).mono ?_
   rintro e w4 ⟨A4, c4, rfl, hr4, hb4⟩
   have HR4 := Aside0.mk (Kd.R_reads' hr4).2.2
   have HO4 := Aside0.mk (Kd.R_below HO3.out hb4)
   have HB4 := Aside0.mk (below_step HB3.out hb4)
   have HG4 := Aside0.mk (blk_below HG3.out hb4)
   clear hr4 hb4 HO3 HB3 HG3
   go_wp2_with fail
   refine (answer.Read.calls k HTK.out.2.1 w4 HR4.out).mono ?_
   rintro e w5 ⟨rfl, hb5⟩
   have HO5 := Aside0.mk (Kd.R_below HO4.out hb5)
   have HB5 := Aside0.mk (below_step HB4.out hb5)
   have HG5 := Aside0.mk (blk_below HG4.out hb5)
   clear hb5 HO4 HB4 HG4 HR4
   have g6 := ((grown_set w5 gb 4 (.int .i64 k)).trans_row (grown_set _ gb 5 (.slice none 0 0))).trans_row (grown_set _ gb 6 (.slice none 0 0))
   have hp6 := blk_put (blk_put (blk_put HG5.out 4 (.int .i64 k) rfl) 5 (.slice none 0 0) rfl) 6 (.slice none 0 0) rfl
   have HG6 := Aside0.mk hp6
   have HB6 := Aside0.mk (HB5.out.trans (below_of_grown g6 HLG.out HB5.out.size))
   have HO6 := Aside0.mk (Kd.R_mono (Kd.R_grown HO5.out g6 (fun kk hk e => by injection e with e; subst e; exact Nat.lt_irrefl _ hk)) (ok' := fun _ => True) (fun _ _ => trivial))
   have e4 : w5.cell? ⟨gb, 4, none⟩ = some (.int .i64 k) := (blk_cell HG5.out 4).trans rfl
   have e5 : w5.cell? ⟨gb, 5, none⟩ = some (.slice Ap 0 cp) := (blk_cell HG5.out 5).trans rfl
   have e6 : w5.cell? ⟨gb, 6, none⟩ = some (.slice none 0 0) := (blk_cell HG5.out 6).trans rfl
   have f4 := blk_frozen HG5.out 4
   have f5 := blk_frozen HG5.out 5
   have f6 := blk_frozen HG5.out 6
   clear g6 hp6 HO5 HB5
   go_upto_region 9 with fail
   clear e4 e5 e6 f4 f5 f6 HG5
   generalize ((w5.setCell ⟨gb, 4, none⟩ (.int .i64 k)).setCell ⟨gb, 5, none⟩ (.slice none 0 0)).setCell ⟨gb, 6, none⟩ (.slice none 0 0) = w6 at HO6 HB6 HG6 ⊢
   have e0 : w6.cell? ⟨gb, 0, none⟩ = some (.int .i64 id) := (blk_cell HG6.out 0).trans rfl
   have e1 : w6.cell? ⟨gb, 1, none⟩ = some (.int .i64 as_) := (blk_cell HG6.out 1).trans rfl
   have e2 : w6.cell? ⟨gb, 2, none⟩ = some (.int .i64 at_) := (blk_cell HG6.out 2).trans rfl
   have e3 : w6.cell? ⟨gb, 3, none⟩ = some (.slice An ys.length cn) := (blk_cell HG6.out 3).trans rfl
   have e4 : w6.cell? ⟨gb, 4, none⟩ = some (.int .i64 k) := (blk_cell HG6.out 4).trans rfl
   have e5 : w6.cell? ⟨gb, 5, none⟩ = some (.slice none 0 0) := (blk_cell HG6.out 5).trans rfl
   have e6 : w6.cell? ⟨gb, 6, none⟩ = some (.slice none 0 0) := (blk_cell HG6.out 6).trans rfl
   have HLE := Aside0.mk (show rs.length ≤ 1000 from by have := HI.out; omega)
   go_wp2_with (first | ((with_reducible refine gate_builtin (b := .append) (xs := #[.tmp 29, .tmp 31]) rfl ?_); at_builtin; refine Kd.R_append (Kd.raw 7) (w0 := w) (w.heap.size) rfl (.tmp 29) (.tmp 31) 44 51 (.agg #[.int .i64 0, .int .i64 0, .int .i64 0, .slice none 0 0, .int .i64 0, .slice none 0 0, .slice none 0 0]) 104 rfl Tryz.underlying44 infoTold rfl (by decide) (by omega) (.slice Ao rs.length co) (rs) ([.int .i64 id, .int .i64 as_, .int .i64 at_, .slice An ys.length cn, .int .i64 k, .slice none 0 0, .slice none 0 0]) [.int .i64 id, .int .i64 as_, .int .i64 at_, .slice An ys.length cn, .int .i64 k, .slice none 0 0, .slice none 0 0] (fun _ => True) (fun _ => False) rfl rfl ⟨rfl, rfl, by intro u hu; simp only [List.mem_cons, List.not_mem_nil, or_false] at hu; rcases hu with rfl | rfl | rfl | rfl | rfl | rfl | rfl <;> rfl⟩ (fun _ hk => hk.elim) (fun _ _ => trivial) HO6.out HB6.out HB6.out.size (by have := HLE.out; omega) ?_; intro v9 w9 hr9 hb9 hg9 hat9; have n0_ := Aside0.mk hr9; have n1_ := Aside0.mk hb9; clear HO6 HB6 hr9 hb9 hg9 hat9))
   have HN := Aside0.mk (show ∀ r ∈ rs ++ [([.int .i64 id, .int .i64 as_, .int .i64 at_, .slice An ys.length cn, .int .i64 k, .slice none 0 0, .slice none 0 0] : List Value)], TOK E xs r from fun r hr => by
    rcases List.mem_append.1 hr with h | h
    ·exact HK.out r h
    ·rw [List.mem_singleton.1 h]
     exact ⟨id, as_, at_, k, _, rfl, HTK.out.1, HTK.out.2.2.1, HTK.out.2.2.2⟩)
   have HLN := Aside0.mk (show (rs ++ [([.int .i64 id, .int .i64 as_, .int .i64 at_, .slice An ys.length cn, .int .i64 k, .slice none 0 0, .slice none 0 0] : List Value)]).length = i + 1 from by have := HI.out; simp; omega)
   have a9 := HA9.out
   have hlt := HI.out.1
   go_roundw
   case rel => exact ⟨i + 1, _, by go_num, hlt, HLN.out, n0_, HN, n1_⟩
   case measure => first | (rw [a9]; exact meas _ _ hlt) | exact meas _ _ hlt
  ·have q0 : decide ((i : Int) < (tr.length : Int)) = false := decide_eq_false (by omega)
   have HE := Aside0.mk (show rs.length = tr.length by omega)
   go_wp2
   go_ret
   exact ⟨Ao, co, rs, rfl, HE.out, HO.out, HK.out, HB.out⟩
end
set_option maxRecDepth 100000 in
set_option maxHeartbeats 1000000 in
theorem awake.calls (w : World) : Calls Tryz.prog 7 #[] w fun e w' => e = .returned (.bool true) ∧ Below w.heap.size w w' := by
 go_enter Tryz.func7, Tryz.ntmps7
 go_wp2_with fail
 refine (world.New.calls (P := ⟨1, 1, 0, 0, false, 0, 0⟩) (show PlanOk 1 1 0 0 by decide) (A := none) (c := 0) (es := []) (Kd.C_nil _ _) (by simp) trivial rfl []).mono ?_
 rintro e w1 ⟨gw, gs, gx, gt, gf, mx, gr, gm, su, rfl, hws, hb1⟩
 have H1 := Aside0.mk hws
 clear hws hb1
 go_wp2_with fail
 refine (world.Do.ask H1.out (A := none) (c := 0) (ticks := 0) (E' := 0) (Kd.C_nil _ _) (by simp) trivial (by omega) (by omega) (by omega) (by omega) (fun h => absurd rfl h) (by omega)).mono ?_
 rintro e w2 ⟨rfl, ⟨f2, su2, tr2, hws2⟩, _⟩
 have H2 := Aside0.mk hws2
 have hlen : tr2.length = 1 := by
  have h1 := hws2.inv.cnt
  have h2 := taken_zero f2 ((1 : Nat) : Int) 1 (fun j hj => hws2.inv.nl rfl j (by omega))
  have h3 : (taken f2 ((1 : Nat) : Int) 1).length = 0 := by rw [h2]; rfl
  have h4 : tr2.length + (taken f2 ((1 : Nat) : Int) 1).length = 0 + 1 := h1
  omega
 have HLEN := Aside0.mk hlen
 clear hws2 H1 hlen
 go_wp2_with fail
 refine (world.Told.calls H2.out.wb H2.out.hW (by simp) (fun x h => by cases h) (by have := HLEN.out; omega)).mono ?_
 rintro e w3 ⟨A3, c3, rows, rfl, hl3, hr3, hk3, hb3⟩
 have HB := Aside0.mk (below_go H2.out.hW (hb3.mono H2.out.hN))
 have h1 : rows.length = 1 := hl3.trans HLEN.out
 obtain ⟨id, as_, at_, k, v, er, _, _, hk⟩ := hk3 _ (getD_mem rows [] 0 (by omega))
 obtain rfl := hk rfl
 obtain ⟨ad, rfl, x0, x1, x2, x3, x4, x5, x6⟩ := at_Act7 (Kd.R_reads' hr3).2.2 0 (by omega) er
 rw [h1]
 clear hl3 hr3 hk3 hb3 H2 HLEN er h1 hk
 have y4 : w3.cell? ⟨ad.block, ad.off + 4, none⟩ = some (.int .i64 1) := x4
 have y5 : w3.cell? ⟨ad.block, ad.off + 5, none⟩ = some (.slice none 0 0) := x5
 go_wp2
 go_ret
 exact ⟨rfl, HB.out⟩
theorem nm_lit (j : Nat) (h : j < 8) : nm j = ⟨#[UInt8.ofNat (97 + j)]⟩ := by
 rcases (show j = 0 ∨ j = 1 ∨ j = 2 ∨ j = 3 ∨ j = 4 ∨ j = 5 ∨ j = 6 ∨ j = 7 by omega) with rfl | rfl | rfl | rfl | rfl | rfl | rfl | rfl <;> rfl
section
variable {b : UInt8}
set_option maxRecDepth 100000 in
theorem ref03.Rune.calls (h : b.toNat < 128) (w : World) : Calls Tryz.prog 83 #[.string ⟨#[b]⟩, .int .i64 0] w fun e w' => e = .returned (.tuple #[.int .i64 (b.toNat : Int), .int .i64 1]) ∧ w' = w := by
 have q0 : decide ((b.toNat : Int) < 128) = true := decide_eq_true (by omega)
 have q1 : wrap64 (b.toNat : Int) = (b.toNat : Int) := wrap_id (by omega) (by omega)
 have hz : (⟨#[b]⟩ : ByteArray).size = 1 := rfl
 have hg : (⟨#[b]⟩ : ByteArray)[0]'(by rw [hz]; exact Nat.one_pos) = b := rfl
 go_enter Tryz.func83, Tryz.ntmps83
 go_wp2
 go_ret2
 exact ⟨rfl, rfl⟩
theorem ref03.Kind.calls (h0 : 97 ≤ b.toNat) (h1 : b.toNat ≤ 122) (w : World) : Calls Tryz.prog 34 #[.int .i64 (b.toNat : Int)] w fun e w' => e = .returned (.int .i64 0) ∧ w' = w := by
 have q0 : decide ((97 : Int) ≤ (b.toNat : Int)) = true := decide_eq_true (by omega)
 have q1 : decide ((b.toNat : Int) ≤ 122) = true := decide_eq_true (by omega)
 go_enter Tryz.func34, Tryz.ntmps34
 go_wp2
 go_ret
 exact ⟨rfl, rfl⟩
set_option maxRecDepth 100000 in
set_option maxHeartbeats 4000000 in
theorem ref03.Runes.calls (h : b.toNat < 128) (w : World) : Calls Tryz.prog 33 #[.string ⟨#[b]⟩] w fun e w' => ∃ A c, e = .returned (.slice A 1 c) ∧ (Kd.int .i64).C w' A 1 [(b.toNat : Int)] ∧ Below w.heap.size w w' := by
 have HH := Aside0.mk h
 have hz : (⟨#[b]⟩ : ByteArray).size = 1 := rfl
 clear h
 go_enter Tryz.func33, Tryz.ntmps33
 go_wp2
 go_loopw [3, 4] (fun ov iv wr => (iv = .int .i64 0 ∧ ov = .slice none 0 0 ∧ Aside0 (wr = w)) ∨ (iv = .int .i64 1 ∧ ∃ A c, ov = .slice A 1 c ∧ Aside0 ((Kd.int .i64).C wr A 1 [(b.toNat : Int)]) ∧ Aside0 (Below w.heap.size w wr))) (fun _ iv _ => (1 - intOf iv).toNat)
 case atStart => exact .inl ⟨rfl, rfl, ⟨rfl⟩⟩
 case round =>
  rcases hrel with ⟨rfl, rfl, HW⟩ | ⟨rfl, A, c, rfl, HR, HB⟩
  ·have hw := HW.out
   subst hw
   go_wp2_with fail
   refine (ref03.Rune.calls HH.out wr).mono ?_
   rintro e w4 ⟨rfl, rfl⟩
   go_wp2_with (first | ((with_reducible refine gate_builtin (b := .append) (xs := #[.tmp 17, .tmp 19]) rfl ?_); at_builtin; refine Kd.R_append (Kd.int .i64) (w0 := w4) (w4.heap.size) rfl (.tmp 17) (.tmp 19) 42 3 (.int .i64 0) 8 rfl Tryz.underlying42 infoInt rfl (by decide) (by omega) (.slice none 0 0) (([] : List Int)) ((b.toNat : Int)) [.int .i64 (b.toNat : Int)] (fun _ => True) (fun _ => False) rfl rfl rfl (fun _ hk => hk.elim) (fun _ _ => trivial) (Kd.R_nil _ _ _ _ _) (Below.refl w4.heap.size w4) (Nat.le_refl _) (by simp) ?_; intro v9 w9 hr9 hb9 hg9 hat9; have n0_ := Aside0.mk hr9; have n1_ := Aside0.mk hb9; clear hr9 hb9 hg9 hat9))
   obtain ⟨A9, c9, rfl⟩ := Kd.R_slice n0_.out
   go_wp2
   go_roundw
   case rel => exact .inr ⟨rfl, A9, c9, rfl, ⟨(Kd.R_reads' n0_.out).2.2⟩, n1_⟩
   case measure => decide
  ·go_wp2
   go_ret
   exact ⟨A, c, rfl, HR.out, HB.out⟩
set_option maxRecDepth 100000 in
set_option maxHeartbeats 4000000 in
theorem ref03.Fit.calls (h0 : 97 ≤ b.toNat) (h1 : b.toNat ≤ 122) (w : World) : Calls Tryz.prog 16 #[.string ⟨#[b]⟩] w fun e w' => e = .returned (.bool true) ∧ Below w.heap.size w w' := by
 have HH := Aside0.mk (And.intro h0 h1)
 have hz : (⟨#[b]⟩ : ByteArray).size = 1 := rfl
 clear h0 h1
 go_enter Tryz.func16, Tryz.ntmps16
 go_wp2_with fail
 refine (ref03.Runes.calls (by have := HH.out; omega) w).mono ?_
 rintro e w4 ⟨A, c, rfl, hr, hb⟩
 have HR := Aside0.mk hr
 have HB := Aside0.mk hb
 clear hr hb
 obtain ⟨ad, rfl, k0⟩ := Kd.at_int HR.out (0 : Int) (by omega) (by omega)
 go_wp2
 go_loopw [4] (fun iv wr => (iv = .int .i64 0 ∨ iv = .int .i64 1) ∧ wr = w4) (fun iv _ => (1 - intOf iv).toNat)
 case atStart => exact ⟨.inl rfl, rfl⟩
 case round =>
  obtain ⟨rfl | rfl, rfl⟩ := hrel
  ·have k1 : wr.cell? ad = some (.int .i64 (b.toNat : Int)) := (congrArg wr.cell? (show ad = ad.add (0 : Int).toNat from (if_pos rfl).symm)).trans k0
   clear k0
   go_wp2_with fail
   refine (ref03.Kind.calls HH.out.1 HH.out.2 wr).mono ?_
   rintro e w5 ⟨rfl, rfl⟩
   go_wp2_with fail
   refine (ref03.Kind.calls HH.out.1 HH.out.2 w5).mono ?_
   rintro e w6 ⟨rfl, rfl⟩
   go_wp2
   go_roundw
   case rel => exact ⟨.inr rfl, by first | trivial | rfl⟩
   case measure => decide
  ·go_wp2
   go_ret
   exact ⟨rfl, HB.out⟩
end
theorem nm_after1 (j k : Nat) (h1 : k < j) (h : j < 8) : Op.bytesLess (nm j).toList (nm k).toList = false ∧ ((nm j).toList == (nm k).toList) = false ∧ ¬ (nm j).toList = (nm k).toList := nm_after j j (nm k) (Nat.le_refl _) h (.inr ⟨k, h1, rfl⟩)
theorem EnOk_two : ∀ (xs : List En) (lo : Nat), EnOk lo 8 xs → ∀ k, k + 1 < xs.length → ∃ i j, i < j ∧ j < 8 ∧ (xs.getD k zEn).1 = nm i ∧ (xs.getD (k + 1) zEn).1 = nm j
 | [], _, _, k, hk => absurd hk (by simp)
 | [_], _, _, k, hk => absurd hk (by simp)
 | x :: y :: r, lo, ⟨i, h1, h2, h3, j, h4, h5, h6, h7⟩, 0, _ => ⟨i, j, h4, h5, h3, h6⟩
 | x :: y :: r, lo, ⟨i, h1, h2, h3, h6⟩, k + 1, hk => by
  have := EnOk_two (y :: r) (i + 1) h6 k (by simp at hk ⊢; omega)
  simpa using this
def RF12.T4 : Bool × List (List Nat × List Nat) := (true, [([], []), ([], []), ([0, 1], [0, 1]), ([2], [2]), ([3], [3]), ([4], [4]), ([5], [5]), ([6, 5], [6]), ([7], [7]), ([7], [7]), ([8, 9, 7], [7, 8, 9]), ([10, 7], [7, 10]), ([11, 7], [7, 11]), ([12, 7], [7, 12]), ([13, 7], [7, 13]), ([7, 14], [7, 14]), ([15, 7], [15]), ([16], [16]), ([17, 16], [16, 17]), ([18, 16, 16], [16, 18]), ([19], [19]), ([19], [19]), ([20, 21, 19], [19, 20, 21]), ([22, 19], [19, 22]), ([23, 19], [19, 23]), ([19], [19]), ([19], [19]), ([26, 19], [19, 26]), ([25, 27, 19], [19, 25, 27]), ([28, 19], [19, 28]), ([29, 19], [19, 29]), ([24, 30, 19], [19, 24, 30]), ([19, 31, 16], [16, 19, 31]), ([16, 32], [16, 32])])
def RF12.B4 : List Nat := [0, 0, 3, 7, 15, 31, 63, 127, 255, 255, 1023, 2047, 4095, 8191, 16383, 32767, 65535, 131071, 262143, 524287, 1048575, 1048575, 4194303, 8388607, 16777215, 1048575, 1048575, 68157439, 235929599, 504365055, 1041235967, 2147483647, 4294967295, 8589934591]
theorem RF12.tab4 : rtab .any (opsOf Tryz.f6 4) = RF12.T4 := by kernel_rfl
theorem RF12.bits4 : waitsOk RF12.T4.2 RF12.B4 = true := by kernel_rfl
set_option maxRecDepth 100000 in
set_option maxHeartbeats 8000000 in
theorem ref12.Check.calls {w : World} {A : Option Addr} {c : Nat} {xs : List En} (h : kEn.C w A xs.length xs) (hl : xs.length ≤ 24) (hk : EnOk 0 8 xs) (hd : dok xs = true) : Calls Tryz.prog 6 #[.slice A xs.length c] w fun e w' => e = .returned (.bool true) ∧ Below w.heap.size w w' := by
 have H := Aside0.mk h
 have HL := Aside0.mk hl
 have HK := Aside0.mk hk
 have HD := Aside0.mk (show ∀ i, i < xs.length → (xs.getD i zEn).2.length ≤ 8192 from fun i hi => by
  unfold dok at hd
  rw [List.all_eq_true] at hd
  exact of_decide_eq_true (hd _ (getD_mem xs zEn i hi)))
 clear h hl hk hd
 go_enter Tryz.func6, Tryz.ntmps6
 go_wp2
 go_loopw [3] (fun iv wr => ∃ i : Nat, iv = .int .i64 (i : Int) ∧ i ≤ xs.length ∧ Aside0 (Below w.heap.size w wr)) (fun iv _ => ((xs.length : Int) - intOf iv).toNat)
 case atStart => exact ⟨0, rfl, by omega, ⟨Below.refl _ _⟩⟩
 case round =>
  obtain ⟨i, rfl, hi, HB⟩ := hrel
  have hll := HL.out
  by_cases hlt : i < xs.length
  ·have q0 : decide ((i : Int) < (xs.length : Int)) = true := decide_eq_true (by omega)
   have u0 : (0 : Int) ≤ (i : Int) := by omega
   have u1 : (i : Int) < (xs.length : Int) := by omega
   by_cases hi0 : i = 0
   ·obtain ⟨ad, A1, c1, rfl, k0, k1, hlc, hcs⟩ := at_En (Kd.C_below H.out HB.out) i hlt
    have hz := HD.out i hlt
    obtain ⟨jx, hj8, hjx⟩ := EnOk_at xs 0 HK.out i hlt
    generalize xs.getD i zEn = x at k0 k1 hz hjx hlc hcs
    have HX := Aside0.mk (show (97 ≤ (UInt8.ofNat (97 + jx)).toNat ∧ (UInt8.ofNat (97 + jx)).toNat ≤ 122) ∧ x.1 = ⟨#[UInt8.ofNat (97 + jx)]⟩ from ⟨by
     rw [UInt8.toNat_ofNat']
     omega, by rw [hjx, nm_lit jx hj8]⟩)
    have q1 : decide (8192 < (x.2.length : Int)) = false := decide_eq_false (by omega)
    have q1n : decide (8192 < x.2.length) = false := decide_eq_false (by omega)
    have q2 : decide ((0 : Int) < (i : Int)) = false := decide_eq_false (by omega)
    have q3 : decide (0 < i) = false := decide_eq_false (by omega)
    have HI := Aside0.mk (Nat.succ_le_of_lt hlt)
    have HA9 := Aside0.mk (show wrap64 ((i : Int) + 1) = (i : Int) + 1 from wrap_id (by omega) (by omega))
    clear hz hjx hj8 hlc hcs hi0
    go_wp2
    have HA := Aside0.mk (show wr.drew.cell? _ = _ ∧ wr.drew.cell? _ = _ from ⟨k0, k1⟩)
    clear k0 k1
    refine start_ (n := 34) (S := fun w' => w'.cell? (ad.add (i * 2)) = some (.string x.1) ∧ w'.cell? ⟨(ad.add (i * 2)).block, (ad.add (i * 2)).off + 1, none⟩ = some (.slice A1 x.2.length c1)) (ds := []) #[O,O,O,O,O,O,O,O,O,O,O,O,O,O,O,O,O,O,O,O,O,O,O,O,O,O,O,O,O,O,O,O,O,O] (by kernel_rfl) rfl rfl ⟨HA.out.1, HA.out.2⟩ (fun hHeld => ?_)
    refine with_tabW RF12.tab4 RF12.bits4 (fun HT_ HW_ => ?_)
    refine pure_ (i := 0) (N := some 10) (v := ?_) (a' := ?_) #[Y,O,O,O,O,O,O,O,O,O,O,O,O,O,O,O,O,O,O,O,O,O,O,O,O,O,O,O,O,O,O,O,O,O] rfl rfl (any_of HT_.out (by kernel_rfl)) (fun _ _ _ h => h) (Or.inl ⟨by rfl, ?_⟩) ?_ ?_
    rotate_left
    ·intro w'
     go_simp
     with_reducible rfl
    rotate_left
    ·simp only [PN]
     rfl
    refine pure_ (i := 1) (N := some 11) (v := ?_) (a' := ?_) #[Y,Y,O,O,O,O,O,O,O,O,O,O,O,O,O,O,O,O,O,O,O,O,O,O,O,O,O,O,O,O,O,O,O,O] rfl rfl (any_of HT_.out (by kernel_rfl)) (fun _ _ _ h => h) (Or.inl ⟨by rfl, ?_⟩) ?_ ?_
    rotate_left
    ·intro w'
     go_simp
     with_reducible rfl
    rotate_left
    ·simp only [PN]
     rfl
    refine pure_ (i := 2) (N := some 12) (v := ?_) (a' := ?_) #[Y,Y,Y,O,O,O,O,O,O,O,O,O,O,O,O,O,O,O,O,O,O,O,O,O,O,O,O,O,O,O,O,O,O,O] rfl rfl (any_of HT_.out (by kernel_rfl)) (fun _ _ _ h => h) (Or.inl ⟨by rfl, ?_⟩) ?_ ?_
    rotate_left
    ·intro w'
     go_simp
     with_reducible rfl
    rotate_left
    ·simp only [PN]
     rfl
    refine pure_ (i := 3) (N := some 13) (v := ?_) (a' := ?_) #[Y,Y,Y,Y,O,O,O,O,O,O,O,O,O,O,O,O,O,O,O,O,O,O,O,O,O,O,O,O,O,O,O,O,O,O] rfl rfl (any_of HT_.out (by kernel_rfl)) (fun _ _ _ h => h) (Or.inl ⟨by rfl, ?_⟩) ?_ ?_
    rotate_left
    ·intro w'
     go_simp
     with_reducible rfl
    rotate_left
    ·simp only [PN]
     rfl
    refine take_ (i := 4) (N := some 14) (v := ?_) (a' := ?_) #[Y,Y,Y,Y,Y,O,O,O,O,O,O,O,O,O,O,O,O,O,O,O,O,O,O,O,O,O,O,O,O,O,O,O,O,O] rfl rfl (take_ofW HT_.out HW_.out (by kernel_rfl)) (fun _ _ _ h => h) (Or.inl ⟨by rfl, ?_⟩) hHeld ?_ ?_
    rotate_left
    ·rintro w' ⟨s0, s1⟩
     go_simp
     with_reducible rfl
    rotate_left
    ·simp only [PN]
     rfl
    refine one_ (i := 5) (N := some 15) #[Y,Y,Y,Y,Y,Y,O,O,O,O,O,O,O,O,O,O,O,O,O,O,O,O,O,O,O,O,O,O,O,O,O,O,O,O] rfl rfl (one_of HT_.out (by kernel_rfl)) (by decide) (fun K hK => ?_)
    refine goes_ Tryz.func16 (by kernel_rfl) rfl #[.string x.1] (by rfl) rfl rfl (by (try simp only [List.map_toArray, List.map_cons, List.map_nil]); first | done | rfl) ?_
    refine ((show Calls Tryz.prog 16 #[.string x.1] _ _ from by rw [HX.out.2]; exact ref03.Fit.calls HX.out.1.1 HX.out.1.2 _)).mono ?_
    rintro e w5 ⟨rfl, hb5⟩
    refine ⟨_, rfl, ?_⟩
    have HB5 := Aside0.mk (below_go (below_drew (Below.refl wr.heap.size wr)) hb5)
    have HC5 := Aside0.mk (And.intro ((hb5.cell (World.block_lt_of_cell? _ _ HA.out.1)).trans HA.out.1) ((hb5.cell (World.block_lt_of_cell? _ _ HA.out.2)).trans HA.out.2))
    clear hb5
    refine hK.out _ _ ⟨HC5.out.1, HC5.out.2⟩ (fun hHeld => ?_)
    clear hK K
    refine norm_ (a' := ?_) ?_ ?_
    rotate_left
    ·show Act.put _ (some 15) _ = _
     simp only [PN]
     rfl
    refine pure_ (i := 6) (N := some 16) (v := ?_) (a' := ?_) #[Y,Y,Y,Y,Y,Y,Y,O,O,O,O,O,O,O,O,O,O,O,O,O,O,O,O,O,O,O,O,O,O,O,O,O,O,O] rfl rfl (any_of HT_.out (by kernel_rfl)) (fun _ _ _ h => h) (Or.inl ⟨by rfl, ?_⟩) ?_ ?_
    rotate_left
    ·intro w'
     go_simp
     with_reducible rfl
    rotate_left
    ·simp only [PN]
     rfl
    refine pure_ (i := 7) (N := some 17) (v := ?_) (a' := ?_) #[Y,Y,Y,Y,Y,Y,Y,Y,O,O,O,O,O,O,O,O,O,O,O,O,O,O,O,O,O,O,O,O,O,O,O,O,O,O] rfl rfl (any_of HT_.out (by kernel_rfl)) (fun _ _ _ h => h) (Or.inl ⟨by rfl, ?_⟩) ?_ ?_
    rotate_left
    ·intro w'
     go_simp
     with_reducible rfl
    rotate_left
    ·simp only [PN]
     rfl
    refine pure_ (i := 8) (N := some 18) (v := ?_) (a' := ?_) #[Y,Y,Y,Y,Y,Y,Y,Y,Y,O,O,O,O,O,O,O,O,O,O,O,O,O,O,O,O,O,O,O,O,O,O,O,O,O] rfl rfl (any_of HT_.out (by kernel_rfl)) (fun _ _ _ h => h) (Or.inl ⟨by rfl, ?_⟩) ?_ ?_
    rotate_left
    ·intro w'
     go_simp
     with_reducible rfl
    rotate_left
    ·simp only [PN]
     rfl
    refine pure_ (i := 9) (N := some 19) (v := ?_) (a' := ?_) #[Y,Y,Y,Y,Y,Y,Y,Y,Y,Y,O,O,O,O,O,O,O,O,O,O,O,O,O,O,O,O,O,O,O,O,O,O,O,O] rfl rfl (any_of HT_.out (by kernel_rfl)) (fun _ _ _ h => h) (Or.inl ⟨by rfl, ?_⟩) ?_ ?_
    rotate_left
    ·intro w'
     go_simp
     with_reducible rfl
    rotate_left
    ·simp only [PN]
     rfl
    refine pure_ (i := 10) (N := some 20) (v := ?_) (a' := ?_) #[Y,Y,Y,Y,Y,Y,Y,Y,Y,Y,Y,O,O,O,O,O,O,O,O,O,O,O,O,O,O,O,O,O,O,O,O,O,O,O] rfl rfl (any_of HT_.out (by kernel_rfl)) (fun _ _ _ h => h) (Or.inl ⟨by rfl, ?_⟩) ?_ ?_
    rotate_left
    ·intro w'
     go_simp
     with_reducible rfl
    rotate_left
    ·simp only [PN]
     rfl
    refine pure_ (i := 11) (N := some 21) (v := ?_) (a' := ?_) #[Y,Y,Y,Y,Y,Y,Y,Y,Y,Y,Y,Y,O,O,O,O,O,O,O,O,O,O,O,O,O,O,O,O,O,O,O,O,O,O] rfl rfl (any_of HT_.out (by kernel_rfl)) (fun _ _ _ h => h) (Or.inl ⟨by rfl, ?_⟩) ?_ ?_
    rotate_left
    ·intro w'
     go_simp
     with_reducible rfl
    rotate_left
    ·simp only [PN]
     rfl
    refine take_ (i := 12) (N := some 22) (v := ?_) (a' := ?_) #[Y,Y,Y,Y,Y,Y,Y,Y,Y,Y,Y,Y,Y,O,O,O,O,O,O,O,O,O,O,O,O,O,O,O,O,O,O,O,O,O] rfl rfl (take_ofW HT_.out HW_.out (by kernel_rfl)) (fun _ _ _ h => h) (Or.inl ⟨by rfl, ?_⟩) hHeld ?_ ?_
    rotate_left
    ·rintro w' ⟨s0, s1⟩
     go_simp
     with_reducible rfl
    rotate_left
    ·simp only [PN]
     rfl
    refine pure_ (i := 13) (N := some 23) (v := ?_) (a' := ?_) #[Y,Y,Y,Y,Y,Y,Y,Y,Y,Y,Y,Y,Y,Y,O,O,O,O,O,O,O,O,O,O,O,O,O,O,O,O,O,O,O,O] rfl rfl (any_of HT_.out (by kernel_rfl)) (fun _ _ _ h => h) (Or.inl ⟨by rfl, ?_⟩) ?_ ?_
    rotate_left
    ·intro w'
     go_simp
     with_reducible rfl
    rotate_left
    ·simp only [PN]
     rfl
    refine pure_ (i := 14) (N := some 24) (v := ?_) (a' := ?_) #[Y,Y,Y,Y,Y,Y,Y,Y,Y,Y,Y,Y,Y,Y,Y,O,O,O,O,O,O,O,O,O,O,O,O,O,O,O,O,O,O,O] rfl rfl (any_of HT_.out (by kernel_rfl)) (fun _ _ _ h => h) (Or.inl ⟨by rfl, ?_⟩) ?_ ?_
    rotate_left
    ·intro w'
     go_simp
     with_reducible rfl
    rotate_left
    ·simp only [PN]
     rfl
    refine pure_ (i := 15) (N := some 25) (v := ?_) (a' := ?_) #[Y,Y,Y,Y,Y,Y,Y,Y,Y,Y,Y,Y,Y,Y,Y,Y,O,O,O,O,O,O,O,O,O,O,O,O,O,O,O,O,O,O] rfl rfl (any_of HT_.out (by kernel_rfl)) (fun _ _ _ h => h) (Or.inl ⟨by rfl, ?_⟩) ?_ ?_
    rotate_left
    ·intro w'
     go_simp
     with_reducible rfl
    rotate_left
    ·simp only [PN]
     rfl
    refine pure_ (i := 16) (N := some 26) (v := ?_) (a' := ?_) #[Y,Y,Y,Y,Y,Y,Y,Y,Y,Y,Y,Y,Y,Y,Y,Y,Y,O,O,O,O,O,O,O,O,O,O,O,O,O,O,O,O,O] rfl rfl (any_of HT_.out (by kernel_rfl)) (fun _ _ _ h => h) (Or.inl ⟨by rfl, ?_⟩) ?_ ?_
    rotate_left
    ·intro w'
     go_simp
     with_reducible rfl
    rotate_left
    ·simp only [PN]
     rfl
    refine pure_ (i := 17) (N := some 27) (v := ?_) (a' := ?_) #[Y,Y,Y,Y,Y,Y,Y,Y,Y,Y,Y,Y,Y,Y,Y,Y,Y,Y,O,O,O,O,O,O,O,O,O,O,O,O,O,O,O,O] rfl rfl (any_of HT_.out (by kernel_rfl)) (fun _ _ _ h => h) (Or.inl ⟨by rfl, ?_⟩) ?_ ?_
    rotate_left
    ·intro w'
     go_simp
     with_reducible rfl
    rotate_left
    ·simp only [PN]
     rfl
    refine pure_ (i := 18) (N := some 28) (v := ?_) (a' := ?_) #[Y,Y,Y,Y,Y,Y,Y,Y,Y,Y,Y,Y,Y,Y,Y,Y,Y,Y,Y,O,O,O,O,O,O,O,O,O,O,O,O,O,O,O] rfl rfl (any_of HT_.out (by kernel_rfl)) (fun _ _ _ h => h) (Or.inl ⟨by rfl, ?_⟩) ?_ ?_
    rotate_left
    ·intro w'
     go_simp
     with_reducible rfl
    rotate_left
    ·simp only [PN]
     rfl
    refine pure_ (i := 19) (N := some 29) (v := ?_) (a' := ?_) #[Y,Y,Y,Y,Y,Y,Y,Y,Y,Y,Y,Y,Y,Y,Y,Y,Y,Y,Y,Y,O,O,O,O,O,O,O,O,O,O,O,O,O,O] rfl rfl (any_of HT_.out (by kernel_rfl)) (fun _ _ _ h => h) (Or.inl ⟨by rfl, ?_⟩) ?_ ?_
    rotate_left
    ·intro w'
     go_simp
     with_reducible rfl
    rotate_left
    ·simp only [PN]
     rfl
    refine pure_ (i := 20) (N := some 30) (v := undef) (a' := ?_) #[Y,Y,Y,Y,Y,Y,Y,Y,Y,Y,Y,Y,Y,Y,Y,Y,Y,Y,Y,Y,Y,O,O,O,O,O,O,O,O,O,O,O,O,O] rfl rfl (any_of HT_.out (by kernel_rfl)) (fun _ _ _ h => h) (Or.inr ⟨by rfl, rfl⟩) ?_ ?_
    rotate_left
    ·simp only [PN]
     rfl
    refine pure_ (i := 21) (N := some 31) (v := undef) (a' := ?_) #[Y,Y,Y,Y,Y,Y,Y,Y,Y,Y,Y,Y,Y,Y,Y,Y,Y,Y,Y,Y,Y,Y,O,O,O,O,O,O,O,O,O,O,O,O] rfl rfl (any_of HT_.out (by kernel_rfl)) (fun _ _ _ h => h) (Or.inr ⟨by rfl, rfl⟩) ?_ ?_
    rotate_left
    ·simp only [PN]
     rfl
    refine pure_ (i := 22) (N := some 32) (v := undef) (a' := ?_) #[Y,Y,Y,Y,Y,Y,Y,Y,Y,Y,Y,Y,Y,Y,Y,Y,Y,Y,Y,Y,Y,Y,Y,O,O,O,O,O,O,O,O,O,O,O] rfl rfl (any_of HT_.out (by kernel_rfl)) (fun _ _ _ h => h) (Or.inr ⟨by rfl, rfl⟩) ?_ ?_
    rotate_left
    ·simp only [PN]
     rfl
    refine pure_ (i := 23) (N := some 33) (v := undef) (a' := ?_) #[Y,Y,Y,Y,Y,Y,Y,Y,Y,Y,Y,Y,Y,Y,Y,Y,Y,Y,Y,Y,Y,Y,Y,Y,O,O,O,O,O,O,O,O,O,O] rfl rfl (any_of HT_.out (by kernel_rfl)) (fun _ _ _ h => h) (Or.inr ⟨by rfl, rfl⟩) ?_ ?_
    rotate_left
    ·simp only [PN]
     rfl
    refine pure_ (i := 24) (N := some 34) (v := undef) (a' := ?_) #[Y,Y,Y,Y,Y,Y,Y,Y,Y,Y,Y,Y,Y,Y,Y,Y,Y,Y,Y,Y,Y,Y,Y,Y,Y,O,O,O,O,O,O,O,O,O] rfl rfl (any_of HT_.out (by kernel_rfl)) (fun _ _ _ h => h) (Or.inr ⟨by rfl, rfl⟩) ?_ ?_
    rotate_left
    ·simp only [PN]
     rfl
    refine pure_ (i := 25) (N := some 35) (v := undef) (a' := ?_) #[Y,Y,Y,Y,Y,Y,Y,Y,Y,Y,Y,Y,Y,Y,Y,Y,Y,Y,Y,Y,Y,Y,Y,Y,Y,Y,O,O,O,O,O,O,O,O] rfl rfl (any_of HT_.out (by kernel_rfl)) (fun _ _ _ h => h) (Or.inr ⟨by rfl, rfl⟩) ?_ ?_
    rotate_left
    ·simp only [PN]
     rfl
    refine pure_ (i := 26) (N := some 36) (v := undef) (a' := ?_) #[Y,Y,Y,Y,Y,Y,Y,Y,Y,Y,Y,Y,Y,Y,Y,Y,Y,Y,Y,Y,Y,Y,Y,Y,Y,Y,Y,O,O,O,O,O,O,O] rfl rfl (any_of HT_.out (by kernel_rfl)) (fun _ _ _ h => h) (Or.inr ⟨by rfl, rfl⟩) ?_ ?_
    rotate_left
    ·simp only [PN]
     rfl
    refine pure_ (i := 27) (N := some 37) (v := undef) (a' := ?_) #[Y,Y,Y,Y,Y,Y,Y,Y,Y,Y,Y,Y,Y,Y,Y,Y,Y,Y,Y,Y,Y,Y,Y,Y,Y,Y,Y,Y,O,O,O,O,O,O] rfl rfl (any_of HT_.out (by kernel_rfl)) (fun _ _ _ h => h) (Or.inr ⟨by rfl, rfl⟩) ?_ ?_
    rotate_left
    ·simp only [PN]
     rfl
    refine pure_ (i := 28) (N := some 38) (v := undef) (a' := ?_) #[Y,Y,Y,Y,Y,Y,Y,Y,Y,Y,Y,Y,Y,Y,Y,Y,Y,Y,Y,Y,Y,Y,Y,Y,Y,Y,Y,Y,Y,O,O,O,O,O] rfl rfl (any_of HT_.out (by kernel_rfl)) (fun _ _ _ h => h) (Or.inr ⟨by rfl, rfl⟩) ?_ ?_
    rotate_left
    ·simp only [PN]
     rfl
    refine pure_ (i := 29) (N := some 39) (v := undef) (a' := ?_) #[Y,Y,Y,Y,Y,Y,Y,Y,Y,Y,Y,Y,Y,Y,Y,Y,Y,Y,Y,Y,Y,Y,Y,Y,Y,Y,Y,Y,Y,Y,O,O,O,O] rfl rfl (any_of HT_.out (by kernel_rfl)) (fun _ _ _ h => h) (Or.inr ⟨by rfl, rfl⟩) ?_ ?_
    rotate_left
    ·simp only [PN]
     rfl
    refine pure_ (i := 30) (N := some 40) (v := undef) (a' := ?_) #[Y,Y,Y,Y,Y,Y,Y,Y,Y,Y,Y,Y,Y,Y,Y,Y,Y,Y,Y,Y,Y,Y,Y,Y,Y,Y,Y,Y,Y,Y,Y,O,O,O] rfl rfl (any_of HT_.out (by kernel_rfl)) (fun _ _ _ h => h) (Or.inr ⟨by rfl, rfl⟩) ?_ ?_
    rotate_left
    ·simp only [PN]
     rfl
    refine pure_ (i := 31) (N := some 41) (v := undef) (a' := ?_) #[Y,Y,Y,Y,Y,Y,Y,Y,Y,Y,Y,Y,Y,Y,Y,Y,Y,Y,Y,Y,Y,Y,Y,Y,Y,Y,Y,Y,Y,Y,Y,Y,O,O] rfl rfl (any_of HT_.out (by kernel_rfl)) (fun _ _ _ h => h) (Or.inr ⟨by rfl, rfl⟩) ?_ ?_
    rotate_left
    ·simp only [PN]
     rfl
    refine pure_ (i := 32) (N := some 42) (v := ?_) (a' := ?_) #[Y,Y,Y,Y,Y,Y,Y,Y,Y,Y,Y,Y,Y,Y,Y,Y,Y,Y,Y,Y,Y,Y,Y,Y,Y,Y,Y,Y,Y,Y,Y,Y,Y,O] rfl rfl (any_of HT_.out (by kernel_rfl)) (fun _ _ _ h => h) (Or.inl ⟨by rfl, ?_⟩) ?_ ?_
    rotate_left
    ·intro w'
     go_simp
     with_reducible rfl
    rotate_left
    ·simp only [PN]
     rfl
    refine pure_ (i := 33) (N := some 43) (v := ?_) (a' := ?_) #[Y,Y,Y,Y,Y,Y,Y,Y,Y,Y,Y,Y,Y,Y,Y,Y,Y,Y,Y,Y,Y,Y,Y,Y,Y,Y,Y,Y,Y,Y,Y,Y,Y,Y] rfl rfl (any_of HT_.out (by kernel_rfl)) (fun _ _ _ h => h) (Or.inl ⟨by rfl, ?_⟩) ?_ ?_
    rotate_left
    ·intro w'
     go_simp
     with_reducible rfl
    rotate_left
    ·simp only [PN]
     rfl
    refine done_ (done_of HT_.out (by kernel_rfl)) ?_
    clear hHeld
    have HB6 := Aside0.mk (below_step HB.out HB5.out)
    have a9 := HA9.out
    go_wp2
    go_roundw
    case rel => exact ⟨i + 1, by go_num, HI.out, HB6⟩
    case measure => first | (rw [a9]; exact meas _ _ hlt) | exact meas _ _ hlt
   ·obtain ⟨k, rfl⟩ : ∃ k, i = k + 1 := ⟨i - 1, by omega⟩
    have HCC := Aside0.mk (Kd.C_below H.out HB.out)
    obtain ⟨ad, A1, c1, rfl, k0, k1, hlc, hcs⟩ := at_En HCC.out (k + 1) hlt
    obtain ⟨ad2, A2, c2, e2, k2, k3, hlc2, hcs2⟩ := at_En HCC.out k (by omega)
    injection e2 with e2
    subst e2
    have hz := HD.out (k + 1) hlt
    obtain ⟨jy, jx, hyx, hj8, hjy, hjx⟩ := EnOk_two xs 0 HK.out k hlt
    generalize xs.getD (k + 1) zEn = x at k0 k1 hz hjx hlc hcs
    generalize xs.getD k zEn = y at k2 k3 hjy hlc2 hcs2
    have hs := nm_after1 jx jy hyx hj8
    rw [← hjx, ← hjy] at hs
    obtain ⟨t0, t1, t2⟩ := hs
    have HX := Aside0.mk (show (97 ≤ (UInt8.ofNat (97 + jx)).toNat ∧ (UInt8.ofNat (97 + jx)).toNat ≤ 122) ∧ x.1 = ⟨#[UInt8.ofNat (97 + jx)]⟩ from ⟨by
     rw [UInt8.toNat_ofNat']
     omega, by rw [hjx, nm_lit jx hj8]⟩)
    have q1 : decide (8192 < (x.2.length : Int)) = false := decide_eq_false (by omega)
    have q1n : decide (8192 < x.2.length) = false := decide_eq_false (by omega)
    have q2 : decide ((0 : Int) < ((k + 1 : Nat) : Int)) = true := decide_eq_true (by omega)
    have r2 : (0 : Int) ≤ (k : Int) := by omega
    have r3 : (k : Int) < (xs.length : Int) := by omega
    have s0 : (0 : Int) ≤ (k : Int) + 1 := by omega
    have s1 : (k : Int) + 1 < (xs.length : Int) := by omega
    have w0 : wrap64 (k : Int) = (k : Int) := wrap_id (by omega) (by omega)
    have HI := Aside0.mk (Nat.succ_le_of_lt hlt)
    have HA9 := Aside0.mk (show wrap64 (((k + 1 : Nat) : Int) + 1) = ((k + 1 : Nat) : Int) + 1 from wrap_id (by omega) (by omega))
    clear hz hjx hj8 hlc hcs hi0 hjy hyx hlc2 hcs2 HCC k3
    go_wp2
    have HA := Aside0.mk (show wr.drew.cell? _ = _ ∧ wr.drew.cell? _ = _ ∧ wr.drew.cell? _ = _ from ⟨k0, k1, k2⟩)
    clear k0 k1 k2
    refine start_ (n := 34) (S := fun w' => w'.cell? (ad.add ((k + 1) * 2)) = some (.string x.1) ∧ w'.cell? ⟨(ad.add ((k + 1) * 2)).block, (ad.add ((k + 1) * 2)).off + 1, none⟩ = some (.slice A1 x.2.length c1) ∧ w'.cell? (ad.add (k * 2)) = some (.string y.1)) (ds := []) #[O,O,O,O,O,O,O,O,O,O,O,O,O,O,O,O,O,O,O,O,O,O,O,O,O,O,O,O,O,O,O,O,O,O] (by kernel_rfl) rfl rfl ⟨HA.out.1, HA.out.2.1, HA.out.2.2⟩ (fun hHeld => ?_)
    refine with_tabW RF12.tab4 RF12.bits4 (fun HT_ HW_ => ?_)
    refine pure_ (i := 0) (N := some 10) (v := ?_) (a' := ?_) #[Y,O,O,O,O,O,O,O,O,O,O,O,O,O,O,O,O,O,O,O,O,O,O,O,O,O,O,O,O,O,O,O,O,O] rfl rfl (any_of HT_.out (by kernel_rfl)) (fun _ _ _ h => h) (Or.inl ⟨by rfl, ?_⟩) ?_ ?_
    rotate_left
    ·intro w'
     go_simp
     with_reducible rfl
    rotate_left
    ·simp only [PN]
     rfl
    refine pure_ (i := 1) (N := some 11) (v := ?_) (a' := ?_) #[Y,Y,O,O,O,O,O,O,O,O,O,O,O,O,O,O,O,O,O,O,O,O,O,O,O,O,O,O,O,O,O,O,O,O] rfl rfl (any_of HT_.out (by kernel_rfl)) (fun _ _ _ h => h) (Or.inl ⟨by rfl, ?_⟩) ?_ ?_
    rotate_left
    ·intro w'
     go_simp
     with_reducible rfl
    rotate_left
    ·simp only [PN]
     rfl
    refine pure_ (i := 2) (N := some 12) (v := ?_) (a' := ?_) #[Y,Y,Y,O,O,O,O,O,O,O,O,O,O,O,O,O,O,O,O,O,O,O,O,O,O,O,O,O,O,O,O,O,O,O] rfl rfl (any_of HT_.out (by kernel_rfl)) (fun _ _ _ h => h) (Or.inl ⟨by rfl, ?_⟩) ?_ ?_
    rotate_left
    ·intro w'
     go_simp
     with_reducible rfl
    rotate_left
    ·simp only [PN]
     rfl
    refine pure_ (i := 3) (N := some 13) (v := ?_) (a' := ?_) #[Y,Y,Y,Y,O,O,O,O,O,O,O,O,O,O,O,O,O,O,O,O,O,O,O,O,O,O,O,O,O,O,O,O,O,O] rfl rfl (any_of HT_.out (by kernel_rfl)) (fun _ _ _ h => h) (Or.inl ⟨by rfl, ?_⟩) ?_ ?_
    rotate_left
    ·intro w'
     go_simp
     with_reducible rfl
    rotate_left
    ·simp only [PN]
     rfl
    refine take_ (i := 4) (N := some 14) (v := ?_) (a' := ?_) #[Y,Y,Y,Y,Y,O,O,O,O,O,O,O,O,O,O,O,O,O,O,O,O,O,O,O,O,O,O,O,O,O,O,O,O,O] rfl rfl (take_ofW HT_.out HW_.out (by kernel_rfl)) (fun _ _ _ h => h) (Or.inl ⟨by rfl, ?_⟩) hHeld ?_ ?_
    rotate_left
    ·rintro w' ⟨s0, s1, s2⟩
     go_simp
     with_reducible rfl
    rotate_left
    ·simp only [PN]
     rfl
    refine one_ (i := 5) (N := some 15) #[Y,Y,Y,Y,Y,Y,O,O,O,O,O,O,O,O,O,O,O,O,O,O,O,O,O,O,O,O,O,O,O,O,O,O,O,O] rfl rfl (one_of HT_.out (by kernel_rfl)) (by decide) (fun K hK => ?_)
    refine goes_ Tryz.func16 (by kernel_rfl) rfl #[.string x.1] (by rfl) rfl rfl (by (try simp only [List.map_toArray, List.map_cons, List.map_nil]); first | done | rfl) ?_
    refine ((show Calls Tryz.prog 16 #[.string x.1] _ _ from by rw [HX.out.2]; exact ref03.Fit.calls HX.out.1.1 HX.out.1.2 _)).mono ?_
    rintro e w5 ⟨rfl, hb5⟩
    refine ⟨_, rfl, ?_⟩
    have HB5 := Aside0.mk (below_go (below_drew (Below.refl wr.heap.size wr)) hb5)
    have HC5 := Aside0.mk (And.intro ((hb5.cell (World.block_lt_of_cell? _ _ HA.out.1)).trans HA.out.1) (And.intro ((hb5.cell (World.block_lt_of_cell? _ _ HA.out.2.1)).trans HA.out.2.1) ((hb5.cell (World.block_lt_of_cell? _ _ HA.out.2.2)).trans HA.out.2.2)))
    clear hb5
    refine hK.out _ _ ⟨HC5.out.1, HC5.out.2.1, HC5.out.2.2⟩ (fun hHeld => ?_)
    clear hK K
    refine norm_ (a' := ?_) ?_ ?_
    rotate_left
    ·show Act.put _ (some 15) _ = _
     simp only [PN]
     rfl
    refine pure_ (i := 6) (N := some 16) (v := ?_) (a' := ?_) #[Y,Y,Y,Y,Y,Y,Y,O,O,O,O,O,O,O,O,O,O,O,O,O,O,O,O,O,O,O,O,O,O,O,O,O,O,O] rfl rfl (any_of HT_.out (by kernel_rfl)) (fun _ _ _ h => h) (Or.inl ⟨by rfl, ?_⟩) ?_ ?_
    rotate_left
    ·intro w'
     go_simp
     with_reducible rfl
    rotate_left
    ·simp only [PN]
     rfl
    refine pure_ (i := 7) (N := some 17) (v := ?_) (a' := ?_) #[Y,Y,Y,Y,Y,Y,Y,Y,O,O,O,O,O,O,O,O,O,O,O,O,O,O,O,O,O,O,O,O,O,O,O,O,O,O] rfl rfl (any_of HT_.out (by kernel_rfl)) (fun _ _ _ h => h) (Or.inl ⟨by rfl, ?_⟩) ?_ ?_
    rotate_left
    ·intro w'
     go_simp
     with_reducible rfl
    rotate_left
    ·simp only [PN]
     rfl
    refine pure_ (i := 8) (N := some 18) (v := ?_) (a' := ?_) #[Y,Y,Y,Y,Y,Y,Y,Y,Y,O,O,O,O,O,O,O,O,O,O,O,O,O,O,O,O,O,O,O,O,O,O,O,O,O] rfl rfl (any_of HT_.out (by kernel_rfl)) (fun _ _ _ h => h) (Or.inl ⟨by rfl, ?_⟩) ?_ ?_
    rotate_left
    ·intro w'
     go_simp
     with_reducible rfl
    rotate_left
    ·simp only [PN]
     rfl
    refine pure_ (i := 9) (N := some 19) (v := ?_) (a' := ?_) #[Y,Y,Y,Y,Y,Y,Y,Y,Y,Y,O,O,O,O,O,O,O,O,O,O,O,O,O,O,O,O,O,O,O,O,O,O,O,O] rfl rfl (any_of HT_.out (by kernel_rfl)) (fun _ _ _ h => h) (Or.inl ⟨by rfl, ?_⟩) ?_ ?_
    rotate_left
    ·intro w'
     go_simp
     with_reducible rfl
    rotate_left
    ·simp only [PN]
     rfl
    refine pure_ (i := 10) (N := some 20) (v := ?_) (a' := ?_) #[Y,Y,Y,Y,Y,Y,Y,Y,Y,Y,Y,O,O,O,O,O,O,O,O,O,O,O,O,O,O,O,O,O,O,O,O,O,O,O] rfl rfl (any_of HT_.out (by kernel_rfl)) (fun _ _ _ h => h) (Or.inl ⟨by rfl, ?_⟩) ?_ ?_
    rotate_left
    ·intro w'
     go_simp
     with_reducible rfl
    rotate_left
    ·simp only [PN]
     rfl
    refine pure_ (i := 11) (N := some 21) (v := ?_) (a' := ?_) #[Y,Y,Y,Y,Y,Y,Y,Y,Y,Y,Y,Y,O,O,O,O,O,O,O,O,O,O,O,O,O,O,O,O,O,O,O,O,O,O] rfl rfl (any_of HT_.out (by kernel_rfl)) (fun _ _ _ h => h) (Or.inl ⟨by rfl, ?_⟩) ?_ ?_
    rotate_left
    ·intro w'
     go_simp
     with_reducible rfl
    rotate_left
    ·simp only [PN]
     rfl
    refine take_ (i := 12) (N := some 22) (v := ?_) (a' := ?_) #[Y,Y,Y,Y,Y,Y,Y,Y,Y,Y,Y,Y,Y,O,O,O,O,O,O,O,O,O,O,O,O,O,O,O,O,O,O,O,O,O] rfl rfl (take_ofW HT_.out HW_.out (by kernel_rfl)) (fun _ _ _ h => h) (Or.inl ⟨by rfl, ?_⟩) hHeld ?_ ?_
    rotate_left
    ·rintro w' ⟨s0, s1, s2⟩
     go_simp
     with_reducible rfl
    rotate_left
    ·simp only [PN]
     rfl
    refine pure_ (i := 13) (N := some 23) (v := ?_) (a' := ?_) #[Y,Y,Y,Y,Y,Y,Y,Y,Y,Y,Y,Y,Y,Y,O,O,O,O,O,O,O,O,O,O,O,O,O,O,O,O,O,O,O,O] rfl rfl (any_of HT_.out (by kernel_rfl)) (fun _ _ _ h => h) (Or.inl ⟨by rfl, ?_⟩) ?_ ?_
    rotate_left
    ·intro w'
     go_simp
     with_reducible rfl
    rotate_left
    ·simp only [PN]
     rfl
    refine pure_ (i := 14) (N := some 24) (v := ?_) (a' := ?_) #[Y,Y,Y,Y,Y,Y,Y,Y,Y,Y,Y,Y,Y,Y,Y,O,O,O,O,O,O,O,O,O,O,O,O,O,O,O,O,O,O,O] rfl rfl (any_of HT_.out (by kernel_rfl)) (fun _ _ _ h => h) (Or.inl ⟨by rfl, ?_⟩) ?_ ?_
    rotate_left
    ·intro w'
     go_simp
     with_reducible rfl
    rotate_left
    ·simp only [PN]
     rfl
    refine pure_ (i := 15) (N := some 25) (v := ?_) (a' := ?_) #[Y,Y,Y,Y,Y,Y,Y,Y,Y,Y,Y,Y,Y,Y,Y,Y,O,O,O,O,O,O,O,O,O,O,O,O,O,O,O,O,O,O] rfl rfl (any_of HT_.out (by kernel_rfl)) (fun _ _ _ h => h) (Or.inl ⟨by rfl, ?_⟩) ?_ ?_
    rotate_left
    ·intro w'
     go_simp
     with_reducible rfl
    rotate_left
    ·simp only [PN]
     rfl
    refine pure_ (i := 16) (N := some 26) (v := ?_) (a' := ?_) #[Y,Y,Y,Y,Y,Y,Y,Y,Y,Y,Y,Y,Y,Y,Y,Y,Y,O,O,O,O,O,O,O,O,O,O,O,O,O,O,O,O,O] rfl rfl (any_of HT_.out (by kernel_rfl)) (fun _ _ _ h => h) (Or.inl ⟨by rfl, ?_⟩) ?_ ?_
    rotate_left
    ·intro w'
     go_simp
     with_reducible rfl
    rotate_left
    ·simp only [PN]
     rfl
    refine pure_ (i := 17) (N := some 27) (v := ?_) (a' := ?_) #[Y,Y,Y,Y,Y,Y,Y,Y,Y,Y,Y,Y,Y,Y,Y,Y,Y,Y,O,O,O,O,O,O,O,O,O,O,O,O,O,O,O,O] rfl rfl (any_of HT_.out (by kernel_rfl)) (fun _ _ _ h => h) (Or.inl ⟨by rfl, ?_⟩) ?_ ?_
    rotate_left
    ·intro w'
     go_simp
     with_reducible rfl
    rotate_left
    ·simp only [PN]
     rfl
    refine pure_ (i := 18) (N := some 28) (v := ?_) (a' := ?_) #[Y,Y,Y,Y,Y,Y,Y,Y,Y,Y,Y,Y,Y,Y,Y,Y,Y,Y,Y,O,O,O,O,O,O,O,O,O,O,O,O,O,O,O] rfl rfl (any_of HT_.out (by kernel_rfl)) (fun _ _ _ h => h) (Or.inl ⟨by rfl, ?_⟩) ?_ ?_
    rotate_left
    ·intro w'
     go_simp
     with_reducible rfl
    rotate_left
    ·simp only [PN]
     rfl
    refine pure_ (i := 19) (N := some 29) (v := ?_) (a' := ?_) #[Y,Y,Y,Y,Y,Y,Y,Y,Y,Y,Y,Y,Y,Y,Y,Y,Y,Y,Y,Y,O,O,O,O,O,O,O,O,O,O,O,O,O,O] rfl rfl (any_of HT_.out (by kernel_rfl)) (fun _ _ _ h => h) (Or.inl ⟨by rfl, ?_⟩) ?_ ?_
    rotate_left
    ·intro w'
     go_simp
     with_reducible rfl
    rotate_left
    ·simp only [PN]
     rfl
    refine pure_ (i := 20) (N := some 30) (v := ?_) (a' := ?_) #[Y,Y,Y,Y,Y,Y,Y,Y,Y,Y,Y,Y,Y,Y,Y,Y,Y,Y,Y,Y,Y,O,O,O,O,O,O,O,O,O,O,O,O,O] rfl rfl (any_of HT_.out (by kernel_rfl)) (fun _ _ _ h => h) (Or.inl ⟨by rfl, ?_⟩) ?_ ?_
    rotate_left
    ·intro w'
     go_simp
     with_reducible rfl
    rotate_left
    ·simp only [PN]
     rfl
    refine pure_ (i := 21) (N := some 31) (v := ?_) (a' := ?_) #[Y,Y,Y,Y,Y,Y,Y,Y,Y,Y,Y,Y,Y,Y,Y,Y,Y,Y,Y,Y,Y,Y,O,O,O,O,O,O,O,O,O,O,O,O] rfl rfl (any_of HT_.out (by kernel_rfl)) (fun _ _ _ h => h) (Or.inl ⟨by rfl, ?_⟩) ?_ ?_
    rotate_left
    ·intro w'
     go_simp
     with_reducible rfl
    rotate_left
    ·simp only [PN]
     rfl
    refine pure_ (i := 22) (N := some 32) (v := ?_) (a' := ?_) #[Y,Y,Y,Y,Y,Y,Y,Y,Y,Y,Y,Y,Y,Y,Y,Y,Y,Y,Y,Y,Y,Y,Y,O,O,O,O,O,O,O,O,O,O,O] rfl rfl (any_of HT_.out (by kernel_rfl)) (fun _ _ _ h => h) (Or.inl ⟨by rfl, ?_⟩) ?_ ?_
    rotate_left
    ·intro w'
     go_simp
     with_reducible rfl
    rotate_left
    ·simp only [PN]
     rfl
    refine pure_ (i := 23) (N := some 33) (v := ?_) (a' := ?_) #[Y,Y,Y,Y,Y,Y,Y,Y,Y,Y,Y,Y,Y,Y,Y,Y,Y,Y,Y,Y,Y,Y,Y,Y,O,O,O,O,O,O,O,O,O,O] rfl rfl (any_of HT_.out (by kernel_rfl)) (fun _ _ _ h => h) (Or.inl ⟨by rfl, ?_⟩) ?_ ?_
    rotate_left
    ·intro w'
     go_simp
     with_reducible rfl
    rotate_left
    ·simp only [PN]
     rfl
    refine pure_ (i := 25) (N := some 35) (v := ?_) (a' := ?_) #[Y,Y,Y,Y,Y,Y,Y,Y,Y,Y,Y,Y,Y,Y,Y,Y,Y,Y,Y,Y,Y,Y,Y,Y,O,Y,O,O,O,O,O,O,O,O] rfl rfl (any_of HT_.out (by kernel_rfl)) (fun _ _ _ h => h) (Or.inl ⟨by rfl, ?_⟩) ?_ ?_
    rotate_left
    ·intro w'
     go_simp
     with_reducible rfl
    rotate_left
    ·simp only [PN]
     rfl
    refine pure_ (i := 26) (N := some 36) (v := ?_) (a' := ?_) #[Y,Y,Y,Y,Y,Y,Y,Y,Y,Y,Y,Y,Y,Y,Y,Y,Y,Y,Y,Y,Y,Y,Y,Y,O,Y,Y,O,O,O,O,O,O,O] rfl rfl (any_of HT_.out (by kernel_rfl)) (fun _ _ _ h => h) (Or.inl ⟨by rfl, ?_⟩) ?_ ?_
    rotate_left
    ·intro w'
     go_simp
     with_reducible rfl
    rotate_left
    ·simp only [PN]
     rfl
    refine pure_ (i := 27) (N := some 37) (v := ?_) (a' := ?_) #[Y,Y,Y,Y,Y,Y,Y,Y,Y,Y,Y,Y,Y,Y,Y,Y,Y,Y,Y,Y,Y,Y,Y,Y,O,Y,Y,Y,O,O,O,O,O,O] rfl rfl (any_of HT_.out (by kernel_rfl)) (fun _ _ _ h => h) (Or.inl ⟨by rfl, ?_⟩) ?_ ?_
    rotate_left
    ·intro w'
     go_simp
     with_reducible rfl
    rotate_left
    ·simp only [PN]
     rfl
    refine pure_ (i := 28) (N := some 38) (v := ?_) (a' := ?_) #[Y,Y,Y,Y,Y,Y,Y,Y,Y,Y,Y,Y,Y,Y,Y,Y,Y,Y,Y,Y,Y,Y,Y,Y,O,Y,Y,Y,Y,O,O,O,O,O] rfl rfl (any_of HT_.out (by kernel_rfl)) (fun _ _ _ h => h) (Or.inl ⟨by rfl, ?_⟩) ?_ ?_
    rotate_left
    ·intro w'
     go_simp
     with_reducible rfl
    rotate_left
    ·simp only [PN]
     rfl
    refine pure_ (i := 29) (N := some 39) (v := ?_) (a' := ?_) #[Y,Y,Y,Y,Y,Y,Y,Y,Y,Y,Y,Y,Y,Y,Y,Y,Y,Y,Y,Y,Y,Y,Y,Y,O,Y,Y,Y,Y,Y,O,O,O,O] rfl rfl (any_of HT_.out (by kernel_rfl)) (fun _ _ _ h => h) (Or.inl ⟨by rfl, ?_⟩) ?_ ?_
    rotate_left
    ·intro w'
     go_simp
     with_reducible rfl
    rotate_left
    ·simp only [PN]
     rfl
    refine take_ (i := 24) (N := some 34) (v := ?_) (a' := ?_) #[Y,Y,Y,Y,Y,Y,Y,Y,Y,Y,Y,Y,Y,Y,Y,Y,Y,Y,Y,Y,Y,Y,Y,Y,Y,Y,Y,Y,Y,Y,O,O,O,O] rfl rfl (take_ofW HT_.out HW_.out (by kernel_rfl)) (fun _ _ _ h => h) (Or.inl ⟨by rfl, ?_⟩) hHeld ?_ ?_
    rotate_left
    ·rintro w' ⟨s0, s1, s2⟩
     go_simp
     with_reducible rfl
    rotate_left
    ·simp only [PN]
     rfl
    refine take_ (i := 30) (N := some 40) (v := ?_) (a' := ?_) #[Y,Y,Y,Y,Y,Y,Y,Y,Y,Y,Y,Y,Y,Y,Y,Y,Y,Y,Y,Y,Y,Y,Y,Y,Y,Y,Y,Y,Y,Y,Y,O,O,O] rfl rfl (take_ofW HT_.out HW_.out (by kernel_rfl)) (fun _ _ _ h => h) (Or.inl ⟨by rfl, ?_⟩) hHeld ?_ ?_
    rotate_left
    ·rintro w' ⟨s0, s1, s2⟩
     go_simp
     with_reducible rfl
    rotate_left
    ·simp only [PN]
     rfl
    refine pure_ (i := 31) (N := some 41) (v := ?_) (a' := ?_) #[Y,Y,Y,Y,Y,Y,Y,Y,Y,Y,Y,Y,Y,Y,Y,Y,Y,Y,Y,Y,Y,Y,Y,Y,Y,Y,Y,Y,Y,Y,Y,Y,O,O] rfl rfl (any_of HT_.out (by kernel_rfl)) (fun _ _ _ h => h) (Or.inl ⟨by rfl, ?_⟩) ?_ ?_
    rotate_left
    ·intro w'
     go_simp
     with_reducible rfl
    rotate_left
    ·simp only [PN]
     rfl
    refine pure_ (i := 32) (N := some 42) (v := ?_) (a' := ?_) #[Y,Y,Y,Y,Y,Y,Y,Y,Y,Y,Y,Y,Y,Y,Y,Y,Y,Y,Y,Y,Y,Y,Y,Y,Y,Y,Y,Y,Y,Y,Y,Y,Y,O] rfl rfl (any_of HT_.out (by kernel_rfl)) (fun _ _ _ h => h) (Or.inl ⟨by rfl, ?_⟩) ?_ ?_
    rotate_left
    ·intro w'
     go_simp
     with_reducible rfl
    rotate_left
    ·simp only [PN]
     rfl
    refine pure_ (i := 33) (N := some 43) (v := ?_) (a' := ?_) #[Y,Y,Y,Y,Y,Y,Y,Y,Y,Y,Y,Y,Y,Y,Y,Y,Y,Y,Y,Y,Y,Y,Y,Y,Y,Y,Y,Y,Y,Y,Y,Y,Y,Y] rfl rfl (any_of HT_.out (by kernel_rfl)) (fun _ _ _ h => h) (Or.inl ⟨by rfl, ?_⟩) ?_ ?_
    rotate_left
    ·intro w'
     go_simp
     with_reducible rfl
    rotate_left
    ·simp only [PN]
     rfl
    refine done_ (done_of HT_.out (by kernel_rfl)) ?_
    clear hHeld
    have HB6 := Aside0.mk (below_step HB.out HB5.out)
    have a9 := HA9.out
    go_wp2
    go_roundw
    case rel => exact ⟨k + 1 + 1, by go_num, HI.out, HB6⟩
    case measure => first | (rw [a9]; exact meas _ _ hlt) | exact meas _ _ hlt
  ·have q0 : decide ((i : Int) < (xs.length : Int)) = false := decide_eq_false (by omega)
   have q1 : decide ((xs.length : Int) ≤ 24) = true := decide_eq_true (by omega)
   go_wp2
   go_ret
   exact ⟨by first | rfl | (simp; omega), HB.out⟩
def TSt (w4 : World) (gw gs gx gt gf mx gr gm : Nat) (P : PL) (xs : List Nd) (now gv E : Nat) (wr : World) : Prop := ∃ f su tr, WS w4 w4.heap.size wr gw gs gx gt gf mx gr gm P xs now gv E f su tr
def nowOf (gs : Nat) (wr : World) : Nat := match wr.cell? ⟨gs, 7, none⟩ with | some v => (intOf v).toNat | none => 0
section
variable {w4 wr : World} {gw gs gx gt gf mx gr gm now gv E : Nat} {P : PL} {xs : List Nd}
theorem TSt.nowEq (h : TSt w4 gw gs gx gt gf mx gr gm P xs now gv E wr) : nowOf gs wr = now := by
 obtain ⟨f, su, tr, h⟩ := h
 have k0 : wr.cell? ⟨gs, 7, none⟩ = some (.int .i64 (now : Int)) := (blk_cell h.se.blk 7).trans rfl
 unfold nowOf
 rw [k0]
 simp [intOf]
theorem TSt.hW (h : TSt w4 gw gs gx gt gf mx gr gm P xs now gv E wr) : Below w4.heap.size w4 wr := by
 obtain ⟨f, su, tr, h⟩ := h
 exact h.hW
theorem TSt.cell0 (h : TSt w4 gw gs gx gt gf mx gr gm P xs now gv E wr) : wr.cell? ⟨gw, 0, none⟩ = some (.pointer (some ⟨gs, 0, none⟩)) := by
 obtain ⟨f, su, tr, h⟩ := h
 obtain ⟨At, ct, hb, _⟩ := h.wb.blk
 exact (blk_cell hb 0).trans rfl
theorem TSt.below {w' : World} (h : TSt w4 gw gs gx gt gf mx gr gm P xs now gv E wr) (hb : Below wr.heap.size wr w') : TSt w4 gw gs gx gt gf mx gr gm P xs now gv E w' := by
 obtain ⟨f, su, tr, h⟩ := h
 exact ⟨f, su, tr, ⟨h.se.below hb, h.wb.below hb, h.inv, Nat.le_trans h.hN hb.size, h.hW.trans (hb.mono h.hN), h.hNW⟩⟩
theorem TSt.Now (h : TSt w4 gw gs gx gt gf mx gr gm P xs now gv E wr) : Calls Tryz.prog 10 #[.pointer (some ⟨gw, 0, none⟩)] wr fun e w' => e = .returned (.int .i64 (now : Int)) ∧ w' = wr := by
 have h0 := h.cell0
 obtain ⟨f, su, tr, h⟩ := h
 exact world.Now.calls h.se h0
theorem TSt.tick (h : TSt w4 gw gs gx gt gf mx gr gm P xs now gv E wr) (hl6 : xs.length ≤ 6) (hk : NdOk 0 8 xs) (hgv : gv ≤ 100) (hnow : now ≤ 300) (hbd : E ≤ 1000) : Calls Tryz.prog 9 #[.pointer (some ⟨gw, 0, none⟩), .agg #[.int .i64 2, .int .i64 0, .int .i64 0, .int .i64 0, .int .u8 0, .slice none 0 0]] wr fun e w' => (∃ n, e = .returned (.int .i64 n)) ∧ TSt w4 gw gs gx gt gf mx gr gm P xs (now + 1) gv E w' := by
 obtain ⟨f, su, tr, h⟩ := h
 refine (world.Do.tick h hl6 hk hgv hnow hbd).mono ?_
 rintro e w' ⟨rfl, ⟨f', su', tr', h'⟩, _⟩
 exact ⟨⟨_, rfl⟩, f', su', tr', h'⟩
theorem TSt.ask (h : TSt w4 gw gs gx gt gf mx gr gm P xs now gv E wr) {A : Option Addr} {c ticks E' : Nat} (hx : kNd.C w4 A xs.length xs) (hl6 : xs.length ≤ 6) (hk : NdOk 0 8 xs) (hgv : gv ≤ 100) (hnow : now ≤ 300) (hE : now + ticks ≤ E') (hEE : E ≤ E') (htk : 1 ≤ ticks) (hbd : E' ≤ 1000) : Calls Tryz.prog 9 #[.pointer (some ⟨gw, 0, none⟩), .agg #[.int .i64 1, .int .i64 0, .int .i64 0, .int .i64 (ticks : Int), .int .u8 0, .slice A xs.length c]] wr fun e w' => (∃ n, e = .returned (.int .i64 n)) ∧ TSt w4 gw gs gx gt gf mx gr gm P xs now (gv + 1) E' w' := by
 obtain ⟨f, su, tr, h⟩ := h
 refine (world.Do.ask h hx hl6 hk hgv hnow hE hEE (fun _ => htk) hbd).mono ?_
 rintro e w' ⟨rfl, ⟨f', su', tr', h'⟩, _⟩
 exact ⟨⟨_, rfl⟩, f', su', tr', h'⟩
theorem TSt.counts (h : TSt w4 gw gs gx gt gf mx gr gm P xs now gv E wr) (hl6 : xs.length ≤ 6) (hs : ∀ x ∈ xs, x.2.length ≤ 1000) (hgv : gv ≤ 100) : ∃ bz tl, bz ≤ P.t ∧ P.t ≤ 8 ∧ tl + bz = gv ∧ (E ≤ now → bz = 0) ∧ (∀ w', Below wr.heap.size wr w' → Calls Tryz.prog 11 #[.pointer (some ⟨gw, 0, none⟩)] w' fun e w'' => ∃ A c, e = .returned (.slice A bz c) ∧ Below w'.heap.size w' w'') ∧ (∀ w', Below wr.heap.size wr w' → Calls Tryz.prog 12 #[.pointer (some ⟨gw, 0, none⟩)] w' fun e w'' => ∃ A c rows', e = .returned (.slice A rows'.length c) ∧ rows'.length = tl ∧ (Kd.raw 7).R 51 w'' w'.heap.size (fun _ => True) (.slice A rows'.length c) rows' ∧ (∀ r ∈ rows', TOK E xs r) ∧ Below w'.heap.size w' w'') := by
 have hb := fun w' => h.below (w' := w')
 obtain ⟨f, su, tr, h⟩ := h
 have hc := h.inv.cnt
 have hpt := h.se.pt
 have htl := taken_length f (P.t : Int) P.t
 refine ⟨(taken f (P.t : Int) P.t).length, tr.length, htl, hpt.2, hc, fun he => ?_, fun w' hw => ?_, fun w' hw => ?_⟩
 ·rw [taken_zero f _ _ (fun j hj => ?_)]
  ·rfl
  ·cases hbz : busy f (P.t : Int) j with
   | false => rfl
   | true => have := h.inv.en j (by omega) hbz; omega
 ·exact world.Busy.calls (h.se.below hw) ((hb w' hw).cell0)
 ·exact world.Told.calls (h.wb.below hw) (h.hW.trans (hw.mono (Nat.le_trans h.hNW h.hN))) hl6 hs (by omega)
end
def TTI12.T12 : Bool × List (List Nat × List Nat) := (true, [([], []), ([], []), ([1], [1]), ([2], [2]), ([], []), ([], []), ([4, 5], [4, 5]), ([6], [6]), ([7], [7]), ([8], [8]), ([3, 9], [3, 9]), ([0, 10], [0, 10]), ([11, 2, 0, 1, 2, 3, 4, 5, 6, 7, 8, 9, 10, 11], [0, 11])])
def TTI12.B12 : List Nat := [0, 0, 2, 6, 0, 0, 48, 112, 240, 496, 1022, 2047, 4095]
theorem TTI12.tab12 : rtab .any (opsOf Tryz.f3 12) = TTI12.T12 := by kernel_rfl
theorem TTI12.bits12 : waitsOk TTI12.T12.2 TTI12.B12 = true := by kernel_rfl
set_option maxRecDepth 100000 in
set_option maxHeartbeats 1000000 in
theorem TopTimes.calls {w : World} (seed nn rl t m b c : Int) (ah : Bool) (rs kp : Int) (hn : 0 ≤ nn ∧ nn ≤ 255) (hr : 0 ≤ rl ∧ rl ≤ 255) {A : Option Addr} {cap : Nat} {ls : List Int} (h : (Kd.int .u8).C w A ls.length ls) (hls : ∀ i, i < ls.length → 0 ≤ rd ls (i : Int) ∧ rd ls (i : Int) ≤ 255) : Calls Tryz.prog 3 #[.agg #[.int .u64 seed, .int .u8 nn, .int .u8 rl], plan t m b c ah rs kp, .slice A ls.length cap] w fun e w' => e = .returned (.bool true) ∧ Below w.heap.size w w' := by
 have HX := Aside0.mk (And.intro h hls)
 have HR := Aside0.mk (And.intro hn hr)
 have e1 : (w.alloc (.cells #[.int .u64 seed, .int .u8 nn, .int .u8 rl] 24)).heap.size = w.heap.size + 1 := by simp
 have hb1 := below_alloc (Below.refl w.heap.size w) (.cells #[.int .u64 seed, .int .u8 nn, .int .u8 rl] 24)
 have hb2 := below_alloc (Below.refl (w.alloc (.cells #[.int .u64 seed, .int .u8 nn, .int .u8 rl] 24)).heap.size (w.alloc (.cells #[.int .u64 seed, .int .u8 nn, .int .u8 rl] 24))) (.cells #[.int .i64 t, .int .i64 m, .int .i64 b, .int .i64 c, .bool ah, .int .i64 rs, .int .i64 kp] 26)
 have HB2 := Aside0.mk (below_step hb1 hb2)
 have hd := blk_below (blk_new w (.cells #[.int .u64 seed, .int .u8 nn, .int .u8 rl] 24)) hb2
 have hp := blk_new (w.alloc (.cells #[.int .u64 seed, .int .u8 nn, .int .u8 rl] 24)) (.cells #[.int .i64 t, .int .i64 m, .int .i64 b, .int .i64 c, .bool ah, .int .i64 rs, .int .i64 kp] 26)
 rw [e1] at hp
 have HPB := Aside0.mk hp
 have d0 : (((w.alloc (.cells #[.int .u64 seed, .int .u8 nn, .int .u8 rl] 24)).alloc (.cells #[.int .i64 t, .int .i64 m, .int .i64 b, .int .i64 c, .bool ah, .int .i64 rs, .int .i64 kp] 26))).cell? ⟨w.heap.size, 0, none⟩ = some (.int .u64 seed) := (blk_cell hd 0).trans rfl
 have d1 : (((w.alloc (.cells #[.int .u64 seed, .int .u8 nn, .int .u8 rl] 24)).alloc (.cells #[.int .i64 t, .int .i64 m, .int .i64 b, .int .i64 c, .bool ah, .int .i64 rs, .int .i64 kp] 26))).cell? ⟨w.heap.size, 1, none⟩ = some (.int .u8 nn) := (blk_cell hd 1).trans rfl
 have d2 : (((w.alloc (.cells #[.int .u64 seed, .int .u8 nn, .int .u8 rl] 24)).alloc (.cells #[.int .i64 t, .int .i64 m, .int .i64 b, .int .i64 c, .bool ah, .int .i64 rs, .int .i64 kp] 26))).cell? ⟨w.heap.size, 2, none⟩ = some (.int .u8 rl) := (blk_cell hd 2).trans rfl
 clear h hls hn hr e1 hb1 hb2 hd hp
 go_enter Tryz.func3, Tryz.ntmps3
 go_wp2_with fail
 clear d0 d1 d2
 generalize ((w.alloc (.cells #[.int .u64 seed, .int .u8 nn, .int .u8 rl] 24)).alloc (.cells #[.int .i64 t, .int .i64 m, .int .i64 b, .int .i64 c, .bool ah, .int .i64 rs, .int .i64 kp] 26)) = w1 at HB2 HPB ⊢
 generalize w.heap.size + 1 = gp at HPB ⊢
 refine (topDepot.calls seed nn rl HR.out.1.1 HR.out.1.2 HR.out.2.1 HR.out.2.2 w1).mono ?_
 rintro e w2 ⟨v, es, u, xs, rfl, hre, heo, hdo, hle, hrn, hno, hln, hb3⟩
 obtain ⟨Ae, ce, rfl⟩ := Kd.R_slice hre
 obtain ⟨An, cn, rfl⟩ := Kd.R_slice hrn
 have HES := Aside0.mk (And.intro (Kd.R_reads' hre).2.2 (And.intro heo (And.intro hdo hle)))
 have HXS := Aside0.mk (And.intro (Kd.R_reads' hrn).2.2 (And.intro hno hln))
 have HPB2 := Aside0.mk (blk_below HPB.out hb3)
 have HB3 := Aside0.mk (below_step HB2.out hb3)
 have k0 : w2.cell? ⟨gp, 0, none⟩ = some (.int .i64 t) := (blk_cell HPB2.out 0).trans rfl
 have k1 : w2.cell? ⟨gp, 1, none⟩ = some (.int .i64 m) := (blk_cell HPB2.out 1).trans rfl
 have k2 : w2.cell? ⟨gp, 2, none⟩ = some (.int .i64 b) := (blk_cell HPB2.out 2).trans rfl
 have k3 : w2.cell? ⟨gp, 3, none⟩ = some (.int .i64 c) := (blk_cell HPB2.out 3).trans rfl
 have k4 : w2.cell? ⟨gp, 4, none⟩ = some (.bool ah) := (blk_cell HPB2.out 4).trans rfl
 have k5 : w2.cell? ⟨gp, 5, none⟩ = some (.int .i64 rs) := (blk_cell HPB2.out 5).trans rfl
 have k6 : w2.cell? ⟨gp, 6, none⟩ = some (.int .i64 kp) := (blk_cell HPB2.out 6).trans rfl
 clear hre heo hdo hle hrn hno hln hb3 HB2 HPB
 go_wp2_with fail
 refine (ref44.Check.calls t m b c ah rs kp w2).mono ?_
 rintro e w3 ⟨rfl, hb4⟩
 have HPB3 := Aside0.mk (blk_below HPB2.out hb4)
 have HES3 := Aside0.mk (Kd.C_below HES.out.1 hb4)
 have HXS3 := Aside0.mk (Kd.C_below HXS.out.1 hb4)
 have HB4 := Aside0.mk (below_step HB3.out hb4)
 clear hb4 HB3 HPB2 k0 k1 k2 k3 k4 k5 k6
 cases hpo : decide (PlanOk t m b c) with
 | false =>
  clear hpo
  go_wp2_with fail
  refine (awake.calls w3).mono ?_
  rintro e w4 ⟨rfl, hb5⟩
  have HF := Aside0.mk (below_step HB4.out hb5)
  clear hb5
  go_wp2
  go_ret
  exact ⟨rfl, HF.out⟩
 | true =>
  have HPO := Aside0.mk (of_decide_eq_true hpo)
  clear hpo
  by_cases hl40 : ls.length ≤ 40
  ·have q0 : decide (40 < (ls.length : Int)) = false := decide_eq_false (by omega)
   have HL := Aside0.mk hl40
   clear hl40
   go_wp2_with fail
   refine (ref12.Check.calls HES3.out HES.out.2.2.2 HES.out.2.1 HES.out.2.2.1).mono ?_
   rintro e w4 ⟨rfl, hb5⟩
   have HPB4 := Aside0.mk (blk_below HPB3.out hb5)
   have HES4 := Aside0.mk (Kd.C_below HES3.out hb5)
   have HXS4 := Aside0.mk (Kd.C_below HXS3.out hb5)
   have HB5 := Aside0.mk (below_step HB4.out hb5)
   have k0 : w4.cell? ⟨gp, 0, none⟩ = some (.int .i64 t) := (blk_cell HPB4.out 0).trans rfl
   have k1 : w4.cell? ⟨gp, 1, none⟩ = some (.int .i64 m) := (blk_cell HPB4.out 1).trans rfl
   have k2 : w4.cell? ⟨gp, 2, none⟩ = some (.int .i64 b) := (blk_cell HPB4.out 2).trans rfl
   have k3 : w4.cell? ⟨gp, 3, none⟩ = some (.int .i64 c) := (blk_cell HPB4.out 3).trans rfl
   have k4 : w4.cell? ⟨gp, 4, none⟩ = some (.bool ah) := (blk_cell HPB4.out 4).trans rfl
   have k5 : w4.cell? ⟨gp, 5, none⟩ = some (.int .i64 rs) := (blk_cell HPB4.out 5).trans rfl
   have k6 : w4.cell? ⟨gp, 6, none⟩ = some (.int .i64 kp) := (blk_cell HPB4.out 6).trans rfl
   clear hb5 HB4 HPB3 HES3 HXS3 q0
   go_wp2_with fail
   obtain ⟨tn, rfl⟩ : ∃ tn : Nat, t = (tn : Int) := ⟨t.toNat, by have := HPO.out; unfold PlanOk at this; omega⟩
   obtain ⟨mn_, rfl⟩ : ∃ tn : Nat, m = (tn : Int) := ⟨m.toNat, by have := HPO.out; unfold PlanOk at this; omega⟩
   refine (world.New.calls (P := ⟨tn, mn_, b, c, ah, rs, kp⟩) HPO.out HES4.out HES.out.2.2.2 HES.out.2.1 HES.out.2.2.1 xs).mono ?_
   rintro e w5 ⟨gw, gs, gx, gt, gf, mx, gr, gm, su, rfl, hws, hb6⟩
   have HWS := Aside0.mk (show TSt w4 gw gs gx gt gf mx gr gm ⟨tn, mn_, b, c, ah, rs, kp⟩ xs 0 0 0 w5 from ⟨_, _, _, hws⟩)
   generalize hP : (⟨tn, mn_, b, c, ah, rs, kp⟩ : PL) = P at HWS
   have HPT := Aside0.mk (show P.t = tn from by rw [← hP])
   have HSM := Aside0.mk (NdOk_small HXS.out.2.1)
   clear hws hb6 k0 k1 k2 k3 k4 k5 k6 HES4 HES
   go_wp2
   go_loopw [10, 11] (fun ev iv wr => ∃ (i E now : Nat), ev = .int .i64 (E : Int) ∧ iv = .int .i64 (i : Int) ∧ i ≤ ls.length ∧ now ≤ 3 * i ∧ E ≤ 3 * i + 16 ∧ Aside0 (TSt w4 gw gs gx gt gf mx gr gm P xs now i E wr)) (fun _ iv _ => ((ls.length : Int) - intOf iv).toNat)
   case atStart => exact ⟨0, 0, 0, rfl, rfl, by omega, by omega, by omega, HWS⟩
   case round =>
    clear HWS
    obtain ⟨i, E, now, rfl, rfl, hi, hnow, hE, HS⟩ := hrel
    have hl40 := HL.out
    by_cases hlt : i < ls.length
    ·have q0 : decide ((i : Int) < (ls.length : Int)) = true := decide_eq_true (by omega)
     have u0 : (0 : Int) ≤ (i : Int) := by omega
     have u1 : (i : Int) < (ls.length : Int) := by omega
     have HA9 := Aside0.mk (show wrap64 ((i : Int) + 1) = (i : Int) + 1 from wrap_id (by omega) (by omega))
     have HBX := Aside0.mk (show ∀ w', TSt w4 gw gs gx gt gf mx gr gm P xs now i E wr → Below wr.heap.size wr w' → Below w.heap.size w w' from fun w' _ hb => HB5.out.trans ((HS.out.hW.trans (hb.mono HS.out.hW.size)).mono HB5.out.size))
     obtain ⟨ad, rfl, kx⟩ := Kd.at_int HX.out.1 (i : Int) u0 u1
     rw [Int.toNat_natCast] at kx
     have hx2 := HX.out.2 i hlt
     generalize rd ls (i : Int) = x at kx hx2
     obtain ⟨r, hr⟩ : ∃ r : Nat, x.tmod 16 = (r : Int) := ⟨(x.tmod 16).toNat, by rw [Int.tmod_eq_emod_of_nonneg hx2.1]; omega⟩
     obtain ⟨q, hq⟩ : ∃ q : Nat, x.tdiv 64 = (q : Int) := ⟨(x.tdiv 64).toNat, by rw [Int.tdiv_eq_ediv_of_nonneg hx2.1]; omega⟩
     have hr2 : r ≤ 15 := by rw [Int.tmod_eq_emod_of_nonneg hx2.1] at hr; omega
     have hq2 : q ≤ 3 := by rw [Int.tdiv_eq_ediv_of_nonneg hx2.1] at hq; omega
     have HRQ := Aside0.mk (And.intro hr2 hq2)
     have HI := Aside0.mk (And.intro hlt (And.intro hnow hE))
     have HQE := Aside0.mk hq
     have HC := Aside0.mk (show ∀ w', Below w.heap.size w w' → w'.cell? (ad.add i) = some (.int .u8 x) from fun w' hb => (hb.cell (World.block_lt_of_cell? _ _ kx)).trans kx)
     have kr : wr.cell? (ad.add i) = some (.int .u8 x) := HC.out wr (HB5.out.trans (HS.out.hW.mono HB5.out.size))
     have a1 : wrap64 (r : Int) = (r : Int) := wrap_id (by omega) (by omega)
     have a2 : wrap64 (1 + (r : Int)) = ((r + 1 : Nat) : Int) := (wrap_id (by omega) (by omega)).trans (by omega)
     clear kx hx2 hq hr2 hq2 hnow hE hi hl40 HBX
     obtain ⟨E2, hmx, hE1, hE2, hE3⟩ : ∃ E2 : Nat, (if (E : Int) < (now : Int) + 1 + (r : Int) then (now : Int) + 1 + (r : Int) else (E : Int)) = (E2 : Int) ∧ E ≤ E2 ∧ now + (r + 1) ≤ E2 ∧ E2 ≤ 3 * i + 19 := by
      have h1 := HI.out
      have h2 := HRQ.out
      by_cases hc : (E : Int) < (now : Int) + 1 + (r : Int)
      ·exact ⟨now + 1 + r, by rw [if_pos hc]; omega, by omega, by omega, by omega⟩
      ·exact ⟨E, by rw [if_neg hc], by omega, by omega, by omega⟩
     have HE2 := Aside0.mk (And.intro hE1 (And.intro hE2 hE3))
     have HMX := Aside0.mk hmx
     clear hmx hE1 hE2 hE3
     go_wp2_with fail
     refine (HS.out.ask HXS4.out HXS.out.2.2 HXS.out.2.1 (by have := HL.out; have := HI.out; omega) (by have := HI.out; have := HL.out; omega) HE2.out.2.1 HE2.out.1 (Nat.le_add_left _ _) (by have := HE2.out; have := HL.out; omega)).mono ?_
     rintro e w6 ⟨⟨n6, rfl⟩, hs6⟩
     have HS7 := Aside0.mk (hs6.below (below_drew (Below.refl w6.heap.size w6)))
     have HXB := Aside0.mk (HC.out w6.drew (HB5.out.trans (HS7.out.hW.mono HB5.out.size)))
     have hmx := HMX.out
     have a3 : wrap64 ((now : Int) + 1) = (now : Int) + 1 := wrap_id (by omega) (by have := HI.out; have := HL.out; omega)
     have a4 : wrap64 ((now : Int) + 1 + (r : Int)) = (now : Int) + 1 + (r : Int) := wrap_id (by omega) (by have := HI.out; have := HL.out; have := HRQ.out; omega)
     clear hs6 HS kr a2
     go_wp2
     refine start_ (n := 13) (S := fun w' => w'.cell? (ad.add i) = some (.int .u8 x)) (ds := []) #[O,O,O,O,O,O,O,O,O,O,O,O,O] (by kernel_rfl) rfl rfl (HXB.out) (fun hHeld => ?_)
     refine with_tabW TTI12.tab12 TTI12.bits12 (fun HT_ HW_ => ?_)
     refine pure_ (i := 0) (N := some 59) (v := ?_) (a' := ?_) #[Y,O,O,O,O,O,O,O,O,O,O,O,O] rfl rfl (any_of HT_.out (by kernel_rfl)) (fun _ _ _ h => h) (Or.inl ⟨by rfl, ?_⟩) ?_ ?_
     rotate_left
     ·intro w'
      go_simp
      with_reducible rfl
     rotate_left
     ·simp only [PN]
      rfl
     refine pure_ (i := 1) (N := some 60) (v := ?_) (a' := ?_) #[Y,Y,O,O,O,O,O,O,O,O,O,O,O] rfl rfl (any_of HT_.out (by kernel_rfl)) (fun _ _ _ h => h) (Or.inl ⟨by rfl, ?_⟩) ?_ ?_
     rotate_left
     ·intro w'
      go_simp
      with_reducible rfl
     rotate_left
     ·simp only [PN]
      rfl
     refine pure_ (i := 4) (N := some 63) (v := ?_) (a' := ?_) #[Y,Y,O,O,Y,O,O,O,O,O,O,O,O] rfl rfl (any_of HT_.out (by kernel_rfl)) (fun _ _ _ h => h) (Or.inl ⟨by rfl, ?_⟩) ?_ ?_
     rotate_left
     ·intro w'
      go_simp
      with_reducible rfl
     rotate_left
     ·simp only [PN]
      rfl
     refine pure_ (i := 5) (N := some 64) (v := ?_) (a' := ?_) #[Y,Y,O,O,Y,Y,O,O,O,O,O,O,O] rfl rfl (any_of HT_.out (by kernel_rfl)) (fun _ _ _ h => h) (Or.inl ⟨by rfl, ?_⟩) ?_ ?_
     rotate_left
     ·intro w'
      go_simp
      with_reducible rfl
     rotate_left
     ·simp only [PN]
      rfl
     refine pure_ (i := 6) (N := some 65) (v := ?_) (a' := ?_) #[Y,Y,O,O,Y,Y,Y,O,O,O,O,O,O] rfl rfl (any_of HT_.out (by kernel_rfl)) (fun _ _ _ h => h) (Or.inl ⟨by rfl, ?_⟩) ?_ ?_
     rotate_left
     ·intro w'
      go_simp
      with_reducible rfl
     rotate_left
     ·simp only [PN]
      rfl
     refine take_ (i := 7) (N := some 66) (v := ?_) (a' := ?_) #[Y,Y,O,O,Y,Y,Y,Y,O,O,O,O,O] rfl rfl (take_ofW HT_.out HW_.out (by kernel_rfl)) (fun _ _ _ h => h) (Or.inl ⟨by rfl, ?_⟩) hHeld ?_ ?_
     rotate_left
     ·intro w' s0
      go_simp
      with_reducible rfl
     rotate_left
     ·simp only [PN]
      rfl
     refine pure_ (i := 8) (N := some 67) (v := ?_) (a' := ?_) #[Y,Y,O,O,Y,Y,Y,Y,Y,O,O,O,O] rfl rfl (any_of HT_.out (by kernel_rfl)) (fun _ _ _ h => h) (Or.inl ⟨by rfl, ?_⟩) ?_ ?_
     rotate_left
     ·intro w'
      go_simp
      with_reducible rfl
     rotate_left
     ·simp only [PN]
      rfl
     refine pure_ (i := 9) (N := some 68) (v := ?_) (a' := ?_) #[Y,Y,O,O,Y,Y,Y,Y,Y,Y,O,O,O] rfl rfl (any_of HT_.out (by kernel_rfl)) (fun _ _ _ h => h) (Or.inl ⟨by rfl, ?_⟩) ?_ ?_
     rotate_left
     ·intro w'
      go_simp
      with_reducible rfl
     rotate_left
     ·simp only [PN]
      rfl
     refine one_ (i := 2) (N := some 61) #[Y,Y,Y,O,Y,Y,Y,Y,Y,Y,O,O,O] rfl rfl (one_of HT_.out (by kernel_rfl)) (by decide) (fun K hK => ?_)
     refine goes_ Tryz.func10 (by kernel_rfl) rfl #[.pointer (some ⟨gw, 0, none⟩)] (by rfl) rfl rfl (by (try simp only [List.map_toArray, List.map_cons, List.map_nil]); first | done | rfl) ?_
     refine (HS7.out.Now).mono ?_
     rintro e w7 ⟨rfl, rfl⟩
     refine ⟨_, rfl, ?_⟩
     refine hK.out _ _ (HXB.out) (fun hHeld => ?_)
     clear hK K
     refine norm_ (a' := ?_) ?_ ?_
     rotate_left
     ·show Act.put _ (some 61) _ = _
      simp only [PN]
      rfl
     refine pure_ (i := 3) (N := some 62) (v := ?_) (a' := ?_) #[Y,Y,Y,Y,Y,Y,Y,Y,Y,Y,O,O,O] rfl rfl (any_of HT_.out (by kernel_rfl)) (fun _ _ _ h => h) (Or.inl ⟨by rfl, ?_⟩) ?_ ?_
     rotate_left
     ·intro w'
      go_simp
      with_reducible rfl
     rotate_left
     ·simp only [PN]
      rfl
     refine pure_ (i := 10) (N := some 69) (v := ?_) (a' := ?_) #[Y,Y,Y,Y,Y,Y,Y,Y,Y,Y,Y,O,O] rfl rfl (any_of HT_.out (by kernel_rfl)) (fun _ _ _ h => h) (Or.inl ⟨by rfl, ?_⟩) ?_ ?_
     rotate_left
     ·intro w'
      go_simp
      with_reducible rfl
     rotate_left
     ·simp only [PN]
      rfl
     refine pure_ (i := 11) (N := some 70) (v := ?_) (a' := ?_) #[Y,Y,Y,Y,Y,Y,Y,Y,Y,Y,Y,Y,O] rfl rfl (any_of HT_.out (by kernel_rfl)) (fun _ _ _ h => h) (Or.inl ⟨by rfl, ?_⟩) ?_ ?_
     rotate_left
     ·intro w'
      go_simp
      with_reducible rfl
     rotate_left
     ·simp only [PN]
      rfl
     refine pure_ (i := 12) (N := some 10) (v := ?_) (a' := ?_) #[Y,Y,Y,Y,Y,Y,Y,Y,Y,Y,Y,Y,Y] rfl rfl (any_of HT_.out (by kernel_rfl)) (fun _ _ _ h => h) (Or.inl ⟨by rfl, ?_⟩) ?_ ?_
     rotate_left
     ·intro w'
      go_simp
      with_reducible rfl
     rotate_left
     ·simp only [PN]
      rfl
     refine done_ (done_of HT_.out (by kernel_rfl)) ?_
     clear hHeld hmx a3 a4
     go_wp2
     have a5 : wrap64 (q : Int) = (q : Int) := wrap_id (by have := HRQ.out; omega) (by have := HRQ.out; omega)
     have hq := HQE.out
     have a8 : (q : Int) % 256 = (q : Int) := by have := HRQ.out; omega
     clear a1 hr HMX HXB
     generalize hw7 : w6.drew = w7 at HS7 ⊢
     clear hw7
     go_loopw [12] (fun kv wr => ∃ k : Nat, kv = .int .i64 (k : Int) ∧ k ≤ q ∧ Aside0 (TSt w4 gw gs gx gt gf mx gr gm P xs (now + k) (i + 1) E2 wr)) (fun kv _ => ((q : Int) - intOf kv).toNat)
     case atStart => exact ⟨0, rfl, by omega, HS7⟩
     case round =>
      clear HS7
      obtain ⟨k, rfl, hk, HS⟩ := hrel
      have kr : wr.cell? (ad.add i) = some (.int .u8 x) := HC.out wr (HB5.out.trans (HS.out.hW.mono HB5.out.size))
      by_cases hkq : k < q
      ·have q1 : decide ((k : Int) < (q : Int)) = true := decide_eq_true (by omega)
       have HB9 := Aside0.mk (show wrap64 ((k : Int) + 1) = (k : Int) + 1 from wrap_id (by omega) (by have := HRQ.out; omega))
       have HKQ := Aside0.mk hkq
       clear hk
       go_wp2_with fail
       refine (HS.out.tick HXS.out.2.2 HXS.out.2.1 (by have := HI.out; have := HL.out; omega) (by have := HI.out; have := HL.out; have := HRQ.out; omega) (by have := HE2.out; have := HL.out; have := HI.out; omega)).mono ?_
       rintro e w8 ⟨⟨n8, rfl⟩, hs8⟩
       have HS8 := Aside0.mk (show TSt w4 gw gs gx gt gf mx gr gm P xs (now + (k + 1)) (i + 1) E2 w8 from hs8)
       clear hs8 HS kr
       have b9 := HB9.out
       have hkq := HKQ.out
       go_wp2
       go_roundw
       case rel => exact ⟨k + 1, by go_num, hkq, HS8⟩
       case measure => first | (rw [b9]; exact meas _ _ hkq) | exact meas _ _ hkq
      ·have q1 : decide ((k : Int) < (q : Int)) = false := decide_eq_false (by omega)
       have hke : k = q := by omega
       subst hke
       obtain ⟨bz, tl, hz1, hz2, hz3, hz4, hBusy, hTold⟩ := HS.out.counts HXS.out.2.2 (fun x hx => (HSM.out x hx).1) (by have := HI.out; have := HL.out; omega)
       have HZ := Aside0.mk (And.intro hz1 (And.intro hz2 hz3))
       have HBU := Aside0.mk (And.intro hBusy hTold)
       clear hz1 hz2 hz3 hz4 hBusy hTold hk
       go_wp2_with fail
       refine (HBU.out.1 wr (Below.refl _ _)).mono ?_
       rintro e w8 ⟨A8, c8, rfl, hb8⟩
       have HS8 := Aside0.mk (HS.out.below hb8)
       have HB8 := Aside0.mk hb8
       have k0 : w8.cell? ⟨gp, 0, none⟩ = some (.int .i64 (tn : Int)) := (blk_cell (blk_below HPB4.out HS8.out.hW) 0).trans rfl
       have q3 : decide ((tn : Int) < (bz : Int)) = false := decide_eq_false (by have := HZ.out; have := HPT.out; omega)
       have q4 : bz ≤ tn := by have := HZ.out; have := HPT.out; omega
       clear hb8 kr
       go_wp2_with fail
       refine (HBU.out.2 w8 HB8.out).mono ?_
       rintro e w9 ⟨A9, c9, rows, rfl, hl9, _, _, hb9⟩
       have HS9 := Aside0.mk (HS8.out.below hb9)
       have a6 : wrap64 ((bz : Int) + (rows.length : Int)) = (i : Int) + 1 := (wrap_id (by omega) (by have := HZ.out; have := HI.out; have := HL.out; omega)).trans (by have := HZ.out; omega)
       have a9 := HA9.out
       clear hl9 hb9 HS8 HB8 k0 q3 HBU HS
       have hlt := HI.out.1
       go_wp2
       go_roundw
       case rel => exact ⟨i + 1, E2, now + k, rfl, by go_num, hlt, by have := HI.out; have := HRQ.out; omega, by have := HE2.out; omega, HS9⟩
       case measure => first | (rw [a9]; exact meas _ _ hlt) | exact meas _ _ hlt
    ·have q0 : decide ((i : Int) < (ls.length : Int)) = false := decide_eq_false (by omega)
     have hie : i = ls.length := by omega
     subst hie
     have HNE := Aside0.mk (show now ≤ 140 ∧ E ≤ 140 from by omega)
     clear hnow hE hi hlt
     go_wp2
     go_loopw [14] (fun nv wr => ∃ now2 : Nat, now2 ≤ 141 ∧ Aside0 (TSt w4 gw gs gx gt gf mx gr gm P xs now2 ls.length E wr)) (fun nv wr => E - nowOf gs wr)
     case atStart => exact ⟨now, by have := HNE.out; omega, HS⟩
     case round =>
      clear HS
      obtain ⟨now2, hn2, HS⟩ := hrel
      by_cases hlt : now2 < E
      ·have q1 : decide ((now2 : Int) < (E : Int)) = true := decide_eq_true (by omega)
       have q2 : decide ((0 : Int) ≤ (now2 : Int)) = true := decide_eq_true (by omega)
       have q3 : (0 : Int) ≤ (now2 : Int) := by omega
       have HI := Aside0.mk (And.intro hlt hn2)
       have HA9 := Aside0.mk (show wrap64 ((now2 : Int) + 1) = ((now2 + 1 : Nat) : Int) from wrap_id (by omega) (by omega))
       have HNN := Aside0.mk HS.out.nowEq
       clear hn2
       go_wp2_with fail
       refine HS.out.Now.mono ?_
       rintro e w8 ⟨rfl, rfl⟩
       go_wp2_with fail
       refine HS.out.Now.mono ?_
       rintro e w8 ⟨rfl, rfl⟩
       go_wp2_with fail
       refine HS.out.Now.mono ?_
       rintro e w8 ⟨rfl, rfl⟩
       go_wp2_with fail
       refine (HS.out.tick HXS.out.2.2 HXS.out.2.1 (by have := HL.out; omega) (by have := HI.out; omega) (by have := HNE.out; omega)).mono ?_
       rintro e w9 ⟨⟨n9, rfl⟩, hs9⟩
       have HS9 := Aside0.mk hs9
       clear hs9 HS q1 q2 q3
       go_wp2_with fail
       refine HS9.out.Now.mono ?_
       rintro e w10 ⟨rfl, rfl⟩
       have a9 := HA9.out
       go_wp2
       go_roundw
       case rel => exact ⟨now2 + 1, by have := HI.out; have := HNE.out; omega, HS9⟩
       case measure =>
        have h1 := HS9.out.nowEq
        have h2 := HNN.out
        have h3 := HI.out
        omega
      ·have q1 : decide ((now2 : Int) < (E : Int)) = false := decide_eq_false (by omega)
       obtain ⟨bz, tl, hz1, hz2, hz3, hz4, hBusy, hTold⟩ := HS.out.counts HXS.out.2.2 (fun x hx => (HSM.out x hx).1) (by have := HL.out; omega)
       obtain rfl := hz4 (by omega)
       have HZ := Aside0.mk (show tl = ls.length by omega)
       have HBU := Aside0.mk (And.intro hBusy hTold)
       clear hz1 hz2 hz3 hz4 hBusy hTold hn2
       go_wp2_with fail
       refine HS.out.Now.mono ?_
       rintro e w8 ⟨rfl, rfl⟩
       clear q0
       go_wp2_with fail
       refine (HBU.out.2 _ (Below.refl _ _)).mono ?_
       rintro e w9 ⟨A9, c9, rows, rfl, hl9, hr9, hk9, hb9⟩
       have hrl : rows.length = ls.length := hl9.trans HZ.out
       have HR9 := Aside0.mk (Kd.R_reads' hr9).2.2
       rw [hrl] at HR9 ⊢
       have HK9 := Aside0.mk (And.intro hrl hk9)
       have HB9 := Aside0.mk hb9
       have HBW := Aside0.mk (HB5.out.trans ((HS.out.below hb9).hW.mono HB5.out.size))
       clear hl9 hr9 hk9 hb9 q1 hrl
       go_wp2
       go_loopw [16] (fun jv wr => ∃ j : Nat, jv = .int .i64 (j : Int) ∧ j ≤ ls.length ∧ wr = w9) (fun jv _ => ((ls.length : Int) - intOf jv).toNat)
       case atStart => exact ⟨0, rfl, by omega, rfl⟩
       case round =>
        obtain ⟨j, rfl, hj, rfl⟩ := hrel
        by_cases hjl : j < ls.length
        ·have q1 : decide ((j : Int) < (ls.length : Int)) = true := decide_eq_true (by omega)
         have u2 : (0 : Int) ≤ (j : Int) := by omega
         have u3 : (j : Int) < (ls.length : Int) := by omega
         have a9 : wrap64 ((j : Int) + 1) = (j : Int) + 1 := wrap_id (by omega) (by omega)
         obtain ⟨id, as_, at_, k, v, er, hat, hk, hk1⟩ := HK9.out.2 _ (getD_mem rows [] j (by have := HK9.out.1; omega))
         obtain ⟨ad, rfl, x0, x1, x2, x3, x4, x5, x6⟩ := at_Act7 HR9.out j hjl er
         have q2 : decide ((E : Int) < at_) = false := decide_eq_false (by omega)
         have q3 : at_ ≤ (E : Int) := hat
         clear er x0 x1 x3 x5 x6 hj
         rcases hk with rfl | rfl | hx0
         ·clear hk1
          go_wp2
          go_roundw
          case rel => exact ⟨j + 1, by go_num, hjl, trivial⟩
          case measure => first | (rw [a9]; exact meas _ _ hjl) | exact meas _ _ hjl
         ·clear hk1
          go_wp2
          go_roundw
          case rel => exact ⟨j + 1, by go_num, hjl, trivial⟩
          case measure => first | (rw [a9]; exact meas _ _ hjl) | exact meas _ _ hjl
         ·obtain rfl := hk1 hx0
          have hxl : xs.length = 0 := by rw [hx0]; rfl
          clear hk1
          go_wp2
          go_roundw
          case rel => exact ⟨j + 1, by go_num, hjl, trivial⟩
          case measure => first | (rw [a9]; exact meas _ _ hjl) | exact meas _ _ hjl
        ·have q1 : decide ((j : Int) < (ls.length : Int)) = false := decide_eq_false (by omega)
         go_wp2_with fail
         refine (HBU.out.1 wr HB9.out).mono ?_
         rintro e w10 ⟨A10, c10, rfl, hb10⟩
         have HB10 := Aside0.mk (below_step HBW.out hb10)
         clear hb10
         go_wp2_with fail
         refine (awake.calls w10).mono ?_
         rintro e w11 ⟨rfl, hb11⟩
         have HF := Aside0.mk (below_step HB10.out hb11)
         clear hb11
         go_wp2
         go_ret
         exact ⟨rfl, HF.out⟩
  ·have q0 : decide (40 < (ls.length : Int)) = true := decide_eq_true (by omega)
   clear hl40
   go_wp2_with fail
   refine (awake.calls w3).mono ?_
   rintro e w4 ⟨rfl, hb5⟩
   have HF := Aside0.mk (below_step HB4.out hb5)
   clear hb5
   go_wp2
   go_ret
   exact ⟨rfl, HF.out⟩
end Go.Proofs.YtceffpgcbihckaaGreat.Top
