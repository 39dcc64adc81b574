/- What the printed functions of stamp and its reference compute, in plain words. Condition: whole bytes, at most 100000 of them. -/
import Derived.Test.YtenaggpgblaalaaStampA
import Derived.Test.YtenaggpgblaalaaPlainStamp
import Derived.Lib.Strings
namespace Go.Proofs.Ytenaggpgblaalaa.Stamp
open PlainStamp
open Plain (wrap_id)
open Go.RowKit Go.Proofs.Ytenaggpgblaalaa.StampA Base Go.Proofs.YtenaggpgblaalaaW.PrintWords Go.Proofs.YtenaggpgblaalaaW.PrintLast Go.Proofs.YtenaggpgblaalaaW.PrintMore

theorem rd_at (l : List Int) (i : Int) (_h0 : 0 ≤ i) (h : i.toNat < l.length) : rd l i = l[i.toNat] := by unfold rd; simp [List.getD, h]
theorem step_int (s : Nat) (c : Int) (hs : s < 4294967296) (hc : 0 ≤ c ∧ c ≤ 255) : (Go.bits .xor .u32 (s : Int) (c % 4294967296)) * 16777619 % 4294967296 = ((stepN s c.toNat : Nat) : Int) := by
  rw [show c % 4294967296 = c from by omega, u32_xor _ _ (by omega) (by omega) (by omega) (by omega)]
  unfold stepN
  simp
theorem on_l (d : Nat) : ∀ (fuel : Nat) (l : List Int) (s : Nat) (i : Int), Bytes l → s < 4294967296 → 0 ≤ i → (l.length : Int) - i = d → (l.length : Int) ≤ 9223372036854775807 → d < fuel →
    stamp_On.l0 fuel s l (l.length : Int) i = some ((onN s (l.drop i.toNat) : Nat) : Int) := by
  induction d with
  | zero =>
    intro fuel l s i hb hs hi hd hm hf
    obtain ⟨f, rfl⟩ : ∃ m, fuel = m + 1 := ⟨fuel - 1, by omega⟩
    simp only [stamp_On.l0]; rw [if_neg (by omega), List.drop_eq_nil_of_le (by omega)]; rfl
  | succ d ih =>
    intro fuel l s i hb hs hi hd hm hf
    obtain ⟨f, rfl⟩ : ∃ m, fuel = m + 1 := ⟨fuel - 1, by omega⟩
    have hlt : i < (l.length : Int) := by omega
    have hln : i.toNat < l.length := by omega
    have hc := hb l[i.toNat] (List.getElem_mem hln)
    simp only [stamp_On.l0]; rw [if_pos hlt, if_pos hi, if_pos hlt, rd_at l i hi hln, step_int s _ hs hc, wrap_id (n := i + 1) (by omega) (by omega), ih f l _ (i + 1) hb (stepN_lt _ _) (by omega) (by omega) hm (by omega)]
    rw [List.drop_eq_getElem_cons hln, show (i + 1).toNat = i.toNat + 1 from by omega]
    rfl
theorem on_f (fuel : Nat) (l : List Int) (s : Nat) (hb : Bytes l) (hs : s < 4294967296) (hm : l.length ≤ 9223372036854775807) (hf : l.length < fuel) : stamp_On.f fuel (s : Int) l = some ((onN s l : Nat) : Int) := by
  unfold stamp_On.f
  rw [on_l l.length fuel l s 0 hb hs (by omega) (by omega) (by omega) hf]; rfl
theorem of_f (fuel : Nat) (l : List Int) (hb : Bytes l) (hm : l.length ≤ 9223372036854775807) (hf : l.length < fuel) : stamp_Of.f fuel l = some ((ofN l : Nat) : Int) := by
  unfold stamp_Of.f
  have := on_f fuel l 2166136261 hb (by decide) hm hf
  rw [show ((2166136261 : Nat) : Int) = 2166136261 from rfl] at this
  rw [this]; rfl

def par (a b : Nat) : Nat := if a % 2 = b % 2 then 0 else 1
theorem xor_round (k : Nat) (a b : Nat) (acc w : Int) (ha : a < 256) (hb : b < 256) (h0 : 0 ≤ acc) (h1 : acc ≤ 256) (w0 : 0 ≤ w) (w1 : w < 256) :
    compradorref02_xor.l0 (k + 1) a b acc w = compradorref02_xor.l0 k ((a / 2 : Nat) : Int) ((b / 2 : Nat) : Int) (acc + (if par a b = 0 then 0 else w)) (w * 2) := by
  simp only [compradorref02_xor.l0]
  rw [if_pos (by omega)]
  have ea : Int.tmod (a : Int) 2 = ((a % 2 : Nat) : Int) := by rw [Int.tmod_eq_emod_of_nonneg (by omega)]; omega
  have eb : Int.tmod (b : Int) 2 = ((b % 2 : Nat) : Int) := by rw [Int.tmod_eq_emod_of_nonneg (by omega)]; omega
  have da : Int.tdiv (a : Int) 2 = ((a / 2 : Nat) : Int) := by rw [Int.tdiv_eq_ediv_of_nonneg (by omega)]; omega
  have db : Int.tdiv (b : Int) 2 = ((b / 2 : Nat) : Int) := by rw [Int.tdiv_eq_ediv_of_nonneg (by omega)]; omega
  rw [ea, eb, da, db, wrap_id (n := ((a / 2 : Nat) : Int)) (by omega) (by omega), wrap_id (n := ((b / 2 : Nat) : Int)) (by omega) (by omega), wrap_id (n := w * 2) (by omega) (by omega), wrap_id (n := acc + w) (by omega) (by omega)]
  by_cases c : a % 2 = b % 2
  · rw [if_pos (by omega)]; simp [par, c]
  · rw [if_neg (by omega)]; simp [par, c]
theorem xor_f (fuel : Nat) (a b : Nat) (ha : a < 256) (hb : b < 256) (hf : 9 ≤ fuel) : compradorref02_xor.f fuel a b = some ((a ^^^ b : Nat) : Int) := by
  obtain ⟨f, rfl⟩ : ∃ m, fuel = m + 9 := ⟨fuel - 9, by omega⟩
  have p (a b : Nat) : par a b = 0 ∨ par a b = 1 := by unfold par; split <;> simp
  have x (a b : Nat) : a ^^^ b = par a b + 2 * (a / 2 ^^^ b / 2) := by unfold par; exact xor_half a b
  unfold compradorref02_xor.f
  have x0 := x a b
  have x1 := x (a / 2) (b / 2)
  have x2 := x (a / 2 / 2) (b / 2 / 2)
  have x3 := x (a / 2 / 2 / 2) (b / 2 / 2 / 2)
  have x4 := x (a / 2 / 2 / 2 / 2) (b / 2 / 2 / 2 / 2)
  have x5 := x (a / 2 / 2 / 2 / 2 / 2) (b / 2 / 2 / 2 / 2 / 2)
  have x6 := x (a / 2 / 2 / 2 / 2 / 2 / 2) (b / 2 / 2 / 2 / 2 / 2 / 2)
  have x7 := x (a / 2 / 2 / 2 / 2 / 2 / 2 / 2) (b / 2 / 2 / 2 / 2 / 2 / 2 / 2)
  have x8 : (a / 2 / 2 / 2 / 2 / 2 / 2 / 2 / 2 ^^^ b / 2 / 2 / 2 / 2 / 2 / 2 / 2 / 2) = 0 := by
    rw [show a / 2 / 2 / 2 / 2 / 2 / 2 / 2 / 2 = 0 from by omega, show b / 2 / 2 / 2 / 2 / 2 / 2 / 2 / 2 = 0 from by omega]; rfl
  have q0 := p a b
  have q1 := p (a / 2) (b / 2)
  have q2 := p (a / 2 / 2) (b / 2 / 2)
  have q3 := p (a / 2 / 2 / 2) (b / 2 / 2 / 2)
  have q4 := p (a / 2 / 2 / 2 / 2) (b / 2 / 2 / 2 / 2)
  have q5 := p (a / 2 / 2 / 2 / 2 / 2) (b / 2 / 2 / 2 / 2 / 2)
  have q6 := p (a / 2 / 2 / 2 / 2 / 2 / 2) (b / 2 / 2 / 2 / 2 / 2 / 2)
  have q7 := p (a / 2 / 2 / 2 / 2 / 2 / 2 / 2) (b / 2 / 2 / 2 / 2 / 2 / 2 / 2)
  rw [xor_round (f + 8) a b 0 1 ha hb (by omega) (by omega) (by omega) (by omega)]
  have z (n : Nat) (w : Int) (h : n = 0 ∨ n = 1) : (if n = 0 then 0 else w) = n * w := by rcases h with rfl | rfl <;> simp
  rw [z _ _ q0]
  rw [xor_round (f + 7) _ _ _ _ (by omega) (by omega) (by omega) (by omega) (by omega) (by omega), z _ _ q1]
  rw [xor_round (f + 6) _ _ _ _ (by omega) (by omega) (by omega) (by omega) (by omega) (by omega), z _ _ q2]
  rw [xor_round (f + 5) _ _ _ _ (by omega) (by omega) (by omega) (by omega) (by omega) (by omega), z _ _ q3]
  rw [xor_round (f + 4) _ _ _ _ (by omega) (by omega) (by omega) (by omega) (by omega) (by omega), z _ _ q4]
  rw [xor_round (f + 3) _ _ _ _ (by omega) (by omega) (by omega) (by omega) (by omega) (by omega), z _ _ q5]
  rw [xor_round (f + 2) _ _ _ _ (by omega) (by omega) (by omega) (by omega) (by omega) (by omega), z _ _ q6]
  rw [xor_round (f + 1) _ _ _ _ (by omega) (by omega) (by omega) (by omega) (by omega) (by omega), z _ _ q7]
  simp only [compradorref02_xor.l0]
  rw [if_neg (by omega)]
  congr 1
  rw [x8] at x7
  omega

theorem str_byte (l : List Int) (hb : Bytes l) (i : Int) (_h0 : 0 ≤ i) (h : i.toNat < l.length) : bt (strOfNums l) i = l[i.toNat] := by
  have hs : i.toNat < (strOfNums l).size := by rw [strOfNums_size]; exact h
  have hc := hb l[i.toNat] (List.getElem_mem h)
  unfold bt
  rw [dif_pos hs]
  have : (strOfNums l)[i.toNat] = UInt8.ofNat (l[i.toNat]).toNat := by
    show (strOfNums l).data[i.toNat] = _
    simp [strOfNums]
  rw [this]
  simp
  omega
theorem str_append (a b : List Int) : strOfNums a ++ strOfNums b = strOfNums (a ++ b) := by
  apply ByteArray.ext
  simp [strOfNums]
theorem str_take (l : List Int) (n : Nat) (_h : n ≤ l.length) : (strOfNums l).extract 0 n = strOfNums (l.take n) := by
  apply ByteArray.ext
  simp [strOfNums, List.map_take]
theorem str_inj {a b : List Int} (ha : Bytes a) (hb : Bytes b) (h : strOfNums a = strOfNums b) : a = b := by
  have h1 := congrArg (fun x : ByteArray => x.data.toList) h
  simp only [strOfNums_data] at h1
  have hl : a.length = b.length := by simpa using congrArg List.length h1
  apply List.ext_getElem hl
  intro i h2 h3
  have h4 := congrArg (fun m => m[i]?) h1
  simp only [List.getElem?_map, List.getElem?_eq_getElem h2, List.getElem?_eq_getElem h3, Option.map_some, Option.some.injEq] at h4
  have h5 := congrArg UInt8.toNat h4
  have ba := ha a[i] (List.getElem_mem h2); have bb := hb b[i] (List.getElem_mem h3)
  simp only [UInt8.toNat_ofNat'] at h5
  omega
theorem str_toList {a b : ByteArray} (h : a.toList = b.toList) : a = b := by
  apply ByteArray.ext
  apply Array.toList_inj.1
  rw [Lib.toList_data, Lib.toList_data] at h; exact h
theorem rof_l (d : Nat) : ∀ (fuel : Nat) (l : List Int) (s : Nat) (i : Int), Bytes l → s < 4294967296 → 0 ≤ i → (l.length : Int) - i = d → (l.length : Int) ≤ 100004 → d + 9 < fuel →
    compradorref02_Of.l0 fuel (strOfNums l) s i = some ((onN s (l.drop i.toNat) : Nat) : Int) := by
  induction d with
  | zero =>
    intro fuel l s i hb hs hi hd hm hf
    obtain ⟨f, rfl⟩ : ∃ m, fuel = m + 1 := ⟨fuel - 1, by omega⟩
    simp only [compradorref02_Of.l0, strOfNums_size]; rw [if_neg (by omega), List.drop_eq_nil_of_le (by omega)]; rfl
  | succ d ih =>
    intro fuel l s i hb hs hi hd hm hf
    obtain ⟨f, rfl⟩ : ∃ m, fuel = m + 1 := ⟨fuel - 1, by omega⟩
    have hlt : i < (l.length : Int) := by omega
    have hln : i.toNat < l.length := by omega
    have hc := hb l[i.toNat] (List.getElem_mem hln)
    have em : Int.tmod (s : Int) 256 = ((s % 256 : Nat) : Int) := by rw [Int.tmod_eq_emod_of_nonneg (by omega)]; omega
    simp only [compradorref02_Of.l0, strOfNums_size]; rw [if_pos hlt, if_pos hi, str_byte l hb i hi hln, em, wrap_id (n := l[i.toNat]) (by omega) (by omega)]
    have hx := xor_f f (s % 256) (l[i.toNat]).toNat (by omega) (by omega) (by omega)
    rw [show (((l[i.toNat]).toNat : Nat) : Int) = l[i.toNat] from by omega] at hx
    rw [hx]; simp only [Option.bind_some]
    have hxl : (s % 256) ^^^ (l[i.toNat]).toNat < 256 := Nat.xor_lt_two_pow (n := 8) (Nat.mod_lt _ (by decide)) (by omega)
    have hlow := xor_low s (l[i.toNat]).toNat (by omega)
    have hst : Int.tmod (wrap64 ((wrap64 ((wrap64 ((s : Int) - ((s % 256 : Nat) : Int))) + (((s % 256) ^^^ (l[i.toNat]).toNat : Nat) : Int))) * 16777619)) 4294967296 = ((stepN s (l[i.toNat]).toNat : Nat) : Int) := by
      rw [wrap_id (n := (s : Int) - _) (by omega) (by omega), wrap_id (n := (s : Int) - _ + _) (by omega) (by omega), wrap_id (by omega) (by omega), Int.tmod_eq_emod_of_nonneg (by omega)]
      unfold stepN
      rw [hlow]
      omega
    rw [hst, wrap_id (n := i + 1) (by omega) (by omega), ih f l _ (i + 1) hb (stepN_lt _ _) (by omega) (by omega) hm (by omega)]
    rw [List.drop_eq_getElem_cons hln, show (i + 1).toNat = i.toNat + 1 from by omega]
    rfl
theorem rof_f (fuel : Nat) (l : List Int) (hb : Bytes l) (hm : l.length ≤ 100004) (hf : l.length + 10 ≤ fuel) : compradorref02_Of.f fuel (strOfNums l) = some ((ofN l : Nat) : Int) := by
  unfold compradorref02_Of.f
  have := rof_l l.length fuel l 2166136261 0 hb (by decide) (by omega) (by omega) (by omega) (by omega)
  rw [show ((2166136261 : Nat) : Int) = 2166136261 from rfl] at this
  rw [this]; rfl
theorem rseal_f (fuel : Nat) (l : List Int) (hb : Bytes l) (hm : l.length ≤ 100004) (hf : l.length + 10 ≤ fuel) : compradorref02_Seal.f fuel (strOfNums l) = some (strOfNums (l ++ tail4 (ofN l))) := by
  have hlt := ofN_lt l
  unfold compradorref02_Seal.f
  rw [rof_f fuel l hb hm hf]; simp only [Option.bind_some]
  have e : [wrap64 (Int.tdiv ((ofN l : Nat) : Int) 16777216) % 256, Int.tmod (wrap64 (Int.tdiv ((ofN l : Nat) : Int) 65536)) 256 % 256, Int.tmod (wrap64 (Int.tdiv ((ofN l : Nat) : Int) 256)) 256 % 256, Int.tmod ((ofN l : Nat) : Int) 256 % 256] = tail4 (ofN l) := by
    rw [Int.tdiv_eq_ediv_of_nonneg (by omega), Int.tdiv_eq_ediv_of_nonneg (by omega), Int.tdiv_eq_ediv_of_nonneg (by omega), wrap_id (by omega) (by omega), wrap_id (by omega) (by omega), wrap_id (by omega) (by omega), Int.tmod_eq_emod_of_nonneg (by omega), Int.tmod_eq_emod_of_nonneg (by omega), Int.tmod_eq_emod_of_nonneg (by omega)]
    unfold tail4
    rw [show ((ofN l : Nat) : Int) / 16777216 % 256 = ((ofN l : Nat) : Int) / 16777216 from by omega, Int.emod_emod_of_dvd _ (by decide), Int.emod_emod_of_dvd _ (by decide), Int.emod_emod_of_dvd _ (by decide)]
  rw [e, if_pos (by rw [strOfNums_size, strOfNums_size, show (tail4 ((ofN l : Nat) : Int)).length = 4 from rfl]; omega), str_append]
theorem ropen_f (fuel : Nat) (l : List Int) (hb : Bytes l) (hm : l.length ≤ 100004) (hf : l.length + 10 ≤ fuel) : compradorref02_Open.f fuel (strOfNums l) = some (strOfNums (openF l).1, (openF l).2) := by
  unfold compradorref02_Open.f openF
  rw [strOfNums_size, wrap_id (by omega) (by omega)]
  by_cases c : l.length < 4
  · rw [if_pos (by omega), if_pos c]; rfl
  · rw [if_neg (by omega), if_pos (by omega), if_pos (by omega), if_neg c]
    rw [show ((l.length : Int) - 4).toNat = l.length - 4 from by omega, str_take l _ (by omega)]
    have hbt : Bytes (l.take (l.length - 4)) := fun x hx => hb x (List.mem_of_mem_take hx)
    have hbd : Bytes (l.drop (l.length - 4)) := fun x hx => hb x (List.mem_of_mem_drop hx)
    have htl := List.length_take_le (l.length - 4) l
    rw [rseal_f fuel _ hbt (by omega) (by omega)]; simp only [Option.bind_some]
    have hlt := ofN_lt (l.take (l.length - 4))
    have hlen : (l.drop (l.length - 4)).length = 4 := by rw [List.length_drop]; omega
    by_cases e : be (l.drop (l.length - 4)) = (ofN (l.take (l.length - 4)) : Int)
    · rw [if_pos e, if_pos]
      have h4 : l.drop (l.length - 4) = tail4 (ofN (l.take (l.length - 4))) := by
        apply be_inj _ _ hlen rfl hbd (tail4_bytes _ (by omega) (by omega))
        rw [be_tail4]; exact e
      rw [← h4, List.take_append_drop]
    · rw [if_neg e, if_neg]
      · rfl
      · intro h
        apply e
        have h1 := str_inj (bytes_append hbt (tail4_bytes _ (by omega) (by omega))) hb (str_toList h)
        have h2 : l.drop (l.length - 4) = tail4 (ofN (l.take (l.length - 4))) := by
          have h3 : l.take (l.length - 4) ++ tail4 (ofN (l.take (l.length - 4))) = l.take (l.length - 4) ++ l.drop (l.length - 4) := h1.trans (List.take_append_drop _ _).symm
          exact (List.append_cancel_left h3).symm
        rw [h2, be_tail4]

/-! The contracts, in plain words -/
theorem On.calls' (A : Option Addr) (c n : Nat) (s : Int) (l : List Int) (w : World) (s0 : 0 ≤ s) (s1 : s ≤ 4294967295) (hn : l.length = n) (hb : Bytes l) (hm : n ≤ 200000) (hr : Kd.C (Kd.int .u8) w A n l) (hc : n ≤ c) :
    Calls Try.prog 34 #[.int .u32 s, .slice A n c] w fun e w' => e = .returned (.int .u32 ((onN s.toNat l : Nat) : Int)) ∧ Drawn0 w w' := by
  subst hn
  have h := on_f (l.length + 1) l s.toNat hb (by omega) (by omega) (by omega)
  rw [show ((s.toNat : Nat) : Int) = s from by omega] at h
  exact stamp_On.calls _ s A c l _ w hr hc h
theorem Of.calls' (A : Option Addr) (c n : Nat) (l : List Int) (w : World) (hn : l.length = n) (hb : Bytes l) (hm : n ≤ 200000) (hr : Kd.C (Kd.int .u8) w A n l) (hc : n ≤ c) :
    Calls Try.prog 30 #[.slice A n c] w fun e w' => e = .returned (.int .u32 ((ofN l : Nat) : Int)) ∧ Drawn0 w w' := by
  subst hn
  exact stamp_Of.calls (l.length + 1) A c l _ w hr hc (of_f _ l hb (by omega) (by omega))
theorem ROf.calls' (l : List Int) (w : World) (hb : Bytes l) (hm : l.length ≤ 100004) :
    Calls Try.prog 31 #[.string (strOfNums l)] w fun e w' => e = .returned (.int .i64 ((ofN l : Nat) : Int)) ∧ Drawn0 w w' :=
  compradorref02_Of.calls (l.length + 10) _ _ w (rof_f _ l hb hm (Nat.le_refl _))
theorem RSeal.calls' (l : List Int) (w : World) (hb : Bytes l) (hm : l.length ≤ 100004) :
    Calls Try.prog 33 #[.string (strOfNums l)] w fun e w' => e = .returned (.string (strOfNums (l ++ tail4 (ofN l)))) ∧ Below w.heap.size w w' :=
  compradorref02_Seal.calls (l.length + 10) _ _ w (rseal_f _ l hb hm (Nat.le_refl _))
theorem ROpen.calls' (l : List Int) (w : World) (hb : Bytes l) (hm : l.length ≤ 100004) :
    Calls Try.prog 29 #[.string (strOfNums l)] w fun e w' => e = .returned (.tuple #[.string (strOfNums (openF l).1), .bool (openF l).2]) ∧ Below w.heap.size w w' :=
  compradorref02_Open.calls (l.length + 10) _ _ _ w (ropen_f _ l hb hm (Nat.le_refl _))
end Go.Proofs.Ytenaggpgblaalaa.Stamp
