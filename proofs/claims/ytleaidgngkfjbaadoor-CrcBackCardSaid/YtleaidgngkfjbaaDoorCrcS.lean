/- Bits that are turned in sealed bytes, in a frame: the plain law. -/
import Derived.Test.YtleaidgngkfjbaaDoorCrcQ
namespace Go.Proofs.YtleaidgngkfjbaaDoor
open Go Go.Proofs.YtleaidgngkfjbaaDoor.X
set_option linter.unusedVariables false
set_option linter.unusedSimpArgs false

abbrev XO (l e : List UInt8) : List UInt8 := List.zipWith (· ^^^ ·) l e
def bitAt (e : List UInt8) (j : Nat) : Bool := (e.getD (j / 8) 0).toNat.testBit (j % 8)
/-- The bits of e lie in k places from f on; t: is there one? -/
def Burst (e : List UInt8) (f k : Nat) (t : Bool) : Prop := (∀ j, bitAt e j = true → f ≤ j ∧ j < f + k) ∧ (t = true ↔ ∃ j, bitAt e j = true)

theorem bitAt_lt {e : List UInt8} {j : Nat} (h : bitAt e j = true) : j < 8 * e.length := by
  by_cases hj : j / 8 < e.length
  · omega
  · exfalso
    unfold bitAt at h
    rw [List.getD_eq_getElem?_getD, List.getElem?_eq_none (by omega)] at h
    simp at h
theorem bits8_get (c : UInt8) (i : Nat) (hi : i < 8) : (bits8 c)[i]? = some (c.toNat.testBit i) := by
  unfold bits8
  rw [List.getElem?_map, List.getElem?_range hi]; rfl
theorem flat_bits : ∀ (e : List UInt8) (j : Nat), j < 8 * e.length → (e.flatMap bits8)[j]? = some (bitAt e j)
  | [], j, h => by simp at h
  | c :: e, j, h => by
    rw [List.flatMap_cons]
    have hl : (bits8 c).length = 8 := by simp [bits8]
    by_cases hj : j < 8
    · rw [List.getElem?_append_left (by omega), bits8_get c j hj]
      simp only [bitAt, show j / 8 = 0 by omega, show j % 8 = j by omega]; rfl
    · rw [List.getElem?_append_right (by omega), hl, flat_bits e (j - 8) (by simp at h; omega)]
      simp only [bitAt, show j / 8 = (j - 8) / 8 + 1 by omega, show j % 8 = (j - 8) % 8 by omega]; rfl
theorem flat_len (e : List UInt8) : (e.flatMap bits8).length = 8 * e.length := by
  induction e with
  | nil => rfl
  | cons c e ih => rw [List.flatMap_cons, List.length_append, ih]; simp [bits8]; omega
theorem all_false {l : List Bool} (h : ∀ b ∈ l, b = false) : l = List.replicate l.length false := List.eq_replicate_iff.2 ⟨rfl, h⟩
/-- A burst leaves a register. -/
theorem burst_more {e : List UInt8} {f : Nat} (h : Burst e f 32 true) : moreC 0#32 e ≠ 0#32 := by
  obtain ⟨h1, h2⟩ := h
  obtain ⟨j0, hj0⟩ := h2.1 rfl
  rw [more_bits]
  have hL := flat_len e
  have hb := flat_bits e
  generalize e.flatMap bits8 = L at hL hb ⊢
  have ht : L.take f = List.replicate (L.take f).length false := all_false fun b hb' => by
    obtain ⟨i, hi, rfl⟩ := List.mem_iff_getElem.1 hb'
    rw [List.length_take] at hi
    have := hb i (by omega)
    rw [List.getElem_take]
    rw [List.getElem?_eq_getElem (by omega)] at this
    cases hq : bitAt e i
    · rw [hq] at this; simpa using this
    · have := (h1 i hq).1; omega
  have hd : L.drop (f + 32) = List.replicate (L.drop (f + 32)).length false := all_false fun b hb' => by
    obtain ⟨i, hi, rfl⟩ := List.mem_iff_getElem.1 hb'
    rw [List.length_drop] at hi
    have := hb (f + 32 + i) (by omega)
    rw [List.getElem_drop]
    rw [List.getElem?_eq_getElem (by omega)] at this
    cases hq : bitAt e (f + 32 + i)
    · rw [hq] at this; simpa using this
    · have := (h1 _ hq).2; omega
  have hs : L = L.take f ++ (L.drop f).take 32 ++ L.drop (f + 32) := by
    rw [← List.drop_drop, List.append_assoc, List.take_append_drop, List.take_append_drop]
  rw [hs, ht, hd]
  refine burst _ _ _ (by rw [List.length_take]; omega) ?_
  obtain ⟨h3, h4⟩ := h1 j0 hj0
  have h5 := hb j0 (by have := bitAt_lt hj0; omega)
  rw [hj0] at h5
  refine List.mem_iff_getElem?.2 ⟨j0 - f, ?_⟩
  rw [List.getElem?_take, if_pos (by omega), List.getElem?_drop, show f + (j0 - f) = j0 by omega]; exact h5

/-! ### the sealed bytes -/
theorem C32_shl (c : UInt8) (k : Nat) (hk : k ≤ 24) : stN k (C32 c <<< k) = C32 c := by
  have hc := c.toNat_lt
  have h1 : (C32 c).toNat = c.toNat := by rw [C32, BitVec.toNat_ofNat]; omega
  have hp : 2 ^ k ≤ 2 ^ 24 := Nat.pow_le_pow_right (by decide) hk
  have hlt : c.toNat * 2 ^ k < 2 ^ 32 := by
    have : c.toNat * 2 ^ k ≤ 255 * 2 ^ 24 := Nat.mul_le_mul (by omega) hp
    omega
  have h2 : (C32 c <<< k).toNat = c.toNat * 2 ^ k := by rw [BitVec.toNat_shiftLeft, h1, Nat.shiftLeft_eq, Nat.mod_eq_of_lt hlt]
  apply BitVec.eq_of_toNat_eq
  rw [stN_even k (by rw [h2]; exact Nat.mul_mod_left _ _), h2, h1, Nat.mul_div_cancel _ (Nat.two_pow_pos k)]
theorem num4_xor (a b c d : UInt8) : num4 a b c d = C32 a ^^^ (C32 b <<< 8) ^^^ (C32 c <<< 16) ^^^ (C32 d <<< 24) := by
  apply BitVec.eq_of_getLsbD_eq
  intro i hi
  have h8 : ∀ (c : UInt8) (j : Nat), 8 ≤ j → (C32 c).getLsbD j = false := by
    intro c j hj
    rw [C32_at, Nat.testBit_lt_two_pow (Nat.lt_of_lt_of_le c.toNat_lt (Nat.pow_le_pow_right (by decide) hj))]; simp
  simp only [num4, BitVec.getLsbD_or, BitVec.getLsbD_xor, BitVec.getLsbD_shiftLeft, hi, decide_true, Bool.true_and]
  by_cases h1 : i < 8
  · simp [h1, show i < 16 by omega, show i < 24 by omega]
  · by_cases h2 : i < 16
    · simp [h1, h2, h8 a i (by omega), show i < 24 by omega]
    · by_cases h3 : i < 24
      · simp [h1, h2, h3, h8 a i (by omega), h8 b (i - 8) (by omega)]
      · simp [h1, h2, h3, h8 a i (by omega), h8 b (i - 8) (by omega), h8 c (i - 16) (by omega)]
theorem more4 (r : R32) (a b c d : UInt8) : moreC r [a, b, c, d] = stN 32 (r ^^^ num4 a b c d) := by
  rw [num4_xor]
  show byteC (byteC (byteC (byteC r a) b) c) d = _
  rw [byte_st, byte_st, byte_st, byte_st]
  conv => lhs; rw [← C32_shl b 8 (by omega)]
  rw [← stN_xor, stN_add]
  conv => lhs; rw [← C32_shl c 16 (by omega)]
  rw [show 8 + 8 = 16 by rfl, ← stN_xor, stN_add]
  conv => lhs; rw [← C32_shl d 24 (by omega)]
  rw [show 16 + 8 = 24 by rfl, ← stN_xor, stN_add, BitVec.xor_assoc r, BitVec.xor_assoc r, BitVec.xor_assoc r]
theorem C32_xor (a b : UInt8) : C32 (a ^^^ b) = C32 a ^^^ C32 b := by
  apply BitVec.eq_of_getLsbD_eq
  intro i hi
  rw [C32_at, BitVec.getLsbD_xor, C32_at, C32_at, UInt8.toNat_xor, Nat.testBit_xor]
  simp [hi]
theorem num4_XO (a b c d x y z t : UInt8) : num4 (a ^^^ x) (b ^^^ y) (c ^^^ z) (d ^^^ t) = num4 a b c d ^^^ num4 x y z t := by
  simp only [num4_xor, C32_xor, BitVec.shiftLeft_xor_distrib]
  rw [xor4 (C32 a) (C32 x), xor4 (C32 a ^^^ C32 b <<< 8), xor4 (C32 a ^^^ C32 b <<< 8 ^^^ C32 c <<< 16)]
theorem sum_XO (l e : List UInt8) (h : l.length = e.length) : sumC (XO l e) = sumC l ^^^ moreC 0#32 e := by
  unfold sumC
  have := moreC_xor l e (BitVec.ofNat 32 4294967295) 0#32 h
  rw [BitVec.xor_zero] at this
  rw [this, ones_xor, ones_xor, BitVec.xor_assoc, BitVec.xor_assoc, BitVec.xor_comm (moreC 0#32 e)]
theorem open_burst (b e : List UInt8) {f : Nat} (he : e.length = (sealC b).length) (h : Burst e f 32 true) : (openC (XO (sealC b) e)).1 ≠ 0 := by
  intro h0
  have hsl := seal_len b
  have hel : e.length = b.length + 4 := by omega
  have hlen : (XO (sealC b) e).length = b.length + 4 := by rw [List.length_zipWith]; omega
  have ht : (XO (sealC b) e).take b.length = XO b (e.take b.length) := by rw [List.take_zipWith, sealC, List.take_left]
  have hd : (XO (sealC b) e).drop b.length = XO (lowC (sumC b)) (e.drop b.length) := by rw [List.drop_zipWith, sealC, List.drop_left]
  obtain ⟨x, y, z, t, tl, hx⟩ := (show ∃ x y z t tl, e.drop b.length = x :: y :: z :: t :: tl from by
    have hl : (e.drop b.length).length = 4 := by rw [List.length_drop]; omega
    match e.drop b.length, hl with
    | [x, y, z, t], _ => exact ⟨x, y, z, t, [], rfl⟩)
  have htl : tl = [] := by
    have hl : (e.drop b.length).length = 4 := by rw [List.length_drop]; omega
    rw [hx] at hl; simpa using hl
  subst htl
  rw [openC, if_neg (by omega), show (XO (sealC b) e).length - 4 = b.length by omega, ht, hd, hx] at h0
  by_cases hq : sumC (XO b (e.take b.length)) = numC (XO (lowC (sumC b)) [x, y, z, t])
  · rw [sum_XO b _ (by rw [List.length_take]; omega)] at hq
    have h1 : numC (XO (lowC (sumC b)) [x, y, z, t]) = numC (lowC (sumC b)) ^^^ num4 x y z t := num4_XO _ _ _ _ _ _ _ _
    rw [h1, num_low] at hq
    have h2 : moreC 0#32 (e.take b.length) = num4 x y z t := by
      have := congrArg (sumC b ^^^ ·) hq
      simpa [← BitVec.xor_assoc] using this
    apply burst_more h
    have h3 : e = e.take b.length ++ [x, y, z, t] := by rw [← hx, List.take_append_drop]
    rw [h3, moreC_app, more4, h2, BitVec.xor_self, stN_0]
  · rw [if_neg hq] at h0; simp at h0

/-! ### a frame -/
theorem bitAt_take (e : List UInt8) (m j : Nat) : bitAt (e.take m) j = (decide (j < 8 * m) && bitAt e j) := by
  unfold bitAt
  rw [List.getD_eq_getElem?_getD, List.getElem?_take]
  by_cases h : j / 8 < m
  · simp [h, show j < 8 * m by omega, List.getD_eq_getElem?_getD]
  · simp [h, show ¬ j < 8 * m by omega]
theorem bitAt_drop (e : List UInt8) (m j : Nat) : bitAt (e.drop m) j = bitAt e (j + 8 * m) := by
  unfold bitAt
  rw [List.getD_eq_getElem?_getD, List.getElem?_drop, List.getD_eq_getElem?_getD, show m + j / 8 = (j + 8 * m) / 8 by omega, show j % 8 = (j + 8 * m) % 8 by omega]
theorem zero_of {e : List UInt8} (h : ∀ j, bitAt e j = false) : e = List.replicate e.length 0 := by
  refine List.eq_replicate_iff.2 ⟨rfl, fun c hc => ?_⟩
  obtain ⟨i, hi, rfl⟩ := List.mem_iff_getElem.1 hc
  apply UInt8.toNat_inj.1
  apply Nat.eq_of_testBit_eq
  intro k
  by_cases hk : k < 8
  · have := h (8 * i + k)
    unfold bitAt at this
    rw [show (8 * i + k) / 8 = i by omega, show (8 * i + k) % 8 = k by omega, List.getD_eq_getElem?_getD, List.getElem?_eq_getElem hi] at this
    simpa using this
  · rw [Nat.testBit_lt_two_pow (Nat.lt_of_lt_of_le (UInt8.toNat_lt _) (Nat.pow_le_pow_right (by decide) (show 8 ≤ k by omega)))]; simp
theorem XO_zero : ∀ (l : List UInt8), XO l (List.replicate l.length 0) = l
  | [] => rfl
  | a :: l => by
    show (a ^^^ 0) :: XO l (List.replicate l.length 0) = _
    rw [XO_zero l, UInt8.xor_zero]
theorem frame_burst (k : UInt8) (b e : List UInt8) {f : Nat} (hb : ¬ 1048576 < b.length) (he : e.length = (frameC k b).2.length) (h : Burst e f 32 true) : (unframeC (XO (frameC k b).2 e)).1 ≠ 0 := by
  rw [frameC, if_neg hb] at he ⊢
  dsimp only at he ⊢
  generalize hH : k :: lowC (BitVec.ofNat 32 b.length) = H at he ⊢
  have hHl : H.length = 5 := by rw [← hH]; rfl
  have hsH : (sealC H).length = 9 := by rw [seal_len, hHl]
  have hsb := seal_len b
  have hel : e.length = 9 + (b.length + 4) := by rw [he, List.length_append]; omega
  have ht : (XO (sealC H ++ sealC b) e).take 9 = XO (sealC H) (e.take 9) := by rw [List.take_zipWith, ← hsH, List.take_left]
  have hd : (XO (sealC H ++ sealC b) e).drop 9 = XO (sealC b) (e.drop 9) := by rw [List.drop_zipWith, ← hsH, List.drop_left]
  have hl : (XO (sealC H ++ sealC b) e).length = 9 + (b.length + 4) := by rw [List.length_zipWith, List.length_append]; omega
  obtain ⟨h1, h2⟩ := h
  obtain ⟨j0, hj0⟩ := h2.1 rfl
  by_cases hc : ∃ j, j < 72 ∧ bitAt e j = true
  · obtain ⟨j, hj, hbj⟩ := hc
    have hB : Burst (e.take 9) f 32 true := ⟨fun i hi => h1 i (by rw [bitAt_take] at hi; simp at hi; exact hi.2), by simp; exact ⟨j, by rw [bitAt_take]; simp [hbj]; omega⟩⟩
    have hop := open_burst H (e.take 9) (by rw [List.length_take]; omega) hB
    rw [unf2 (by omega) (Or.inl (by rw [ht]; exact hop))]; decide
  · have hz : e.take 9 = List.replicate 9 0 := by
      have := zero_of (e := e.take 9) fun j => by
        rw [bitAt_take]
        cases hq : bitAt e j
        · simp
        · have hj : ¬ j < 72 := fun h' => hc ⟨j, h', hq⟩
          simp; omega
      rw [List.length_take, show min 9 e.length = 9 by omega] at this; exact this
    have ht2 : (XO (sealC H ++ sealC b) e).take 9 = sealC H := by
      have := XO_zero (sealC H)
      rw [ht, hz]; rw [hsH] at this; exact this
    have hop : openC ((XO (sealC H ++ sealC b) e).take 9) = (0, H) := by rw [ht2, open_seal]
    have hn : (numC ((openC ((XO (sealC H ++ sealC b) e).take 9)).2.drop 1)).toNat = b.length := by
      rw [hop, ← hH]
      show (numC (lowC _)).toNat = _
      rw [num_low, BitVec.toNat_ofNat]; omega
    have hB : Burst (e.drop 9) (f - 72) 32 true := ⟨fun i hi => by
        rw [bitAt_drop] at hi
        have := h1 _ hi; omega, by
        simp
        refine ⟨j0 - 72, ?_⟩
        have : ¬ j0 < 72 := fun h' => hc ⟨j0, h', hj0⟩
        rw [bitAt_drop, show j0 - 72 + 8 * 9 = j0 by omega]; exact hj0⟩
    have hop2 := open_burst b (e.drop 9) (by rw [List.length_drop]; omega) hB
    have htk : ((XO (sealC H ++ sealC b) e).take (b.length + 13)).drop 9 = XO (sealC b) (e.drop 9) := by rw [List.take_of_length_le (by omega), hd]
    rw [unf4 (b.length + 13) (by rw [hn]) (by omega) (by rw [hop]; simp) (by rw [hn]; exact hb) (by rw [hn]; omega) (by rw [htk]; exact hop2)]
    rw [htk]; exact hop2
end Go.Proofs.YtleaidgngkfjbaaDoor
