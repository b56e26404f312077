/- Registers as polynomials: bits in a row are told, sums are joined: the plain law. -/
import Derived.Test.YtleaidgngkfjbaaDoorCrcM
namespace Go.Proofs.YtleaidgngkfjbaaDoor
open Go Go.Proofs.YtleaidgngkfjbaaDoor.X
set_option linter.unusedVariables false
set_option linter.unusedSimpArgs false

theorem st1_0 : st1 0#32 = 0#32 := by decide
theorem st1_inj0 {r : R32} (h : st1 r = 0#32) : r = 0#32 := by
  unfold st1 at h
  by_cases hb : r.getLsbD 0 = true
  · rw [if_pos hb] at h
    have h2 : ((r >>> 1) ^^^ poly).getLsbD 31 = (0#32).getLsbD 31 := by rw [h]
    rw [BitVec.getLsbD_xor, BitVec.getLsbD_ushiftRight] at h2
    have hp : poly.getLsbD 31 = true := by decide
    rw [hp, BitVec.getLsbD_of_ge r (1 + 31) (by omega)] at h2
    simp at h2
  · rw [if_neg hb] at h
    apply BitVec.eq_of_getLsbD_eq
    intro i hi
    by_cases h0 : i = 0
    · subst h0; simpa using hb
    · have h2 : (r >>> 1).getLsbD (i - 1) = (0#32).getLsbD (i - 1) := by rw [h]
      rw [BitVec.getLsbD_ushiftRight, show 1 + (i - 1) = i by omega] at h2
      rw [h2]; simp
theorem stN_0 (k : Nat) : stN k 0#32 = 0#32 := by
  induction k with
  | zero => rfl
  | succ k ih => rw [stN, st1_0, ih]
theorem stN_inj0 (k : Nat) : ∀ {r : R32}, stN k r = 0#32 → r = 0#32 := by
  induction k with
  | zero => intro r h; exact h
  | succ k ih => intro r h; exact st1_inj0 (ih h)
theorem moreC_xor : ∀ (l m : List UInt8) (r s : R32), l.length = m.length → moreC (r ^^^ s) (List.zipWith (· ^^^ ·) l m) = moreC r l ^^^ moreC s m
  | [], [], _, _, _ => rfl
  | a :: l, b :: m, r, s, h => by
    have e : C32 (a ^^^ b) = C32 a ^^^ C32 b := by
      apply BitVec.eq_of_getLsbD_eq
      intro i hi
      rw [C32_at, BitVec.getLsbD_xor, C32_at, C32_at, UInt8.toNat_xor, Nat.testBit_xor]
      simp [hi]
    show moreC (byteC (r ^^^ s) (a ^^^ b)) (List.zipWith (· ^^^ ·) l m) = moreC (byteC r a) l ^^^ moreC (byteC s b) m
    rw [byte_st, byte_st, byte_st, e, ← moreC_xor l m _ _ (by simpa using h), ← stN_xor]
    congr 2
    rw [BitVec.xor_assoc, ← BitVec.xor_assoc s, BitVec.xor_comm s (C32 a), BitVec.xor_assoc, BitVec.xor_assoc]
  | [], _ :: _, _, _, h => by simp at h
  | _ :: _, [], _, _, h => by simp at h
/-- A register behind n bytes 0. -/
theorem moreC_zeros : ∀ (n : Nat) (r : R32), moreC r (List.replicate n 0) = stN (8 * n) r
  | 0, _ => rfl
  | n + 1, r => by
    show moreC (byteC r 0) (List.replicate n 0) = _
    rw [byte_st, show C32 0 = 0#32 by decide, BitVec.xor_zero, moreC_zeros, stN_add]; congr 1; omega
/-- A sum's register, as that of its beginning moved on, and that of the bytes alone. -/
theorem zip0 : ∀ (l : List UInt8), List.zipWith (· ^^^ ·) (List.replicate l.length 0) l = l
  | [] => rfl
  | a :: l => by
    show (0 ^^^ a) :: List.zipWith (· ^^^ ·) (List.replicate l.length 0) l = _
    rw [zip0 l, UInt8.zero_xor]
theorem moreC_split (r : R32) (l : List UInt8) : moreC r l = stN (8 * l.length) r ^^^ moreC 0#32 l := by
  have := moreC_xor (List.replicate l.length 0) l r 0#32 (by simp)
  rwa [zip0, BitVec.xor_zero, moreC_zeros] at this

/-! ### single bits -/
def bitR (b : Bool) : R32 := if b then 1#32 else 0#32
def bitsR (r : R32) (l : List Bool) : R32 := l.foldl (fun r b => st1 (r ^^^ bitR b)) r
def bits8 (c : UInt8) : List Bool := (List.range 8).map fun k => c.toNat.testBit k
theorem bitsR_app (r : R32) (a b : List Bool) : bitsR r (a ++ b) = bitsR (bitsR r a) b := List.foldl_append
theorem bitR_K (c : UInt8) (k : Nat) : bitR (c.toNat.testBit k) = bitK c k := by
  apply BitVec.eq_of_toNat_eq
  rw [bitK, and1, CK_toNat, Nat.testBit, Nat.shiftRight_eq_div_pow]
  unfold bitR
  have h : 1 &&& c.toNat / 2 ^ k = c.toNat / 2 ^ k % 2 := by rw [Nat.and_comm]; exact Nat.and_two_pow_sub_one_eq_mod (c.toNat / 2 ^ k) 1
  rw [h]
  rcases Nat.mod_two_eq_zero_or_one (c.toNat / 2 ^ k) with e | e <;> rw [e] <;> rfl
theorem byte_bits (r : R32) (c : UInt8) : byteC r c = bitsR r (bits8 c) := by
  have h : ∀ k, k ≤ 8 → stN (8 - k) (bitsR r ((List.range k).map fun k => c.toNat.testBit k) ^^^ CK c k) = byteC r c := by
    intro k
    induction k with
    | zero => intro _; exact bits_first r c
    | succ k ih =>
      intro hk
      have := bits_next _ _ c k (by omega) (ih (by omega))
      rw [rstep_st _ _ (bit_lt c k)] at this
      rw [List.range_succ, List.map_append, bitsR_app]
      show stN (8 - (k + 1)) (st1 (_ ^^^ bitR (c.toNat.testBit k)) ^^^ CK c (k + 1)) = _
      rw [bitR_K]; exact this
  exact (bits_last (h 8 (Nat.le_refl _))).symm
theorem more_bits : ∀ (l : List UInt8) (r : R32), moreC r l = bitsR r (l.flatMap bits8)
  | [], _ => rfl
  | c :: l, r => by rw [List.flatMap_cons, bitsR_app, ← byte_bits, ← more_bits l]; rfl
def numB32 : List Bool → R32
  | [] => 0#32
  | b :: l => bitR b ^^^ (numB32 l <<< 1)
theorem numB_lt : ∀ (l : List Bool), l.length ≤ 32 → (numB32 l).toNat < 2 ^ l.length
  | [], _ => by decide
  | b :: l, h => by
    have ih := numB_lt l (by simp at h; omega)
    simp only [List.length_cons] at h ⊢
    have hp : 2 ^ l.length ≤ 2 ^ 31 := Nat.pow_le_pow_right (by decide) (by omega)
    have h1 : (numB32 l <<< 1).toNat < 2 ^ (l.length + 1) := by
      rw [BitVec.toNat_shiftLeft, Nat.shiftLeft_eq, Nat.pow_succ]
      exact Nat.lt_of_le_of_lt (Nat.mod_le _ _) (by omega)
    have h2 : (bitR b).toNat < 2 ^ (l.length + 1) := by
      have : (bitR b).toNat ≤ 1 := by cases b <;> decide
      have : 2 ^ 1 ≤ 2 ^ (l.length + 1) := Nat.pow_le_pow_right (by decide) (by omega)
      omega
    show (bitR b ^^^ (numB32 l <<< 1)).toNat < _
    rw [BitVec.toNat_xor]; exact Nat.xor_lt_two_pow h2 h1
theorem bits_num : ∀ (l : List Bool) (r : R32), l.length ≤ 32 → bitsR r l = stN l.length (r ^^^ numB32 l)
  | [], r, _ => by rw [numB32, BitVec.xor_zero]; rfl
  | b :: l, r, h => by
    have hl : l.length ≤ 31 := by simp at h; omega
    show bitsR (st1 (r ^^^ bitR b)) l = _
    rw [bits_num l _ (by omega)]
    show _ = stN l.length (st1 (r ^^^ (bitR b ^^^ (numB32 l <<< 1))))
    have hlt := numB_lt l (by omega)
    have hp : 2 ^ l.length ≤ 2 ^ 31 := Nat.pow_le_pow_right (by decide) hl
    have e : (numB32 l <<< 1).toNat = (numB32 l).toNat * 2 := by
      rw [BitVec.toNat_shiftLeft, Nat.shiftLeft_eq]; omega
    have e2 : st1 (numB32 l <<< 1) = numB32 l := by
      apply BitVec.eq_of_toNat_eq
      rw [st1_even (by omega), e]; omega
    rw [← BitVec.xor_assoc, st1_xor (r ^^^ bitR b), e2]
theorem numB_ne : ∀ (l : List Bool), l.length ≤ 32 → true ∈ l → numB32 l ≠ 0#32
  | [], _, h => by cases h
  | b :: l, hl, h => by
    intro h0
    have hl2 : l.length ≤ 31 := by simp at hl; omega
    have hlt := numB_lt l (by omega)
    have hp : 2 ^ l.length ≤ 2 ^ 31 := Nat.pow_le_pow_right (by decide) hl2
    have e : (numB32 l <<< 1).toNat = (numB32 l).toNat * 2 := by
      rw [BitVec.toNat_shiftLeft, Nat.shiftLeft_eq]; omega
    have h1 : bitR b = numB32 l <<< 1 := by
      have h2 : bitR b ^^^ (numB32 l <<< 1) = 0#32 := h0
      have := congrArg (· ^^^ (numB32 l <<< 1)) h2
      simpa [BitVec.xor_assoc] using this
    cases b with
    | true =>
      have := congrArg BitVec.toNat h1
      rw [e] at this
      have h3 : (bitR true).toNat = 1 := by decide
      omega
    | false =>
      have := congrArg BitVec.toNat h1
      rw [e] at this
      have h3 : (bitR false).toNat = 0 := by decide
      have h4 : numB32 l = 0#32 := BitVec.eq_of_toNat_eq (by simp; omega)
      exact numB_ne l (by omega) (by simpa using h) h4
theorem bits_zeros : ∀ (n : Nat) (r : R32), bitsR r (List.replicate n false) = stN n r
  | 0, _ => rfl
  | n + 1, r => by
    show bitsR (st1 (r ^^^ bitR false)) (List.replicate n false) = _
    rw [bits_zeros n, show bitR false = 0#32 from rfl, BitVec.xor_zero]; rfl
/-- UP TO 32 BITS IN A ROW ARE TOLD. -/
theorem burst (a c : Nat) (b : List Bool) (hb : b.length ≤ 32) (ht : true ∈ b) : bitsR 0#32 (List.replicate a false ++ b ++ List.replicate c false) ≠ 0#32 := by
  rw [bitsR_app, bitsR_app, bits_zeros a 0#32, stN_0, bits_num b _ hb, BitVec.zero_xor, bits_zeros c]
  intro h
  exact numB_ne b hb ht (stN_inj0 _ (stN_inj0 _ h))
end Go.Proofs.YtleaidgngkfjbaaDoor
