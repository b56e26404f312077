/- Sums of 32 bits: the plain law: a table of four bits steps as four single bits do. -/
import Derived.Test.YtleaidgngkfjbaaDoorXHelp
import Derived.Test.YtleaidgngkfjbaaDoorProg
namespace Go.Proofs.YtleaidgngkfjbaaDoor
open Go Go.Proofs.YtleaidgngkfjbaaDoor.X
set_option linter.unusedVariables false
set_option linter.unusedSimpArgs false

abbrev R32 := BitVec 32
def poly : R32 := 0xEDB88320#32
def st1 (r : R32) : R32 := if r.getLsbD 0 then (r >>> 1) ^^^ poly else r >>> 1
def stN : Nat → R32 → R32
  | 0, r => r
  | k + 1, r => stN k (st1 r)
def tabL : List Nat := [0x00000000, 0x1db71064, 0x3b6e20c8, 0x26d930ac, 0x76dc4190, 0x6b6b51f4, 0x4db26158, 0x5005713c, 0xedb88320, 0xf00f9344, 0xd6d6a3e8, 0xcb61b38c, 0x9b64c2b0, 0x86d3d2d4, 0xa00ae278, 0xbdbdf21c]
def tabV (n : Nat) : R32 := BitVec.ofNat 32 (tabL.getD n 0)
def nib (r : R32) : R32 := (r >>> 4) ^^^ tabV (r &&& 15#32).toNat
def C32 (c : UInt8) : R32 := BitVec.ofNat 32 c.toNat
def byteC (r : R32) (c : UInt8) : R32 := nib (nib (r ^^^ C32 c))
def moreC (r : R32) (l : List UInt8) : R32 := l.foldl byteC r
def sumC (l : List UInt8) : R32 := ~~~ (moreC (BitVec.ofNat 32 4294967295) l)
def lowC (r : R32) : List UInt8 := [UInt8.ofNat r.toNat, UInt8.ofNat (r >>> 8).toNat, UInt8.ofNat (r >>> 16).toNat, UInt8.ofNat (r >>> 24).toNat]
def num4 (a b c d : UInt8) : R32 := C32 a ||| (C32 b <<< 8) ||| (C32 c <<< 16) ||| (C32 d <<< 24)
def numC : List UInt8 → R32
  | a :: b :: c :: d :: _ => num4 a b c d
  | _ => 0
def sealC (l : List UInt8) : List UInt8 := l ++ lowC (sumC l)
/-- What sealed bytes say: a code, the bytes. -/
def openC (l : List UInt8) : Int × List UInt8 :=
  if l.length < 4 then (41, []) else if sumC (l.take (l.length - 4)) = numC (l.drop (l.length - 4)) then (0, l.take (l.length - 4)) else (40, [])

theorem st1_xor (a b : R32) : st1 (a ^^^ b) = st1 a ^^^ st1 b := by
  unfold st1
  rw [BitVec.getLsbD_xor, BitVec.ushiftRight_xor_distrib]
  cases a.getLsbD 0 <;> cases b.getLsbD 0 <;> simp only [Bool.false_xor, Bool.true_xor, Bool.xor_false, Bool.xor_true, Bool.not_true, Bool.not_false, if_true, if_false, Bool.false_eq_true]
  · rw [BitVec.xor_assoc]
  · rw [BitVec.xor_assoc, BitVec.xor_comm (b >>> 1) poly, ← BitVec.xor_assoc]
  · rw [BitVec.xor_assoc, BitVec.xor_comm poly (b >>> 1 ^^^ poly), BitVec.xor_assoc (b >>> 1), BitVec.xor_self, BitVec.xor_zero]
theorem stN_xor (k : Nat) : ∀ a b : R32, stN k (a ^^^ b) = stN k a ^^^ stN k b := by
  induction k with
  | zero => intro a b; rfl
  | succ k ih => intro a b; rw [stN, st1_xor, ih]; rfl
theorem st1_even {r : R32} (h : r.toNat % 2 = 0) : (st1 r).toNat = r.toNat / 2 := by
  unfold st1
  have : r.getLsbD 0 = false := by rw [BitVec.getLsbD, Nat.testBit_zero]; simp; omega
  rw [this, if_neg (by decide), BitVec.toNat_ushiftRight, Nat.shiftRight_eq_div_pow]
theorem stN_even (k : Nat) : ∀ {r : R32}, r.toNat % 2 ^ k = 0 → (stN k r).toNat = r.toNat / 2 ^ k := by
  induction k with
  | zero => intro r h; simp [stN]
  | succ k ih =>
    intro r h
    have h2 : r.toNat % 2 = 0 := by
      have := Nat.mod_mod_of_dvd r.toNat (show 2 ∣ 2 ^ (k + 1) from ⟨2 ^ k, by rw [Nat.pow_succ, Nat.mul_comm]⟩)
      rw [h] at this; omega
    have h1 := st1_even h2
    rw [stN, ih (by rw [h1]; rw [Nat.pow_succ] at h; have := Nat.mod_mul_left_div_self r.toNat 2 (2 ^ k); rw [h] at this; omega), h1, Nat.div_div_eq_div_mul, Nat.pow_succ, Nat.mul_comm]
theorem tab_st : ∀ n : Fin 16, stN 4 (BitVec.ofNat 32 n.1) = tabV n.1 := by decide
theorem and15 (r : R32) : (r &&& 15#32).toNat = r.toNat % 16 := by
  rw [BitVec.toNat_and]
  exact Nat.and_two_pow_sub_one_eq_mod r.toNat 4
theorem split4 (r : R32) : r = ((r >>> 4) <<< 4) ^^^ (r &&& 15#32) := by
  apply BitVec.eq_of_getLsbD_eq
  intro i hi
  have h15 : (15#32).getLsbD i = decide (i < 4) := by
    have : ∀ i : Fin 32, (15#32).getLsbD i.1 = decide (i.1 < 4) := by decide
    exact this ⟨i, hi⟩
  rw [BitVec.getLsbD_xor, BitVec.getLsbD_and, h15, BitVec.getLsbD_shiftLeft, BitVec.getLsbD_ushiftRight]
  by_cases h : i < 4
  · simp [h]
  · simp [h, hi, show 4 + (i - 4) = i by omega]
theorem nib_st (r : R32) : nib r = stN 4 r := by
  conv => rhs; rw [split4 r]
  rw [stN_xor]
  have h1 : stN 4 ((r >>> 4) <<< 4) = r >>> 4 := by
    apply BitVec.eq_of_toNat_eq
    have hlt := r.isLt
    have e : ((r >>> 4) <<< 4).toNat = r.toNat / 16 * 16 := by
      rw [BitVec.toNat_shiftLeft, BitVec.toNat_ushiftRight, Nat.shiftLeft_eq, Nat.shiftRight_eq_div_pow]; omega
    rw [stN_even 4 (by rw [e]; omega), e, BitVec.toNat_ushiftRight, Nat.shiftRight_eq_div_pow]; omega
  have h2 : stN 4 (r &&& 15#32) = tabV (r &&& 15#32).toNat := by
    have hb := and15 r
    have := tab_st ⟨(r &&& 15#32).toNat, by rw [hb]; omega⟩
    rw [← this]
    congr 1
    exact (BitVec.ofNat_toNat 32 (r &&& 15#32)).symm ▸ (BitVec.setWidth_eq _).symm
  rw [h1, h2]; rfl
theorem stN_add (a : Nat) : ∀ (b : Nat) (r : R32), stN b (stN a r) = stN (a + b) r := by
  induction a with
  | zero => intro b r; rw [Nat.zero_add]; rfl
  | succ a ih => intro b r; rw [stN, ih, Nat.succ_add]; rfl
theorem byte_st (r : R32) (c : UInt8) : byteC r c = stN 8 (r ^^^ C32 c) := by
  rw [byteC, nib_st, nib_st, stN_add]

/-! ### the reference's single bits -/
def CK (c : UInt8) (k : Nat) : R32 := BitVec.ofNat 32 (c.toNat / 2 ^ k)
def bitK (c : UInt8) (k : Nat) : R32 := CK c k &&& 1#32
theorem and1 (r : R32) : (r &&& 1#32).toNat = r.toNat % 2 := by
  rw [BitVec.toNat_and]
  exact Nat.and_two_pow_sub_one_eq_mod r.toNat 1
theorem CK_toNat (c : UInt8) (k : Nat) : (CK c k).toNat = c.toNat / 2 ^ k := by
  have := c.toNat_lt
  have h2 : c.toNat / 2 ^ k ≤ c.toNat := Nat.div_le_self _ _
  rw [CK, BitVec.toNat_ofNat]; exact Nat.mod_eq_of_lt (Nat.lt_of_le_of_lt h2 (by omega))
theorem getLsb0 (r : R32) : r.getLsbD 0 = decide (r.toNat % 2 = 1) := by
  rw [BitVec.getLsbD, Nat.testBit_zero]
theorem shr1_xor_bit (r b : R32) (hb : b.toNat < 2) : (r ^^^ b) >>> 1 = r >>> 1 := by
  rw [BitVec.ushiftRight_xor_distrib]
  have : b >>> 1 = 0#32 := by
    apply BitVec.eq_of_toNat_eq
    rw [BitVec.toNat_ushiftRight, Nat.shiftRight_eq_div_pow]; simp; omega
  rw [this, BitVec.xor_zero]
/-- The reference's step. -/
def rstep (r b : R32) : R32 := if (r ^^^ b) &&& 1#32 = 1#32 then (r >>> 1) ^^^ poly else r >>> 1
theorem rstep_st (r b : R32) (hb : b.toNat < 2) : rstep r b = st1 (r ^^^ b) := by
  unfold rstep st1
  rw [shr1_xor_bit r b hb]
  have h1 := and1 (r ^^^ b)
  by_cases h : (r ^^^ b) &&& 1#32 = 1#32
  · rw [if_pos h, if_pos]
    rw [h] at h1
    rw [getLsb0, ← h1]; rfl
  · rw [if_neg h, if_neg]
    rw [getLsb0, ← h1]
    intro e
    exact h (BitVec.eq_of_toNat_eq (by simpa using e))
theorem bit_lt (c : UInt8) (k : Nat) : (bitK c k).toNat < 2 := by rw [bitK, and1]; omega
theorem st_bit (c : UInt8) (k : Nat) : st1 (CK c k ^^^ bitK c k) = CK c (k + 1) := by
  have e : (CK c k ^^^ bitK c k).toNat = c.toNat / 2 ^ k / 2 * 2 := by
    have h : CK c k = ((CK c k >>> 1) <<< 1) ^^^ bitK c k := by
      apply BitVec.eq_of_getLsbD_eq
      intro i hi
      have h1 : (1#32).getLsbD i = decide (i < 1) := by
        have : ∀ i : Fin 32, (1#32).getLsbD i.1 = decide (i.1 < 1) := by decide
        exact this ⟨i, hi⟩
      rw [bitK, BitVec.getLsbD_xor, BitVec.getLsbD_and, h1, BitVec.getLsbD_shiftLeft, BitVec.getLsbD_ushiftRight]
      by_cases h : i < 1
      · simp [h]
      · simp [h, hi, show 1 + (i - 1) = i by omega]
    have h2 : CK c k ^^^ bitK c k = (CK c k >>> 1) <<< 1 := by
      conv => lhs; lhs; rw [h]
      rw [BitVec.xor_assoc, BitVec.xor_self, BitVec.xor_zero]
    have hc := c.toNat_lt
    have h3 : c.toNat / 2 ^ k ≤ c.toNat := Nat.div_le_self _ _
    rw [h2, BitVec.toNat_shiftLeft, BitVec.toNat_ushiftRight, CK_toNat, Nat.shiftLeft_eq, Nat.shiftRight_eq_div_pow]; omega
  apply BitVec.eq_of_toNat_eq
  rw [st1_even (by rw [e]; omega), e, CK_toNat, Nat.pow_succ, ← Nat.div_div_eq_div_mul]; omega
theorem CK_0 (c : UInt8) : CK c 0 = C32 c := by rw [CK, C32]; simp
theorem CK_8 (c : UInt8) : CK c 8 = 0#32 := by
  have := c.toNat_lt
  rw [CK, show c.toNat / 2 ^ 8 = 0 by omega]
/-- One of the eight. -/
theorem bits_next (T r : R32) (c : UInt8) (k : Nat) (hk : k < 8) (h : stN (8 - k) (r ^^^ CK c k) = T) : stN (8 - (k + 1)) (rstep r (bitK c k) ^^^ CK c (k + 1)) = T := by
  rw [rstep_st _ _ (bit_lt c k), ← st_bit, ← st1_xor]
  rw [show r ^^^ bitK c k ^^^ (CK c k ^^^ bitK c k) = r ^^^ CK c k by
    rw [BitVec.xor_comm (CK c k), BitVec.xor_assoc, ← BitVec.xor_assoc (bitK c k) (bitK c k), BitVec.xor_self, BitVec.zero_xor]]
  rw [show 8 - k = (8 - (k + 1)) + 1 by omega, stN] at h
  exact h
theorem bits_first (r : R32) (c : UInt8) : stN (8 - 0) (r ^^^ CK c 0) = byteC r c := by rw [byte_st, CK_0]
theorem bits_last {T r : R32} {c : UInt8} (h : stN (8 - 8) (r ^^^ CK c 8) = T) : r = T := by
  rw [CK_8, BitVec.xor_zero] at h; exact h

/-! ### the table in memory -/
def TabOk (w : World) : Prop := ∀ i, i < 16 → w.cell? ⟨0, i, none⟩ = some (.int .u32 ((tabV i).toNat : Int))
theorem TabOk.lt {w : World} (h : TabOk w) : 0 < w.heap.size := World.block_lt_of_cell? w _ (h 0 (by omega))
theorem TabOk.ext {w w' : World} {T : Nat → Prop} (h : TabOk w) (x : Ext T w w') (hT : ¬ T 0) : TabOk w' := fun i hi => by
  rw [World.cell?_of_block (w := w) (x.keep _ h.lt hT)]; exact h i hi
theorem TabOk.keep {w w' : World} (h : TabOk w) (x : Keep w w') : TabOk w' := h.ext x id
theorem TabOk.at {w : World} (h : TabOk w) (r : R32) : w.cell? ((⟨0, 0, none⟩ : Addr).add ((((r &&& 15#32).toNat : Nat) : Int).toNat * 1)) = some (.int .u32 ((tabV (r &&& 15#32).toNat).toNat : Int)) := by
  rw [add_mk, Nat.mul_one, Nat.zero_add, Int.toNat_natCast]
  exact h _ (by rw [and15]; omega)
theorem E8 : ElemInfo Tryd.prog 5 1 1 := ElemInfo.of (z := .int .u8 0) (by kernel_rfl) rfl rfl rfl
end Go.Proofs.YtleaidgngkfjbaaDoor
