/- Sealed bytes are opened: the plain law. -/
import Derived.Test.YtleaidgngkfjbaaDoorCrcH
import Derived.Test.YtleaidgngkfjbaaDoorXMake
namespace Go.Proofs.YtleaidgngkfjbaaDoor
open Go Go.Proofs.YtleaidgngkfjbaaDoor.X
set_option linter.unusedVariables false
set_option linter.unusedSimpArgs false

theorem C32_at (c : UInt8) (i : Nat) : (C32 c).getLsbD i = (decide (i < 32) && c.toNat.testBit i) := by
  rw [C32, BitVec.getLsbD_ofNat]
theorem num_low (r : R32) : numC (lowC r) = r := by
  show num4 _ _ _ _ = r
  apply BitVec.eq_of_getLsbD_eq
  intro i hi
  have h8 : ∀ (x : R32) (j : Nat), (C32 (UInt8.ofNat x.toNat)).getLsbD j = (decide (j < 8) && x.getLsbD j) := by
    intro x j
    rw [C32_at, UInt8.toNat_ofNat', show (2 : Nat) ^ 8 = 2 ^ 8 from rfl, Nat.testBit_mod_two_pow]
    by_cases h : j < 8
    · simp [h, show j < 32 by omega, BitVec.getLsbD]
    · simp [h]
  simp only [num4, BitVec.getLsbD_or, BitVec.getLsbD_shiftLeft, h8, BitVec.getLsbD_ushiftRight, hi, decide_true, Bool.true_and]
  by_cases h1 : i < 8
  · simp [h1, show i < 16 by omega, show i < 24 by omega]
  · by_cases h2 : i < 16
    · simp [h1, h2, show i - 8 < 8 by omega, show i < 24 by omega, show 8 + (i - 8) = i by omega]
    · by_cases h3 : i < 24
      · simp [h1, h2, h3, show ¬ i - 8 < 8 by omega, show i - 16 < 8 by omega, show 16 + (i - 16) = i by omega]
      · simp [h1, h2, h3, show ¬ i - 8 < 8 by omega, show ¬ i - 16 < 8 by omega, show i - 24 < 8 by omega, show 24 + (i - 24) = i by omega]
theorem open_seal (l : List UInt8) : openC (sealC l) = (0, l) := by
  have h := seal_len l
  have h1 : (sealC l).take ((sealC l).length - 4) = l := by rw [h, Nat.add_sub_cancel, sealC, List.take_left]
  have h2 : (sealC l).drop ((sealC l).length - 4) = lowC (sumC l) := by rw [h, Nat.add_sub_cancel, sealC, List.drop_left]
  rw [openC, if_neg (by omega), h1, h2, num_low, if_pos rfl]
theorem k_long : ∀ n : Fin 256, (numC (lowC (BitVec.ofNat 32 (1048577 + n.1)))).toNat = 1048577 + n.1 := by
  intro n
  rw [num_low, BitVec.toNat_ofNat]; omega
theorem E8b : ByteInfo Tryd.prog 5 := ByteInfo.of (by kernel_rfl)
/-- A head that says too much is no head. -/
theorem unf_long (k : UInt8) (n : UInt8) : unframeC (sealC (k :: lowC (BitVec.ofNat 32 (1048577 + n.toNat))) ++ List.replicate n.toNat 0) = (42, 0, [], 0) := by
  have hl : (sealC (k :: lowC (BitVec.ofNat 32 (1048577 + n.toNat)))).length = 9 := by rw [seal_len]; rfl
  have ht : (sealC (k :: lowC (BitVec.ofNat 32 (1048577 + n.toNat))) ++ List.replicate n.toNat 0).take 9 = sealC (k :: lowC (BitVec.ofNat 32 (1048577 + n.toNat))) := by
    rw [← hl, List.take_left]
  have hn := n.toNat_lt
  rw [unframeC, if_neg (by rw [List.length_append, hl]; omega), ht, if_pos (Or.inr ?_)]
  show 1048576 < (numC ((openC _).2.drop 1)).toNat
  rw [ht, open_seal]
  have : (numC (lowC (BitVec.ofNat 32 (1048577 + n.toNat)))).toNat = 1048577 + n.toNat := k_long ⟨n.toNat, by omega⟩
  show 1048576 < (numC (lowC (BitVec.ofNat 32 (1048577 + n.toNat)))).toNat
  omega
end Go.Proofs.YtleaidgngkfjbaaDoor
