/- Products of registers, as polynomials: the plain law. -/
import Derived.Test.YtleaidgngkfjbaaDoorCrcP
namespace Go.Proofs.YtleaidgngkfjbaaDoor
open Go Go.Proofs.YtleaidgngkfjbaaDoor.X
set_option linter.unusedVariables false
set_option linter.unusedSimpArgs false

def pickR (t : Bool) (b : R32) : R32 := if t then b else 0#32
def mulF (a : R32) : Nat → R32 → R32
  | 0, _ => 0#32
  | k + 1, b => pickR (a.getLsbD k) b ^^^ mulF a k (st1 b)
def e31 : R32 := 2147483648#32
theorem pick_xor (t : Bool) (b c : R32) : pickR t (b ^^^ c) = pickR t b ^^^ pickR t c := by cases t <;> simp [pickR]
theorem pick_st (t : Bool) (b : R32) : pickR t (st1 b) = st1 (pickR t b) := by cases t <;> simp [pickR, st1_0]
theorem xor4 (a b c d : R32) : (a ^^^ b) ^^^ (c ^^^ d) = (a ^^^ c) ^^^ (b ^^^ d) := by
  rw [BitVec.xor_assoc, BitVec.xor_assoc, ← BitVec.xor_assoc b, BitVec.xor_comm b c, BitVec.xor_assoc c]
theorem mulF_xor (a : R32) : ∀ (k : Nat) (b c : R32), mulF a k (b ^^^ c) = mulF a k b ^^^ mulF a k c
  | 0, _, _ => by simp [mulF]
  | k + 1, b, c => by rw [mulF, pick_xor, st1_xor, mulF_xor a k, mulF, mulF, xor4]
theorem mulF_0 (a : R32) : ∀ k, mulF a k 0#32 = 0#32
  | 0 => rfl
  | k + 1 => by rw [mulF, st1_0, mulF_0 a k]; cases a.getLsbD k <;> simp [pickR]
theorem mulF_st (a : R32) : ∀ (k : Nat) (b : R32), mulF a k (st1 b) = st1 (mulF a k b)
  | 0, _ => by rw [mulF, mulF, st1_0]
  | k + 1, b => by rw [mulF, mulF_st a k, mulF, st1_xor, pick_st, mulF_st a k]
theorem mulF_xorL (a c : R32) : ∀ (k : Nat) (b : R32), mulF (a ^^^ c) k b = mulF a k b ^^^ mulF c k b
  | 0, _ => by simp [mulF]
  | k + 1, b => by
    rw [mulF, mulF_xorL a c k, mulF, mulF, xor4, BitVec.getLsbD_xor]
    congr 1
    cases a.getLsbD k <;> cases c.getLsbD k <;> simp [pickR]
theorem mulF_0L : ∀ (k : Nat) (b : R32), mulF 0#32 k b = 0#32
  | 0, _ => rfl
  | k + 1, b => by rw [mulF, mulF_0L k]; simp [pickR]
theorem mulF_pickL (t : Bool) (a : R32) (k : Nat) (b : R32) : mulF (pickR t a) k b = pickR t (mulF a k b) := by
  cases t
  · exact mulF_0L k b
  · rfl
/-- What is linear and goes past a step goes past a product. -/
theorem mulF_map (f : R32 → R32) (h0 : f 0#32 = 0#32) (hx : ∀ x y, f (x ^^^ y) = f x ^^^ f y) (hs : ∀ x, f (st1 x) = st1 (f x)) (a : R32) : ∀ (k : Nat) (b : R32), f (mulF a k b) = mulF a k (f b)
  | 0, _ => h0
  | k + 1, b => by
    rw [mulF, hx, mulF_map f h0 hx hs a k, hs, mulF]
    congr 1
    cases a.getLsbD k
    · exact h0
    · rfl
theorem st_two (k : Nat) (h : k + 1 < 32) : st1 (BitVec.twoPow 32 (k + 1)) = BitVec.twoPow 32 k := by
  have : ∀ k : Fin 31, st1 (BitVec.twoPow 32 (k.1 + 1)) = BitVec.twoPow 32 k.1 := by decide +kernel
  exact this ⟨k, by omega⟩
theorem mulF_two (a : R32) : ∀ (k : Nat), k < 32 → ∀ i, i < 32 → (mulF a (k + 1) (BitVec.twoPow 32 k)).getLsbD i = (decide (i < k + 1) && a.getLsbD i)
  | 0, _, i, hi => by
    rw [mulF, mulF, BitVec.xor_zero]
    by_cases h : i = 0
    · subst h; cases h2 : a.getLsbD 0 <;> simp [pickR]
    · cases h2 : a.getLsbD 0 <;> simp [pickR, h, show ¬ i < 1 by omega, BitVec.getLsbD_twoPow, show ¬ 0 = i by omega]
  | k + 1, hk, i, hi => by
    rw [mulF, st_two k hk, BitVec.getLsbD_xor, mulF_two a k (by omega) i hi]
    by_cases h : i = k + 1
    · subst h; cases h2 : a.getLsbD (k + 1) <;> simp [pickR, hk, BitVec.getLsbD_twoPow]
    · have h3 : (pickR (a.getLsbD (k + 1)) (BitVec.twoPow 32 (k + 1))).getLsbD i = false := by
        cases h2 : a.getLsbD (k + 1) <;> simp [pickR, BitVec.getLsbD_twoPow, show ¬ k + 1 = i by omega]
      rw [h3, Bool.false_xor]
      by_cases h4 : i < k + 1
      · simp [h4, show i < k + 1 + 1 by omega]
      · simp [h4, show ¬ i < k + 1 + 1 by omega]
theorem mulF_e (a : R32) : mulF a 32 e31 = a := by
  apply BitVec.eq_of_getLsbD_eq
  intro i hi
  have := mulF_two a 31 (by omega) i hi
  rw [show BitVec.twoPow 32 31 = e31 by decide] at this
  rw [this]; simp [hi]
theorem poly_e : stN 32 e31 = mulF poly 32 e31 := by decide +kernel
theorem stN_st (k : Nat) : ∀ r, stN k (st1 r) = st1 (stN k r) := by
  induction k with
  | zero => intro r; rfl
  | succ k ih => intro r; rw [stN, ih]; rfl
theorem poly_all (c : R32) : stN 32 c ^^^ mulF poly 32 c = 0#32 := by
  have key := mulF_map (fun c => stN 32 c ^^^ mulF poly 32 c) (by show stN 32 0#32 ^^^ mulF poly 32 0#32 = 0#32; rw [stN_0, mulF_0]; decide) (fun x y => by show stN 32 (x ^^^ y) ^^^ mulF poly 32 (x ^^^ y) = _; rw [stN_xor, mulF_xor, xor4]) (fun x => by show stN 32 (st1 x) ^^^ mulF poly 32 (st1 x) = _; rw [stN_st, mulF_st, st1_xor]) c 32 e31
  have key : stN 32 (mulF c 32 e31) ^^^ mulF poly 32 (mulF c 32 e31) = mulF c 32 (stN 32 e31 ^^^ mulF poly 32 e31) := key
  rw [mulF_e, poly_e, BitVec.xor_self, mulF_0] at key
  exact key
theorem mulF_shr (b : R32) : ∀ (k : Nat) (c : R32), st1 (mulF b (k + 1) c) = mulF (b >>> 1) k (st1 c) ^^^ pickR (b.getLsbD 0) (stN (k + 1) c)
  | 0, c => by
    rw [mulF, mulF, mulF, BitVec.xor_zero, BitVec.zero_xor, ← pick_st]; rfl
  | k + 1, c => by
    rw [mulF, st1_xor, mulF_shr b k (st1 c), mulF, ← BitVec.xor_assoc, ← pick_st, BitVec.getLsbD_ushiftRight, show 1 + k = k + 1 by omega]
    rfl
theorem mulF_stL (b c : R32) : mulF (st1 b) 32 c = st1 (mulF b 32 c) := by
  have h1 : mulF (st1 b) 32 c = mulF (b >>> 1) 32 c ^^^ pickR (b.getLsbD 0) (mulF poly 32 c) := by
    unfold st1
    cases b.getLsbD 0
    · simp [pickR]
    · simp only [if_true, mulF_xorL, pickR]
  have h2 : mulF (b >>> 1) 32 c = mulF (b >>> 1) 31 (st1 c) := by
    rw [mulF, BitVec.getLsbD_ushiftRight, BitVec.getLsbD_of_ge b (1 + 31) (by omega)]; simp [pickR]
  have h3 : stN 32 c = mulF poly 32 c := by
    have := congrArg (· ^^^ mulF poly 32 c) (poly_all c)
    simpa [BitVec.xor_assoc] using this
  rw [h1, h2, mulF_shr b 31 c, h3]
/-- A product, as an operation: first the one, then the other. -/
theorem mulF_mul (a : R32) : ∀ (k : Nat) (b c : R32), mulF (mulF a k b) 32 c = mulF a k (mulF b 32 c)
  | 0, b, c => mulF_0L 32 c
  | k + 1, b, c => by
    show mulF (pickR (a.getLsbD k) b ^^^ mulF a k (st1 b)) 32 c = pickR (a.getLsbD k) (mulF b 32 c) ^^^ mulF a k (st1 (mulF b 32 c))
    rw [mulF_xorL, mulF_pickL, mulF_mul a k, mulF_stL]
theorem mulF_one : ∀ c : R32, mulF e31 32 c = c := by
  intro c
  have h : ∀ k, k ≤ 31 → ∀ b, mulF e31 k b = 0#32 := by
    intro k
    induction k with
    | zero => intro _ b; rfl
    | succ k ih =>
      intro hk b
      have hb : ∀ k : Fin 31, e31.getLsbD k.1 = false := by decide
      rw [mulF, ih (by omega), hb ⟨k, by omega⟩]; simp [pickR]
  rw [mulF, h 31 (Nat.le_refl _), show e31.getLsbD 31 = true by decide, BitVec.xor_zero]; rfl
theorem mulF_stNL (k : Nat) : ∀ (b c : R32), mulF (stN k b) 32 c = stN k (mulF b 32 c) := by
  induction k with
  | zero => intro b c; rfl
  | succ k ih => intro b c; rw [stN, ih, mulF_stL]; rfl
/-- Register s moves on by p steps. -/
def Moves (s : R32) (p : Nat) : Prop := ∀ c, mulF s 32 c = stN p c
theorem moves_0 : Moves e31 0 := mulF_one
theorem moves_8 : Moves 8388608#32 8 := fun c => by
  rw [show (8388608#32) = stN 8 e31 by decide, mulF_stNL, mulF_one]
theorem Moves.mul {s m : R32} {p q : Nat} (h : Moves s p) (h2 : Moves m q) : Moves (mulF s 32 m) (p + q) := fun c => by
  rw [mulF_mul, h2, h, stN_add, Nat.add_comm]
theorem ones_xor (x : R32) : ~~~ x = x ^^^ BitVec.allOnes 32 := by rw [BitVec.xor_allOnes]
/-- Sums are joined. -/
theorem join_sum (a b : List UInt8) : stN (8 * b.length) (sumC a) ^^^ sumC b = sumC (a ++ b) := by
  unfold sumC
  rw [moreC_app, moreC_split _ b, moreC_split (moreC _ a) b, ones_xor, ones_xor, ones_xor, show (BitVec.ofNat 32 4294967295) = BitVec.allOnes 32 by decide, stN_xor]
  generalize stN (8 * b.length) (moreC (BitVec.allOnes 32) a) = X
  generalize stN (8 * b.length) (BitVec.allOnes 32) = Y
  generalize moreC 0#32 b = M
  rw [BitVec.xor_assoc, BitVec.xor_assoc Y M, ← BitVec.xor_assoc Y Y, BitVec.xor_self, BitVec.zero_xor, ← BitVec.xor_assoc]
end Go.Proofs.YtleaidgngkfjbaaDoor
