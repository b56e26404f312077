/- Plain operations: what each does. -/
import Derived.Test.YtgfficbkajcdpaaXMem
namespace Go.Proofs.Ytgfficbkajcdpaa.X
open Go

/-! ### numbers within their kinds -/
theorem w_i64 {n : Int} (h : -9223372036854775808 ≤ n ∧ n ≤ 9223372036854775807) : IntKind.i64.wrap n = n := by
  exact IntWalk.i64_in n h
theorem w_u64 {n : Int} (h : 0 ≤ n ∧ n ≤ 18446744073709551615) : IntKind.u64.wrap n = n := by
  simp only [IntKind.wrap, IntKind.bits, IntKind.signed, Bool.false_and, Bool.false_eq_true, if_false]
  omega
theorem w_u32 {n : Int} (h : 0 ≤ n ∧ n ≤ 4294967295) : IntKind.u32.wrap n = n := by
  simp only [IntKind.wrap, IntKind.bits, IntKind.signed, Bool.false_and, Bool.false_eq_true, if_false]
  omega
theorem w_u8 {n : Int} (h : 0 ≤ n ∧ n ≤ 255) : IntKind.u8.wrap n = n := by
  simp only [IntKind.wrap, IntKind.bits, IntKind.signed, Bool.false_and, Bool.false_eq_true, if_false]
  omega
theorem u64_wrap (n : Int) : IntKind.u64.wrap n = n % 18446744073709551616 := by
  simp [IntKind.wrap, IntKind.bits, IntKind.signed]
theorem u32_wrap (n : Int) : IntKind.u32.wrap n = n % 4294967296 := by
  simp [IntKind.wrap, IntKind.bits, IntKind.signed]
theorem u8_wrap (n : Int) : IntKind.u8.wrap n = n % 256 := by
  simp [IntKind.wrap, IntKind.bits, IntKind.signed]

section
variable {P : Program} {ρ : Operand → Value} {w : World} {dst : Option Tmp} {ty : TypeId} {pos : String} {aft : Array Edge} {g : Option (Nat × Bool)}

theorem move {x : Operand} {v : Value} (h : ρ x = v) : Does P ⟨dst, .move x, ty, pos, aft, g⟩ ρ w v w := does_run rfl (by simp [execOp, h])
theorem assign {x : Operand} {v : Value} (h : ρ x = v) : Does P ⟨dst, .assign x, ty, pos, aft, g⟩ ρ w v w := does_run rfl (by simp [execOp, h])
theorem pickT {c a b : Operand} {v : Value} (hc : ρ c = .bool true) (h : ρ a = v) : Does P ⟨dst, .pick c a b, ty, pos, aft, g⟩ ρ w v w := does_run rfl (by simp [execOp, asBool, hc, h])
theorem pickF {c a b : Operand} {v : Value} (hc : ρ c = .bool false) (h : ρ b = v) : Does P ⟨dst, .pick c a b, ty, pos, aft, g⟩ ρ w v w := does_run rfl (by simp [execOp, asBool, hc, h])
theorem nilCk {x : Operand} {a : Addr} (h : ρ x = .pointer (some a)) : Does P ⟨dst, .nilCheck x, ty, pos, aft, g⟩ ρ w (.pointer (some a)) w := does_run rfl (by simp [execOp, h])
theorem extr {x : Operand} {vs : Array Value} {i : Nat} {v : Value} (h : ρ x = .tuple vs) (hv : vs[i]? = some v) : Does P ⟨dst, .extract x i, ty, pos, aft, g⟩ ρ w v w := does_run rfl (by simp [execOp, Instr.extract, h, hv])

/-! ### whole numbers -/
theorem add {kd : IntKind} {T T' : TypeId} {x y : Operand} {a b c : Int} (hx : ρ x = .int kd a) (hy : ρ y = .int kd b) (hc : kd.wrap (a + b) = c) : Does P ⟨dst, .binOp .add T x y T', ty, pos, aft, g⟩ ρ w (.int kd c) w :=
  does_run rfl (by simp [execOp, hx, hy, binOp, eqGuard, Op.intArith, hc])
theorem sub {kd : IntKind} {T T' : TypeId} {x y : Operand} {a b c : Int} (hx : ρ x = .int kd a) (hy : ρ y = .int kd b) (hc : kd.wrap (a - b) = c) : Does P ⟨dst, .binOp .sub T x y T', ty, pos, aft, g⟩ ρ w (.int kd c) w :=
  does_run rfl (by simp [execOp, hx, hy, binOp, eqGuard, Op.intArith, hc])
theorem mul {kd : IntKind} {T T' : TypeId} {x y : Operand} {a b c : Int} (hx : ρ x = .int kd a) (hy : ρ y = .int kd b) (hc : kd.wrap (a * b) = c) : Does P ⟨dst, .binOp .mul T x y T', ty, pos, aft, g⟩ ρ w (.int kd c) w :=
  does_run rfl (by simp [execOp, hx, hy, binOp, eqGuard, Op.intArith, hc])
theorem quo {kd : IntKind} {T T' : TypeId} {x y : Operand} {a b c : Int} (hx : ρ x = .int kd a) (hy : ρ y = .int kd b) (h0 : b ≠ 0) (hc : kd.wrap (a.tdiv b) = c) : Does P ⟨dst, .binOp .quo T x y T', ty, pos, aft, g⟩ ρ w (.int kd c) w :=
  does_run rfl (by simp [execOp, hx, hy, binOp, eqGuard, Op.intDiv, hc, h0])
theorem rem {kd : IntKind} {T T' : TypeId} {x y : Operand} {a b c : Int} (hx : ρ x = .int kd a) (hy : ρ y = .int kd b) (h0 : b ≠ 0) (hc : a.tmod b = c) : Does P ⟨dst, .binOp .rem T x y T', ty, pos, aft, g⟩ ρ w (.int kd c) w :=
  does_run rfl (by simp [execOp, hx, hy, binOp, eqGuard, Op.intDiv, hc, h0])
theorem and_ {kd : IntKind} {T T' : TypeId} {x y : Operand} {a b c : Int} (hx : ρ x = .int kd a) (hy : ρ y = .int kd b) (hc : kd.wrap (BitVec.ofInt kd.bits a &&& BitVec.ofInt kd.bits b).toNat = c) : Does P ⟨dst, .binOp .and T x y T', ty, pos, aft, g⟩ ρ w (.int kd c) w :=
  does_run rfl (by simp only [execOp, hx, hy, binOp, eqGuard, Op.intBits, hc]; simp)
theorem or_ {kd : IntKind} {T T' : TypeId} {x y : Operand} {a b c : Int} (hx : ρ x = .int kd a) (hy : ρ y = .int kd b) (hc : kd.wrap (BitVec.ofInt kd.bits a ||| BitVec.ofInt kd.bits b).toNat = c) : Does P ⟨dst, .binOp .or T x y T', ty, pos, aft, g⟩ ρ w (.int kd c) w :=
  does_run rfl (by simp only [execOp, hx, hy, binOp, eqGuard, Op.intBits, hc]; simp)
theorem xor_ {kd : IntKind} {T T' : TypeId} {x y : Operand} {a b c : Int} (hx : ρ x = .int kd a) (hy : ρ y = .int kd b) (hc : kd.wrap (BitVec.ofInt kd.bits a ^^^ BitVec.ofInt kd.bits b).toNat = c) : Does P ⟨dst, .binOp .xor T x y T', ty, pos, aft, g⟩ ρ w (.int kd c) w :=
  does_run rfl (by simp only [execOp, hx, hy, binOp, eqGuard, Op.intBits, hc]; simp)
theorem shl {kd yk : IntKind} {T T' : TypeId} {x y : Operand} {a b c : Int} (hx : ρ x = .int kd a) (hy : ρ y = .int yk b) (h0 : 0 ≤ b) (hc : kd.wrap (a * 2 ^ (min b.toNat kd.bits)) = c) : Does P ⟨dst, .binOp .shl T x y T', ty, pos, aft, g⟩ ρ w (.int kd c) w :=
  does_run rfl (by simp [execOp, hx, hy, binOp, eqGuard, Op.shift, hc, show ¬ b < 0 by omega])
theorem shr {kd yk : IntKind} {T T' : TypeId} {x y : Operand} {a b c : Int} (hx : ρ x = .int kd a) (hy : ρ y = .int yk b) (h0 : 0 ≤ b) (hc : a.fdiv (2 ^ (min b.toNat kd.bits)) = c) : Does P ⟨dst, .binOp .shr T x y T', ty, pos, aft, g⟩ ρ w (.int kd c) w :=
  does_run rfl (by simp [execOp, hx, hy, binOp, eqGuard, Op.shift, hc, show ¬ b < 0 by omega])
theorem lss {kd : IntKind} {T T' : TypeId} {x y : Operand} {a b : Int} (hx : ρ x = .int kd a) (hy : ρ y = .int kd b) : Does P ⟨dst, .binOp .lss T x y T', ty, pos, aft, g⟩ ρ w (.bool (decide (a < b))) w :=
  does_run rfl (by simp [execOp, hx, hy, binOp, eqGuard, Op.intCmp])
theorem leq {kd : IntKind} {T T' : TypeId} {x y : Operand} {a b : Int} (hx : ρ x = .int kd a) (hy : ρ y = .int kd b) : Does P ⟨dst, .binOp .leq T x y T', ty, pos, aft, g⟩ ρ w (.bool (decide (a ≤ b))) w :=
  does_run rfl (by simp [execOp, hx, hy, binOp, eqGuard, Op.intCmp])
theorem gtr {kd : IntKind} {T T' : TypeId} {x y : Operand} {a b : Int} (hx : ρ x = .int kd a) (hy : ρ y = .int kd b) : Does P ⟨dst, .binOp .gtr T x y T', ty, pos, aft, g⟩ ρ w (.bool (decide (b < a))) w :=
  does_run rfl (by simp [execOp, hx, hy, binOp, eqGuard, Op.intCmp])
theorem geq {kd : IntKind} {T T' : TypeId} {x y : Operand} {a b : Int} (hx : ρ x = .int kd a) (hy : ρ y = .int kd b) : Does P ⟨dst, .binOp .geq T x y T', ty, pos, aft, g⟩ ρ w (.bool (decide (b ≤ a))) w :=
  does_run rfl (by simp [execOp, hx, hy, binOp, eqGuard, Op.intCmp])
theorem eqI {kd : IntKind} {T T' : TypeId} {x y : Operand} {a b : Int} (hx : ρ x = .int kd a) (hy : ρ y = .int kd b) : Does P ⟨dst, .binOp .eql T x y T', ty, pos, aft, g⟩ ρ w (.bool (decide (a = b))) w :=
  does_run rfl (by simp [execOp, hx, hy, binOp, eqGuard, Op.intCmp]; rfl)
theorem neI {kd : IntKind} {T T' : TypeId} {x y : Operand} {a b : Int} (hx : ρ x = .int kd a) (hy : ρ y = .int kd b) : Does P ⟨dst, .binOp .neq T x y T', ty, pos, aft, g⟩ ρ w (.bool (decide (a ≠ b))) w :=
  does_run rfl (by
    have : (a != b) = decide (a ≠ b) := by by_cases h : a = b <;> simp [h]
    simp [execOp, hx, hy, binOp, eqGuard, Op.intCmp, this])
theorem not_ {T : TypeId} {x : Operand} {b : Bool} (hx : ρ x = .bool b) : Does P ⟨dst, .unOp .not T x, ty, pos, aft, g⟩ ρ w (.bool (!b)) w := does_run rfl (by simp [execOp, hx, Op.unary])
theorem neg {T : TypeId} {kd : IntKind} {x : Operand} {a c : Int} (hx : ρ x = .int kd a) (hc : kd.wrap (0 - a) = c) : Does P ⟨dst, .unOp .neg T x, ty, pos, aft, g⟩ ρ w (.int kd c) w := does_run rfl (by simp [execOp, hx, Op.unary, Op.intArith]; simpa using hc)
theorem com {T : TypeId} {kd : IntKind} {x : Operand} {a c : Int} (hx : ρ x = .int kd a) (hc : kd.wrap (BitVec.ofInt kd.bits (if kd.signed then -1 else kd.max) ^^^ BitVec.ofInt kd.bits a).toNat = c) : Does P ⟨dst, .unOp .xor T x, ty, pos, aft, g⟩ ρ w (.int kd c) w :=
  does_run rfl (by simp only [execOp, hx, Op.unary, Op.intBits, hc]; simp)
/-- A conversion between kinds of whole numbers. -/
theorem cvI {S T : TypeId} {kd kx : IntKind} {x : Operand} {a c : Int} {ds : TypeDesc} (hS : P.underlying S = some ds) (hT : P.underlying T = some (.int kd)) (hx : ρ x = .int kx a) (hc : kd.wrap a = c) : Does P ⟨dst, .convert S T x, ty, pos, aft, g⟩ ρ w (.int kd c) w :=
  does_run rfl (by simp [execOp, hx, convert, run_underlying hS, run_underlying hT, Conv.intToInt, hc])

/-! ### Bools, strings, ==  -/
theorem eqB {T T' : TypeId} {x y : Operand} {a b : Bool} (hT : P.underlying T = some .bool) (hx : ρ x = .bool a) (hy : ρ y = .bool b) : Does P ⟨dst, .binOp .eql T x y T', ty, pos, aft, g⟩ ρ w (.bool (a == b)) w :=
  does_run rfl (by simp [execOp, hx, hy, binOp, eqGuard, run_equal_bool w T a b hT])
theorem neB {T T' : TypeId} {x y : Operand} {a b : Bool} (hT : P.underlying T = some .bool) (hx : ρ x = .bool a) (hy : ρ y = .bool b) : Does P ⟨dst, .binOp .neq T x y T', ty, pos, aft, g⟩ ρ w (.bool (!(a == b))) w :=
  does_run rfl (by simp [execOp, hx, hy, binOp, eqGuard, run_equal_bool w T a b hT])
theorem eqS {T T' : TypeId} {x y : Operand} {a b : ByteArray} (hx : ρ x = .string a) (hy : ρ y = .string b) : Does P ⟨dst, .binOp .eql T x y T', ty, pos, aft, g⟩ ρ w (.bool (a.toList == b.toList)) w :=
  does_run rfl (by simp [execOp, hx, hy, binOp, eqGuard, Op.stringOp])
theorem neS {T T' : TypeId} {x y : Operand} {a b : ByteArray} (hx : ρ x = .string a) (hy : ρ y = .string b) : Does P ⟨dst, .binOp .neq T x y T', ty, pos, aft, g⟩ ρ w (.bool (!(a.toList == b.toList))) w :=
  does_run rfl (by simp [execOp, hx, hy, binOp, eqGuard, Op.stringOp])
theorem ltS {T T' : TypeId} {x y : Operand} {a b : ByteArray} (hx : ρ x = .string a) (hy : ρ y = .string b) : Does P ⟨dst, .binOp .lss T x y T', ty, pos, aft, g⟩ ρ w (.bool (Op.bytesLess a.toList b.toList)) w :=
  does_run rfl (by simp [execOp, hx, hy, binOp, eqGuard, Op.stringOp])

/-! ### len -/
theorem lenSl {e T : TypeId} {x : Operand} {A : Option Addr} {n c : Nat} (hT : P.underlying T = some (.slice e)) (hx : ρ x = .slice A n c) : Does P ⟨dst, .call ⟨.builtin .len, #[x], #[T]⟩, ty, pos, aft, g⟩ ρ w (.int .i64 (n : Int)) w :=
  does_run rfl (by simp [execOp, resolve, invoke, builtin, Builtin.len_, run_underlying hT, hx, goInt])
theorem lenS {T : TypeId} {x : Operand} {s : ByteArray} (hT : P.underlying T = some .string) (hx : ρ x = .string s) : Does P ⟨dst, .call ⟨.builtin .len, #[x], #[T]⟩, ty, pos, aft, g⟩ ρ w (.int .i64 (s.size : Int)) w :=
  does_run rfl (by simp [execOp, resolve, invoke, builtin, Builtin.len_, run_underlying hT, hx, goInt])

/-! ### addresses, reads -/
theorem idxAddr {e T : TypeId} {sz : Nat} {x i : Operand} {ki : IntKind} {ad : Addr} {n c : Nat} {j : Int} (hT : P.underlying T = some (.slice e)) (hs : ∀ w, (sizeOf e).run P w = .ok sz w) (hx : ρ x = .slice (some ad) n c) (hi : ρ i = .int ki j) (h0 : 0 ≤ j ∧ j < (n : Int)) :
    Does P ⟨dst, .indexAddr T x i, ty, pos, aft, g⟩ ρ w (.pointer (some (ad.add (j.toNat * sz)))) w :=
  does_run rfl (by simp [execOp, hx, hi, Instr.indexAt, asIntOf, run_underlying hT, hs, h0.1, h0.2])
theorem fldAddr {S : TypeId} {fields : Array Field} {fd : Field} {x : Operand} {ad : Addr} {i : Nat} (hS : P.underlying S = some (.struct fields)) (hf : fields[i]? = some fd) (hx : ρ x = .pointer (some ad)) (hp : ∀ w, (fieldPlace ad fd).run P w = .ok (ad.add fd.offset) w) :
    Does P ⟨dst, .fieldAddr S x i, ty, pos, aft, g⟩ ρ w (.pointer (some (ad.add fd.offset))) w :=
  does_run rfl (by simp [execOp, hx, Instr.fieldAt, run_underlying hS, hf, Instr.sureAddr, hp])
theorem load1 {T : TypeId} {x : Operand} {ad : Addr} {v : Value} (hT : ∀ w, (isAgg T).run P w = .ok false w) (hx : ρ x = .pointer (some ad)) (hc : w.cell? ad = some v) : Does P ⟨dst, .load T x, ty, pos, aft, g⟩ ρ w v w :=
  does_run rfl (by simp [execOp, hx, Instr.loadAt, Instr.sureAddr, loadVar, hT, hc])
end
end Go.Proofs.Ytgfficbkajcdpaa.X
