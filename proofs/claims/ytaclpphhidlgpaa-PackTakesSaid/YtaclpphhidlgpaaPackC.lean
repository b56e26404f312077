/- Contracts of package pack and its reference: the bytes of numbers and rows. -/
import Derived.Test.YtaclpphhidlgpaaPackB
namespace Go.Proofs.Ytaclpphhidlgpaa
open Go Go.Proofs.Ytaclpphhidlgpaa.X
set_option linter.unusedVariables false
set_option linter.unusedSimpArgs false

/-- v: a row of bytes of the call's own. -/
def FreshB (w w' : World) (v : Value) (l : List UInt8) : Prop := Mine KB 5 (fun k => w.heap.size ≤ k) 0 0 w' v l ∧ Keep w w'
theorem app_hs {w w' : World} (h : Keep w w') : ∀ k, w'.heap.size ≤ k → w.heap.size ≤ k := fun k hk => Nat.le_trans h.size hk

/-- The bytes of a number. -/
def numB (x : Nat) : List UInt8 := if x < 128 then [UInt8.ofNat x] else UInt8.ofNat (x % 128 + 128) :: numB (x / 128)
termination_by x
theorem numB_len (n : Nat) : ∀ x, x < 128 ^ (n + 1) → (numB x).length ≤ n + 1 := by
  induction n with
  | zero => intro x h; rw [numB, if_pos (by omega)]; simp
  | succ n ih =>
    intro x h
    rw [numB]
    split
    · simp
    · have := ih (x / 128) (by rw [Nat.pow_succ] at h; omega)
      simp; omega
theorem p128 : (128 : Nat) ^ (9 + 1) = 1180591620717411303424 := by simp
theorem numB_10 (x : Int) (h : x ≤ 18446744073709551615) : (numB x.toNat).length ≤ 10 := by
  have e := numB_len 9 x.toNat
  rw [p128] at e
  have h2 : x.toNat < 1180591620717411303424 := by omega
  have := e h2
  omega
set_option maxRecDepth 20000 in
theorem or_tab : ∀ m : Fin 256, (BitVec.ofNat 8 m.1 ||| 128#8).toNat = m.1 % 128 + 128 := by decide
theorem u8_or (x : Int) (h : 0 ≤ x) : IntKind.u8.wrap ((BitVec.ofInt IntKind.u8.bits (x % 256) ||| BitVec.ofInt IntKind.u8.bits 128).toNat : Int) = ((UInt8.ofNat (x.toNat % 128 + 128)).toNat : Int) := by
  obtain ⟨n, rfl⟩ := Int.eq_ofNat_of_zero_le h
  have h1 : ((n : Int) % 256) = ((n % 256 : Nat) : Int) := by omega
  have h2 := or_tab ⟨n % 256, by omega⟩
  rw [h1]
  show IntKind.u8.wrap (((BitVec.ofInt 8 ((n % 256 : Nat) : Int) ||| 128#8).toNat : Nat) : Int) = _
  rw [BitVec.ofInt_natCast, h2, u8_wrap, UInt8.toNat_ofNat', Int.toNat_natCast]
  simp only []
  omega
theorem u8_add (x : Int) (h : 0 ≤ x) : IntKind.u8.wrap (x.tmod 128 % 256 + 128) = ((UInt8.ofNat (x.toNat % 128 + 128)).toNat : Int) := by
  obtain ⟨n, rfl⟩ := Int.eq_ofNat_of_zero_le h
  rw [u8_wrap, UInt8.toNat_ofNat', Int.toNat_natCast]
  have : (n : Int).tmod 128 = ((n % 128 : Nat) : Int) := rfl
  rw [this]
  omega
theorem u8_of (x : Int) (h : 0 ≤ x) : IntKind.u8.wrap x = ((UInt8.ofNat x.toNat).toNat : Int) := by
  rw [u8_wrap, UInt8.toNat_ofNat']; omega
theorem shr7 (x : Int) : x.fdiv (2 ^ (min (7 : Int).toNat IntKind.u64.bits)) = x / 128 := Int.fdiv_eq_ediv_of_nonneg x (by decide)
theorem quo128 (x : Int) (h : 0 ≤ x ∧ x ≤ 18446744073709551615) : IntKind.u64.wrap (x.tdiv 128) = x / 128 := by
  rw [Int.tdiv_eq_ediv_of_nonneg h.1]; exact w_u64 (by omega)
theorem Num_c (x : Int) (h0 : 0 ≤ x) (h1 : x ≤ 18446744073709551615) (w : World) : Ret Try.prog 17 #[.int .u64 x] w fun v w' => FreshB w w' v (numB x.toNat) := by
  refine X.enter Try.func17 rfl Try.ntmps17 rfl ?_
  refine X.seq ?_
  refine X.region ?_
  refine X.opw X.wN rfl (X.assign rfl) ?_
  refine X.opsEnd ?_
  refine X.seq ?_
  refine X.region ?_
  refine X.opw X.wN rfl (X.assign rfl) ?_
  refine X.opsEnd ?_
  refine X.seq ?_
  refine X.block ?_
  -- LOOP live: 0=x*, 3=b*
  refine X.loopL (σ := Int × Value × List UInt8) (fun s => [(0, .int .u64 s.1), (3, s.2.1)]) (fun s w' => 0 ≤ s.1 ∧ s.1 ≤ x ∧ Mine KB 5 (fun k => w.heap.size ≤ k) 0 0 w' s.2.1 s.2.2 ∧ s.2.2 ++ numB s.1.toNat = numB x.toNat ∧ Keep w w') (fun s => s.1.toNat) (x, .slice none 0 0, []) ⟨rfl, rfl, trivial⟩ ⟨h0, by simp, Mine.nil _ _ _ _ _ _, rfl, Keep.refl w⟩ ?_
  rintro ⟨y, v, l⟩ b w1 ⟨hy0, hy1, hM, hl, hk⟩ hback
  simp only at hy0 hy1 hM hl
  have hlen : l.length ≤ 10 := by
    have e := congrArg List.length hl
    have := numB_10 x h1
    simp at e; omega
  refine X.seq ?_
  refine X.seq ?_
  refine X.region ?_
  refine X.opw X.wN rfl (X.move rfl) ?_
  refine X.opP X.wN rfl rfl (X.geq rfl rfl) (fun h5 => ?_) (fun h5 => ?_)
  · refine X.opsEnd ?_
    refine X.condT rfl ?_
    refine X.skip ?_
    refine X.seq ?_
    refine X.block ?_
    refine X.region ?_
    refine X.opw X.wN rfl (X.move rfl) ?_
    refine X.opw X.wN rfl (X.move rfl) ?_
    refine X.opw X.wN rfl (X.cvI Try.underlying33 Try.underlying5 rfl (X.u8_wrap _)) ?_
    refine X.opw X.wN rfl (X.or_ rfl rfl (u8_or y hy0)) ?_
    refine X.opE X.wN rfl (X.lit1E (K := KB) (lo := 0) (hi := 0) Try.underlying25 Try.sizeOf5 Try.zeroValue5 rfl rfl (KB_R 0 0 _ _)) ?_
    rintro _ w2 ⟨rfl, hs1, hB1, hk1, hz1⟩
    refine X.opE X.wN rfl (X.appE (K := KB) KB_flat Try.underlying25 E5 rfl rfl (hM.keep hk1) (hs1) (by simp; omega) (app_hs (hk.trans hk1))) ?_
    rintro v2 w3 ⟨hM2, hx2⟩
    refine X.opw X.wN rfl (X.assign rfl) ?_
    refine X.opsEnd ?_
    refine X.inBlock ?_
    refine X.region ?_
    refine X.opw X.wN rfl (X.move rfl) ?_
    refine X.opw X.wN rfl (X.shr rfl rfl (by decide) (shr7 y)) ?_
    refine X.opw X.wN rfl (X.assign rfl) ?_
    refine X.opsEnd ?_
    refine hback (y / 128, v2, l ++ [UInt8.ofNat (y.toNat % 128 + 128)]) _ w3 ⟨rfl, rfl, trivial⟩ ⟨by simp only []; omega, by simp only []; omega, hM2, ?_, (hk.trans hk1).step hx2 (fun _ h => h)⟩ (by simp only []; omega)
    rw [← hl, numB.eq_def y.toNat, if_neg (by omega), List.append_assoc, List.singleton_append]
    simp only []
    rw [show (y / 128).toNat = y.toNat / 128 by omega]
  · refine X.opsEnd ?_
    refine X.condF rfl ?_
    refine X.exit rfl ?_
    refine X.seq ?_
    refine X.region ?_
    refine X.opw X.wN rfl (X.move rfl) ?_
    refine X.opw X.wN rfl (X.move rfl) ?_
    refine X.opw X.wN rfl (X.cvI Try.underlying33 Try.underlying5 rfl (u8_of y hy0)) ?_
    refine X.opE X.wN rfl (X.lit1E (K := KB) (lo := 0) (hi := 0) Try.underlying25 Try.sizeOf5 Try.zeroValue5 rfl rfl (KB_R 0 0 _ _)) ?_
    rintro _ w3 ⟨rfl, hs3, hB3, hk3, hz3⟩
    refine X.opE X.wN rfl (X.appE (K := KB) KB_flat Try.underlying25 E5 rfl rfl (hM.keep hk3) (hs3) (by simp; omega) (app_hs (hk.trans hk3))) ?_
    rintro v4 w4 ⟨hM4, hx4⟩
    refine X.opw X.wN rfl (X.assign rfl) ?_
    refine X.opsEnd ?_
    refine X.ret1 Try.func17 Try.results17 rfl ?_
    refine ⟨?_, (hk.trans hk3).step hx4 (fun _ h => h)⟩
    rw [← hl, numB.eq_def y.toNat, if_pos (by omega)]
    exact hM4
theorem RNum_c (x : Int) (h0 : 0 ≤ x) (h1 : x ≤ 18446744073709551615) (w : World) : Ret Try.prog 25 #[.int .u64 x] w fun v w' => FreshB w w' v (numB x.toNat) := by
  refine X.enter Try.func25 rfl Try.ntmps25 rfl ?_
  refine X.seq ?_
  refine X.region ?_
  refine X.opw X.wN rfl (X.assign rfl) ?_
  refine X.opsEnd ?_
  refine X.seq ?_
  refine X.region ?_
  refine X.opw X.wN rfl (X.assign rfl) ?_
  refine X.opsEnd ?_
  refine X.seq ?_
  refine X.block ?_
  -- LOOP live: 0=x*, 3=b*
  refine X.loopL (σ := Int × Value × List UInt8) (fun s => [(0, .int .u64 s.1), (3, s.2.1)]) (fun s w' => 0 ≤ s.1 ∧ s.1 ≤ x ∧ Mine KB 5 (fun k => w.heap.size ≤ k) 0 0 w' s.2.1 s.2.2 ∧ s.2.2 ++ numB s.1.toNat = numB x.toNat ∧ Keep w w') (fun s => s.1.toNat) (x, .slice none 0 0, []) ⟨rfl, rfl, trivial⟩ ⟨h0, by simp, Mine.nil _ _ _ _ _ _, rfl, Keep.refl w⟩ ?_
  rintro ⟨y, v, l⟩ b w1 ⟨hy0, hy1, hM, hl, hk⟩ hback
  simp only at hy0 hy1 hM hl
  have hlen : l.length ≤ 10 := by
    have e := congrArg List.length hl
    have := numB_10 x h1
    simp at e; omega
  refine X.seq ?_
  refine X.seq ?_
  refine X.region ?_
  refine X.opw X.wN rfl (X.move rfl) ?_
  refine X.opP X.wN rfl rfl (X.geq rfl rfl) (fun h5 => ?_) (fun h5 => ?_)
  · refine X.opsEnd ?_
    refine X.condT rfl ?_
    refine X.skip ?_
    refine X.block ?_
    refine X.seq ?_
    refine X.region ?_
    refine X.opw X.wN rfl (X.move rfl) ?_
    refine X.opw X.wN rfl (X.move rfl) ?_
    refine X.opw X.wN rfl (X.rem rfl rfl (by decide) rfl) ?_
    refine X.opw X.wN rfl (X.cvI Try.underlying33 Try.underlying5 rfl (X.u8_wrap _)) ?_
    refine X.opw X.wN rfl (X.add rfl rfl (u8_add y hy0)) ?_
    refine X.opE X.wN rfl (X.lit1E (K := KB) (lo := 0) (hi := 0) Try.underlying25 Try.sizeOf5 Try.zeroValue5 rfl rfl (KB_R 0 0 _ _)) ?_
    rintro _ w2 ⟨rfl, hs1, hB1, hk1, hz1⟩
    refine X.opE X.wN rfl (X.appE (K := KB) KB_flat Try.underlying25 E5 rfl rfl (hM.keep hk1) (hs1) (by simp; omega) (app_hs (hk.trans hk1))) ?_
    rintro v2 w3 ⟨hM2, hx2⟩
    refine X.opw X.wN rfl (X.assign rfl) ?_
    refine X.opsEnd ?_
    refine X.region ?_
    refine X.opw X.wN rfl (X.move rfl) ?_
    refine X.opw X.wN rfl (X.quo rfl rfl (by decide) (quo128 y ⟨hy0, by omega⟩)) ?_
    refine X.opw X.wN rfl (X.assign rfl) ?_
    refine X.opsEnd ?_
    refine X.inBlock ?_
    refine hback (y / 128, v2, l ++ [UInt8.ofNat (y.toNat % 128 + 128)]) _ w3 ⟨rfl, rfl, trivial⟩ ⟨by simp only []; omega, by simp only []; omega, hM2, ?_, (hk.trans hk1).step hx2 (fun _ h => h)⟩ (by simp only []; omega)
    rw [← hl, numB.eq_def y.toNat, if_neg (by omega), List.append_assoc, List.singleton_append]
    simp only []
    rw [show (y / 128).toNat = y.toNat / 128 by omega]
  · refine X.opsEnd ?_
    refine X.condF rfl ?_
    refine X.exit rfl ?_
    refine X.seq ?_
    refine X.region ?_
    refine X.opw X.wN rfl (X.move rfl) ?_
    refine X.opw X.wN rfl (X.move rfl) ?_
    refine X.opw X.wN rfl (X.cvI Try.underlying33 Try.underlying5 rfl (u8_of y hy0)) ?_
    refine X.opE X.wN rfl (X.lit1E (K := KB) (lo := 0) (hi := 0) Try.underlying25 Try.sizeOf5 Try.zeroValue5 rfl rfl (KB_R 0 0 _ _)) ?_
    rintro _ w3 ⟨rfl, hs3, hB3, hk3, hz3⟩
    refine X.opE X.wN rfl (X.appE (K := KB) KB_flat Try.underlying25 E5 rfl rfl (hM.keep hk3) (hs3) (by simp; omega) (app_hs (hk.trans hk3))) ?_
    rintro v4 w4 ⟨hM4, hx4⟩
    refine X.opw X.wN rfl (X.assign rfl) ?_
    refine X.opsEnd ?_
    refine X.ret1 Try.func25 Try.results25 rfl ?_
    refine ⟨?_, (hk.trans hk3).step hx4 (fun _ h => h)⟩
    rw [← hl, numB.eq_def y.toNat, if_pos (by omega)]
    exact hM4
/-- An int's number. -/
def zig (x : Int) : Int := if x < 0 then -(x + 1) * 2 + 1 else x * 2
theorem zig_ok (x : Int) (h : okI x) : 0 ≤ zig x ∧ zig x ≤ 18446744073709551615 := by
  unfold okI at h; unfold zig; split <;> omega
theorem zig_xor (x : Int) (h : okI x) : IntKind.u64.wrap ((BitVec.ofInt IntKind.u64.bits (IntKind.u64.wrap (IntKind.i64.wrap (x * 2 ^ (min (1 : Int).toNat IntKind.i64.bits)))) ^^^ BitVec.ofInt IntKind.u64.bits (IntKind.u64.wrap (x.fdiv (2 ^ (min (63 : Int).toNat IntKind.i64.bits))))).toNat : Int) = zig x := by
  have hi : ∀ y : Int, IntKind.u64.wrap (IntKind.i64.wrap y) = y % 18446744073709551616 := by
    intro y
    rw [u64_wrap]
    simp only [IntKind.wrap, IntKind.bits, IntKind.signed, Bool.true_and]
    split <;> omega
  have hf : x.fdiv (2 ^ (min (63 : Int).toNat IntKind.i64.bits)) = x / 9223372036854775808 := Int.fdiv_eq_ediv_of_nonneg x (by decide)
  rw [hi, hf, u64_wrap, u64_wrap]
  unfold okI at h
  show ((BitVec.ofInt 64 (x * 2 % 18446744073709551616) ^^^ BitVec.ofInt 64 (x / 9223372036854775808 % 18446744073709551616)).toNat : Int) % 18446744073709551616 = _
  by_cases hx : x < 0
  · rw [show x / 9223372036854775808 % 18446744073709551616 = 18446744073709551615 by omega]
    rw [show BitVec.ofInt 64 18446744073709551615 = BitVec.allOnes 64 by decide, BitVec.xor_allOnes, BitVec.toNat_not, BitVec.toNat_ofInt]
    unfold zig
    rw [if_pos hx]
    omega
  · rw [show x / 9223372036854775808 % 18446744073709551616 = 0 by omega]
    rw [show BitVec.ofInt 64 0 = 0#64 by decide, BitVec.xor_zero, BitVec.toNat_ofInt]
    unfold zig
    rw [if_neg hx]
    omega
theorem Int_c (x : Int) (h : okI x) (w : World) : Ret Try.prog 26 #[.int .i64 x] w fun v w' => FreshB w w' v (numB (zig x).toNat) := by
  have hz := zig_ok x h
  refine X.enter Try.func26 rfl Try.ntmps26 rfl ?_
  refine X.seq ?_
  refine X.region ?_
  refine X.opw X.wN rfl (X.assign rfl) ?_
  refine X.opsEnd ?_
  refine X.seq ?_
  refine X.region ?_
  refine X.opw X.wN rfl (X.move rfl) ?_
  refine X.opw X.wN rfl (X.shl rfl rfl (by decide) rfl) ?_
  refine X.opw X.wN rfl (X.cvI Try.underlying2 Try.underlying33 rfl rfl) ?_
  refine X.opw X.wN rfl (X.move rfl) ?_
  refine X.opw X.wN rfl (X.shr rfl rfl (by decide) rfl) ?_
  refine X.opw X.wN rfl (X.cvI Try.underlying2 Try.underlying33 rfl rfl) ?_
  refine X.opw X.wN rfl (X.xor_ rfl rfl (zig_xor x h)) ?_
  refine X.opE X.wN rfl (X.callE (Num_c _ hz.1 hz.2 w) Try.call17 rfl rfl) ?_
  rintro v w1 hv
  refine X.opw X.wN rfl (X.assign rfl) ?_
  refine X.opsEnd ?_
  refine X.ret1 Try.func26 Try.results26 rfl ?_
  exact hv
theorem RInt_c (x : Int) (h : okI x) (w : World) : Ret Try.prog 27 #[.int .i64 x] w fun v w' => FreshB w w' v (numB (zig x).toNat) := by
  have hz := zig_ok x h
  have hb := h
  unfold okI at hb
  refine X.enter Try.func27 rfl Try.ntmps27 rfl ?_
  refine X.seq ?_
  refine X.region ?_
  refine X.opw X.wN rfl (X.assign rfl) ?_
  refine X.opsEnd ?_
  refine X.seq ?_
  refine X.seq ?_
  refine X.region ?_
  refine X.opw X.wN rfl (X.move rfl) ?_
  refine X.opP X.wN rfl rfl (X.lss rfl rfl) (fun h4 => ?_) (fun h4 => ?_)
  · refine X.opsEnd ?_
    refine X.condT rfl ?_
    refine X.seq ?_
    refine X.region ?_
    refine X.opw X.wN rfl (X.move rfl) ?_
    refine X.opw X.wN rfl (X.add rfl rfl (X.w_i64 (by omega))) ?_
    refine X.opw X.wN rfl (X.neg rfl (X.w_i64 (by omega))) ?_
    refine X.opw X.wN rfl (X.cvI Try.underlying2 Try.underlying33 rfl (X.w_u64 (by omega))) ?_
    refine X.opw X.wN rfl (X.mul rfl rfl (X.w_u64 (by omega))) ?_
    refine X.opw X.wN rfl (X.add rfl rfl (X.w_u64 (by omega))) ?_
    refine X.opE X.wN rfl (X.callE (RNum_c _ (by omega) (by omega) w) Try.call25 rfl rfl) ?_
    rintro v w1 hv
    refine X.opw X.wN rfl (X.assign rfl) ?_
    refine X.opsEnd ?_
    refine X.ret1 Try.func27 Try.results27 rfl ?_
    rw [show zig x = (0 - (x + 1)) * 2 + 1 by unfold zig; rw [if_pos h4]; omega]
    exact hv
  · refine X.opsEnd ?_
    refine X.condF rfl ?_
    refine X.skip ?_
    refine X.seq ?_
    refine X.region ?_
    refine X.opw X.wN rfl (X.move rfl) ?_
    refine X.opw X.wN rfl (X.cvI Try.underlying2 Try.underlying33 rfl (X.w_u64 (by omega))) ?_
    refine X.opw X.wN rfl (X.mul rfl rfl (X.w_u64 (by omega))) ?_
    refine X.opE X.wN rfl (X.callE (RNum_c _ (by omega) (by omega) w) Try.call25 rfl rfl) ?_
    rintro v w1 hv
    refine X.opw X.wN rfl (X.assign rfl) ?_
    refine X.opsEnd ?_
    refine X.ret1 Try.func27 Try.results27 rfl ?_
    rw [show zig x = x * 2 by unfold zig; rw [if_neg h4]]
    exact hv
/-- The bytes of a row. -/
def textB (l : List UInt8) : List UInt8 := numB l.length ++ l
theorem Text_c {lo hi : Nat} {A : Option Addr} {n c : Nat} {l : List UInt8} (w : World) (hs : Sl KB lo hi w A n l) (hb : n ≤ 1000000) : Ret Try.prog 18 #[.slice A n c] w fun v w' => FreshB w w' v (textB l) := by
  have hn := numB_10 (n : Int) (by omega)
  have hl := hs.len
  refine X.enter Try.func18 rfl Try.ntmps18 rfl ?_
  refine X.seq ?_
  refine X.region ?_
  refine X.opw X.wN rfl (X.assign rfl) ?_
  refine X.opsEnd ?_
  refine X.seq ?_
  refine X.region ?_
  refine X.opw X.wN rfl (X.move rfl) ?_
  refine X.opw X.wN rfl (X.lenSl Try.underlying25 rfl) ?_
  refine X.opw X.wN rfl (X.cvI Try.underlying3 Try.underlying33 rfl (X.w_u64 (by omega))) ?_
  refine X.opE X.wN rfl (X.callE (Num_c _ (by omega) (by omega) w) Try.call17 rfl rfl) ?_
  rintro v w1 ⟨hM1, hk1⟩
  refine X.opw X.wN rfl (X.move rfl) ?_
  refine X.opE X.wN rfl (X.appE (K := KB) KB_flat Try.underlying25 E5 rfl rfl (hM1) (hs.keep hk1) (by simp only [Int.toNat_natCast] at *; omega) (app_hs hk1)) ?_
  rintro v2 w2 ⟨hM2, hx2⟩
  refine X.opw X.wN rfl (X.assign rfl) ?_
  refine X.opsEnd ?_
  refine X.ret1 Try.func18 Try.results18 rfl ?_
  exact ⟨by rw [textB, hl]; exact hM2, hk1.step hx2 (fun _ h => h)⟩
theorem RText_c {lo hi : Nat} {A : Option Addr} {n c : Nat} {l : List UInt8} (w : World) (hs : Sl KB lo hi w A n l) (hb : n ≤ 1000000) : Ret Try.prog 28 #[.slice A n c] w fun v w' => FreshB w w' v (textB l) := by
  have hn := numB_10 (n : Int) (by omega)
  have hl := hs.len
  refine X.enter Try.func28 rfl Try.ntmps28 rfl ?_
  refine X.seq ?_
  refine X.region ?_
  refine X.opw X.wN rfl (X.assign rfl) ?_
  refine X.opsEnd ?_
  refine X.seq ?_
  refine X.region ?_
  refine X.opw X.wN rfl (X.move rfl) ?_
  refine X.opw X.wN rfl (X.lenSl Try.underlying25 rfl) ?_
  refine X.opw X.wN rfl (X.cvI Try.underlying3 Try.underlying33 rfl (X.w_u64 (by omega))) ?_
  refine X.opE X.wN rfl (X.callE (RNum_c _ (by omega) (by omega) w) Try.call25 rfl rfl) ?_
  rintro v w1 ⟨hM1, hk1⟩
  refine X.opw X.wN rfl (X.move rfl) ?_
  refine X.opE X.wN rfl (X.appE (K := KB) KB_flat Try.underlying25 E5 rfl rfl (hM1) (hs.keep hk1) (by simp only [Int.toNat_natCast] at *; omega) (app_hs hk1)) ?_
  rintro v2 w2 ⟨hM2, hx2⟩
  refine X.opw X.wN rfl (X.assign rfl) ?_
  refine X.opsEnd ?_
  refine X.ret1 Try.func28 Try.results28 rfl ?_
  exact ⟨by rw [textB, hl]; exact hM2, hk1.step hx2 (fun _ h => h)⟩
end Go.Proofs.Ytaclpphhidlgpaa
