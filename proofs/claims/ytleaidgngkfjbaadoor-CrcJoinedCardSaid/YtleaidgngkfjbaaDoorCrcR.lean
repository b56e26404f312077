/- The walk of the law CrcJoined. -/
import Derived.Test.YtleaidgngkfjbaaDoorCrcQ
namespace Go.Proofs.YtleaidgngkfjbaaDoor
open Go Go.Proofs.YtleaidgngkfjbaaDoor.X
set_option linter.unusedVariables false
set_option linter.unusedSimpArgs false

def bitP (k : Nat) : R32 := BitVec.ofNat 32 (List.getD [0, 1, 2, 4, 8, 16, 32, 64, 128, 256, 512, 1024, 2048, 4096, 8192, 16384, 32768, 65536, 131072, 262144, 524288, 1048576, 2097152, 4194304, 8388608, 16777216, 33554432, 67108864, 134217728, 268435456, 536870912, 1073741824, 2147483648] k 0)
theorem bitP_shr (k : Nat) (h : k < 32) : bitP (k + 1) >>> 1 = bitP k := by
  have : ∀ k : Fin 32, bitP (k.1 + 1) >>> 1 = bitP k.1 := by decide +kernel
  exact this ⟨k, h⟩
theorem bitP_two (k : Nat) (h : k < 32) : bitP (k + 1) = BitVec.twoPow 32 k := by
  have : ∀ k : Fin 32, bitP (k.1 + 1) = BitVec.twoPow 32 k.1 := by decide +kernel
  exact this ⟨k, h⟩
theorem bitP_ne {k : Nat} (h : k ≤ 32) (h2 : ((bitP k).toNat : Int) ≠ 0) : ∃ j, k = j + 1 := by
  cases k with
  | zero => exact absurd (by decide) h2
  | succ j => exact ⟨j, rfl⟩
theorem bitP_eq {k : Nat} (h : k ≤ 32) (h2 : ¬ ((bitP k).toNat : Int) ≠ 0) : k = 0 := by
  cases k with
  | zero => rfl
  | succ j =>
    have : ∀ k : Fin 32, ((bitP (k.1 + 1)).toNat : Int) ≠ 0 := by decide +kernel
    exact absurd (this ⟨j, by omega⟩) h2
theorem and_two {a : R32} {j : Nat} (h : j < 32) : ((a &&& bitP (j + 1)).toNat : Int) ≠ 0 ↔ a.getLsbD j = true := by
  rw [bitP_two j h]
  constructor
  · intro hn
    cases hb : a.getLsbD j
    · exfalso
      apply hn
      have : a &&& BitVec.twoPow 32 j = 0#32 := by
        apply BitVec.eq_of_getLsbD_eq
        intro i hi
        rw [BitVec.getLsbD_and, BitVec.getLsbD_twoPow]
        by_cases e : j = i
        · subst e; simp [hb]
        · simp [e]
      rw [this]; rfl
    · rfl
  · intro hb hz
    have hz' : (a &&& BitVec.twoPow 32 j).toNat = 0 := by omega
    have h0 : (a &&& BitVec.twoPow 32 j) = 0#32 := BitVec.eq_of_toNat_eq (by rw [hz']; rfl)
    have h3 : (a &&& BitVec.twoPow 32 j).getLsbD j = (0#32).getLsbD j := by rw [h0]
    rw [BitVec.getLsbD_and, BitVec.getLsbD_twoPow, hb] at h3
    simp [h] at h3
theorem st1_t {b : R32} (h : ((b &&& 1#32).toNat : Int) = 1) : b >>> 1 ^^^ 3988292384#32 = st1 b := by
  rw [and1] at h
  rw [st1, if_pos (by rw [getLsb0]; simp; omega)]; rfl
theorem st1_f {b : R32} (h : ¬ ((b &&& 1#32).toNat : Int) = 1) : b >>> 1 = st1 b := by
  rw [and1] at h
  rw [st1, if_neg (by rw [getLsb0]; simp; omega)]
theorem tm_next {a p b T : R32} {j : Nat} (t : Bool) (ht : a.getLsbD j = t) {b' p' : R32} (hb : b' = st1 b) (hp : p' = p ^^^ pickR t b) (h : p ^^^ mulF a (j + 1) b = T) : p' ^^^ mulF a j b' = T := by
  subst hb hp
  rw [mulF, ht, ← BitVec.xor_assoc] at h; exact h
theorem and1I (k : Nat) (h : k < 9223372036854775808) : IntKind.i64.wrap ((BitVec.ofInt IntKind.i64.bits ((k : Nat) : Int) &&& BitVec.ofInt IntKind.i64.bits 1).toNat : Int) = ((k % 2 : Nat) : Int) := by
  show IntKind.i64.wrap ((BitVec.ofInt 64 ((k : Nat) : Int) &&& 1#64).toNat : Int) = _
  rw [BitVec.ofInt_natCast, BitVec.toNat_and, BitVec.toNat_ofNat, BitVec.toNat_ofNat]
  have : k % 2 ^ 64 &&& 1 % 2 ^ 64 = k % 2 := by
    rw [show (1 : Nat) % 2 ^ 64 = 2 ^ 1 - 1 by decide, Nat.and_two_pow_sub_one_eq_mod]; omega
  rw [this]; exact w_i64 (by omega)
theorem jn_odd {p q k N : Nat} (h : p + q * k = N) (hk : k % 2 = 1) : p + q + (q + q) * (k / 2) = N := by
  have e : k = 2 * (k / 2) + 1 := by omega
  generalize k / 2 = z at e ⊢
  subst e; rw [← h, Nat.mul_add, Nat.add_mul, Nat.mul_one, Nat.mul_left_comm, Nat.two_mul]; omega
theorem jn_even {p q k N : Nat} (h : p + q * k = N) (hk : ¬ k % 2 = 1) : p + (q + q) * (k / 2) = N := by
  have e : k = 2 * (k / 2) := by omega
  generalize k / 2 = z at e ⊢
  subst e; rw [← h, Nat.add_mul, Nat.mul_left_comm, Nat.two_mul]
theorem shrI1 (a : Nat) : ((a : Nat) : Int).fdiv (2 ^ (min (1 : Int).toNat IntKind.i64.bits)) = ((a / 2 : Nat) : Int) := by
  rw [Int.fdiv_eq_ediv_of_nonneg _ (by decide)]; rfl
-- f42 "pedigree/crc.times" params [27, 27] results [27] -> [(ResultVar.tmp 4)] nfree 0 ntmps 28 names ["a", "
set_option maxHeartbeats 4000000 in
set_option maxRecDepth 100000 in
theorem times_c (a b : R32) (w : World) : Ret Tryd.prog 42 #[.int .u32 (a.toNat : Int), .int .u32 (b.toNat : Int)] w fun v w' => v = .int .u32 ((mulF a 32 b).toNat : Int) ∧ Keep w w' := by
  refine X.enter Tryd.func42 rfl Tryd.ntmps42 rfl ?_
  refine X.seq ?_
  refine X.region ?_
  refine X.opw X.wN rfl (X.assign rfl) ?_
  refine X.opsEnd ?_
  refine X.seq ?_
  refine X.region ?_
  refine X.opw X.wN rfl (X.assign rfl) ?_
  refine X.opsEnd ?_
  refine X.seq ?_
  refine X.seq ?_
  refine X.region ?_
  refine X.opw X.wN rfl (X.assign rfl) ?_
  refine X.opsEnd ?_
  refine X.block ?_
  -- LOOP live: 0=a, 1=b*, 5=p*, 6=bit*
  refine X.loopL (σ := Nat × R32 × R32) (fun s => [(0, .int .u32 (a.toNat : Int)), (1, .int .u32 (s.2.2.toNat : Int)), (5, .int .u32 (s.2.1.toNat : Int)), (6, .int .u32 ((bitP s.1).toNat : Int))]) (fun s w' => s.1 ≤ 32 ∧ s.2.1 ^^^ mulF a s.1 s.2.2 = mulF a 32 b ∧ Keep w w') (fun s => s.1) (32, 0#32, b) ⟨rfl, rfl, rfl, rfl, trivial⟩ ⟨by simp, by simp, (Keep.refl _)⟩ ?_
  rintro ⟨k, p, b1⟩ b0 wl ⟨hk0, hp0, hk⟩ hback
  dsimp only
  simp only at hk0 hp0
  refine X.seq ?_
  refine X.seq ?_
  refine X.region ?_
  refine X.opw X.wN rfl (X.move (v := .int .u32 _) rfl) ?_
  refine X.opP X.wN rfl rfl (X.neI rfl rfl) (fun h9 => ?_) (fun h9 => ?_)
  · obtain ⟨j, rfl⟩ := bitP_ne hk0 h9
    refine X.opsEnd ?_
    refine X.condT rfl ?_
    refine X.skip ?_
    refine X.seq ?_
    refine X.block ?_
    refine X.seq ?_
    refine X.seq ?_
    refine X.region ?_
    refine X.opw X.wN rfl (X.move (v := .int .u32 _) rfl) ?_
    refine X.opw X.wN rfl (X.move (v := .int .u32 _) rfl) ?_
    refine X.opw X.wN rfl (X.and_ rfl rfl (and32 _ _)) ?_
    refine X.opP X.wN rfl rfl (X.neI rfl rfl) (fun h15 => ?_) (fun h15 => ?_)
    · refine X.opsEnd ?_
      refine X.condT rfl ?_
      refine X.region ?_
      refine X.opw X.wN rfl (X.move (v := .int .u32 _) rfl) ?_
      refine X.opw X.wN rfl (X.move (v := .int .u32 _) rfl) ?_
      refine X.opw X.wN rfl (X.xor_ rfl rfl (xor32 _ _)) ?_
      refine X.opw X.wN rfl (X.assign (v := .int .u32 _) rfl) ?_
      refine X.opsEnd ?_
      refine X.seq ?_
      refine X.region ?_
      refine X.opw X.wN rfl (X.move (v := .int .u32 _) rfl) ?_
      refine X.opw X.wN rfl (X.and_ rfl rfl (and32 _ 1#32)) ?_
      refine X.opw X.wN rfl (X.eqI rfl rfl) ?_
      refine X.opw X.wN rfl (X.assign (v := .bool _) rfl) ?_
      refine X.opsEnd ?_
      refine X.seq ?_
      refine X.region ?_
      refine X.opw X.wN rfl (X.move (v := .int .u32 _) rfl) ?_
      refine X.opw X.wN rfl (X.shr rfl rfl (by decide) (shr32 _ 1 (by decide))) ?_
      refine X.opw X.wN rfl (X.assign (v := .int .u32 _) rfl) ?_
      refine X.opsEnd ?_
      refine X.seq ?_
      refine X.region ?_
      refine X.opw X.wN rfl (X.move (v := .bool _) rfl) ?_
      refine X.opsEnd ?_
      refine X.condB rfl (fun hc => ?_) (fun hc => ?_)
      · refine X.region ?_
        refine X.opw X.wN rfl (X.move (v := .int .u32 _) rfl) ?_
        refine X.opw X.wN rfl (X.xor_ rfl rfl (xor32 _ 3988292384#32)) ?_
        refine X.opw X.wN rfl (X.assign (v := .int .u32 _) rfl) ?_
        refine X.opsEnd ?_
        refine X.inBlock ?_
        refine X.region ?_
        refine X.opw X.wN rfl (X.move (v := .int .u32 _) rfl) ?_
        refine X.opw X.wN rfl (X.shr (c := ((bitP j).toNat : Int)) rfl rfl (by decide) (by rw [← bitP_shr j (by omega)]; exact shr32 _ 1 (by decide))) ?_
        refine X.opw X.wN rfl (X.assign (v := .int .u32 _) rfl) ?_
        refine X.opsEnd ?_
        refine hback (j, (p ^^^ b1), (b1 >>> 1 ^^^ 3988292384#32)) _ _ ⟨rfl, rfl, rfl, rfl, trivial⟩ ⟨by dsimp only; omega, tm_next true ((and_two (by omega)).1 h15) (st1_t (of_decide_eq_true hc)) rfl hp0, hk⟩ (by dsimp only; omega)
      · refine X.skip ?_
        refine X.inBlock ?_
        refine X.region ?_
        refine X.opw X.wN rfl (X.move (v := .int .u32 _) rfl) ?_
        refine X.opw X.wN rfl (X.shr (c := ((bitP j).toNat : Int)) rfl rfl (by decide) (by rw [← bitP_shr j (by omega)]; exact shr32 _ 1 (by decide))) ?_
        refine X.opw X.wN rfl (X.assign (v := .int .u32 _) rfl) ?_
        refine X.opsEnd ?_
        refine hback (j, (p ^^^ b1), (b1 >>> 1)) _ _ ⟨rfl, rfl, rfl, rfl, trivial⟩ ⟨by dsimp only; omega, tm_next true ((and_two (by omega)).1 h15) (st1_f (of_decide_eq_false hc)) rfl hp0, hk⟩ (by dsimp only; omega)
    · refine X.opsEnd ?_
      refine X.condF rfl ?_
      refine X.skip ?_
      refine X.seq ?_
      refine X.region ?_
      refine X.opw X.wN rfl (X.move (v := .int .u32 _) rfl) ?_
      refine X.opw X.wN rfl (X.and_ rfl rfl (and32 _ 1#32)) ?_
      refine X.opw X.wN rfl (X.eqI rfl rfl) ?_
      refine X.opw X.wN rfl (X.assign (v := .bool _) rfl) ?_
      refine X.opsEnd ?_
      refine X.seq ?_
      refine X.region ?_
      refine X.opw X.wN rfl (X.move (v := .int .u32 _) rfl) ?_
      refine X.opw X.wN rfl (X.shr rfl rfl (by decide) (shr32 _ 1 (by decide))) ?_
      refine X.opw X.wN rfl (X.assign (v := .int .u32 _) rfl) ?_
      refine X.opsEnd ?_
      refine X.seq ?_
      refine X.region ?_
      refine X.opw X.wN rfl (X.move (v := .bool _) rfl) ?_
      refine X.opsEnd ?_
      refine X.condB rfl (fun hc => ?_) (fun hc => ?_)
      · refine X.region ?_
        refine X.opw X.wN rfl (X.move (v := .int .u32 _) rfl) ?_
        refine X.opw X.wN rfl (X.xor_ rfl rfl (xor32 _ 3988292384#32)) ?_
        refine X.opw X.wN rfl (X.assign (v := .int .u32 _) rfl) ?_
        refine X.opsEnd ?_
        refine X.inBlock ?_
        refine X.region ?_
        refine X.opw X.wN rfl (X.move (v := .int .u32 _) rfl) ?_
        refine X.opw X.wN rfl (X.shr (c := ((bitP j).toNat : Int)) rfl rfl (by decide) (by rw [← bitP_shr j (by omega)]; exact shr32 _ 1 (by decide))) ?_
        refine X.opw X.wN rfl (X.assign (v := .int .u32 _) rfl) ?_
        refine X.opsEnd ?_
        refine hback (j, p, (b1 >>> 1 ^^^ 3988292384#32)) _ _ ⟨rfl, rfl, rfl, rfl, trivial⟩ ⟨by dsimp only; omega, tm_next false (by cases hg : a.getLsbD j; rfl; exact absurd ((and_two (by omega)).2 hg) h15) (st1_t (of_decide_eq_true hc)) (by simp [pickR]) hp0, hk⟩ (by dsimp only; omega)
      · refine X.skip ?_
        refine X.inBlock ?_
        refine X.region ?_
        refine X.opw X.wN rfl (X.move (v := .int .u32 _) rfl) ?_
        refine X.opw X.wN rfl (X.shr (c := ((bitP j).toNat : Int)) rfl rfl (by decide) (by rw [← bitP_shr j (by omega)]; exact shr32 _ 1 (by decide))) ?_
        refine X.opw X.wN rfl (X.assign (v := .int .u32 _) rfl) ?_
        refine X.opsEnd ?_
        refine hback (j, p, (b1 >>> 1)) _ _ ⟨rfl, rfl, rfl, rfl, trivial⟩ ⟨by dsimp only; omega, tm_next false (by cases hg : a.getLsbD j; rfl; exact absurd ((and_two (by omega)).2 hg) h15) (st1_f (of_decide_eq_false hc)) (by simp [pickR]) hp0, hk⟩ (by dsimp only; omega)
  · have hk9 := bitP_eq hk0 h9
    subst hk9
    rw [mulF, BitVec.xor_zero] at hp0
    refine X.opsEnd ?_
    refine X.condF rfl ?_
    refine X.exit rfl ?_
    refine X.seq ?_
    refine X.region ?_
    refine X.opw X.wN rfl (X.move (v := .int .u32 _) rfl) ?_
    refine X.opw X.wN rfl (X.assign (v := .int .u32 _) rfl) ?_
    refine X.opsEnd ?_
    refine X.ret1 (v := (.int .u32 _)) Tryd.func42 Tryd.results42 rfl ?_
    exact ⟨by rw [← hp0], hk⟩
-- f31 "pedigree/crc.Join" params [27, 27, 3] results [27, 24] -> [(ResultVar.tmp 6), (ResultVar.tmp 7)] nfree
set_option maxHeartbeats 4000000 in
set_option maxRecDepth 100000 in
theorem Join_c (x y : R32) (n : Nat) (w : World) (hn : n ≤ 1000000) : Ret Tryd.prog 31 #[.int .u32 (x.toNat : Int), .int .u32 (y.toNat : Int), .int .i64 (n : Int)] w fun v w' => v = .tuple #[.int .u32 ((stN (8 * n) x ^^^ y).toNat : Int), .int .i64 0] ∧ Keep w w' := by
  refine X.enter Tryd.func31 rfl Tryd.ntmps31 rfl ?_
  refine X.seq ?_
  refine X.region ?_
  refine X.opw X.wN rfl (X.assign rfl) ?_
  refine X.opw X.wN rfl (X.assign rfl) ?_
  refine X.opsEnd ?_
  refine X.seq ?_
  refine X.seq ?_
  refine X.region ?_
  refine X.opw X.wN rfl (X.move (v := .int .i64 _) rfl) ?_
  refine X.opP X.wN rfl rfl (X.lss rfl rfl) (fun h12 => ?_) (fun h12 => ?_)
  · omega
  · refine X.opsEnd ?_
    refine X.condF rfl ?_
    refine X.skip ?_
    refine X.seq ?_
    refine X.region ?_
    refine X.opw X.wN rfl (X.assign rfl) ?_
    refine X.opw X.wN rfl (X.assign rfl) ?_
    refine X.opsEnd ?_
    refine X.seq ?_
    refine X.seq ?_
    refine X.region ?_
    refine X.opw X.wN rfl (X.move (v := .int .i64 _) rfl) ?_
    refine X.opw X.wN rfl (X.assign (v := .int .i64 _) rfl) ?_
    refine X.opsEnd ?_
    refine X.block ?_
    -- LOOP live: 0=x, 1=y, 8=shift*, 9=by*, 10=k*
    refine X.loopL (σ := Nat × R32 × R32) (fun s => [(0, .int .u32 (x.toNat : Int)), (1, .int .u32 (y.toNat : Int)), (8, .int .u32 (s.2.1.toNat : Int)), (9, .int .u32 (s.2.2.toNat : Int)), (10, .int .i64 (s.1 : Int))]) (fun s w' => s.1 ≤ n ∧ (∃ p q, Moves s.2.1 p ∧ Moves s.2.2 q ∧ p + q * s.1 = 8 * n) ∧ Keep w w') (fun s => s.1) (n, e31, 8388608#32) ⟨rfl, rfl, rfl, rfl, rfl, trivial⟩ ⟨by simp, ⟨0, 8, moves_0, moves_8, by simp⟩, (Keep.refl _)⟩ ?_
    rintro ⟨k, s, m⟩ b0 wl ⟨hk0, ⟨p, q, hs, hm, hpq⟩, hk⟩ hback
    dsimp only
    simp only at hk0 hs hm hpq
    refine X.seq ?_
    refine X.seq ?_
    refine X.region ?_
    refine X.opw X.wN rfl (X.move (v := .int .i64 _) rfl) ?_
    refine X.opP X.wN rfl rfl (X.gtr rfl rfl) (fun h15 => ?_) (fun h15 => ?_)
    · refine X.opsEnd ?_
      refine X.condT rfl ?_
      refine X.skip ?_
      refine X.seq ?_
      refine X.block ?_
      refine X.seq ?_
      refine X.seq ?_
      refine X.region ?_
      refine X.opw X.wN rfl (X.move (v := .int .i64 _) rfl) ?_
      refine X.opw X.wN rfl (X.and_ (c := ((k % 2 : Nat) : Int)) rfl rfl (and1I k (by omega))) ?_
      refine X.opP X.wN rfl rfl (X.eqI rfl rfl) (fun h20 => ?_) (fun h20 => ?_)
      · refine X.opsEnd ?_
        refine X.condT rfl ?_
        refine X.region ?_
        refine X.opw X.wN rfl (X.move (v := .int .u32 _) rfl) ?_
        refine X.opw X.wN rfl (X.move (v := .int .u32 _) rfl) ?_
        refine X.opE X.wN rfl (X.callE (times_c _ _ _) Tryd.call42 rfl rfl) ?_
        rintro _ w1 ⟨rfl, hk1⟩
        have hk1' := hk1.size
        refine X.opw X.wN rfl (X.assign (v := .int .u32 _) rfl) ?_
        refine X.opsEnd ?_
        refine X.region ?_
        refine X.opw X.wN rfl (X.move (v := .int .u32 _) rfl) ?_
        refine X.opw X.wN rfl (X.move (v := .int .u32 _) rfl) ?_
        refine X.opE X.wN rfl (X.callE (times_c _ _ _) Tryd.call42 rfl rfl) ?_
        rintro _ w2 ⟨rfl, hk2⟩
        have hk2' := hk2.size
        refine X.opw X.wN rfl (X.assign (v := .int .u32 _) rfl) ?_
        refine X.opsEnd ?_
        refine X.inBlock ?_
        refine X.region ?_
        refine X.opw X.wN rfl (X.move (v := .int .i64 _) rfl) ?_
        refine X.opw X.wN rfl (X.shr (c := ((k / 2 : Nat) : Int)) rfl rfl (by decide) (shrI1 k)) ?_
        refine X.opw X.wN rfl (X.assign (v := .int .i64 _) rfl) ?_
        refine X.opsEnd ?_
        refine hback (k / 2, mulF s 32 m, mulF m 32 m) _ _ ⟨rfl, rfl, rfl, rfl, rfl, trivial⟩ ⟨by dsimp only; omega, ⟨p + q, q + q, hs.mul hm, hm.mul hm, jn_odd hpq (by omega)⟩, ((hk.trans hk1).trans hk2)⟩ (by dsimp only; omega)
      · refine X.opsEnd ?_
        refine X.condF rfl ?_
        refine X.skip ?_
        refine X.region ?_
        refine X.opw X.wN rfl (X.move (v := .int .u32 _) rfl) ?_
        refine X.opw X.wN rfl (X.move (v := .int .u32 _) rfl) ?_
        refine X.opE X.wN rfl (X.callE (times_c _ _ _) Tryd.call42 rfl rfl) ?_
        rintro _ w3 ⟨rfl, hk3⟩
        have hk3' := hk3.size
        refine X.opw X.wN rfl (X.assign (v := .int .u32 _) rfl) ?_
        refine X.opsEnd ?_
        refine X.inBlock ?_
        refine X.region ?_
        refine X.opw X.wN rfl (X.move (v := .int .i64 _) rfl) ?_
        refine X.opw X.wN rfl (X.shr (c := ((k / 2 : Nat) : Int)) rfl rfl (by decide) (shrI1 k)) ?_
        refine X.opw X.wN rfl (X.assign (v := .int .i64 _) rfl) ?_
        refine X.opsEnd ?_
        refine hback (k / 2, s, mulF m 32 m) _ _ ⟨rfl, rfl, rfl, rfl, rfl, trivial⟩ ⟨by dsimp only; omega, ⟨p, q + q, hs, hm.mul hm, jn_even hpq (by omega)⟩, (hk.trans hk3)⟩ (by dsimp only; omega)
    · refine X.opsEnd ?_
      refine X.condF rfl ?_
      refine X.exit rfl ?_
      refine X.seq ?_
      refine X.region ?_
      refine X.opw X.wN rfl (X.move (v := .int .u32 _) rfl) ?_
      refine X.opw X.wN rfl (X.move (v := .int .u32 _) rfl) ?_
      refine X.opE X.wN rfl (X.callE (times_c _ _ _) Tryd.call42 rfl rfl) ?_
      rintro _ w4 ⟨rfl, hk4⟩
      have hk4' := hk4.size
      refine X.opw X.wN rfl (X.move (v := .int .u32 _) rfl) ?_
      refine X.opw X.wN rfl (X.xor_ rfl rfl (xor32 _ _)) ?_
      refine X.opw X.wN rfl (X.assign (v := .int .u32 _) rfl) ?_
      refine X.opw X.wN rfl (X.assign rfl) ?_
      refine X.opsEnd ?_
      refine X.ret2 (v1 := (.int .u32 _)) (v2 := (.int .i64 _)) Tryd.func31 Tryd.results31 rfl rfl ?_
      have hk9 : k = 0 := by omega
      subst hk9
      rw [Nat.mul_zero, Nat.add_zero] at hpq
      subst hpq
      exact ⟨by rw [hs x], (hk.trans hk4)⟩
-- f9 "pedigree/pedigreelaw04.CrcJoined" params [22, 22] results [4] -> [(ResultVar.tmp 4)] nfree 0 ntmps 36 n
set_option maxHeartbeats 4000000 in
set_option maxRecDepth 100000 in
theorem CrcJoined_c (w : World) (hT : TabOk w) (A1 : Option Addr) (n1 c1 : Nat) (l1 : List UInt8) (hc1 : n1 ≤ c1) (s1 : Sl KB 0 w.heap.size w A1 n1 l1) (A2 : Option Addr) (n2 c2 : Nat) (l2 : List UInt8) (hc2 : n2 ≤ c2) (s2 : Sl KB 0 w.heap.size w A2 n2 l2) :
    Ret Tryd.prog 9 #[.slice A1 n1 c1, .slice A2 n2 c2] w fun r w' => r = .bool true ∧ Keep w w' := by
  refine X.enter Tryd.func9 rfl Tryd.ntmps9 rfl ?_
  refine X.seq ?_
  refine X.region ?_
  refine X.opw X.wN rfl (X.assign rfl) ?_
  refine X.opsEnd ?_
  refine X.seq ?_
  refine X.region ?_
  refine X.opw X.wN rfl (X.move (v := .slice _ _ _) rfl) ?_
  refine X.opE X.wN rfl (X.callE (cut_c _ s1 (by omega)) Tryd.call10 rfl rfl) ?_
  rintro _ w1 ⟨m1, rfl, hmc1, hmt1, hs1, hk1⟩
  have hk1' := hk1.size
  refine X.opw X.wN rfl (X.move (v := .slice _ _ _) rfl) ?_
  refine X.opE X.wN rfl (X.callE (cut_c _ (s2.keep hk1) (by omega)) Tryd.call10 rfl rfl) ?_
  rintro _ w2 ⟨m2, rfl, hmc2, hmt2, hs2, hk2⟩
  have hk2' := hk2.size
  refine X.opw X.wN rfl (X.assign (v := .slice _ _ _) rfl) ?_
  refine X.opw X.wN rfl (X.assign (v := .slice _ _ _) rfl) ?_
  refine X.opsEnd ?_
  refine X.seq ?_
  refine X.region ?_
  refine X.opw X.wN rfl (X.move (v := .slice _ _ _) rfl) ?_
  refine X.opE X.wN rfl (X.callE (RSum_c _ (hs1.keep hk2)) Tryd.call14 rfl rfl) ?_
  rintro _ w3 ⟨rfl, hk3⟩
  have hk3' := hk3.size
  refine X.opw X.wN rfl (X.move (v := .slice _ _ _) rfl) ?_
  refine X.opE X.wN rfl (X.callE (RSum_c _ (hs2.keep hk3)) Tryd.call14 rfl rfl) ?_
  rintro _ w4 ⟨rfl, hk4⟩
  have hk4' := hk4.size
  refine X.opw X.wN rfl (X.move (v := .slice _ _ _) rfl) ?_
  refine X.opw X.wN rfl (X.lenSl Tryd.underlying22 rfl) ?_
  refine X.opE X.wN rfl (X.callE (Join_c (sumC (l1.take 3000)) (sumC (l2.take 3000)) m2 _ (by omega)) Tryd.call31 rfl rfl) ?_
  rintro _ w5 ⟨rfl, hk5⟩
  have hk5' := hk5.size
  refine X.opw X.wN rfl (X.move rfl) ?_
  refine X.opw X.wN rfl (X.extr rfl rfl) ?_
  refine X.opw X.wN rfl (X.extr rfl rfl) ?_
  refine X.opw X.wN rfl (X.assign (v := .int .u32 _) rfl) ?_
  refine X.opw X.wN rfl (X.assign (v := .int .i64 _) rfl) ?_
  refine X.opsEnd ?_
  refine X.seq ?_
  refine X.region ?_
  refine X.opw X.wN rfl (X.move (v := .int .u32 _) rfl) ?_
  refine X.opE X.wN rfl (X.lit0E (K := KB) (S := fun k => w.heap.size ≤ k) Tryd.underlying22 Tryd.sizeOf5 (by intros; (try simp only [] at *); omega)) ?_
  rintro v6 w6 ⟨hM6, hk6, hz6⟩
  refine X.opw X.wN rfl (X.move (v := .slice _ _ _) rfl) ?_
  refine X.opE X.wN rfl (X.appE (K := KB) (S := fun k => w.heap.size ≤ k) KB_flat Tryd.underlying22 E8 rfl rfl hM6 (hs1.keep ((((hk2.trans hk3).trans hk4).trans hk5).trans hk6)) (by (try simp only [List.length_append, List.length_cons, List.length_nil, List.length_take, List.length_drop, List.length_map, List.length_range]); omega) (by intros; (try simp only [] at *); omega)) ?_
  rintro v7 w7 ⟨hM7, hx7⟩
  have hx7' := hx7.size
  refine X.opw X.wN rfl (X.move (v := .slice _ _ _) rfl) ?_
  refine X.opE X.wN rfl (X.appE (K := KB) (S := fun k => w.heap.size ≤ k) KB_flat Tryd.underlying22 E8 rfl rfl hM7 ((hs2.keep (((hk3.trans hk4).trans hk5).trans hk6)).ext hx7 (by intros; (try simp only []); omega)) (by (try simp only [List.length_append, List.length_cons, List.length_nil, List.length_take, List.length_drop, List.length_map, List.length_range]); omega) (by intros; (try simp only [] at *); omega)) ?_
  rintro v8 w8 ⟨hM8, hx8⟩
  have hx8' := hx8.size
  have q10 := hM8.slF KB_flat 0 (fun _ _ => Nat.zero_le _)
  obtain ⟨A10, c10, rfl, hc10, hs10⟩ := q10
  refine X.opE X.wN rfl (X.callE (RSum_c _ hs10) Tryd.call14 rfl rfl) ?_
  rintro _ w9 ⟨rfl, hk9⟩
  have hk9' := hk9.size
  refine X.opP X.wN rfl rfl (X.eqI rfl rfl) (fun h28 => ?_) (fun h28 => ?_)
  · refine X.opw X.wN rfl (X.move (v := .bool true) rfl) ?_
    refine X.opw (X.wG rfl rfl rfl) rfl (X.move (v := .int .i64 _) rfl) ?_
    refine X.opP (X.wG rfl rfl rfl) rfl rfl (X.eqI rfl rfl) (fun h31 => ?_) (fun h31 => ?_)
    · refine X.opw X.wN rfl (X.pickT (v := .bool true) rfl rfl) ?_
      refine X.opw X.wN rfl (X.move (v := .bool true) rfl) ?_
      refine X.opE (X.wG rfl rfl rfl) rfl (X.callE (awake_c _ (hT.keep ((((((((hk1.trans hk2).trans hk3).trans hk4).trans hk5).trans hk6).step hx7 (by intros; (try simp only [] at *); omega)).step hx8 (by intros; (try simp only [] at *); omega)).trans hk9))) Tryd.call17 rfl rfl) ?_
      rintro _ w11 ⟨rfl, hk11⟩
      have hk11' := hk11.size
      refine X.opw X.wN rfl (X.pickT (v := .bool _) rfl rfl) ?_
      refine X.opw X.wN rfl (X.assign (v := .bool _) rfl) ?_
      refine X.opsEnd ?_
      refine X.ret1 (v := (.bool _)) Tryd.func9 Tryd.results9 rfl ?_
      exact ⟨rfl, (((((((((hk1.trans hk2).trans hk3).trans hk4).trans hk5).trans hk6).step hx7 (by intros; (try simp only [] at *); omega)).step hx8 (by intros; (try simp only [] at *); omega)).trans hk9).trans hk11)⟩
    · exact absurd rfl h31
  · exact absurd (by rw [← join_sum, (hs2).len]; rfl) h28
end Go.Proofs.YtleaidgngkfjbaaDoor
