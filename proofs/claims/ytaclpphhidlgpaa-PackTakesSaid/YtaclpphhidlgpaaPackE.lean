/- Contracts of package pack and its reference: the keys of tuples. -/
import Derived.Test.YtaclpphhidlgpaaPackD
namespace Go.Proofs.Ytaclpphhidlgpaa
open Go Go.Proofs.Ytaclpphhidlgpaa.X
set_option linter.unusedVariables false
set_option linter.unusedSimpArgs false

/-- Byte k of the eight of a number, the first one first. -/
def keyAt (K k : Nat) : UInt8 := UInt8.ofNat (K / 256 ^ (7 - k))
def keyN (x : Int) : Nat := (x + 9223372036854775808).toNat
def escB (c : UInt8) : List UInt8 := if c = 0 then [0, 255] else [c]
def valK (v : VAL) : List UInt8 := if v.1 = 1 then 1 :: (List.range 8).map (keyAt (keyN v.2.1)) else 2 :: (v.2.2.data.toList.flatMap escB ++ [0, 1])
def keyB (l : List VAL) : List UInt8 := l.flatMap valK
theorem keyN_ok {x : Int} (h : okI x) : (keyN x : Int) = x + 9223372036854775808 ∧ keyN x < 18446744073709551616 := by
  unfold okI at h; unfold keyN; omega
theorem esc_len : ∀ l : List UInt8, (l.flatMap escB).length ≤ 2 * l.length := by
  intro l
  induction l with
  | nil => simp
  | cons c l ih =>
    have : (escB c).length ≤ 2 := by unfold escB; split <;> simp
    rw [List.flatMap_cons, List.length_append, List.length_cons]; omega
theorem valK_len {v : VAL} (hs : v.2.2.size ≤ 256) : (valK v).length ≤ 1000 := by
  unfold valK
  split
  · simp
  · have := esc_len v.2.2.data.toList
    rw [sym_len] at this
    simp only [List.length_cons, List.length_append, List.length_nil]; omega
theorem keyL_len {l : List VAL} (hT : isT l = true) : ∀ i, i ≤ l.length → ((l.take i).flatMap valK).length ≤ i * 1000 := by
  intro i
  induction i with
  | zero => intro _; simp
  | succ i ih =>
    intro h
    have hx : l[i]? = some l[i] := List.getElem?_eq_getElem (by omega)
    have h1 := ih (by omega)
    have h2 := valK_len (isV_size (isT_at hT hx))
    rw [flat_step valK hx, List.length_append]
    omega
theorem xor63 (n : Nat) (h : n < 18446744073709551616) : n ^^^ 9223372036854775808 = (n + 9223372036854775808) % 18446744073709551616 := by
  have h1 : (n ^^^ 9223372036854775808) / 2 ^ 63 = n / 2 ^ 63 ^^^ 9223372036854775808 / 2 ^ 63 := Nat.xor_div_two_pow
  have h2 : (n ^^^ 9223372036854775808) % 2 ^ 63 = n % 2 ^ 63 ^^^ 9223372036854775808 % 2 ^ 63 := Nat.xor_mod_two_pow
  rw [show (9223372036854775808 : Nat) / 2 ^ 63 = 1 by decide] at h1
  rw [show (9223372036854775808 : Nat) % 2 ^ 63 = 0 by decide, Nat.xor_zero] at h2
  rw [show (2 : Nat) ^ 63 = 9223372036854775808 by decide] at h1 h2
  have h3 : n / 9223372036854775808 = 0 ∨ n / 9223372036854775808 = 1 := by omega
  rcases h3 with h3 | h3
  · rw [h3, Nat.zero_xor] at h1; omega
  · rw [h3, Nat.xor_self] at h1; omega
theorem kxor (x : Int) (h : okI x) : IntKind.u64.wrap ((BitVec.ofInt IntKind.u64.bits (x % 18446744073709551616) ^^^ BitVec.ofInt IntKind.u64.bits 9223372036854775808).toNat : Int) = ((keyN x : Nat) : Int) := by
  rw [(keyN_ok h).1, u64_wrap]
  unfold okI at h
  show ((BitVec.ofInt 64 (x % 18446744073709551616) ^^^ 9223372036854775808#64).toNat : Int) % 18446744073709551616 = _
  rw [BitVec.toNat_xor, BitVec.toNat_ofInt, BitVec.toNat_ofNat, Nat.mod_eq_of_lt (a := 9223372036854775808) (by decide), xor63 _ (by omega)]
  omega
theorem shrK (K c : Nat) (hc : c ≤ 7) : ((K : Nat) : Int).fdiv (2 ^ (min (8 * (7 - (c : Int))).toNat IntKind.u64.bits)) = ((K / 256 ^ (7 - c) : Nat) : Int) := by
  have e : min (8 * (7 - (c : Int))).toNat IntKind.u64.bits = 8 * (7 - c) := by
    show min _ 64 = _
    omega
  rw [e, Int.fdiv_eq_ediv_of_nonneg _ (by exact Int.le_of_lt (Int.pow_pos (by decide)))]
  rw [show (256 : Nat) ^ (7 - c) = 2 ^ (8 * (7 - c)) by rw [Nat.pow_mul]]
  push_cast
  rfl
theorem keyAt_8 (K c : Nat) : IntKind.u8.wrap ((K / 256 ^ (7 - c) : Nat) : Int) = ((keyAt K c).toNat : Int) := by
  rw [u8_wrap, keyAt, UInt8.toNat_ofNat']; omega
/-- The reference's way: from the front. -/
def xK (K c : Nat) : Nat := K * 256 ^ c % 18446744073709551616
theorem kadd (x : Int) (h : okI x) : IntKind.u64.wrap (x % 18446744073709551616 + 9223372036854775808) = ((xK (keyN x) 0 : Nat) : Int) := by
  have := keyN_ok h
  rw [u64_wrap, xK, Nat.pow_zero, Nat.mul_one]
  unfold okI at h
  omega
theorem xK_quo (K c : Nat) : IntKind.u64.wrap (((xK K c : Nat) : Int).tdiv 72057594037927936) = ((xK K c / 72057594037927936 : Nat) : Int) := by
  have : xK K c < 18446744073709551616 := Nat.mod_lt _ (by decide)
  rw [u64_wrap]
  show ((xK K c / 72057594037927936 : Nat) : Int) % _ = _
  omega
theorem xK_8 (K c : Nat) (hK : K < 18446744073709551616) (hc : c ≤ 7) : IntKind.u8.wrap ((xK K c / 72057594037927936 : Nat) : Int) = ((keyAt K c).toNat : Int) := by
  rw [← keyAt_8, u8_wrap, u8_wrap, xK]
  rcases (by omega : c = 0 ∨ c = 1 ∨ c = 2 ∨ c = 3 ∨ c = 4 ∨ c = 5 ∨ c = 6 ∨ c = 7) with rfl | rfl | rfl | rfl | rfl | rfl | rfl | rfl <;> simp only [Nat.reducePow, Nat.reduceSub] <;> omega
theorem xK_mul (K c : Nat) : IntKind.u64.wrap (((xK K c : Nat) : Int) * 256) = ((xK K (c + 1) : Nat) : Int) := by
  rw [u64_wrap, xK, xK, Nat.pow_succ]
  generalize 256 ^ c = p
  rw [← Nat.mul_assoc]
  generalize K * p = q
  omega
theorem range_step (f : Nat → UInt8) (c : Nat) : (List.range (c + 1)).map f = (List.range c).map f ++ [f c] := by
  rw [List.range_succ, List.map_append]; rfl
theorem u8_0 {y : UInt8} (h : ((y.toNat : Nat) : Int) = 0) : y = 0 := UInt8.toNat_inj.1 (by simpa using h)
-- f11 "pedigree/pack.Key" params [23] results [25, 26] -> [(ResultVar.tmp 2), (ResultVar.tmp 3)] nfree 0 ntmp
theorem Key_c {lo hi : Nat} {A : Option Addr} {n c : Nat} {l : List VAL} (w : World) (hs : Sl KV lo hi w A n l) (hhi : hi ≤ w.heap.size) : Ret Try.prog 11 #[.slice A n c] w fun r w' => ∃ v, r = .tuple #[v, .int .i64 (if isT l then 0 else 20)] ∧ FreshB w w' v (if isT l then keyB l else []) := by
  have hn := hs.bound
  have hl := hs.len
  refine X.enter Try.func11 rfl Try.ntmps11 rfl ?_
  refine X.seq ?_
  refine X.region ?_
  refine X.opw X.wN rfl (X.assign rfl) ?_
  refine X.opw X.wN rfl (X.assign rfl) ?_
  refine X.opsEnd ?_
  refine X.seq ?_
  refine X.seq ?_
  refine X.region ?_
  refine X.opw X.wN rfl (X.move (v := .slice _ _ _) rfl) ?_
  refine X.opE X.wN rfl (X.callE (may_c _ hs) Try.call41 rfl rfl) ?_
  rintro _ w1 ⟨rfl, hk1⟩
  have hk1' := hk1.size
  refine X.opw X.wN rfl (X.not_ rfl) ?_
  refine X.opsEnd ?_
  refine X.condB rfl (fun hc => ?_) (fun hc => ?_)
  · refine X.seq ?_
    refine X.region ?_
    refine X.opw X.wN rfl (X.assign rfl) ?_
    refine X.opw X.wN rfl (X.assign rfl) ?_
    refine X.opsEnd ?_
    refine X.ret2 (v2 := (.int .i64 _)) Try.func11 Try.results11 rfl rfl ?_
    rw [if_neg (by simpa using hc), if_neg (by simpa using hc)]
    exact ⟨_, rfl, (Mine.nil _ _ _ _ _ _), hk1⟩
  · have hT : isT l = true := by simpa using hc
    refine X.skip ?_
    refine X.seq ?_
    refine X.region ?_
    refine X.opw X.wN rfl (X.assign rfl) ?_
    refine X.opsEnd ?_
    refine X.seq ?_
    refine X.seq ?_
    refine X.region ?_
    refine X.opw X.wN rfl (X.move (v := .slice _ _ _) rfl) ?_
    refine X.opw X.wN rfl (X.lenSl Try.underlying23 rfl) ?_
    refine X.opw X.wN rfl (X.move rfl) ?_
    refine X.opsEnd ?_
    refine X.block ?_
    -- LOOP live: 4=b*, 13, 14, 15*
    refine X.loopL (σ := Nat × Value) (fun s => [(4, s.2), (13, .slice A n c), (14, .int .i64 (n : Int)), (15, .int .i64 (s.1 : Int))]) (fun s w' => s.1 ≤ n ∧ Mine KB 5 (fun k => w.heap.size ≤ k) 0 0 w' s.2 ((l.take s.1).flatMap valK) ∧ Keep w w') (fun s => n - s.1) (0, _) ⟨rfl, rfl, rfl, rfl, trivial⟩ ⟨Nat.zero_le _, (Mine.nil _ _ _ _ _ _), hk1⟩ ?_
    rintro ⟨i, v⟩ b w1 ⟨hi0, hM, hk⟩ hback
    simp only at hi0 hM
    have hk' := hk.size
    have hlen := keyL_len hT i (by omega)
    have hn8 := isT_len hT
    refine X.seq ?_
    refine X.region ?_
    refine X.opP X.wN rfl rfl (X.lss rfl rfl) (fun h16 => ?_) (fun h16 => ?_)
    · obtain ⟨x, hx⟩ := getN i hl h16
      have hV := KV_ok hs i x hx
      have hN := hV.2.1
      have hsz := isV_size (isT_at hT hx)
      have hKN := keyN_ok hN
      have hsl := sym_len x.2.2
      refine X.opsEnd ?_
      refine X.seq ?_
      refine X.condT rfl ?_
      refine X.skip ?_
      refine X.seq ?_
      refine X.block ?_
      refine X.seq ?_
      refine X.region ?_
      refine X.opw X.wN rfl (X.idxS (hs.keep hk) Try.underlying23 Try.sizeOf75 rfl rfl ⟨by omega, by omega⟩) ?_
      refine X.opw X.wN rfl (X.loadSN Try.isAgg75 Try.sizeOf75 (hs.keep hk) hx rfl (fun _ h => h.1) rfl) ?_
      refine X.opE X.wN rfl (X.allocE Try.zeroValue75 rfl) ?_
      rintro _ w2 ⟨rfl, hB2, hk2, hz2⟩
      refine X.opE X.wN rfl (X.storeNE Try.sizeOf75 hB2 rfl rfl rfl rfl (encV_one _)) ?_
      rintro _ w3 ⟨hB3, hx3, hz3⟩
      refine X.opsEnd ?_
      refine X.seq ?_
      refine X.seq ?_
      refine X.region ?_
      refine X.opw X.wN rfl (X.fldB (j := 0) Try.underlying75 rfl rfl Try.sizeOf73 rfl) ?_
      refine X.opw X.wN rfl (X.load1B Try.isAgg73 hB3 rfl rfl) ?_
      refine X.opP X.wN rfl rfl (X.eqI rfl rfl) (fun h21 => ?_) (fun h21 => ?_)
      · have hM6 := Mine.mono (T := fun k => w.heap.size ≤ k ∧ k ≠ w1.heap.size) hM (fun k h1 h2 => ⟨h2, by omega⟩)
        replace hM6 := (hM6.keep (hk2.step hx3 (by intros; (try simp only [] at *); omega)))
        refine X.opsEnd ?_
        refine X.condT rfl ?_
        refine X.seq ?_
        refine X.region ?_
        refine X.opw X.wN rfl (X.move rfl) ?_
        refine X.opE X.wN rfl (X.lit1B (y := 1) Try.underlying25 Try.sizeOf5 Try.zeroValue5 rfl) ?_
        rintro _ w4 ⟨rfl, hs4, hB4, hk4, hz4⟩
        refine X.opE X.wN rfl (X.appE (K := KB) (S := fun k => w.heap.size ≤ k ∧ k ≠ w1.heap.size) KB_flat Try.underlying25 E5 rfl rfl (hM6.keep hk4) hs4 (by (try simp only [List.length_append, List.length_cons, List.length_nil, List.length_take, List.length_drop, List.length_map, List.length_range]); omega) (by intros; (try simp only [] at *); omega)) ?_
        rintro v5 w5 ⟨hM5, hx5⟩
        have hx5' := hx5.size
        refine X.opw X.wN rfl (X.assign rfl) ?_
        refine X.opsEnd ?_
        refine X.seq ?_
        refine X.seq ?_
        refine X.region ?_
        refine X.opw X.wN rfl (X.assign rfl) ?_
        refine X.opsEnd ?_
        refine X.block ?_
        -- LOOP live: 4=b*, 6=v, 7=i*, 13, 14, 15
        refine X.loopL (σ := Nat × Value) (fun s => [(4, s.2), (6, .pointer (some ⟨w1.heap.size, 0, none⟩)), (7, .int .i64 (7 - (s.1 : Int))), (13, .slice A n c), (14, .int .i64 (n : Int)), (15, .int .i64 (i : Int))]) (fun s w' => s.1 ≤ 8 ∧ Mine KB 5 (fun k => w.heap.size ≤ k ∧ k ≠ w1.heap.size) 0 0 w' s.2 ((l.take i).flatMap valK ++ [1] ++ (List.range s.1).map (keyAt (keyN x.2.1))) ∧ Blk w' w1.heap.size (encV x) 75 ∧ Keep w w') (fun s => 8 - s.1) (0, _) ⟨rfl, rfl, rfl, rfl, rfl, rfl, trivial⟩ ⟨by simp only []; omega, by simpa using hM5, ((hB3.keep hk4).ext hx5 (by intros; (try simp only []); omega)), ((((hk.trans hk2).step hx3 (by intros; (try simp only [] at *); omega)).trans hk4).step hx5 (by intros; (try simp only [] at *); omega))⟩ ?_
        rintro ⟨q, v2⟩ b2 w' ⟨hq, hM2, hB2, hk2⟩ hback2
        simp only at hq hM2 hB2
        have hk2' := hk2.size
        have hB2' := hB2.lt
        refine X.seq ?_
        refine X.seq ?_
        refine X.region ?_
        refine X.opw X.wN rfl (X.move (v := .int .i64 _) rfl) ?_
        refine X.opP X.wN rfl rfl (X.geq rfl rfl) (fun h26 => ?_) (fun h26 => ?_)
        · refine X.opsEnd ?_
          refine X.condT rfl ?_
          refine X.skip ?_
          refine X.seq ?_
          refine X.block ?_
          refine X.region ?_
          refine X.opw X.wN rfl (X.move rfl) ?_
          refine X.opw X.wN rfl (X.fldB (j := 1) Try.underlying75 rfl rfl Try.sizeOf2 rfl) ?_
          refine X.opw X.wN rfl (X.load1B Try.isAgg2 hB2 rfl rfl) ?_
          refine X.opw X.wN rfl (X.cvI Try.underlying2 Try.underlying33 rfl (X.u64_wrap _)) ?_
          refine X.opw X.wN rfl (X.xor_ rfl rfl (kxor x.2.1 hN)) ?_
          refine X.opw X.wN rfl (X.move (v := .int .i64 _) rfl) ?_
          refine X.opw X.wN rfl (X.mul rfl rfl (X.w_i64 (by omega))) ?_
          refine X.opw X.wN rfl (X.cvI Try.underlying3 Try.underlying76 rfl (X.w_u64 (by omega))) ?_
          refine X.opw X.wN rfl (X.shr rfl rfl (by omega) (shrK _ q (by omega))) ?_
          refine X.opw X.wN rfl (X.cvI Try.underlying33 Try.underlying5 rfl (keyAt_8 _ q)) ?_
          refine X.opE X.wN rfl (X.lit1B Try.underlying25 Try.sizeOf5 Try.zeroValue5 rfl) ?_
          rintro _ w6 ⟨rfl, hs6, hB6, hk6, hz6⟩
          refine X.opE X.wN rfl (X.appE (K := KB) (S := fun k => w.heap.size ≤ k ∧ k ≠ w1.heap.size) KB_flat Try.underlying25 E5 rfl rfl (hM2.keep hk6) hs6 (by (try simp only [List.length_append, List.length_cons, List.length_nil, List.length_take, List.length_drop, List.length_map, List.length_range]); omega) (by intros; (try simp only [] at *); omega)) ?_
          rintro v7 w7 ⟨hM7, hx7⟩
          have hx7' := hx7.size
          refine X.opw X.wN rfl (X.assign rfl) ?_
          refine X.opsEnd ?_
          refine X.inBlock ?_
          refine X.region ?_
          refine X.opw X.wN rfl (X.move (v := .int .i64 _) rfl) ?_
          refine X.opw X.wN rfl (X.sub (c := 7 - ((q + 1 : Nat) : Int)) rfl rfl (by rw [X.w_i64 (by omega)]; omega)) ?_
          refine X.opw X.wN rfl (X.assign (v := .int .i64 _) rfl) ?_
          refine X.opsEnd ?_
          refine hback2 (q + 1, _) _ _ ⟨rfl, rfl, rfl, rfl, rfl, rfl, trivial⟩ ⟨by simp only []; omega, ?_, ((hB2.keep hk6).ext hx7 (by intros; (try simp only []); omega)), ((hk2.trans hk6).step hx7 (by intros; (try simp only [] at *); omega))⟩ (by simp only []; omega)
          have e := hM7
          simp only []
          rw [range_step, ← List.append_assoc]
          exact e
        · refine X.opsEnd ?_
          refine X.condF rfl ?_
          refine X.exit rfl ?_
          refine X.exit rfl ?_
          refine X.region ?_
          refine X.opw X.wN rfl (X.add rfl rfl (X.w_i64 (by omega))) ?_
          refine X.opw X.wN rfl (X.move (v := .int .i64 _) rfl) ?_
          refine X.opsEnd ?_
          refine hback (i + 1, _) _ _ ⟨rfl, rfl, rfl, rfl, trivial⟩ ⟨by simp only []; omega, ?_, hk2⟩ (by simp only []; omega)
          have e := hM2.mono (T := fun k => w.heap.size ≤ k) (fun k _ h => by (try simp only [] at *); omega)
          simp only []
          rw [flat_step valK hx, valK, if_pos h21]
          rw [show q = 8 by omega] at e
          simpa only [List.append_assoc, List.singleton_append] using e
      · have hM6 := Mine.mono (T := fun k => w.heap.size ≤ k ∧ k ≠ w1.heap.size) hM (fun k h1 h2 => ⟨h2, by omega⟩)
        replace hM6 := (hM6.keep (hk2.step hx3 (by intros; (try simp only [] at *); omega)))
        refine X.opsEnd ?_
        refine X.condF rfl ?_
        refine X.skip ?_
        refine X.seq ?_
        refine X.region ?_
        refine X.opw X.wN rfl (X.move rfl) ?_
        refine X.opE X.wN rfl (X.lit1B (y := 2) Try.underlying25 Try.sizeOf5 Try.zeroValue5 rfl) ?_
        rintro _ w8 ⟨rfl, hs8, hB8, hk8, hz8⟩
        refine X.opE X.wN rfl (X.appE (K := KB) (S := fun k => w.heap.size ≤ k ∧ k ≠ w1.heap.size) KB_flat Try.underlying25 E5 rfl rfl (hM6.keep hk8) hs8 (by (try simp only [List.length_append, List.length_cons, List.length_nil, List.length_take, List.length_drop, List.length_map, List.length_range]); omega) (by intros; (try simp only [] at *); omega)) ?_
        rintro v9 w9 ⟨hM9, hx9⟩
        have hx9' := hx9.size
        refine X.opw X.wN rfl (X.assign rfl) ?_
        refine X.opsEnd ?_
        refine X.seq ?_
        refine X.seq ?_
        refine X.region ?_
        refine X.opw X.wN rfl (X.fldB (j := 2) Try.underlying75 rfl rfl Try.sizeOf9 rfl) ?_
        refine X.opw X.wN rfl (X.load1B Try.isAgg9 ((hB3.keep hk8).ext hx9 (by intros; (try simp only []); omega)) rfl rfl) ?_
        refine X.opE X.wN rfl (X.bytesE (K := KB) Try.underlying9 Try.underlying25 Try.underlying5 rfl (by omega) rfl KB_R) ?_
        rintro _ w10 ⟨c10, rfl, hc10, hs10, hk10, hz10⟩
        refine X.opw X.wN rfl (X.lenSl Try.underlying25 rfl) ?_
        refine X.opw X.wN rfl (X.move rfl) ?_
        refine X.opsEnd ?_
        refine X.block ?_
        -- LOOP live: 4=b*, 13, 14, 15, 46, 47, 48*
        have hM7 := Mine.mono (T := fun k => w.heap.size ≤ k ∧ k ≠ w1.heap.size ∧ k ≠ w9.heap.size) hM9 (fun k h1 h2 => by (try simp only [] at *); omega)
        refine X.loopL (σ := Nat × Value) (fun s => [(4, s.2), (13, .slice A n c), (14, .int .i64 (n : Int)), (15, .int .i64 (i : Int)), (46, .slice (some ⟨w9.heap.size, 0, none⟩) x.2.2.size c10), (47, .int .i64 (x.2.2.size : Int)), (48, .int .i64 (s.1 : Int))]) (fun s w' => s.1 ≤ x.2.2.size ∧ Mine KB 5 (fun k => w.heap.size ≤ k ∧ k ≠ w1.heap.size ∧ k ≠ w9.heap.size) 0 0 w' s.2 ((l.take i).flatMap valK ++ [2] ++ (x.2.2.data.toList.take s.1).flatMap escB) ∧ Sl KB w9.heap.size (w9.heap.size + 1) w' (some ⟨w9.heap.size, 0, none⟩) x.2.2.size x.2.2.data.toList ∧ w9.heap.size < w'.heap.size ∧ w1.heap.size < w'.heap.size ∧ Keep w w') (fun s => x.2.2.size - s.1) (0, _) ⟨rfl, rfl, rfl, rfl, rfl, rfl, rfl, trivial⟩ ⟨by simp only []; omega, by simpa using (hM7.keep hk10), hs10, by omega, by omega, (((((hk.trans hk2).step hx3 (by intros; (try simp only [] at *); omega)).trans hk8).step hx9 (by intros; (try simp only [] at *); omega)).trans hk10)⟩ ?_
        rintro ⟨j, v3⟩ b3 w' ⟨hj, hM3, hs3, hb3, hb4, hk3⟩ hback3
        simp only at hj hM3 hs3
        have hk3' := hk3.size
        have hel := esc_len (x.2.2.data.toList.take j)
        rw [List.length_take] at hel
        refine X.seq ?_
        refine X.region ?_
        refine X.opP X.wN rfl rfl (X.lss rfl rfl) (fun h49 => ?_) (fun h49 => ?_)
        · obtain ⟨y, hy⟩ := getN j hsl h49
          refine X.opsEnd ?_
          refine X.seq ?_
          refine X.condT rfl ?_
          refine X.skip ?_
          refine X.seq ?_
          refine X.block ?_
          refine X.seq ?_
          refine X.region ?_
          refine X.opw X.wN rfl (X.idxS hs3 Try.underlying25 Try.sizeOf5 rfl rfl ⟨by omega, by omega⟩) ?_
          refine X.opw X.wN rfl (X.loadS Try.isAgg5 hs3 hy rfl (fun _ h => by rw [h.1]; rfl)) ?_
          refine X.opw X.wN rfl (X.assign (v := .int .u8 _) rfl) ?_
          refine X.opsEnd ?_
          refine X.seq ?_
          refine X.region ?_
          refine X.opw X.wN rfl (X.move rfl) ?_
          refine X.opw X.wN rfl (X.move (v := .int .u8 _) rfl) ?_
          refine X.opE X.wN rfl (X.lit1B Try.underlying25 Try.sizeOf5 Try.zeroValue5 rfl) ?_
          rintro _ w11 ⟨rfl, hs11, hB11, hk11, hz11⟩
          refine X.opE X.wN rfl (X.appE (K := KB) (S := fun k => w.heap.size ≤ k ∧ k ≠ w1.heap.size ∧ k ≠ w9.heap.size) KB_flat Try.underlying25 E5 rfl rfl (hM3.keep hk11) hs11 (by (try simp only [List.length_append, List.length_cons, List.length_nil, List.length_take, List.length_drop, List.length_map, List.length_range]); omega) (by intros; (try simp only [] at *); omega)) ?_
          rintro v12 w12 ⟨hM12, hx12⟩
          have hx12' := hx12.size
          refine X.opw X.wN rfl (X.assign rfl) ?_
          refine X.opsEnd ?_
          refine X.seq ?_
          refine X.region ?_
          refine X.opw X.wN rfl (X.move (v := .int .u8 _) rfl) ?_
          refine X.opP X.wN rfl rfl (X.eqI rfl rfl) (fun h57 => ?_) (fun h57 => ?_)
          · refine X.opsEnd ?_
            refine X.condT rfl ?_
            refine X.region ?_
            refine X.opw X.wN rfl (X.move rfl) ?_
            refine X.opE X.wN rfl (X.lit1B (y := 255) Try.underlying25 Try.sizeOf5 Try.zeroValue5 rfl) ?_
            rintro _ w13 ⟨rfl, hs13, hB13, hk13, hz13⟩
            refine X.opE X.wN rfl (X.appE (K := KB) (S := fun k => w.heap.size ≤ k ∧ k ≠ w1.heap.size ∧ k ≠ w9.heap.size) KB_flat Try.underlying25 E5 rfl rfl (hM12.keep hk13) hs13 (by (try simp only [List.length_append, List.length_cons, List.length_nil, List.length_take, List.length_drop, List.length_map, List.length_range]); omega) (by intros; (try simp only [] at *); omega)) ?_
            rintro v14 w14 ⟨hM14, hx14⟩
            have hx14' := hx14.size
            refine X.opw X.wN rfl (X.assign rfl) ?_
            refine X.opsEnd ?_
            refine X.inBlock ?_
            refine X.region ?_
            refine X.opw X.wN rfl (X.add rfl rfl (X.w_i64 (by omega))) ?_
            refine X.opw X.wN rfl (X.move (v := .int .i64 _) rfl) ?_
            refine X.opsEnd ?_
            refine hback3 (j + 1, _) _ _ ⟨rfl, rfl, rfl, rfl, rfl, rfl, rfl, trivial⟩ ⟨by simp only []; omega, ?_, ((((hs3.keep hk11).ext hx12 (by intros; (try simp only []); omega)).keep hk13).ext hx14 (by intros; (try simp only []); omega)), by omega, by omega, ((((hk3.trans hk11).step hx12 (by intros; (try simp only [] at *); omega)).trans hk13).step hx14 (by intros; (try simp only [] at *); omega))⟩ (by simp only []; omega)
            have e := hM14
            simp only []
            rw [flat_step escB hy, ← List.append_assoc, escB, if_pos (u8_0 h57)]
            rw [u8_0 h57] at e
            simpa only [List.append_assoc, List.singleton_append] using e
          · refine X.opsEnd ?_
            refine X.condF rfl ?_
            refine X.skip ?_
            refine X.inBlock ?_
            refine X.region ?_
            refine X.opw X.wN rfl (X.add rfl rfl (X.w_i64 (by omega))) ?_
            refine X.opw X.wN rfl (X.move (v := .int .i64 _) rfl) ?_
            refine X.opsEnd ?_
            refine hback3 (j + 1, _) _ _ ⟨rfl, rfl, rfl, rfl, rfl, rfl, rfl, trivial⟩ ⟨by simp only []; omega, ?_, ((hs3.keep hk11).ext hx12 (by intros; (try simp only []); omega)), by omega, by omega, ((hk3.trans hk11).step hx12 (by intros; (try simp only [] at *); omega))⟩ (by simp only []; omega)
            have e := hM12
            simp only []
            rw [flat_step escB hy, ← List.append_assoc, escB, if_neg (fun e => h57 (by rw [e]; rfl))]
            exact e
        · refine X.opsEnd ?_
          refine X.seq ?_
          refine X.condF rfl ?_
          refine X.exit rfl ?_
          refine X.region ?_
          refine X.opw X.wN rfl (X.move rfl) ?_
          refine X.opE X.wN rfl (X.lit2B (x := 0) (y := 1) Try.underlying25 Try.sizeOf5 Try.zeroValue5 ⟨rfl, rfl⟩ ⟨rfl, rfl⟩) ?_
          rintro _ w15 ⟨rfl, hs15, hB15, hk15, hz15⟩
          refine X.opE X.wN rfl (X.appE (K := KB) (S := fun k => w.heap.size ≤ k ∧ k ≠ w1.heap.size ∧ k ≠ w9.heap.size) KB_flat Try.underlying25 E5 rfl rfl (hM3.keep hk15) hs15 (by (try simp only [List.length_append, List.length_cons, List.length_nil, List.length_take, List.length_drop, List.length_map, List.length_range]); omega) (by intros; (try simp only [] at *); omega)) ?_
          rintro v16 w16 ⟨hM16, hx16⟩
          have hx16' := hx16.size
          refine X.opw X.wN rfl (X.assign rfl) ?_
          refine X.opsEnd ?_
          refine X.inBlock ?_
          refine X.region ?_
          refine X.opw X.wN rfl (X.add rfl rfl (X.w_i64 (by omega))) ?_
          refine X.opw X.wN rfl (X.move (v := .int .i64 _) rfl) ?_
          refine X.opsEnd ?_
          refine hback (i + 1, _) _ _ ⟨rfl, rfl, rfl, rfl, trivial⟩ ⟨by simp only []; omega, ?_, ((hk3.trans hk15).step hx16 (by intros; (try simp only [] at *); omega))⟩ (by simp only []; omega)
          have e := hM16.mono (T := fun k => w.heap.size ≤ k) (fun k _ h => by (try simp only [] at *); omega)
          simp only []
          rw [flat_step valK hx, valK, if_neg h21]
          rw [show j = x.2.2.data.toList.length by omega, List.take_length] at e
          simpa only [List.append_assoc, List.singleton_append, List.cons_append, List.nil_append] using e
    · refine X.opsEnd ?_
      refine X.seq ?_
      refine X.condF rfl ?_
      refine X.exit rfl ?_
      refine X.seq ?_
      refine X.region ?_
      refine X.opw X.wN rfl (X.move rfl) ?_
      refine X.opw X.wN rfl (X.assign rfl) ?_
      refine X.opw X.wN rfl (X.assign rfl) ?_
      refine X.opsEnd ?_
      refine X.ret2 (v2 := (.int .i64 _)) Try.func11 Try.results11 rfl rfl ?_
      have e := hM
      rw [show i = l.length by omega, List.take_length] at e
      refine ⟨_, by rw [if_pos hT], ?_, hk⟩
      rw [if_pos hT]
      exact e
-- f24 "pedigree/pedigreeref03.Key" params [23] results [25, 3] -> [(ResultVar.tmp 2), (ResultVar.tmp 3)] nfre
theorem RKey_c {lo hi : Nat} {A : Option Addr} {n c : Nat} {l : List VAL} (w : World) (hs : Sl KV lo hi w A n l) (hhi : hi ≤ w.heap.size) : Ret Try.prog 24 #[.slice A n c] w fun r w' => ∃ v, r = .tuple #[v, .int .i64 (if isT l then 0 else 20)] ∧ FreshB w w' v (if isT l then keyB l else []) := by
  have hn := hs.bound
  have hl := hs.len
  refine X.enter Try.func24 rfl Try.ntmps24 rfl ?_
  refine X.seq ?_
  refine X.region ?_
  refine X.opw X.wN rfl (X.assign rfl) ?_
  refine X.opw X.wN rfl (X.assign rfl) ?_
  refine X.opsEnd ?_
  refine X.seq ?_
  refine X.seq ?_
  refine X.region ?_
  refine X.opw X.wN rfl (X.move (v := .slice _ _ _) rfl) ?_
  refine X.opE X.wN rfl (X.callE (R03Is_c _ hs) Try.call12 rfl rfl) ?_
  rintro _ w1 ⟨rfl, hk1⟩
  have hk1' := hk1.size
  refine X.opw X.wN rfl (X.not_ rfl) ?_
  refine X.opsEnd ?_
  refine X.condB rfl (fun hc => ?_) (fun hc => ?_)
  · refine X.seq ?_
    refine X.region ?_
    refine X.opw X.wN rfl (X.assign rfl) ?_
    refine X.opw X.wN rfl (X.assign rfl) ?_
    refine X.opsEnd ?_
    refine X.ret2 (v2 := (.int .i64 _)) Try.func24 Try.results24 rfl rfl ?_
    rw [if_neg (by simpa using hc), if_neg (by simpa using hc)]
    exact ⟨_, rfl, (Mine.nil _ _ _ _ _ _), hk1⟩
  · have hT : isT l = true := by simpa using hc
    refine X.skip ?_
    refine X.seq ?_
    refine X.region ?_
    refine X.opw X.wN rfl (X.assign rfl) ?_
    refine X.opsEnd ?_
    refine X.seq ?_
    refine X.seq ?_
    refine X.region ?_
    refine X.opw X.wN rfl (X.assign rfl) ?_
    refine X.opsEnd ?_
    refine X.block ?_
    -- LOOP live: 0=t, 4=b*, 5=i*
    refine X.loopL (σ := Nat × Value) (fun s => [(0, .slice A n c), (4, s.2), (5, .int .i64 (s.1 : Int))]) (fun s w' => s.1 ≤ n ∧ Mine KB 5 (fun k => w.heap.size ≤ k) 0 0 w' s.2 ((l.take s.1).flatMap valK) ∧ Keep w w') (fun s => n - s.1) (0, _) ⟨rfl, rfl, rfl, trivial⟩ ⟨Nat.zero_le _, (Mine.nil _ _ _ _ _ _), hk1⟩ ?_
    rintro ⟨i, v⟩ b w1 ⟨hi0, hM, hk⟩ hback
    simp only at hi0 hM
    have hk' := hk.size
    have hlen := keyL_len hT i (by omega)
    have hn8 := isT_len hT
    refine X.seq ?_
    refine X.seq ?_
    refine X.region ?_
    refine X.opw X.wN rfl (X.move (v := .int .i64 _) rfl) ?_
    refine X.opw X.wN rfl (X.move (v := .slice _ _ _) rfl) ?_
    refine X.opw X.wN rfl (X.lenSl Try.underlying23 rfl) ?_
    refine X.opP X.wN rfl rfl (X.lss rfl rfl) (fun h15 => ?_) (fun h15 => ?_)
    · obtain ⟨x, hx⟩ := getN i hl h15
      have hV := KV_ok hs i x hx
      have hN := hV.2.1
      have hsz := isV_size (isT_at hT hx)
      have hKN := keyN_ok hN
      have hsl := sym_len x.2.2
      refine X.opsEnd ?_
      refine X.condT rfl ?_
      refine X.skip ?_
      refine X.seq ?_
      refine X.block ?_
      refine X.seq ?_
      refine X.seq ?_
      refine X.region ?_
      refine X.opw X.wN rfl (X.move (v := .slice _ _ _) rfl) ?_
      refine X.opw X.wN rfl (X.move (v := .int .i64 _) rfl) ?_
      refine X.opw X.wN rfl (X.idxS (hs.keep hk) Try.underlying23 Try.sizeOf75 rfl rfl ⟨by omega, by omega⟩) ?_
      refine X.opw X.wN rfl (X.fldA Try.underlying75 rfl rfl Try.sizeOf73) ?_
      refine X.opw X.wN rfl (X.loadSf Try.isAgg73 (hs.keep hk) hx rfl (fun _ h => by rw [h.1]; rfl)) ?_
      refine X.opP X.wN rfl rfl (X.eqI rfl rfl) (fun h23 => ?_) (fun h23 => ?_)
      · refine X.opsEnd ?_
        refine X.condT rfl ?_
        refine X.seq ?_
        refine X.region ?_
        refine X.opw X.wN rfl (X.move rfl) ?_
        refine X.opE X.wN rfl (X.lit1B (y := 1) Try.underlying25 Try.sizeOf5 Try.zeroValue5 rfl) ?_
        rintro _ w2 ⟨rfl, hs2, hB2, hk2, hz2⟩
        refine X.opE X.wN rfl (X.appE (K := KB) (S := fun k => w.heap.size ≤ k) KB_flat Try.underlying25 E5 rfl rfl (hM.keep hk2) hs2 (by (try simp only [List.length_append, List.length_cons, List.length_nil, List.length_take, List.length_drop, List.length_map, List.length_range]); omega) (by intros; (try simp only [] at *); omega)) ?_
        rintro v3 w3 ⟨hM3, hx3⟩
        have hx3' := hx3.size
        refine X.opw X.wN rfl (X.assign rfl) ?_
        refine X.opsEnd ?_
        refine X.seq ?_
        refine X.region ?_
        refine X.opw X.wN rfl (X.move (v := .slice _ _ _) rfl) ?_
        refine X.opw X.wN rfl (X.move (v := .int .i64 _) rfl) ?_
        refine X.opw X.wN rfl (X.idxS (hs.keep ((hk.trans hk2).step hx3 (by intros; (try simp only [] at *); omega))) Try.underlying23 Try.sizeOf75 rfl rfl ⟨by omega, by omega⟩) ?_
        refine X.opw X.wN rfl (X.fldA Try.underlying75 rfl rfl Try.sizeOf2) ?_
        refine X.opw X.wN rfl (X.loadSf Try.isAgg2 (hs.keep ((hk.trans hk2).step hx3 (by intros; (try simp only [] at *); omega))) hx rfl (fun _ h => by rw [h.1]; rfl)) ?_
        refine X.opw X.wN rfl (X.cvI Try.underlying2 Try.underlying33 rfl (X.u64_wrap _)) ?_
        refine X.opw X.wN rfl (X.add rfl rfl (kadd x.2.1 hN)) ?_
        refine X.opw X.wN rfl (X.assign (v := .int .u64 _) rfl) ?_
        refine X.opsEnd ?_
        refine X.seq ?_
        refine X.seq ?_
        refine X.region ?_
        refine X.opw X.wN rfl (X.assign rfl) ?_
        refine X.opsEnd ?_
        refine X.block ?_
        -- LOOP live: 0=t, 4=b*, 5=i, 6=x*, 7=k*
        refine X.loopL (σ := Nat × Value) (fun s => [(0, .slice A n c), (4, s.2), (5, .int .i64 (i : Int)), (6, .int .u64 ((xK (keyN x.2.1) s.1 : Nat) : Int)), (7, .int .i64 (s.1 : Int))]) (fun s w' => s.1 ≤ 8 ∧ Mine KB 5 (fun k => w.heap.size ≤ k) 0 0 w' s.2 ((l.take i).flatMap valK ++ [1] ++ (List.range s.1).map (keyAt (keyN x.2.1))) ∧ Keep w w') (fun s => 8 - s.1) (0, _) ⟨rfl, rfl, rfl, rfl, rfl, trivial⟩ ⟨by simp only []; omega, by simpa using hM3, ((hk.trans hk2).step hx3 (by intros; (try simp only [] at *); omega))⟩ ?_
        rintro ⟨q, v2⟩ b2 w' ⟨hq, hM2, hk2⟩ hback2
        simp only at hq hM2
        have hk2' := hk2.size
        refine X.seq ?_
        refine X.seq ?_
        refine X.region ?_
        refine X.opw X.wN rfl (X.move (v := .int .i64 _) rfl) ?_
        refine X.opP X.wN rfl rfl (X.lss rfl rfl) (fun h35 => ?_) (fun h35 => ?_)
        · refine X.opsEnd ?_
          refine X.condT rfl ?_
          refine X.skip ?_
          refine X.seq ?_
          refine X.block ?_
          refine X.seq ?_
          refine X.region ?_
          refine X.opw X.wN rfl (X.move rfl) ?_
          refine X.opw X.wN rfl (X.move (v := .int .u64 _) rfl) ?_
          refine X.opw X.wN rfl (X.quo rfl rfl (by decide) (xK_quo _ q)) ?_
          refine X.opw X.wN rfl (X.cvI Try.underlying33 Try.underlying5 rfl (xK_8 _ q hKN.2 (by omega))) ?_
          refine X.opE X.wN rfl (X.lit1B Try.underlying25 Try.sizeOf5 Try.zeroValue5 rfl) ?_
          rintro _ w4 ⟨rfl, hs4, hB4, hk4, hz4⟩
          refine X.opE X.wN rfl (X.appE (K := KB) (S := fun k => w.heap.size ≤ k) KB_flat Try.underlying25 E5 rfl rfl (hM2.keep hk4) hs4 (by (try simp only [List.length_append, List.length_cons, List.length_nil, List.length_take, List.length_drop, List.length_map, List.length_range]); omega) (by intros; (try simp only [] at *); omega)) ?_
          rintro v5 w5 ⟨hM5, hx5⟩
          have hx5' := hx5.size
          refine X.opw X.wN rfl (X.assign rfl) ?_
          refine X.opsEnd ?_
          refine X.region ?_
          refine X.opw X.wN rfl (X.move (v := .int .u64 _) rfl) ?_
          refine X.opw X.wN rfl (X.mul rfl rfl (xK_mul _ q)) ?_
          refine X.opw X.wN rfl (X.assign (v := .int .u64 _) rfl) ?_
          refine X.opsEnd ?_
          refine X.inBlock ?_
          refine X.region ?_
          refine X.opw X.wN rfl (X.move (v := .int .i64 _) rfl) ?_
          refine X.opw X.wN rfl (X.add rfl rfl (X.w_i64 (by omega))) ?_
          refine X.opw X.wN rfl (X.assign (v := .int .i64 _) rfl) ?_
          refine X.opsEnd ?_
          refine hback2 (q + 1, _) _ _ ⟨rfl, rfl, rfl, rfl, rfl, trivial⟩ ⟨by simp only []; omega, ?_, ((hk2.trans hk4).step hx5 (by intros; (try simp only [] at *); omega))⟩ (by simp only []; omega)
          have e := hM5
          simp only []
          rw [range_step, ← List.append_assoc]
          exact e
        · refine X.opsEnd ?_
          refine X.condF rfl ?_
          refine X.exit rfl ?_
          refine X.exit rfl ?_
          refine X.region ?_
          refine X.opw X.wN rfl (X.move (v := .int .i64 _) rfl) ?_
          refine X.opw X.wN rfl (X.add rfl rfl (X.w_i64 (by omega))) ?_
          refine X.opw X.wN rfl (X.assign (v := .int .i64 _) rfl) ?_
          refine X.opsEnd ?_
          refine hback (i + 1, _) _ _ ⟨rfl, rfl, rfl, trivial⟩ ⟨by simp only []; omega, ?_, hk2⟩ (by simp only []; omega)
          have e := hM2.mono (T := fun k => w.heap.size ≤ k) (fun k _ h => by (try simp only [] at *); omega)
          simp only []
          rw [flat_step valK hx, valK, if_pos h23]
          rw [show q = 8 by omega] at e
          simpa only [List.append_assoc, List.singleton_append] using e
      · refine X.opsEnd ?_
        refine X.condF rfl ?_
        refine X.skip ?_
        refine X.seq ?_
        refine X.region ?_
        refine X.opw X.wN rfl (X.move rfl) ?_
        refine X.opE X.wN rfl (X.lit1B (y := 2) Try.underlying25 Try.sizeOf5 Try.zeroValue5 rfl) ?_
        rintro _ w6 ⟨rfl, hs6, hB6, hk6, hz6⟩
        refine X.opE X.wN rfl (X.appE (K := KB) (S := fun k => w.heap.size ≤ k) KB_flat Try.underlying25 E5 rfl rfl (hM.keep hk6) hs6 (by (try simp only [List.length_append, List.length_cons, List.length_nil, List.length_take, List.length_drop, List.length_map, List.length_range]); omega) (by intros; (try simp only [] at *); omega)) ?_
        rintro v7 w7 ⟨hM7, hx7⟩
        have hx7' := hx7.size
        refine X.opw X.wN rfl (X.assign rfl) ?_
        refine X.opsEnd ?_
        refine X.seq ?_
        refine X.seq ?_
        refine X.region ?_
        refine X.opw X.wN rfl (X.assign rfl) ?_
        refine X.opsEnd ?_
        refine X.block ?_
        -- LOOP live: 0=t, 4=b*, 5=i, 8=k*
        refine X.loopL (σ := Nat × Value) (fun s => [(0, .slice A n c), (4, s.2), (5, .int .i64 (i : Int)), (8, .int .i64 (s.1 : Int))]) (fun s w' => s.1 ≤ x.2.2.size ∧ Mine KB 5 (fun k => w.heap.size ≤ k) 0 0 w' s.2 ((l.take i).flatMap valK ++ [2] ++ (x.2.2.data.toList.take s.1).flatMap escB) ∧ Keep w w') (fun s => x.2.2.size - s.1) (0, _) ⟨rfl, rfl, rfl, rfl, trivial⟩ ⟨by simp only []; omega, by simpa using hM7, ((hk.trans hk6).step hx7 (by intros; (try simp only [] at *); omega))⟩ ?_
        rintro ⟨j, v3⟩ b3 w' ⟨hj, hM3, hk3⟩ hback3
        simp only at hj hM3
        have hk3' := hk3.size
        have hel := esc_len (x.2.2.data.toList.take j)
        rw [List.length_take] at hel
        refine X.seq ?_
        refine X.seq ?_
        refine X.region ?_
        refine X.opw X.wN rfl (X.move (v := .int .i64 _) rfl) ?_
        refine X.opw X.wN rfl (X.move (v := .slice _ _ _) rfl) ?_
        refine X.opw X.wN rfl (X.move (v := .int .i64 _) rfl) ?_
        refine X.opw X.wN rfl (X.idxS (hs.keep hk3) Try.underlying23 Try.sizeOf75 rfl rfl ⟨by omega, by omega⟩) ?_
        refine X.opw X.wN rfl (X.fldA Try.underlying75 rfl rfl Try.sizeOf9) ?_
        refine X.opw X.wN rfl (X.loadSf Try.isAgg9 (hs.keep hk3) hx rfl (fun _ h => by rw [h.1]; rfl)) ?_
        refine X.opw X.wN rfl (X.lenS Try.underlying9 rfl) ?_
        refine X.opP X.wN rfl rfl (X.lss rfl rfl) (fun h56 => ?_) (fun h56 => ?_)
        · obtain ⟨y, hy⟩ := getN j hsl h56
          refine X.opsEnd ?_
          refine X.condT rfl ?_
          refine X.skip ?_
          refine X.seq ?_
          refine X.block ?_
          refine X.seq ?_
          refine X.region ?_
          refine X.opw X.wN rfl (X.move rfl) ?_
          refine X.opw X.wN rfl (X.move (v := .slice _ _ _) rfl) ?_
          refine X.opw X.wN rfl (X.move (v := .int .i64 _) rfl) ?_
          refine X.opw X.wN rfl (X.idxS (hs.keep hk3) Try.underlying23 Try.sizeOf75 rfl rfl ⟨by omega, by omega⟩) ?_
          refine X.opw X.wN rfl (X.fldA Try.underlying75 rfl rfl Try.sizeOf9) ?_
          refine X.opw X.wN rfl (X.loadSf Try.isAgg9 (hs.keep hk3) hx rfl (fun _ h => by rw [h.1]; rfl)) ?_
          refine X.opw X.wN rfl (X.move (v := .int .i64 _) rfl) ?_
          refine X.opw X.wN rfl (X.idxStr Try.underlying9 rfl rfl hy) ?_
          refine X.opE X.wN rfl (X.lit1B Try.underlying25 Try.sizeOf5 Try.zeroValue5 rfl) ?_
          rintro _ w8 ⟨rfl, hs8, hB8, hk8, hz8⟩
          refine X.opE X.wN rfl (X.appE (K := KB) (S := fun k => w.heap.size ≤ k) KB_flat Try.underlying25 E5 rfl rfl (hM3.keep hk8) hs8 (by (try simp only [List.length_append, List.length_cons, List.length_nil, List.length_take, List.length_drop, List.length_map, List.length_range]); omega) (by intros; (try simp only [] at *); omega)) ?_
          rintro v9 w9 ⟨hM9, hx9⟩
          have hx9' := hx9.size
          refine X.opw X.wN rfl (X.assign rfl) ?_
          refine X.opsEnd ?_
          refine X.seq ?_
          refine X.region ?_
          refine X.opw X.wN rfl (X.move (v := .slice _ _ _) rfl) ?_
          refine X.opw X.wN rfl (X.move (v := .int .i64 _) rfl) ?_
          refine X.opw X.wN rfl (X.idxS (hs.keep ((hk3.trans hk8).step hx9 (by intros; (try simp only [] at *); omega))) Try.underlying23 Try.sizeOf75 rfl rfl ⟨by omega, by omega⟩) ?_
          refine X.opw X.wN rfl (X.fldA Try.underlying75 rfl rfl Try.sizeOf9) ?_
          refine X.opw X.wN rfl (X.loadSf Try.isAgg9 (hs.keep ((hk3.trans hk8).step hx9 (by intros; (try simp only [] at *); omega))) hx rfl (fun _ h => by rw [h.1]; rfl)) ?_
          refine X.opw X.wN rfl (X.move (v := .int .i64 _) rfl) ?_
          refine X.opw X.wN rfl (X.idxStr Try.underlying9 rfl rfl hy) ?_
          refine X.opP X.wN rfl rfl (X.eqI rfl rfl) (fun h76 => ?_) (fun h76 => ?_)
          · refine X.opsEnd ?_
            refine X.condT rfl ?_
            refine X.region ?_
            refine X.opw X.wN rfl (X.move rfl) ?_
            refine X.opE X.wN rfl (X.lit1B (y := 255) Try.underlying25 Try.sizeOf5 Try.zeroValue5 rfl) ?_
            rintro _ w10 ⟨rfl, hs10, hB10, hk10, hz10⟩
            refine X.opE X.wN rfl (X.appE (K := KB) (S := fun k => w.heap.size ≤ k) KB_flat Try.underlying25 E5 rfl rfl (hM9.keep hk10) hs10 (by (try simp only [List.length_append, List.length_cons, List.length_nil, List.length_take, List.length_drop, List.length_map, List.length_range]); omega) (by intros; (try simp only [] at *); omega)) ?_
            rintro v11 w11 ⟨hM11, hx11⟩
            have hx11' := hx11.size
            refine X.opw X.wN rfl (X.assign rfl) ?_
            refine X.opsEnd ?_
            refine X.inBlock ?_
            refine X.region ?_
            refine X.opw X.wN rfl (X.move (v := .int .i64 _) rfl) ?_
            refine X.opw X.wN rfl (X.add rfl rfl (X.w_i64 (by omega))) ?_
            refine X.opw X.wN rfl (X.assign (v := .int .i64 _) rfl) ?_
            refine X.opsEnd ?_
            refine hback3 (j + 1, _) _ _ ⟨rfl, rfl, rfl, rfl, trivial⟩ ⟨by simp only []; omega, ?_, ((((hk3.trans hk8).step hx9 (by intros; (try simp only [] at *); omega)).trans hk10).step hx11 (by intros; (try simp only [] at *); omega))⟩ (by simp only []; omega)
            have e := hM11
            simp only []
            rw [flat_step escB hy, ← List.append_assoc, escB, if_pos (u8_0 h76)]
            rw [u8_0 h76] at e
            simpa only [List.append_assoc, List.singleton_append] using e
          · refine X.opsEnd ?_
            refine X.condF rfl ?_
            refine X.skip ?_
            refine X.inBlock ?_
            refine X.region ?_
            refine X.opw X.wN rfl (X.move (v := .int .i64 _) rfl) ?_
            refine X.opw X.wN rfl (X.add rfl rfl (X.w_i64 (by omega))) ?_
            refine X.opw X.wN rfl (X.assign (v := .int .i64 _) rfl) ?_
            refine X.opsEnd ?_
            refine hback3 (j + 1, _) _ _ ⟨rfl, rfl, rfl, rfl, trivial⟩ ⟨by simp only []; omega, ?_, ((hk3.trans hk8).step hx9 (by intros; (try simp only [] at *); omega))⟩ (by simp only []; omega)
            have e := hM9
            simp only []
            rw [flat_step escB hy, ← List.append_assoc, escB, if_neg (fun e => h76 (by rw [e]; rfl))]
            exact e
        · refine X.opsEnd ?_
          refine X.condF rfl ?_
          refine X.exit rfl ?_
          refine X.region ?_
          refine X.opw X.wN rfl (X.move rfl) ?_
          refine X.opE X.wN rfl (X.lit2B (x := 0) (y := 1) Try.underlying25 Try.sizeOf5 Try.zeroValue5 ⟨rfl, rfl⟩ ⟨rfl, rfl⟩) ?_
          rintro _ w12 ⟨rfl, hs12, hB12, hk12, hz12⟩
          refine X.opE X.wN rfl (X.appE (K := KB) (S := fun k => w.heap.size ≤ k) KB_flat Try.underlying25 E5 rfl rfl (hM3.keep hk12) hs12 (by (try simp only [List.length_append, List.length_cons, List.length_nil, List.length_take, List.length_drop, List.length_map, List.length_range]); omega) (by intros; (try simp only [] at *); omega)) ?_
          rintro v13 w13 ⟨hM13, hx13⟩
          have hx13' := hx13.size
          refine X.opw X.wN rfl (X.assign rfl) ?_
          refine X.opsEnd ?_
          refine X.inBlock ?_
          refine X.region ?_
          refine X.opw X.wN rfl (X.move (v := .int .i64 _) rfl) ?_
          refine X.opw X.wN rfl (X.add rfl rfl (X.w_i64 (by omega))) ?_
          refine X.opw X.wN rfl (X.assign (v := .int .i64 _) rfl) ?_
          refine X.opsEnd ?_
          refine hback (i + 1, _) _ _ ⟨rfl, rfl, rfl, trivial⟩ ⟨by simp only []; omega, ?_, ((hk3.trans hk12).step hx13 (by intros; (try simp only [] at *); omega))⟩ (by simp only []; omega)
          have e := hM13.mono (T := fun k => w.heap.size ≤ k) (fun k _ h => by (try simp only [] at *); omega)
          simp only []
          rw [flat_step valK hx, valK, if_neg h23]
          rw [show j = x.2.2.data.toList.length by omega, List.take_length] at e
          simpa only [List.append_assoc, List.singleton_append, List.cons_append, List.nil_append] using e
    · refine X.opsEnd ?_
      refine X.condF rfl ?_
      refine X.exit rfl ?_
      refine X.seq ?_
      refine X.region ?_
      refine X.opw X.wN rfl (X.move rfl) ?_
      refine X.opw X.wN rfl (X.assign rfl) ?_
      refine X.opw X.wN rfl (X.assign rfl) ?_
      refine X.opsEnd ?_
      refine X.ret2 (v2 := (.int .i64 _)) Try.func24 Try.results24 rfl rfl ?_
      have e := hM
      rw [show i = l.length by omega, List.take_length] at e
      refine ⟨_, by rw [if_pos hT], ?_, hk⟩
      rw [if_pos hT]
      exact e
end Go.Proofs.Ytaclpphhidlgpaa
