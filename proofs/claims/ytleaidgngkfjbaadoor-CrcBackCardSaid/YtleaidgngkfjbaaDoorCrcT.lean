/- The walk of the law CrcBursts. -/
import Derived.Test.YtleaidgngkfjbaaDoorCrcS
import Derived.Test.YtleaidgngkfjbaaDoorXStore
namespace Go.Proofs.YtleaidgngkfjbaaDoor
open Go Go.Proofs.YtleaidgngkfjbaaDoor.X
set_option linter.unusedVariables false
set_option linter.unusedSimpArgs false

theorem quo8 (a : Nat) (h : a ≤ 9223372036854775807) : IntKind.i64.wrap (((a : Nat) : Int).tdiv 8) = ((a / 8 : Nat) : Int) := by
  show IntKind.i64.wrap ((a / 8 : Nat) : Int) = _
  exact w_i64 (by omega)
theorem shl1 (k : Nat) (h : k < 8) : IntKind.u8.wrap (1 * 2 ^ (min ((k : Int)).toNat IntKind.u8.bits)) = ((UInt8.ofNat (2 ^ k)).toNat : Int) := by
  have : ∀ k : Fin 8, IntKind.u8.wrap (1 * 2 ^ (min ((k.1 : Int)).toNat IntKind.u8.bits)) = ((UInt8.ofNat (2 ^ k.1)).toNat : Int) := by decide
  exact this ⟨k, h⟩
theorem xor8 (a b : UInt8) : IntKind.u8.wrap ((BitVec.ofInt IntKind.u8.bits (a.toNat : Int) ^^^ BitVec.ofInt IntKind.u8.bits (b.toNat : Int)).toNat : Int) = ((a ^^^ b).toNat : Int) := by
  show IntKind.u8.wrap ((BitVec.ofInt 8 (a.toNat : Int) ^^^ BitVec.ofInt 8 (b.toNat : Int)).toNat : Int) = _
  have ha := a.toNat_lt
  have hb := b.toNat_lt
  rw [BitVec.ofInt_natCast, BitVec.ofInt_natCast, BitVec.toNat_xor, BitVec.toNat_ofNat, BitVec.toNat_ofNat, UInt8.toNat_xor, Nat.mod_eq_of_lt ha, Nat.mod_eq_of_lt hb]
  have := Nat.xor_lt_two_pow (n := 8) ha hb
  exact w_u8 (by omega)
def flipE (e : List UInt8) (j : Nat) : List UInt8 := e.set (j / 8) (e.getD (j / 8) 0 ^^^ UInt8.ofNat (2 ^ (j % 8)))
theorem flip_len (e : List UInt8) (j : Nat) : (flipE e j).length = e.length := by simp [flipE]
theorem pow_bit (k i : Nat) (hk : k < 8) : (UInt8.ofNat (2 ^ k)).toNat.testBit i = decide (i = k) := by
  have : (UInt8.ofNat (2 ^ k)).toNat = 2 ^ k := by
    have h8 : 2 ^ k < 2 ^ 8 := Nat.pow_lt_pow_right (by decide) hk
    rw [UInt8.toNat_ofNat']; exact Nat.mod_eq_of_lt h8
  rw [this, Nat.testBit_two_pow]; simp [eq_comm]
theorem flip_bit (e : List UInt8) (j0 j : Nat) (h : j0 < 8 * e.length) : bitAt (flipE e j0) j = (if j = j0 then !(bitAt e j) else bitAt e j) := by
  unfold bitAt flipE
  rw [List.getD_eq_getElem?_getD, List.getElem?_set]
  by_cases h1 : j0 / 8 = j / 8
  · rw [if_pos h1, if_pos (by omega)]
    simp only [Option.getD_some]
    rw [UInt8.toNat_xor, Nat.testBit_xor, pow_bit _ _ (by omega), ← h1]
    by_cases h2 : j = j0
    · subst h2; simp
    · simp [h2, show ¬ j % 8 = j0 % 8 by omega]
  · rw [if_neg h1, if_neg (by rintro rfl; exact h1 rfl), List.getD_eq_getElem?_getD]
theorem burst_set {e : List UInt8} {f k : Nat} {t : Bool} (h : Burst e f k t) (hl : f + k < 8 * e.length) : Burst (flipE e (f + k)) f (k + 1) true := by
  have hz : bitAt e (f + k) = false := by
    cases hq : bitAt e (f + k)
    · rfl
    · have := (h.1 _ hq).2; omega
  refine ⟨fun j hj => ?_, by simp; exact ⟨f + k, by rw [flip_bit e _ _ hl, if_pos rfl, hz]; rfl⟩⟩
  rw [flip_bit e _ _ hl] at hj
  by_cases h1 : j = f + k
  · omega
  · rw [if_neg h1] at hj; have := h.1 j hj; omega
theorem burst_next {e : List UInt8} {f k : Nat} {t : Bool} (h : Burst e f k t) : Burst e f (k + 1) t := ⟨fun j hj => by have := h.1 j hj; omega, h.2⟩
theorem burst_32 {e : List UInt8} {f k : Nat} {t : Bool} (h : Burst e f k t) (hk : k ≤ 32) : Burst e f 32 t := ⟨fun j hj => by have := h.1 j hj; omega, h.2⟩
theorem burst_z (n f : Nat) : Burst (List.replicate n 0) f 0 false := by
  have : ∀ j, bitAt (List.replicate n 0) j = false := fun j => by
    unfold bitAt
    rw [List.getD_eq_getElem?_getD, List.getElem?_replicate]
    split <;> simp
  exact ⟨fun j hj => by rw [this] at hj; simp at hj, by simp [this]⟩
theorem XO_flip {l e : List UInt8} {j : Nat} {y : UInt8} (he : e.length = l.length) (hy : (XO l e)[j / 8]? = some y) : (XO l e).set (j / 8) (y ^^^ UInt8.ofNat (2 ^ (j % 8))) = XO l (flipE e j) := by
  have hj : j / 8 < (XO l e).length := (List.getElem?_eq_some_iff.1 hy).1
  rw [List.length_zipWith] at hj
  have hl : l[j / 8]? = some (l[j / 8]'(by omega)) := List.getElem?_eq_getElem (by omega)
  have hee : e[j / 8]? = some (e[j / 8]'(by omega)) := List.getElem?_eq_getElem (by omega)
  apply List.ext_getElem?
  intro i
  unfold flipE
  rw [List.getElem?_set, List.getElem?_zipWith, List.getElem?_zipWith, List.getElem?_set]
  by_cases h : j / 8 = i
  · subst h
    rw [if_pos rfl, if_pos (by rw [List.length_zipWith]; omega), if_pos rfl, if_pos (by omega), hl]
    have h3 := hy
    rw [List.getElem?_zipWith, hl, hee] at h3
    simp only [Option.some.injEq] at h3
    rw [List.getD_eq_getElem?_getD, hee, ← h3]
    simp [UInt8.xor_assoc]
  · rw [if_neg h, if_neg h]
-- f25 "pedigree/pedigreelaw04.turned" params [22, 34, 27] results [22, 4] -> [(ResultVar.tmp 6), (ResultVar.t
set_option maxHeartbeats 4000000 in
set_option maxRecDepth 100000 in
theorem turned_c (at_ : Nat) (hat : at_ < 18446744073709551616) (bits : R32) {lo hi : Nat} {A : Option Addr} {n c : Nat} {l : List UInt8} (w : World) (hs : Sl KB lo hi w A n l) (hn : n ≤ 2000000) (hn0 : 0 < n) : Ret Tryd.prog 25 #[.slice A n c, .int .u64 (at_ : Int), .int .u32 (bits.toNat : Int)] w fun r w' => ∃ e f t v, r = .tuple #[v, .bool t] ∧ (e.length = n ∧ Burst e f 32 t) ∧ Mine KB 5 (fun k => w.heap.size ≤ k) 0 0 w' v (XO l e) ∧ Keep w w' := by
  have hl := hs.len
  obtain ⟨f, hf⟩ : ∃ f, at_ % (8 * n) = f := ⟨_, rfl⟩
  have hfl : f < 8 * n := by rw [← hf]; exact Nat.mod_lt _ (by omega)
  refine X.enter Tryd.func25 rfl Tryd.ntmps25 rfl ?_
  refine X.seq ?_
  refine X.region ?_
  refine X.opw X.wN rfl (X.assign rfl) ?_
  refine X.opw X.wN rfl (X.assign rfl) ?_
  refine X.opsEnd ?_
  refine X.seq ?_
  refine X.region ?_
  refine X.opE X.wN rfl (X.lit0E (K := KB) (S := fun k => w.heap.size ≤ k) Tryd.underlying22 Tryd.sizeOf5 (by intros; (try simp only [] at *); omega)) ?_
  rintro v1 w1 ⟨hM1, hk1, hz1⟩
  refine X.opw X.wN rfl (X.move (v := .slice _ _ _) rfl) ?_
  refine X.opE X.wN rfl (X.appE (K := KB) (S := fun k => w.heap.size ≤ k) KB_flat Tryd.underlying22 E8 rfl rfl hM1 (hs.keep hk1) (by (try simp only [List.length_append, List.length_cons, List.length_nil, List.length_take, List.length_drop, List.length_map, List.length_range]); omega) (by intros; (try simp only [] at *); omega)) ?_
  rintro v2 w2 ⟨hM2, hx2⟩
  have hx2' := hx2.size
  refine X.opw X.wN rfl (X.assign rfl) ?_
  refine X.opsEnd ?_
  refine X.seq ?_
  refine X.region ?_
  refine X.opw X.wN rfl (X.move (v := .int .u64 _) rfl) ?_
  refine X.opw X.wN rfl (X.move (v := .slice _ _ _) rfl) ?_
  refine X.opw X.wN rfl (X.lenSl Tryd.underlying22 rfl) ?_
  refine X.opw X.wN rfl (X.mul rfl rfl (X.w_i64 (by omega))) ?_
  refine X.opw X.wN rfl (X.cvI Tryd.underlying3 Tryd.underlying34 rfl (X.w_u64 (by omega))) ?_
  refine X.opw X.wN rfl (X.rem (c := ((f : Nat) : Int)) rfl rfl (by omega) (by rw [← hf]; have := Int.natCast_emod at_ (8 * n); rw [Int.tmod_eq_emod_of_nonneg (by omega)]; rw [this]; congr 1)) ?_
  refine X.opw X.wN rfl (X.cvI Tryd.underlying34 Tryd.underlying3 rfl (X.w_i64 (by omega))) ?_
  refine X.opw X.wN rfl (X.assign (v := .int .i64 _) rfl) ?_
  refine X.opsEnd ?_
  refine X.seq ?_
  refine X.region ?_
  refine X.opw X.wN rfl (X.assign rfl) ?_
  refine X.opsEnd ?_
  refine X.seq ?_
  refine X.seq ?_
  refine X.region ?_
  refine X.opw X.wN rfl (X.assign rfl) ?_
  refine X.opsEnd ?_
  refine X.block ?_
  -- LOOP live: 0=b, 2=bits, 8=c, 9=from, 10=some*, 11=k*
  refine X.loopL (σ := Nat × Value × List UInt8 × Bool) (fun s => [(0, .slice A n c), (2, .int .u32 (bits.toNat : Int)), (8, s.2.1), (9, .int .i64 (f : Int)), (10, .bool s.2.2.2), (11, .int .i64 (s.1 : Int))]) (fun s w' => s.1 ≤ 32 ∧ s.2.2.1.length = n ∧ Burst s.2.2.1 f s.1 s.2.2.2 ∧ Mine KB 5 (fun k => w.heap.size ≤ k) 0 0 w' s.2.1 (XO l s.2.2.1) ∧ Keep w w') (fun s => 32 - s.1) (0, _, List.replicate n 0, false) ⟨rfl, rfl, rfl, rfl, rfl, rfl, trivial⟩ ⟨by simp, by simp, burst_z n f, by dsimp only; rw [← hl, XO_zero]; exact hM2, (hk1.step hx2 (by intros; (try simp only [] at *); omega))⟩ ?_
  rintro ⟨k, v, e, t⟩ b0 wl ⟨hk0, he, hB, hM0, hk⟩ hback
  dsimp only
  simp only at hk0 he hB hM0
  have hk' := hk.size
  refine X.seq ?_
  refine X.seq ?_
  refine X.region ?_
  refine X.opw X.wN rfl (X.move (v := .int .i64 _) rfl) ?_
  refine X.opP X.wN rfl rfl (X.lss rfl rfl) (fun h23 => ?_) (fun h23 => ?_)
  · refine X.opw X.wN rfl (X.move (v := .bool true) rfl) ?_
    refine X.opw (X.wG rfl rfl rfl) rfl (X.move (v := .int .i64 _) rfl) ?_
    refine X.opw (X.wG rfl rfl rfl) rfl (X.move (v := .int .i64 _) rfl) ?_
    refine X.opw (X.wG rfl rfl rfl) rfl (X.add (c := ((f + k : Nat) : Int)) rfl rfl (by rw [X.w_i64 (by omega)]; omega)) ?_
    refine X.opw (X.wG rfl rfl rfl) rfl (X.move (v := .slice _ _ _) rfl) ?_
    refine X.opw (X.wG rfl rfl rfl) rfl (X.lenSl Tryd.underlying22 rfl) ?_
    refine X.opw (X.wG rfl rfl rfl) rfl (X.mul rfl rfl (X.w_i64 (by omega))) ?_
    refine X.opP (X.wG rfl rfl rfl) rfl rfl (X.lss rfl rfl) (fun h31 => ?_) (fun h31 => ?_)
    · refine X.opw X.wN rfl (X.pickT (v := .bool true) rfl rfl) ?_
      refine X.opsEnd ?_
      refine X.condT rfl ?_
      refine X.skip ?_
      refine X.seq ?_
      refine X.block ?_
      refine X.seq ?_
      refine X.region ?_
      refine X.opw X.wN rfl (X.move (v := .int .u32 _) rfl) ?_
      refine X.opw X.wN rfl (X.move (v := .int .i64 _) rfl) ?_
      refine X.opw X.wN rfl (X.cvI Tryd.underlying3 Tryd.underlying34 rfl (X.w_u64 (by omega))) ?_
      refine X.opw X.wN rfl (X.shr (c := ((bits >>> k).toNat : Int)) rfl rfl (by omega) (shr32 bits k (by omega))) ?_
      refine X.opw X.wN rfl (X.and_ rfl rfl (and32 _ 1#32)) ?_
      refine X.opP X.wN rfl rfl (X.eqI rfl rfl) (fun h40 => ?_) (fun h40 => ?_)
      · have hxl : (XO l e).length = n := by rw [List.length_zipWith]; omega
        obtain ⟨y, hx⟩ := getN ((f + k) / 8) hxl (by omega)
        refine X.opsEnd ?_
        refine X.condT rfl ?_
        refine X.seq ?_
        refine X.region ?_
        refine X.opw X.wN rfl (X.move rfl) ?_
        refine X.opw X.wN rfl (X.move (v := .int .i64 _) rfl) ?_
        refine X.opw X.wN rfl (X.move (v := .int .i64 _) rfl) ?_
        refine X.opw X.wN rfl (X.add (c := ((f + k : Nat) : Int)) rfl rfl (by rw [X.w_i64 (by omega)]; omega)) ?_
        refine X.opw X.wN rfl (X.quo (c := (((f + k) / 8 : Nat) : Int)) rfl rfl (by decide) (quo8 (f + k) (by omega))) ?_
        refine X.opw X.wN rfl (X.move rfl) ?_
        refine X.opw X.wN rfl (X.move (v := .int .i64 _) rfl) ?_
        refine X.opw X.wN rfl (X.move (v := .int .i64 _) rfl) ?_
        refine X.opw X.wN rfl (X.add (c := ((f + k : Nat) : Int)) rfl rfl (by rw [X.w_i64 (by omega)]; omega)) ?_
        refine X.opw X.wN rfl (X.quo (c := (((f + k) / 8 : Nat) : Int)) rfl rfl (by decide) (quo8 (f + k) (by omega))) ?_
        have q3 := hM0.slF KB_flat 0 (fun _ _ => Nat.zero_le _)
        obtain ⟨A3, c3, rfl, hc3, hs3⟩ := q3
        refine X.opw X.wN rfl (X.idxS hs3 Tryd.underlying22 Tryd.sizeOf5 rfl rfl ⟨by omega, by omega⟩) ?_
        refine X.opw X.wN rfl (X.loadS Tryd.isAgg5 hs3 hx rfl (fun _ h => by rw [h.1]; rfl)) ?_
        refine X.opw X.wN rfl (X.move (v := .int .i64 _) rfl) ?_
        refine X.opw X.wN rfl (X.move (v := .int .i64 _) rfl) ?_
        refine X.opw X.wN rfl (X.add (c := ((f + k : Nat) : Int)) rfl rfl (by rw [X.w_i64 (by omega)]; omega)) ?_
        refine X.opw X.wN rfl (X.rem (c := (((f + k) % 8 : Nat) : Int)) rfl rfl (by decide) rfl) ?_
        refine X.opw X.wN rfl (X.cvI Tryd.underlying3 Tryd.underlying34 rfl (X.w_u64 (by omega))) ?_
        refine X.opw X.wN rfl (X.shl (c := ((UInt8.ofNat (2 ^ ((f + k) % 8))).toNat : Int)) rfl rfl (by omega) (shl1 ((f + k) % 8) (by omega))) ?_
        refine X.opw X.wN rfl (X.xor_ rfl rfl (xor8 y (UInt8.ofNat (2 ^ ((f + k) % 8))))) ?_
        refine X.opw X.wN rfl (X.idxS hs3 Tryd.underlying22 Tryd.sizeOf5 rfl rfl ⟨by omega, by omega⟩) ?_
        refine X.opE X.wN rfl (X.storeM Tryd.sizeOf5 (Mine.mono (T := fun k => w.heap.size ≤ k) hM0 (fun k h1 h2 => by (try simp only [] at *); omega)) (by omega) rfl rfl) ?_
        rintro _ w4 ⟨hM4, hx4, hz4⟩
        refine X.opsEnd ?_
        refine X.region ?_
        refine X.opw X.wN rfl (X.assign rfl) ?_
        refine X.opsEnd ?_
        refine X.inBlock ?_
        refine X.region ?_
        refine X.opw X.wN rfl (X.move (v := .int .i64 _) rfl) ?_
        refine X.opw X.wN rfl (X.add rfl rfl (X.w_i64 (by omega))) ?_
        refine X.opw X.wN rfl (X.assign (v := .int .i64 _) rfl) ?_
        refine X.opsEnd ?_
        refine hback (k + 1, _, flipE e (f + k), true) _ _ ⟨rfl, rfl, rfl, rfl, rfl, rfl, trivial⟩ ⟨by dsimp only; omega, by dsimp only; rw [flip_len]; exact he, burst_set hB (by omega), by dsimp only; rw [← XO_flip (by omega) hx]; exact hM4, (hk.step hx4 (by intros; (try simp only [] at *); omega))⟩ (by dsimp only; omega)
      · refine X.opsEnd ?_
        refine X.condF rfl ?_
        refine X.skip ?_
        refine X.inBlock ?_
        refine X.region ?_
        refine X.opw X.wN rfl (X.move (v := .int .i64 _) rfl) ?_
        refine X.opw X.wN rfl (X.add rfl rfl (X.w_i64 (by omega))) ?_
        refine X.opw X.wN rfl (X.assign (v := .int .i64 _) rfl) ?_
        refine X.opsEnd ?_
        refine hback (k + 1, _, e, t) _ _ ⟨rfl, rfl, rfl, rfl, rfl, rfl, trivial⟩ ⟨by dsimp only; omega, he, burst_next hB, hM0, hk⟩ (by dsimp only; omega)
    · refine X.opw X.wN rfl (X.pickT (v := .bool false) rfl rfl) ?_
      refine X.opsEnd ?_
      refine X.condF rfl ?_
      refine X.exit rfl ?_
      refine X.seq ?_
      refine X.region ?_
      refine X.opw X.wN rfl (X.move rfl) ?_
      refine X.opw X.wN rfl (X.move (v := .bool _) rfl) ?_
      refine X.opw X.wN rfl (X.assign rfl) ?_
      refine X.opw X.wN rfl (X.assign (v := .bool _) rfl) ?_
      refine X.opsEnd ?_
      refine X.ret2 (v2 := (.bool _)) Tryd.func25 Tryd.results25 rfl rfl ?_
      exact ⟨e, f, t, _, rfl, ⟨he, burst_32 hB hk0⟩, hM0, hk⟩
  · refine X.opw X.wN rfl (X.move (v := .bool false) rfl) ?_
    refine X.opS rfl rfl rfl rfl rfl ?_
    refine X.opS rfl rfl rfl rfl rfl ?_
    refine X.opS rfl rfl rfl rfl rfl ?_
    refine X.opS rfl rfl rfl rfl rfl ?_
    refine X.opS rfl rfl rfl rfl rfl ?_
    refine X.opS rfl rfl rfl rfl rfl ?_
    refine X.opS rfl rfl rfl rfl rfl ?_
    refine X.opw X.wN rfl (X.pickF (v := .bool false) rfl rfl) ?_
    refine X.opsEnd ?_
    refine X.condF rfl ?_
    refine X.exit rfl ?_
    refine X.seq ?_
    refine X.region ?_
    refine X.opw X.wN rfl (X.move rfl) ?_
    refine X.opw X.wN rfl (X.move (v := .bool _) rfl) ?_
    refine X.opw X.wN rfl (X.assign rfl) ?_
    refine X.opw X.wN rfl (X.assign (v := .bool _) rfl) ?_
    refine X.opsEnd ?_
    refine X.ret2 (v2 := (.bool _)) Tryd.func25 Tryd.results25 rfl rfl ?_
    exact ⟨e, f, t, _, rfl, ⟨he, burst_32 hB hk0⟩, hM0, hk⟩
-- f24 "pedigree/pedigreelaw04.piece" params [33] results [33] -> [(ResultVar.cell 2 33)] nfree 0 ntmps 8 name
set_option maxHeartbeats 4000000 in
set_option maxRecDepth 100000 in
theorem piece_c (k : UInt8) {lo hi : Nat} {A : Option Addr} {n c : Nat} {l : List UInt8} (w : World) (hs : Sl KB lo hi w A n l) (hhi : hi ≤ w.heap.size) (hnc : n ≤ c) : Ret Tryd.prog 24 #[.agg #[.int .u8 (k.toNat : Int), .slice A n c]] w fun r w' => ∃ m, r = .agg #[.int .u8 (k.toNat : Int), .slice A m c] ∧ m ≤ c ∧ m ≤ 3000 ∧ Sl KB lo hi w' A m (l.take 3000) ∧ Keep w w' := by
  have hl := hs.len
  refine X.enter Tryd.func24 rfl Tryd.ntmps24 rfl ?_
  refine X.seq ?_
  refine X.region ?_
  refine X.opE X.wN rfl (X.boxE rfl rfl) ?_
  rintro _ w1 ⟨rfl, hB1, hk1, hz1⟩
  refine X.opE X.wN rfl (X.allocE Tryd.zeroValue33 rfl) ?_
  rintro _ w2 ⟨rfl, hB2, hk2, hz2⟩
  refine X.opsEnd ?_
  refine X.seq ?_
  refine X.region ?_
  refine X.opw X.wN rfl (X.fldB (j := 1) Tryd.underlying33 rfl rfl Tryd.sizeOf22 rfl) ?_
  refine X.opw X.wN rfl (X.load1B Tryd.isAgg22 (hB1.keep hk2) rfl rfl) ?_
  refine X.opE X.wN rfl (X.callE (cut_c _ (hs.keep (hk1.trans hk2)) (by omega)) Tryd.call10 rfl rfl) ?_
  rintro _ w3 ⟨m3, rfl, hmc3, hmt3, hs3, hk3⟩
  have hk3' := hk3.size
  refine X.opw X.wN rfl (X.fldB (j := 1) Tryd.underlying33 rfl rfl Tryd.sizeOf22 rfl) ?_
  refine X.opE X.wN rfl (X.storeE Tryd.sizeOf22 (hB1.keep (hk2.trans hk3)) rfl rfl rfl rfl) ?_
  rintro _ w4 ⟨hB4, hx4, hz4⟩
  refine X.opsEnd ?_
  refine X.seq ?_
  refine X.region ?_
  refine X.opw X.wN rfl (X.loadNB Tryd.isAgg33 Tryd.sizeOf33 hB4 rfl rfl rfl) ?_
  refine X.opE X.wN rfl (X.storeNE Tryd.sizeOf33 ((hB2.keep hk3).ext hx4 (by intros; (try simp only []); omega)) rfl rfl rfl rfl (fun u hu => by simp at hu; rcases hu with rfl | rfl <;> rfl)) ?_
  rintro _ w5 ⟨hB5, hx5, hz5⟩
  refine X.opsEnd ?_
  refine X.ret_unw (X.unwR1 Tryd.func24 Tryd.results24 (X.ResOk.cell rfl (X.lvN Tryd.isAgg33 Tryd.sizeOf33 hB5 rfl)) ?_)
  exact ⟨_, rfl, by omega, by omega, ((hs3.ext hx4 (by intros; (try simp only []); omega)).ext hx5 (by intros; (try simp only []); omega)), ((((hk1.trans hk2).trans hk3).step hx4 (by intros; (try simp only [] at *); omega)).step hx5 (by intros; (try simp only [] at *); omega))⟩
theorem u64_nat {x : Int} (h : (Lit.int .u64 x).wf = true) : ∃ a : Nat, x = (a : Int) ∧ a < 18446744073709551616 := by
  simp only [Lit.wf, Bool.and_eq_true, decide_eq_true_eq] at h
  have h0 : IntKind.u64.min = 0 := rfl
  have h1 : IntKind.u64.max = 18446744073709551615 := rfl
  exact ⟨x.toNat, by omega, by omega⟩
theorem u32_bv {x : Int} (h : (Lit.int .u32 x).wf = true) : ∃ a : R32, x = (a.toNat : Int) := by
  simp only [Lit.wf, Bool.and_eq_true, decide_eq_true_eq] at h
  have h0 : IntKind.u32.min = 0 := rfl
  have h1 : IntKind.u32.max = 4294967295 := rfl
  exact ⟨BitVec.ofNat 32 x.toNat, by rw [BitVec.toNat_ofNat]; omega⟩
-- f6 "pedigree/pedigreelaw04.CrcBursts" params [33, 34, 27] results [4] -> [(ResultVar.tmp 6)] nfree 0 ntmps 
set_option maxHeartbeats 4000000 in
set_option maxRecDepth 100000 in
theorem CrcBursts_c (w : World) (hT : TabOk w) (cs : Array Value) (y : UInt8 × List UInt8) (g : (Kd.pair KB (Kd.slice KB)).R 0 w.heap.size w y cs.toList) (a1 : Int) (g1 : (Lit.int .u64 a1).wf = true) (a2 : Int) (g2 : (Lit.int .u32 a2).wf = true) :
    Ret Tryd.prog 6 #[.agg cs, .int .u64 a1, .int .u32 a2] w fun r w' => r = .bool true ∧ Keep w w' := by
  obtain ⟨k, l⟩ := y
  obtain ⟨a, b, e, ⟨rfl, _⟩, ⟨A, n, c, rfl, hnc, hs0⟩⟩ := g
  obtain rfl : cs = #[.int .u8 (k.toNat : Int), .slice A n c] := Array.toList_inj.1 e
  obtain ⟨at_, rfl, hat⟩ := u64_nat g1
  obtain ⟨bits, rfl⟩ := u32_bv g2
  have hs : Sl KB 0 w.heap.size w A n l := hs0
  have hsl : (sealC (l.take 3000)).length = (l.take 3000).length + 4 := seal_len _
  have hfr : frameC k (l.take 3000) = (0, (frameC k (l.take 3000)).2) := by rw [frameC, if_neg (by rw [List.length_take]; omega)]
  have hfl : (frameC k (l.take 3000)).2.length = (l.take 3000).length + 13 := by
    rw [frameC, if_neg (by rw [List.length_take]; omega)]; dsimp only; rw [List.length_append, seal_len, seal_len]; simp only [List.length_cons]; rw [show (lowC (BitVec.ofNat 32 (l.take 3000).length)).length = 4 from rfl]; omega
  have htl : (l.take 3000).length ≤ 3000 := by rw [List.length_take]; omega
  refine X.enter Tryd.func6 rfl Tryd.ntmps6 rfl ?_
  refine X.seq ?_
  refine X.region ?_
  refine X.opE X.wN rfl (X.boxE rfl rfl) ?_
  rintro _ w1 ⟨rfl, hB1, hk1, hz1⟩
  refine X.opw X.wN rfl (X.assign rfl) ?_
  refine X.opsEnd ?_
  refine X.seq ?_
  refine X.seq ?_
  refine X.region ?_
  refine X.opE X.wN rfl (X.callE (awake_c _ (hT.keep hk1)) Tryd.call17 rfl rfl) ?_
  rintro _ w2 ⟨rfl, hk2⟩
  have hk2' := hk2.size
  refine X.opw X.wN rfl (X.not_ rfl) ?_
  refine X.opsEnd ?_
  refine X.condB rfl (fun hc => ?_) (fun hc => ?_)
  · cases hc
  · refine X.skip ?_
    refine X.seq ?_
    refine X.region ?_
    refine X.opw X.wN rfl (X.loadNB Tryd.isAgg33 Tryd.sizeOf33 (hB1.keep hk2) rfl rfl rfl) ?_
    refine X.opE X.wN rfl (X.callE (piece_c k _ (hs.keep (hk1.trans hk2)) (by omega) (by omega)) Tryd.call24 rfl rfl) ?_
    rintro _ w3 ⟨m3, rfl, hmc3, hmt3, hs3, hk3⟩
    have hk3' := hk3.size
    refine X.opE X.wN rfl (X.storeNE Tryd.sizeOf33 (hB1.keep (hk2.trans hk3)) rfl rfl rfl rfl (fun u hu => by simp at hu; rcases hu with rfl | rfl <;> rfl)) ?_
    rintro _ w4 ⟨hB4, hx4, hz4⟩
    refine X.opsEnd ?_
    refine X.seq ?_
    refine X.region ?_
    refine X.opw X.wN rfl (X.fldB (j := 1) Tryd.underlying33 rfl rfl Tryd.sizeOf22 rfl) ?_
    refine X.opw X.wN rfl (X.load1B Tryd.isAgg22 hB4 rfl rfl) ?_
    refine X.opE X.wN rfl (X.callE ((Seal_c _ (hs3.ext hx4 (by intros; (try simp only []); omega)) (by omega) (by omega) (by omega) (hT.keep (((hk1.trans hk2).trans hk3).step hx4 (by intros; (try simp only [] at *); omega)))).mono freshB) Tryd.call15 rfl rfl) ?_
    rintro _ w5 ⟨A5, c5, rfl, hc5, hs5, hM5, hk5⟩
    have hk5' := hk5.size
    refine X.opw X.wN rfl (X.assign rfl) ?_
    refine X.opsEnd ?_
    refine X.seq ?_
    refine X.region ?_
    refine X.opw X.wN rfl (X.loadNB Tryd.isAgg33 Tryd.sizeOf33 (hB4.keep hk5) rfl rfl rfl) ?_
    refine X.opE X.wN rfl (X.callE ((Frame_c k _ (((hs3.ext hx4 (by intros; (try simp only []); omega)).keep hk5)) (by omega) (by omega) (by omega) (hT.keep ((((hk1.trans hk2).trans hk3).step hx4 (by intros; (try simp only [] at *); omega)).trans hk5))).mono fresh2) Tryd.call18 rfl rfl) ?_
    rintro _ w6 ⟨A6, c6, rfl, hc6, hs6, hM6, hk6⟩
    have hk6' := hk6.size
    refine X.opw X.wN rfl (X.move rfl) ?_
    refine X.opw X.wN rfl (X.extr rfl rfl) ?_
    refine X.opw X.wN rfl (X.extr rfl rfl) ?_
    refine X.opw X.wN rfl (X.assign rfl) ?_
    refine X.opw X.wN rfl (X.assign (v := .int .i64 _) rfl) ?_
    refine X.opsEnd ?_
    refine X.seq ?_
    refine X.seq ?_
    refine X.region ?_
    refine X.opw X.wN rfl (X.move (v := .int .i64 _) rfl) ?_
    refine X.opP X.wN rfl rfl (X.neI rfl rfl) (fun h32 => ?_) (fun h32 => ?_)
    · exact (h32 (by rw [hfr])).elim
    · refine X.opw X.wN rfl (X.move (v := .bool false) rfl) ?_
      refine X.opw (X.wG rfl rfl rfl) rfl (X.move rfl) ?_
      refine X.opw (X.wG rfl rfl rfl) rfl (X.lenSl Tryd.underlying22 rfl) ?_
      refine X.opP (X.wG rfl rfl rfl) rfl rfl (X.eqI rfl rfl) (fun h36 => ?_) (fun h36 => ?_)
      · omega
      · refine X.opw X.wN rfl (X.pickF (v := .bool false) rfl rfl) ?_
        refine X.opw X.wN rfl (X.move (v := .bool false) rfl) ?_
        refine X.opw (X.wG rfl rfl rfl) rfl (X.move rfl) ?_
        refine X.opw (X.wG rfl rfl rfl) rfl (X.lenSl Tryd.underlying22 rfl) ?_
        refine X.opP (X.wG rfl rfl rfl) rfl rfl (X.eqI rfl rfl) (fun h41 => ?_) (fun h41 => ?_)
        · omega
        · refine X.opw X.wN rfl (X.pickF (v := .bool false) rfl rfl) ?_
          refine X.opsEnd ?_
          refine X.condF rfl ?_
          refine X.skip ?_
          refine X.seq ?_
          refine X.region ?_
          refine X.opw X.wN rfl (X.move rfl) ?_
          refine X.opw X.wN rfl (X.move (v := .int .u64 _) rfl) ?_
          refine X.opw X.wN rfl (X.move (v := .int .u32 _) rfl) ?_
          refine X.opE X.wN rfl (X.callE (turned_c at_ hat bits _ (hs5.keep hk6) (by omega) (by omega)) Tryd.call25 rfl rfl) ?_
          rintro _ w7 ⟨e7, f7, t7, v7, rfl, ⟨he7, hB7⟩, hM7, hk7⟩
          have hk7' := hk7.size
          refine X.opw X.wN rfl (X.move rfl) ?_
          refine X.opw X.wN rfl (X.extr rfl rfl) ?_
          refine X.opw X.wN rfl (X.extr rfl rfl) ?_
          refine X.opw X.wN rfl (X.assign rfl) ?_
          refine X.opw X.wN rfl (X.assign (v := .bool _) rfl) ?_
          refine X.opsEnd ?_
          refine X.seq ?_
          refine X.region ?_
          refine X.opw X.wN rfl (X.move rfl) ?_
          refine X.opw X.wN rfl (X.move (v := .int .u64 _) rfl) ?_
          refine X.opw X.wN rfl (X.move (v := .int .u32 _) rfl) ?_
          refine X.opE X.wN rfl (X.callE (turned_c at_ hat bits _ (hs6.keep hk7) (by omega) (by omega)) Tryd.call25 rfl rfl) ?_
          rintro _ w8 ⟨e8, f8, t8, v8, rfl, ⟨he8, hB8⟩, hM8, hk8⟩
          have hk8' := hk8.size
          refine X.opw X.wN rfl (X.move rfl) ?_
          refine X.opw X.wN rfl (X.extr rfl rfl) ?_
          refine X.opw X.wN rfl (X.extr rfl rfl) ?_
          refine X.opw X.wN rfl (X.assign rfl) ?_
          refine X.opw X.wN rfl (X.assign (v := .bool _) rfl) ?_
          refine X.opsEnd ?_
          refine X.seq ?_
          refine X.region ?_
          refine X.opw X.wN rfl (X.move rfl) ?_
          have q10 := (hM7.keep hk8).slF KB_flat 0 (fun _ _ => Nat.zero_le _)
          obtain ⟨A10, c10, rfl, hc10, hs10⟩ := q10
          refine X.opE X.wN rfl (X.callE ((Open_c _ hs10 (by omega) (by (try simp only [List.length_zipWith, hsl, hfl, List.length_append, List.length_cons, List.length_nil, List.length_take, List.length_drop, List.length_map, List.length_range]); omega) (hT.keep (((((((hk1.trans hk2).trans hk3).step hx4 (by intros; (try simp only [] at *); omega)).trans hk5).trans hk6).trans hk7).trans hk8))).mono fresh2) Tryd.call11 rfl rfl) ?_
          rintro _ w9 ⟨A9, c9, rfl, hc9, hs9, hM9, hk9⟩
          have hk9' := hk9.size
          refine X.opw X.wN rfl (X.move rfl) ?_
          refine X.opw X.wN rfl (X.extr rfl rfl) ?_
          refine X.opw X.wN rfl (X.extr rfl rfl) ?_
          refine X.opw X.wN rfl (X.assign rfl) ?_
          refine X.opw X.wN rfl (X.assign (v := .int .i64 _) rfl) ?_
          refine X.opsEnd ?_
          refine X.seq ?_
          refine X.region ?_
          refine X.opw X.wN rfl (X.move rfl) ?_
          have q12 := (hM8.keep hk9).slF KB_flat 0 (fun _ _ => Nat.zero_le _)
          obtain ⟨A12, c12, rfl, hc12, hs12⟩ := q12
          refine X.opE X.wN rfl (X.callE ((Unframe_c _ hs12 (by omega) (by (try simp only [List.length_zipWith, hsl, hfl, List.length_append, List.length_cons, List.length_nil, List.length_take, List.length_drop, List.length_map, List.length_range]); omega) (hT.keep ((((((((hk1.trans hk2).trans hk3).step hx4 (by intros; (try simp only [] at *); omega)).trans hk5).trans hk6).trans hk7).trans hk8).trans hk9))).mono fresh3) Tryd.call19 rfl rfl) ?_
          rintro _ w11 ⟨A11, c11, rfl, hc11, hs11, hM11, hk11⟩
          have hk11' := hk11.size
          refine X.opw X.wN rfl (X.move rfl) ?_
          refine X.opw X.wN rfl (X.extr rfl rfl) ?_
          refine X.opw X.wN rfl (X.extr rfl rfl) ?_
          refine X.opw X.wN rfl (X.extr rfl rfl) ?_
          refine X.opE X.wN rfl (X.allocE Tryd.zeroValue33 rfl) ?_
          rintro _ w13 ⟨rfl, hB13, hk13, hz13⟩
          refine X.opE X.wN rfl (X.storeNE Tryd.sizeOf33 hB13 rfl rfl rfl rfl (fun u hu => by simp at hu; rcases hu with rfl | rfl <;> rfl)) ?_
          rintro _ w14 ⟨hB14, hx14, hz14⟩
          refine X.opw X.wN rfl (X.assign (v := .int .i64 _) rfl) ?_
          refine X.opw X.wN rfl (X.assign (v := .int .i64 _) rfl) ?_
          refine X.opsEnd ?_
          refine X.seq ?_
          refine X.region ?_
          refine X.opw X.wN rfl (X.move (v := .bool _) rfl) ?_
          refine X.opw X.wN rfl (X.not_ rfl) ?_
          refine X.opw X.wN rfl (X.move (v := .bool _) rfl) ?_
          refine X.forkO 70 rfl (fun h70 => ?_) (fun h70 => ?_)
          · refine X.opS rfl rfl rfl rfl rfl ?_
            refine X.opS rfl rfl rfl rfl rfl ?_
            refine X.opw X.wN rfl (X.pickT (v := .bool true) rfl rfl) ?_
            refine X.opw X.wN rfl (X.move (v := .bool true) rfl) ?_
            refine X.opw (X.wG rfl rfl rfl) rfl (X.move (v := .bool _) rfl) ?_
            refine X.opw (X.wG rfl rfl rfl) rfl (X.not_ rfl) ?_
            refine X.opw (X.wG rfl rfl rfl) rfl (X.move (v := .bool _) rfl) ?_
            refine X.forkO 77 rfl (fun h77 => ?_) (fun h77 => ?_)
            · refine X.opS rfl rfl rfl rfl rfl ?_
              refine X.opS rfl rfl rfl rfl rfl ?_
              refine X.opw (X.wG rfl rfl rfl) rfl (X.pickT (v := .bool true) rfl rfl) ?_
              refine X.opw X.wN rfl (X.pickT (v := .bool true) rfl rfl) ?_
              refine X.opw X.wN rfl (X.assign (v := .bool true) rfl) ?_
              refine X.opsEnd ?_
              refine X.ret1 (v := (.bool _)) Tryd.func6 Tryd.results6 rfl ?_
              first
              | exact ⟨rfl, (((((((((((hk1.trans hk2).trans hk3).step hx4 (by intros; (try simp only [] at *); omega)).trans hk5).trans hk6).trans hk7).trans hk8).trans hk9).trans hk11).trans hk13).step hx14 (by intros; (try simp only [] at *); omega))⟩
              | (obtain rfl : t8 = true := by simpa using h77
                 exact ⟨congrArg Value.bool (decide_eq_true (frame_burst k _ _ (by rw [List.length_take]; omega) he8 hB8)), (((((((((((hk1.trans hk2).trans hk3).step hx4 (by intros; (try simp only [] at *); omega)).trans hk5).trans hk6).trans hk7).trans hk8).trans hk9).trans hk11).trans hk13).step hx14 (by intros; (try simp only [] at *); omega))⟩)
            · refine X.opw (X.wG rfl rfl rfl) rfl (X.move (v := .int .i64 _) rfl) ?_
              refine X.opw (X.wG rfl rfl rfl) rfl (X.neI rfl rfl) ?_
              refine X.opw (X.wG rfl rfl rfl) rfl (X.pickF (v := .bool _) rfl rfl) ?_
              refine X.opw X.wN rfl (X.pickT (v := .bool _) rfl rfl) ?_
              refine X.opw X.wN rfl (X.assign (v := .bool _) rfl) ?_
              refine X.opsEnd ?_
              refine X.ret1 (v := (.bool _)) Tryd.func6 Tryd.results6 rfl ?_
              first
              | exact ⟨rfl, (((((((((((hk1.trans hk2).trans hk3).step hx4 (by intros; (try simp only [] at *); omega)).trans hk5).trans hk6).trans hk7).trans hk8).trans hk9).trans hk11).trans hk13).step hx14 (by intros; (try simp only [] at *); omega))⟩
              | (obtain rfl : t8 = true := by simpa using h77
                 exact ⟨congrArg Value.bool (decide_eq_true (frame_burst k _ _ (by rw [List.length_take]; omega) he8 hB8)), (((((((((((hk1.trans hk2).trans hk3).step hx4 (by intros; (try simp only [] at *); omega)).trans hk5).trans hk6).trans hk7).trans hk8).trans hk9).trans hk11).trans hk13).step hx14 (by intros; (try simp only [] at *); omega))⟩)
          · refine X.opw (X.wG rfl rfl rfl) rfl (X.move (v := .int .i64 _) rfl) ?_
            refine X.opP (X.wG rfl rfl rfl) rfl rfl (X.neI rfl rfl) (fun h72 => ?_) (fun h72 => ?_)
            · refine X.opw X.wN rfl (X.pickF (v := .bool true) rfl rfl) ?_
              refine X.opw X.wN rfl (X.move (v := .bool true) rfl) ?_
              refine X.opw (X.wG rfl rfl rfl) rfl (X.move (v := .bool _) rfl) ?_
              refine X.opw (X.wG rfl rfl rfl) rfl (X.not_ rfl) ?_
              refine X.opw (X.wG rfl rfl rfl) rfl (X.move (v := .bool _) rfl) ?_
              refine X.forkO 77 rfl (fun h77 => ?_) (fun h77 => ?_)
              · refine X.opS rfl rfl rfl rfl rfl ?_
                refine X.opS rfl rfl rfl rfl rfl ?_
                refine X.opw (X.wG rfl rfl rfl) rfl (X.pickT (v := .bool true) rfl rfl) ?_
                refine X.opw X.wN rfl (X.pickT (v := .bool true) rfl rfl) ?_
                refine X.opw X.wN rfl (X.assign (v := .bool true) rfl) ?_
                refine X.opsEnd ?_
                refine X.ret1 (v := (.bool _)) Tryd.func6 Tryd.results6 rfl ?_
                first
                | exact ⟨rfl, (((((((((((hk1.trans hk2).trans hk3).step hx4 (by intros; (try simp only [] at *); omega)).trans hk5).trans hk6).trans hk7).trans hk8).trans hk9).trans hk11).trans hk13).step hx14 (by intros; (try simp only [] at *); omega))⟩
                | (obtain rfl : t8 = true := by simpa using h77
                   exact ⟨congrArg Value.bool (decide_eq_true (frame_burst k _ _ (by rw [List.length_take]; omega) he8 hB8)), (((((((((((hk1.trans hk2).trans hk3).step hx4 (by intros; (try simp only [] at *); omega)).trans hk5).trans hk6).trans hk7).trans hk8).trans hk9).trans hk11).trans hk13).step hx14 (by intros; (try simp only [] at *); omega))⟩)
              · refine X.opw (X.wG rfl rfl rfl) rfl (X.move (v := .int .i64 _) rfl) ?_
                refine X.opw (X.wG rfl rfl rfl) rfl (X.neI rfl rfl) ?_
                refine X.opw (X.wG rfl rfl rfl) rfl (X.pickF (v := .bool _) rfl rfl) ?_
                refine X.opw X.wN rfl (X.pickT (v := .bool _) rfl rfl) ?_
                refine X.opw X.wN rfl (X.assign (v := .bool _) rfl) ?_
                refine X.opsEnd ?_
                refine X.ret1 (v := (.bool _)) Tryd.func6 Tryd.results6 rfl ?_
                first
                | exact ⟨rfl, (((((((((((hk1.trans hk2).trans hk3).step hx4 (by intros; (try simp only [] at *); omega)).trans hk5).trans hk6).trans hk7).trans hk8).trans hk9).trans hk11).trans hk13).step hx14 (by intros; (try simp only [] at *); omega))⟩
                | (obtain rfl : t8 = true := by simpa using h77
                   exact ⟨congrArg Value.bool (decide_eq_true (frame_burst k _ _ (by rw [List.length_take]; omega) he8 hB8)), (((((((((((hk1.trans hk2).trans hk3).step hx4 (by intros; (try simp only [] at *); omega)).trans hk5).trans hk6).trans hk7).trans hk8).trans hk9).trans hk11).trans hk13).step hx14 (by intros; (try simp only [] at *); omega))⟩)
            · obtain rfl : t7 = true := by simpa using h70
              exact absurd (open_burst _ _ he7 hB7) h72
end Go.Proofs.YtleaidgngkfjbaaDoor
