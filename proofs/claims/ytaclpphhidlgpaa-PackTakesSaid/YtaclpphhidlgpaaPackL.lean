/- The reader of package pack: what it does to the bytes that are left. -/
import Derived.Test.YtaclpphhidlgpaaPackP
import Derived.Test.YtaclpphhidlgpaaXDefer
namespace Go.Proofs.Ytaclpphhidlgpaa
open Go Go.Proofs.Ytaclpphhidlgpaa.X
set_option linter.unusedVariables false
set_option linter.unusedSimpArgs false

/-- The panic that ends a reading. -/
abbrev FAULT : Value := .iface 88 (.agg #[])
/-- A reader at block rb, over bytes in blocks below hi: xs are left, of T. -/
def Rd (w : World) (hi rb T : Nat) (xs : List UInt8) : Prop :=
  ∃ A c, xs.length ≤ c ∧ Blk w rb [.slice A xs.length c, .int .i64 ((T : Int) - (xs.length : Int))] 85 ∧ Sl KB 0 hi w A xs.length xs ∧ hi ≤ rb ∧ xs.length ≤ T ∧ T ≤ 1000000
theorem Rd.keep {w w' : World} {hi rb T : Nat} {xs : List UInt8} (h : Rd w hi rb T xs) (x : Keep w w') : Rd w' hi rb T xs := by
  obtain ⟨A, c, h1, h2, h3, h4⟩ := h
  exact ⟨A, c, h1, h2.keep x, h3.keep x, h4⟩
theorem Rd.ext {w w' : World} {hi rb T : Nat} {xs : List UInt8} {U : Nat → Prop} (h : Rd w hi rb T xs) (x : Ext U w w') (hU : ∀ k, k ≤ rb → ¬ U k) : Rd w' hi rb T xs := by
  obtain ⟨A, c, h1, h2, h3, h4, h5⟩ := h
  exact ⟨A, c, h1, h2.ext x (hU rb (Nat.le_refl _)), h3.ext x (fun k _ hk => hU k (by omega)), h4, h5⟩
theorem Rd.lt {w : World} {hi rb T : Nat} {xs : List UInt8} (h : Rd w hi rb T xs) : rb < w.heap.size := by
  obtain ⟨A, c, h1, h2, _⟩ := h
  exact h2.lt
theorem Rd.T {w : World} {hi rb T : Nat} {xs : List UInt8} (h : Rd w hi rb T xs) : hi ≤ rb ∧ xs.length ≤ T ∧ T ≤ 1000000 := by
  obtain ⟨A, c, h1, h2, h3, h4⟩ := h
  exact h4
/-- A method that reads: p tells what. -/
def PP {α : Type} (f : Nat) (args : Array Value) (w : World) (hi rb T : Nat) (p : Option (α × List UInt8)) (V : α → Value → World → Prop) : Prop :=
  PRet Try.prog f args w FAULT p (fun b v w' => V b.1 v w' ∧ Rd w' hi rb T b.2 ∧ Ext (fun k => k = rb) w w') (fun w' => Ext (fun k => k = rb) w w')
-- f68 "pedigree/pack.over" params [25] results [81] -> [(ResultVar.tmp 2)] nfree 0 ntmps 7 names ["b", "b", "
set_option maxHeartbeats 4000000 in
set_option maxRecDepth 100000 in
theorem over_c {A : Option Addr} {n c : Nat} {xs : List UInt8} (w : World) (hs : Sl KB 0 w.heap.size w A n xs) (hnc : n ≤ c) (hn : n ≤ 1000000) : Ret Try.prog 68 #[.slice A n c] w fun r w' => r = .pointer (some ⟨w.heap.size, 0, none⟩) ∧ Rd w' w.heap.size w.heap.size n xs ∧ Keep w w' ∧ w'.heap.size = w.heap.size + 1 := by
  have hl := hs.len
  subst hl
  refine X.enter Try.func68 rfl Try.ntmps68 rfl ?_
  refine X.seq ?_
  refine X.region ?_
  refine X.opw X.wN rfl (X.assign rfl) ?_
  refine X.opsEnd ?_
  refine X.seq ?_
  refine X.region ?_
  refine X.opw X.wN rfl (X.move (v := .slice _ _ _) rfl) ?_
  refine X.opw X.wN rfl (X.buildB (cs := #[.slice A xs.length c]) rfl (by kernel_rfl)) ?_
  refine X.opw X.wN rfl (X.buildB (cs := #[.slice A xs.length c, .int .i64 0]) rfl (by kernel_rfl)) ?_
  refine X.opE X.wN rfl (X.boxE rfl rfl) ?_
  rintro _ w1 ⟨rfl, hB1, hk1, hz1⟩
  refine X.opw X.wN rfl (X.assign rfl) ?_
  refine X.opsEnd ?_
  refine X.ret1 Try.func68 Try.results68 rfl ?_
  exact ⟨rfl, ⟨A, c, hnc, by rw [Int.sub_self]; exact hB1, hs.keep hk1, Nat.le_refl _, Nat.le_refl _, hn⟩, hk1, by omega⟩
-- f69 "(*pedigree/pack.reader).some" params [81, 3] results [25] -> [(ResultVar.tmp 4)] nfree 0 ntmps 43 name
set_option maxHeartbeats 4000000 in
set_option maxRecDepth 100000 in
theorem some_c (hi rb T : Nat) (xs : List UInt8) (m : Int) (h0 : 0 ≤ m) (w : World) (hr : Rd w hi rb T xs) :
    PRet Try.prog 69 #[.pointer (some ⟨rb, 0, none⟩), .int .i64 m] w FAULT (if m ≤ (xs.length : Int) then some () else none)
      (fun _ v w' => (∃ A c, v = .slice A m.toNat c ∧ m.toNat ≤ c ∧ Sl KB 0 hi w' A m.toNat (xs.take m.toNat)) ∧ Rd w' hi rb T (xs.drop m.toNat) ∧ Ext (fun k => k = rb) w w') (fun w' => Ext (fun k => k = rb) w w') := by
  obtain ⟨A, c, hnc, hB, hs, hhr, hT1, hT2⟩ := hr
  refine X.enter Try.func69 rfl Try.ntmps69 rfl ?_
  refine X.seq ?_
  refine X.region ?_
  refine X.opw X.wN rfl (X.assign rfl) ?_
  refine X.opsEnd ?_
  refine X.seq ?_
  refine X.seq ?_
  refine X.region ?_
  refine X.opw X.wN rfl (X.move (v := .int .i64 _) rfl) ?_
  refine X.opw X.wN rfl (X.move rfl) ?_
  refine X.opw X.wN rfl (X.nilCk rfl) ?_
  refine X.opw X.wN rfl (X.fldB (j := 0) Try.underlying85 rfl rfl Try.sizeOf83 rfl) ?_
  refine X.opw X.wN rfl (X.fldB (j := 0) Try.underlying83 rfl rfl Try.sizeOf25 rfl) ?_
  refine X.opw X.wN rfl (X.load1B Try.isAgg25 hB rfl rfl) ?_
  refine X.opw X.wN rfl (X.lenSl Try.underlying25 rfl) ?_
  refine X.opP X.wN rfl rfl (X.gtr rfl rfl) (fun h13 => ?_) (fun h13 => ?_)
  · rw [if_neg (by omega)]
    refine X.opsEnd ?_
    refine X.condT rfl ?_
    refine X.region ?_
    refine X.opw X.wN rfl (X.buildB (cs := #[]) rfl (by kernel_rfl)) ?_
    refine X.opw X.wN rfl (X.mkIface Try.underlying88 rfl rfl) ?_
    refine X.opPanic X.wN rfl ?_
    refine X.unw_pan Try.func69 ?_
    exact ⟨rfl, (Ext.refl (fun k => k = rb) _)⟩
  · have hm : m.toNat ≤ xs.length := by omega
    rw [if_pos (by omega)]
    refine X.opsEnd ?_
    refine X.condF rfl ?_
    refine X.skip ?_
    refine X.seq ?_
    refine X.region ?_
    refine X.opw X.wN rfl (X.move rfl) ?_
    refine X.opw X.wN rfl (X.nilCk rfl) ?_
    refine X.opw X.wN rfl (X.fldB (j := 0) Try.underlying85 rfl rfl Try.sizeOf83 rfl) ?_
    refine X.opw X.wN rfl (X.fldB (j := 0) Try.underlying83 rfl rfl Try.sizeOf25 rfl) ?_
    refine X.opw X.wN rfl (X.load1B Try.isAgg25 hB rfl rfl) ?_
    refine X.opw X.wN rfl (X.move (v := .int .i64 _) rfl) ?_
    refine X.opw X.wN rfl (X.cutHr Try.underlying25 Try.sizeOf5 rfl rfl (by omega)) ?_
    refine X.opw X.wN rfl (X.assign (v := .slice _ _ _) rfl) ?_
    refine X.opsEnd ?_
    refine X.seq ?_
    refine X.region ?_
    refine X.opw X.wN rfl (X.move rfl) ?_
    refine X.opw X.wN rfl (X.move rfl) ?_
    refine X.opw X.wN rfl (X.nilCk rfl) ?_
    refine X.opw X.wN rfl (X.fldB (j := 0) Try.underlying85 rfl rfl Try.sizeOf83 rfl) ?_
    refine X.opw X.wN rfl (X.fldB (j := 0) Try.underlying83 rfl rfl Try.sizeOf25 rfl) ?_
    refine X.opw X.wN rfl (X.load1B Try.isAgg25 hB rfl rfl) ?_
    refine X.opw X.wN rfl (X.move (v := .int .i64 _) rfl) ?_
    refine X.opw X.wN rfl (X.cutL Try.underlying25 Try.sizeOf5 rfl rfl (by omega)) ?_
    refine X.opw X.wN rfl (X.nilCk rfl) ?_
    refine X.opw X.wN rfl (X.fldB (j := 0) Try.underlying85 rfl rfl Try.sizeOf83 rfl) ?_
    refine X.opw X.wN rfl (X.fldB (j := 0) Try.underlying83 rfl rfl Try.sizeOf25 rfl) ?_
    refine X.opE X.wN rfl (X.storeE Try.sizeOf25 hB rfl rfl rfl rfl) ?_
    rintro _ w1 ⟨hB1, hx1, hz1⟩
    refine X.opsEnd ?_
    refine X.seq ?_
    refine X.region ?_
    refine X.opw X.wN rfl (X.move rfl) ?_
    refine X.opw X.wN rfl (X.nilCk rfl) ?_
    refine X.opw X.wN rfl (X.fldB (j := 1) Try.underlying85 rfl rfl Try.sizeOf3 rfl) ?_
    refine X.opw X.wN rfl (X.load1B Try.isAgg3 hB1 rfl rfl) ?_
    refine X.opw X.wN rfl (X.move (v := .int .i64 _) rfl) ?_
    refine X.opw X.wN rfl (X.add rfl rfl (X.w_i64 (by omega))) ?_
    refine X.opw X.wN rfl (X.nilCk rfl) ?_
    refine X.opw X.wN rfl (X.fldB (j := 1) Try.underlying85 rfl rfl Try.sizeOf3 rfl) ?_
    refine X.opE X.wN rfl (X.storeE Try.sizeOf3 hB1 rfl rfl rfl rfl) ?_
    rintro _ w2 ⟨hB2, hx2, hz2⟩
    refine X.opsEnd ?_
    refine X.seq ?_
    refine X.region ?_
    refine X.opw X.wN rfl (X.move (v := .slice _ _ _) rfl) ?_
    refine X.opw X.wN rfl (X.assign (v := .slice _ _ _) rfl) ?_
    refine X.opsEnd ?_
    refine X.ret1 Try.func69 Try.results69 rfl ?_
    refine ⟨_, rfl, ⟨A, c, rfl, by omega, (((hs.take _ (by omega)).ext hx1 (by intros; (try simp only []); omega)).ext hx2 (by intros; (try simp only []); omega))⟩, ?_, (Ext.andThen (Ext.andThen (Ext.refl (fun k => k = rb) _) hx1 (by intro k h1 h2; first | exact h2.elim | omega | (simp only [] at *; omega))) hx2 (by intro k h1 h2; first | exact h2.elim | omega | (simp only [] at *; omega)))⟩
    have hd : (xs.drop m.toNat).length = xs.length - m.toNat := List.length_drop
    refine ⟨_, _, ?_, by rw [hd]; have e := hB2; rw [show (T : Int) - ((xs.length - m.toNat : Nat) : Int) = (T : Int) - (xs.length : Int) + m by omega]; exact e, by rw [hd]; exact (((hs.ext hx1 (by intros; (try simp only []); omega)).ext hx2 (by intros; (try simp only []); omega)).drop m.toNat c hm hnc), hhr, by omega, hT2⟩
    omega
theorem head_some {l : List UInt8} {x : UInt8} (h : l.head? = some x) : ∃ ys, l = x :: ys := by
  cases l with
  | nil => cases h
  | cons y ys => cases h; exact ⟨ys, rfl⟩
theorem head_none {l : List UInt8} (h : l.head? = none) : l = [] := by
  cases l with
  | nil => rfl
  | cons y ys => cases h
theorem some1_c (hi rb T : Nat) (xs : List UInt8) (w : World) (hr : Rd w hi rb T xs) :
    PRet Try.prog 69 #[.pointer (some ⟨rb, 0, none⟩), .int .i64 1] w FAULT xs.head?
      (fun x v w' => (∃ A c, v = .slice A 1 c ∧ 1 ≤ c ∧ Sl KB 0 hi w' A 1 [x]) ∧ Rd w' hi rb T xs.tail ∧ Ext (fun k => k = rb) w w') (fun w' => Ext (fun k => k = rb) w w') := by
  refine (some_c hi rb T xs 1 (by decide) w hr).mono fun o w' h => ?_
  cases xs with
  | nil => exact h
  | cons x ys =>
    rw [if_pos (by simp only [List.length_cons]; omega)] at h
    exact h
/-- A number that is read. -/
def pNum : Nat → Nat → List UInt8 → Option (Nat × List UInt8)
  | _, _, [] => none
  | i, acc, c :: xs => if (i = 9 ∧ 1 < c.toNat) ∨ (0 < i ∧ c.toNat = 0) then none else if c.toNat < 128 then some (acc + c.toNat % 128 * 128 ^ i, xs) else pNum (i + 1) (acc + c.toNat % 128 * 128 ^ i) xs
theorem pow128 (i : Nat) (h : i ≤ 9) : 128 ^ i * 128 = 128 ^ (i + 1) ∧ 0 < 128 ^ i ∧ (i ≤ 8 → 128 ^ (i + 1) ≤ 9223372036854775808) ∧ (i = 9 → 128 ^ i = 9223372036854775808) := by
  refine ⟨(Nat.pow_succ ..).symm, Nat.pow_pos (by decide), fun h8 => ?_, fun h9 => by subst h9; decide⟩
  have : 128 ^ (i + 1) ≤ 128 ^ 9 := Nat.pow_le_pow_right (by decide) (by omega)
  exact Nat.le_trans this (by decide)
theorem num_bound {i acc : Nat} (c : UInt8) (hi : i ≤ 9) (ha : acc < 128 ^ i) (h9 : ¬ (i = 9 ∧ 1 < c.toNat)) : acc + c.toNat % 128 * 128 ^ i < 18446744073709551616 ∧ acc + c.toNat % 128 * 128 ^ i < 128 ^ (i + 1) ∧ (128 ≤ c.toNat → i ≤ 8) := by
  obtain ⟨p1, p2, p3, p4⟩ := pow128 i hi
  have hc : c.toNat % 128 ≤ 127 := by omega
  have hm := Nat.mul_le_mul_right (128 ^ i) hc
  have hm2 : c.toNat ≤ 1 → c.toNat % 128 * 128 ^ i ≤ 1 * 128 ^ i := fun h => Nat.mul_le_mul_right _ (by omega)
  generalize c.toNat % 128 * 128 ^ i = q at *
  refine ⟨?_, by omega, fun h => by omega⟩
  rcases (by omega : i ≤ 8 ∨ i = 9) with h | h
  · have := p3 h; omega
  · have := p4 h
    subst h
    have h1 := hm2 (by omega)
    omega
theorem u8_and (c : UInt8) : IntKind.u8.wrap ((BitVec.ofInt IntKind.u8.bits (c.toNat : Int) &&& BitVec.ofInt IntKind.u8.bits 127).toNat : Int) = ((c.toNat % 128 : Nat) : Int) := by
  have hc := c.toNat_lt
  show IntKind.u8.wrap ((BitVec.ofInt 8 (c.toNat : Int) &&& 127#8).toNat : Int) = _
  rw [BitVec.ofInt_natCast, BitVec.toNat_and, BitVec.toNat_ofNat, BitVec.toNat_ofNat, u8_wrap]
  have : c.toNat % 2 ^ 8 &&& 127 % 2 ^ 8 = c.toNat % 128 := by
    rw [show (127 : Nat) % 2 ^ 8 = 2 ^ 7 - 1 by decide, Nat.and_two_pow_sub_one_eq_mod]
    omega
  rw [this]; omega
theorem pow7 (i : Nat) : (128 : Nat) ^ i = 2 ^ (7 * i) := by rw [Nat.pow_mul]
theorem shl_7 (d i : Nat) (hi : i ≤ 9) (h : d * 128 ^ i < 18446744073709551616) : IntKind.u64.wrap (((d : Nat) : Int) * 2 ^ (min (7 * (i : Int)).toNat IntKind.u64.bits)) = ((d * 128 ^ i : Nat) : Int) := by
  have e : min (7 * (i : Int)).toNat IntKind.u64.bits = 7 * i := by
    show min _ 64 = _
    omega
  rw [e, show ((d : Int) * 2 ^ (7 * i)) = ((d * 128 ^ i : Nat) : Int) by rw [pow7]; push_cast; rfl]
  exact w_u64 (by omega)
theorem or_7 (acc d i : Nat) (ha : acc < 128 ^ i) (h : acc + d * 128 ^ i < 18446744073709551616) : IntKind.u64.wrap ((BitVec.ofInt IntKind.u64.bits ((acc : Nat) : Int) ||| BitVec.ofInt IntKind.u64.bits ((d * 128 ^ i : Nat) : Int)).toNat : Int) = ((acc + d * 128 ^ i : Nat) : Int) := by
  show IntKind.u64.wrap ((BitVec.ofInt 64 ((acc : Nat) : Int) ||| BitVec.ofInt 64 ((d * 128 ^ i : Nat) : Int)).toNat : Int) = _
  have e : acc ||| d * 128 ^ i = acc + d * 128 ^ i := by
    rw [pow7] at ha ⊢
    rw [Nat.or_comm, Nat.mul_comm d, ← Nat.two_pow_add_eq_or_of_lt ha, Nat.add_comm]
  rw [BitVec.ofInt_natCast, BitVec.ofInt_natCast, BitVec.toNat_or, BitVec.toNat_ofNat, BitVec.toNat_ofNat, Nat.mod_eq_of_lt (by omega), Nat.mod_eq_of_lt (by omega), e]
  exact w_u64 (by omega)
-- f51 "(*pedigree/pack.reader).num" params [81] results [33] -> [(ResultVar.tmp 2)] nfree 0 ntmps 39 names ["
set_option maxHeartbeats 4000000 in
set_option maxRecDepth 100000 in
theorem num_c (hi rb T : Nat) (xs : List UInt8) (w : World) (hr : Rd w hi rb T xs) : PP 51 #[.pointer (some ⟨rb, 0, none⟩)] w hi rb T (pNum 0 0 xs) (fun a v _ => v = .int .u64 ((a : Nat) : Int) ∧ a < 18446744073709551616) := by
  have hrl := hr.lt
  refine X.enter Try.func51 rfl Try.ntmps51 rfl ?_
  refine X.seq ?_
  refine X.region ?_
  refine X.opw X.wN rfl (X.assign rfl) ?_
  refine X.opsEnd ?_
  refine X.seq ?_
  refine X.region ?_
  refine X.opw X.wN rfl (X.assign rfl) ?_
  refine X.opsEnd ?_
  refine X.seq ?_
  refine X.region ?_
  refine X.opw X.wN rfl (X.assign rfl) ?_
  refine X.opsEnd ?_
  refine X.block ?_
  -- LOOP live: 0=r, 3=x*, 4=i*
  refine X.loopL (σ := Nat × Nat × List UInt8) (fun s => [(0, .pointer (some ⟨rb, 0, none⟩)), (3, .int .u64 ((s.2.1 : Nat) : Int)), (4, .int .u64 ((s.1 : Nat) : Int))]) (fun s w' => s.1 ≤ 9 ∧ s.2.1 < 128 ^ s.1 ∧ Rd w' hi rb T s.2.2 ∧ pNum s.1 s.2.1 s.2.2 = pNum 0 0 xs ∧ Ext (fun k => k = rb) w w') (fun s => s.2.2.length) (0, 0, xs) ⟨rfl, rfl, rfl, trivial⟩ ⟨by simp, by simp, hr, rfl, (Ext.refl (fun k => k = rb) _)⟩ ?_
  rintro ⟨i, acc, l⟩ b wl ⟨hi0, ha, hR, hp, hk⟩ hback
  simp only at hi0 ha hR hp
  have hk' := hk.size
  refine X.seq ?_
  refine X.block ?_
  refine X.seq ?_
  refine X.region ?_
  refine X.opw X.wN rfl (X.move rfl) ?_
  refine X.opPR (some1_c hi rb T _ _ hR) X.wN rfl Try.call69 rfl (fun x1 hb1 => ?_) (fun hb1 => ?_)
  · rintro _ w1 ⟨⟨A1, c1, rfl, hcc1, hs1⟩, hR1, hx1⟩
    have hx1' := hx1.size
    obtain ⟨ys1, rfl⟩ := head_some hb1
    simp only [List.tail_cons] at hR1
    refine X.opw X.wN rfl (X.idxS hs1 Try.underlying25 Try.sizeOf5 rfl rfl ⟨by omega, by omega⟩) ?_
    refine X.opw X.wN rfl (X.loadS Try.isAgg5 hs1 (j := 0) rfl rfl (fun _ h => by rw [h.1]; rfl)) ?_
    refine X.opw X.wN rfl (X.assign (v := .int .u8 _) rfl) ?_
    refine X.opsEnd ?_
    refine X.seq ?_
    refine X.seq ?_
    refine X.region ?_
    refine X.opw X.wN rfl (X.move (v := .int .u64 _) rfl) ?_
    refine X.opP X.wN rfl rfl (X.eqI rfl rfl) (fun h13 => ?_) (fun h13 => ?_)
    · refine X.opw X.wN rfl (X.move (v := .bool true) rfl) ?_
      refine X.opw (X.wG rfl rfl rfl) rfl (X.move (v := .int .u8 _) rfl) ?_
      refine X.opP (X.wG rfl rfl rfl) rfl rfl (X.gtr rfl rfl) (fun h16 => ?_) (fun h16 => ?_)
      · refine X.opw X.wN rfl (X.pickT (v := .bool true) rfl rfl) ?_
        refine X.opw X.wN rfl (X.move (v := .bool true) rfl) ?_
        refine X.opS rfl rfl rfl rfl rfl ?_
        refine X.opS rfl rfl rfl rfl rfl ?_
        refine X.opS rfl rfl rfl rfl rfl ?_
        refine X.opU rfl rfl rfl rfl ?_
        refine X.opU rfl rfl rfl rfl ?_
        refine X.opS rfl rfl rfl rfl rfl ?_
        refine X.opw X.wN rfl (X.pickT (v := .bool true) rfl rfl) ?_
        refine X.opsEnd ?_
        refine X.condT rfl ?_
        refine X.region ?_
        refine X.opw X.wN rfl (X.buildB (cs := #[]) rfl (by kernel_rfl)) ?_
        refine X.opw X.wN rfl (X.mkIface Try.underlying88 rfl rfl) ?_
        refine X.opPanic X.wN rfl ?_
        refine X.unw_pan Try.func51 ?_
        first
        | (rw [← hp, head_none hb1]; exact ⟨rfl, (Ext.andThen (Ext.andThen (Ext.refl (fun k => k = rb) _) hk (by intro k h1 h2; first | exact h2.elim | omega | (simp only [] at *; omega))) hx1 (by intro k h1 h2; first | exact h2.elim | omega | (simp only [] at *; omega)))⟩)
        | (rw [← hp, pNum, if_pos (by omega)]; exact ⟨rfl, (Ext.andThen (Ext.andThen (Ext.refl (fun k => k = rb) _) hk (by intro k h1 h2; first | exact h2.elim | omega | (simp only [] at *; omega))) hx1 (by intro k h1 h2; first | exact h2.elim | omega | (simp only [] at *; omega)))⟩)
      · refine X.opw X.wN rfl (X.pickT (v := .bool false) rfl rfl) ?_
        refine X.opw X.wN rfl (X.move (v := .bool false) rfl) ?_
        refine X.opw (X.wG rfl rfl rfl) rfl (X.move (v := .int .u64 _) rfl) ?_
        refine X.opP (X.wG rfl rfl rfl) rfl rfl (X.gtr rfl rfl) (fun h20 => ?_) (fun h20 => ?_)
        · refine X.opw (X.wG rfl rfl rfl) rfl (X.move (v := .bool true) rfl) ?_
          refine X.opw (X.wG rfl rfl rfl) rfl (X.move (v := .int .u8 _) rfl) ?_
          refine X.opP (X.wG rfl rfl rfl) rfl rfl (X.eqI rfl rfl) (fun h23 => ?_) (fun h23 => ?_)
          · refine X.opw (X.wG rfl rfl rfl) rfl (X.pickT (v := .bool true) rfl rfl) ?_
            refine X.opw X.wN rfl (X.pickF (v := .bool true) rfl rfl) ?_
            refine X.opsEnd ?_
            refine X.condT rfl ?_
            refine X.region ?_
            refine X.opw X.wN rfl (X.buildB (cs := #[]) rfl (by kernel_rfl)) ?_
            refine X.opw X.wN rfl (X.mkIface Try.underlying88 rfl rfl) ?_
            refine X.opPanic X.wN rfl ?_
            refine X.unw_pan Try.func51 ?_
            first
            | (rw [← hp, head_none hb1]; exact ⟨rfl, (Ext.andThen (Ext.andThen (Ext.refl (fun k => k = rb) _) hk (by intro k h1 h2; first | exact h2.elim | omega | (simp only [] at *; omega))) hx1 (by intro k h1 h2; first | exact h2.elim | omega | (simp only [] at *; omega)))⟩)
            | (rw [← hp, pNum, if_pos (by omega)]; exact ⟨rfl, (Ext.andThen (Ext.andThen (Ext.refl (fun k => k = rb) _) hk (by intro k h1 h2; first | exact h2.elim | omega | (simp only [] at *; omega))) hx1 (by intro k h1 h2; first | exact h2.elim | omega | (simp only [] at *; omega)))⟩)
          · refine X.opw (X.wG rfl rfl rfl) rfl (X.pickT (v := .bool false) rfl rfl) ?_
            refine X.opw X.wN rfl (X.pickF (v := .bool false) rfl rfl) ?_
            refine X.opsEnd ?_
            refine X.condF rfl ?_
            refine X.skip ?_
            refine X.seq ?_
            refine X.region ?_
            refine X.opw X.wN rfl (X.move (v := .int .u64 _) rfl) ?_
            refine X.opw X.wN rfl (X.move (v := .int .u8 _) rfl) ?_
            refine X.opw X.wN rfl (X.and_ rfl rfl (u8_and x1)) ?_
            refine X.opw X.wN rfl (X.cvI Try.underlying5 Try.underlying33 rfl (X.w_u64 (by omega))) ?_
            refine X.opw X.wN rfl (X.move (v := .int .u64 _) rfl) ?_
            refine X.opw X.wN rfl (X.mul rfl rfl (X.w_u64 (by omega))) ?_
            refine X.opw X.wN rfl (X.shl rfl rfl (by omega) (shl_7 _ i hi0 (Nat.lt_of_le_of_lt (Nat.le_add_left _ acc) (num_bound x1 hi0 ha (by omega)).1))) ?_
            refine X.opw X.wN rfl (X.or_ rfl rfl (or_7 acc _ i ha (num_bound x1 hi0 ha (by omega)).1)) ?_
            refine X.opw X.wN rfl (X.assign (v := .int .u64 _) rfl) ?_
            refine X.opsEnd ?_
            refine X.seq ?_
            refine X.region ?_
            refine X.opw X.wN rfl (X.move (v := .int .u8 _) rfl) ?_
            refine X.opP X.wN rfl rfl (X.lss rfl rfl) (fun h37 => ?_) (fun h37 => ?_)
            · refine X.opsEnd ?_
              refine X.condT rfl ?_
              refine X.seq ?_
              refine X.region ?_
              refine X.opw X.wN rfl (X.move (v := .int .u64 _) rfl) ?_
              refine X.opw X.wN rfl (X.assign (v := .int .u64 _) rfl) ?_
              refine X.opsEnd ?_
              refine X.ret1 (v := (.int .u64 _)) Try.func51 Try.results51 rfl ?_
              rw [← hp, pNum, if_neg (by omega), if_pos (by omega)]
              exact ⟨_, rfl, ⟨rfl, (num_bound x1 hi0 ha (by omega)).1⟩, hR1, (Ext.andThen (Ext.andThen (Ext.refl (fun k => k = rb) _) hk (by intro k h1 h2; first | exact h2.elim | omega | (simp only [] at *; omega))) hx1 (by intro k h1 h2; first | exact h2.elim | omega | (simp only [] at *; omega)))⟩
            · refine X.opsEnd ?_
              refine X.condF rfl ?_
              refine X.skip ?_
              refine X.inBlock ?_
              refine X.region ?_
              refine X.opw X.wN rfl (X.move (v := .int .u64 _) rfl) ?_
              refine X.opw X.wN rfl (X.add rfl rfl (X.w_u64 (by omega))) ?_
              refine X.opw X.wN rfl (X.assign (v := .int .u64 _) rfl) ?_
              refine X.opsEnd ?_
              refine hback (i + 1, acc + x1.toNat % 128 * 128 ^ i, ys1) _ _ ⟨rfl, rfl, rfl, trivial⟩ ⟨by have := (num_bound x1 hi0 ha (by omega)).2.2; simp only []; omega, (num_bound x1 hi0 ha (by omega)).2.1, hR1, by rw [← hp, pNum, if_neg (by omega), if_neg (by omega)], (Ext.andThen (Ext.andThen (Ext.refl (fun k => k = rb) _) hk (by intro k h1 h2; first | exact h2.elim | omega | (simp only [] at *; omega))) hx1 (by intro k h1 h2; first | exact h2.elim | omega | (simp only [] at *; omega)))⟩ (by simp)
        · refine X.opw (X.wG rfl rfl rfl) rfl (X.move (v := .bool false) rfl) ?_
          refine X.opS rfl rfl rfl rfl rfl ?_
          refine X.opS rfl rfl rfl rfl rfl ?_
          refine X.opw (X.wG rfl rfl rfl) rfl (X.pickF (v := .bool false) rfl rfl) ?_
          refine X.opw X.wN rfl (X.pickF (v := .bool false) rfl rfl) ?_
          refine X.opsEnd ?_
          refine X.condF rfl ?_
          refine X.skip ?_
          refine X.seq ?_
          refine X.region ?_
          refine X.opw X.wN rfl (X.move (v := .int .u64 _) rfl) ?_
          refine X.opw X.wN rfl (X.move (v := .int .u8 _) rfl) ?_
          refine X.opw X.wN rfl (X.and_ rfl rfl (u8_and x1)) ?_
          refine X.opw X.wN rfl (X.cvI Try.underlying5 Try.underlying33 rfl (X.w_u64 (by omega))) ?_
          refine X.opw X.wN rfl (X.move (v := .int .u64 _) rfl) ?_
          refine X.opw X.wN rfl (X.mul rfl rfl (X.w_u64 (by omega))) ?_
          refine X.opw X.wN rfl (X.shl rfl rfl (by omega) (shl_7 _ i hi0 (Nat.lt_of_le_of_lt (Nat.le_add_left _ acc) (num_bound x1 hi0 ha (by omega)).1))) ?_
          refine X.opw X.wN rfl (X.or_ rfl rfl (or_7 acc _ i ha (num_bound x1 hi0 ha (by omega)).1)) ?_
          refine X.opw X.wN rfl (X.assign (v := .int .u64 _) rfl) ?_
          refine X.opsEnd ?_
          refine X.seq ?_
          refine X.region ?_
          refine X.opw X.wN rfl (X.move (v := .int .u8 _) rfl) ?_
          refine X.opP X.wN rfl rfl (X.lss rfl rfl) (fun h37 => ?_) (fun h37 => ?_)
          · refine X.opsEnd ?_
            refine X.condT rfl ?_
            refine X.seq ?_
            refine X.region ?_
            refine X.opw X.wN rfl (X.move (v := .int .u64 _) rfl) ?_
            refine X.opw X.wN rfl (X.assign (v := .int .u64 _) rfl) ?_
            refine X.opsEnd ?_
            refine X.ret1 (v := (.int .u64 _)) Try.func51 Try.results51 rfl ?_
            rw [← hp, pNum, if_neg (by omega), if_pos (by omega)]
            exact ⟨_, rfl, ⟨rfl, (num_bound x1 hi0 ha (by omega)).1⟩, hR1, (Ext.andThen (Ext.andThen (Ext.refl (fun k => k = rb) _) hk (by intro k h1 h2; first | exact h2.elim | omega | (simp only [] at *; omega))) hx1 (by intro k h1 h2; first | exact h2.elim | omega | (simp only [] at *; omega)))⟩
          · refine X.opsEnd ?_
            refine X.condF rfl ?_
            refine X.skip ?_
            refine X.inBlock ?_
            refine X.region ?_
            refine X.opw X.wN rfl (X.move (v := .int .u64 _) rfl) ?_
            refine X.opw X.wN rfl (X.add rfl rfl (X.w_u64 (by omega))) ?_
            refine X.opw X.wN rfl (X.assign (v := .int .u64 _) rfl) ?_
            refine X.opsEnd ?_
            refine hback (i + 1, acc + x1.toNat % 128 * 128 ^ i, ys1) _ _ ⟨rfl, rfl, rfl, trivial⟩ ⟨by have := (num_bound x1 hi0 ha (by omega)).2.2; simp only []; omega, (num_bound x1 hi0 ha (by omega)).2.1, hR1, by rw [← hp, pNum, if_neg (by omega), if_neg (by omega)], (Ext.andThen (Ext.andThen (Ext.refl (fun k => k = rb) _) hk (by intro k h1 h2; first | exact h2.elim | omega | (simp only [] at *; omega))) hx1 (by intro k h1 h2; first | exact h2.elim | omega | (simp only [] at *; omega)))⟩ (by simp)
    · refine X.opw X.wN rfl (X.move (v := .bool false) rfl) ?_
      refine X.opS rfl rfl rfl rfl rfl ?_
      refine X.opS rfl rfl rfl rfl rfl ?_
      refine X.opw X.wN rfl (X.pickF (v := .bool false) rfl rfl) ?_
      refine X.opw X.wN rfl (X.move (v := .bool false) rfl) ?_
      refine X.opw (X.wG rfl rfl rfl) rfl (X.move (v := .int .u64 _) rfl) ?_
      refine X.opP (X.wG rfl rfl rfl) rfl rfl (X.gtr rfl rfl) (fun h20 => ?_) (fun h20 => ?_)
      · refine X.opw (X.wG rfl rfl rfl) rfl (X.move (v := .bool true) rfl) ?_
        refine X.opw (X.wG rfl rfl rfl) rfl (X.move (v := .int .u8 _) rfl) ?_
        refine X.opP (X.wG rfl rfl rfl) rfl rfl (X.eqI rfl rfl) (fun h23 => ?_) (fun h23 => ?_)
        · refine X.opw (X.wG rfl rfl rfl) rfl (X.pickT (v := .bool true) rfl rfl) ?_
          refine X.opw X.wN rfl (X.pickF (v := .bool true) rfl rfl) ?_
          refine X.opsEnd ?_
          refine X.condT rfl ?_
          refine X.region ?_
          refine X.opw X.wN rfl (X.buildB (cs := #[]) rfl (by kernel_rfl)) ?_
          refine X.opw X.wN rfl (X.mkIface Try.underlying88 rfl rfl) ?_
          refine X.opPanic X.wN rfl ?_
          refine X.unw_pan Try.func51 ?_
          first
          | (rw [← hp, head_none hb1]; exact ⟨rfl, (Ext.andThen (Ext.andThen (Ext.refl (fun k => k = rb) _) hk (by intro k h1 h2; first | exact h2.elim | omega | (simp only [] at *; omega))) hx1 (by intro k h1 h2; first | exact h2.elim | omega | (simp only [] at *; omega)))⟩)
          | (rw [← hp, pNum, if_pos (by omega)]; exact ⟨rfl, (Ext.andThen (Ext.andThen (Ext.refl (fun k => k = rb) _) hk (by intro k h1 h2; first | exact h2.elim | omega | (simp only [] at *; omega))) hx1 (by intro k h1 h2; first | exact h2.elim | omega | (simp only [] at *; omega)))⟩)
        · refine X.opw (X.wG rfl rfl rfl) rfl (X.pickT (v := .bool false) rfl rfl) ?_
          refine X.opw X.wN rfl (X.pickF (v := .bool false) rfl rfl) ?_
          refine X.opsEnd ?_
          refine X.condF rfl ?_
          refine X.skip ?_
          refine X.seq ?_
          refine X.region ?_
          refine X.opw X.wN rfl (X.move (v := .int .u64 _) rfl) ?_
          refine X.opw X.wN rfl (X.move (v := .int .u8 _) rfl) ?_
          refine X.opw X.wN rfl (X.and_ rfl rfl (u8_and x1)) ?_
          refine X.opw X.wN rfl (X.cvI Try.underlying5 Try.underlying33 rfl (X.w_u64 (by omega))) ?_
          refine X.opw X.wN rfl (X.move (v := .int .u64 _) rfl) ?_
          refine X.opw X.wN rfl (X.mul rfl rfl (X.w_u64 (by omega))) ?_
          refine X.opw X.wN rfl (X.shl rfl rfl (by omega) (shl_7 _ i hi0 (Nat.lt_of_le_of_lt (Nat.le_add_left _ acc) (num_bound x1 hi0 ha (by omega)).1))) ?_
          refine X.opw X.wN rfl (X.or_ rfl rfl (or_7 acc _ i ha (num_bound x1 hi0 ha (by omega)).1)) ?_
          refine X.opw X.wN rfl (X.assign (v := .int .u64 _) rfl) ?_
          refine X.opsEnd ?_
          refine X.seq ?_
          refine X.region ?_
          refine X.opw X.wN rfl (X.move (v := .int .u8 _) rfl) ?_
          refine X.opP X.wN rfl rfl (X.lss rfl rfl) (fun h37 => ?_) (fun h37 => ?_)
          · refine X.opsEnd ?_
            refine X.condT rfl ?_
            refine X.seq ?_
            refine X.region ?_
            refine X.opw X.wN rfl (X.move (v := .int .u64 _) rfl) ?_
            refine X.opw X.wN rfl (X.assign (v := .int .u64 _) rfl) ?_
            refine X.opsEnd ?_
            refine X.ret1 (v := (.int .u64 _)) Try.func51 Try.results51 rfl ?_
            rw [← hp, pNum, if_neg (by omega), if_pos (by omega)]
            exact ⟨_, rfl, ⟨rfl, (num_bound x1 hi0 ha (by omega)).1⟩, hR1, (Ext.andThen (Ext.andThen (Ext.refl (fun k => k = rb) _) hk (by intro k h1 h2; first | exact h2.elim | omega | (simp only [] at *; omega))) hx1 (by intro k h1 h2; first | exact h2.elim | omega | (simp only [] at *; omega)))⟩
          · refine X.opsEnd ?_
            refine X.condF rfl ?_
            refine X.skip ?_
            refine X.inBlock ?_
            refine X.region ?_
            refine X.opw X.wN rfl (X.move (v := .int .u64 _) rfl) ?_
            refine X.opw X.wN rfl (X.add rfl rfl (X.w_u64 (by omega))) ?_
            refine X.opw X.wN rfl (X.assign (v := .int .u64 _) rfl) ?_
            refine X.opsEnd ?_
            refine hback (i + 1, acc + x1.toNat % 128 * 128 ^ i, ys1) _ _ ⟨rfl, rfl, rfl, trivial⟩ ⟨by have := (num_bound x1 hi0 ha (by omega)).2.2; simp only []; omega, (num_bound x1 hi0 ha (by omega)).2.1, hR1, by rw [← hp, pNum, if_neg (by omega), if_neg (by omega)], (Ext.andThen (Ext.andThen (Ext.refl (fun k => k = rb) _) hk (by intro k h1 h2; first | exact h2.elim | omega | (simp only [] at *; omega))) hx1 (by intro k h1 h2; first | exact h2.elim | omega | (simp only [] at *; omega)))⟩ (by simp)
      · refine X.opw (X.wG rfl rfl rfl) rfl (X.move (v := .bool false) rfl) ?_
        refine X.opS rfl rfl rfl rfl rfl ?_
        refine X.opS rfl rfl rfl rfl rfl ?_
        refine X.opw (X.wG rfl rfl rfl) rfl (X.pickF (v := .bool false) rfl rfl) ?_
        refine X.opw X.wN rfl (X.pickF (v := .bool false) rfl rfl) ?_
        refine X.opsEnd ?_
        refine X.condF rfl ?_
        refine X.skip ?_
        refine X.seq ?_
        refine X.region ?_
        refine X.opw X.wN rfl (X.move (v := .int .u64 _) rfl) ?_
        refine X.opw X.wN rfl (X.move (v := .int .u8 _) rfl) ?_
        refine X.opw X.wN rfl (X.and_ rfl rfl (u8_and x1)) ?_
        refine X.opw X.wN rfl (X.cvI Try.underlying5 Try.underlying33 rfl (X.w_u64 (by omega))) ?_
        refine X.opw X.wN rfl (X.move (v := .int .u64 _) rfl) ?_
        refine X.opw X.wN rfl (X.mul rfl rfl (X.w_u64 (by omega))) ?_
        refine X.opw X.wN rfl (X.shl rfl rfl (by omega) (shl_7 _ i hi0 (Nat.lt_of_le_of_lt (Nat.le_add_left _ acc) (num_bound x1 hi0 ha (by omega)).1))) ?_
        refine X.opw X.wN rfl (X.or_ rfl rfl (or_7 acc _ i ha (num_bound x1 hi0 ha (by omega)).1)) ?_
        refine X.opw X.wN rfl (X.assign (v := .int .u64 _) rfl) ?_
        refine X.opsEnd ?_
        refine X.seq ?_
        refine X.region ?_
        refine X.opw X.wN rfl (X.move (v := .int .u8 _) rfl) ?_
        refine X.opP X.wN rfl rfl (X.lss rfl rfl) (fun h37 => ?_) (fun h37 => ?_)
        · refine X.opsEnd ?_
          refine X.condT rfl ?_
          refine X.seq ?_
          refine X.region ?_
          refine X.opw X.wN rfl (X.move (v := .int .u64 _) rfl) ?_
          refine X.opw X.wN rfl (X.assign (v := .int .u64 _) rfl) ?_
          refine X.opsEnd ?_
          refine X.ret1 (v := (.int .u64 _)) Try.func51 Try.results51 rfl ?_
          rw [← hp, pNum, if_neg (by omega), if_pos (by omega)]
          exact ⟨_, rfl, ⟨rfl, (num_bound x1 hi0 ha (by omega)).1⟩, hR1, (Ext.andThen (Ext.andThen (Ext.refl (fun k => k = rb) _) hk (by intro k h1 h2; first | exact h2.elim | omega | (simp only [] at *; omega))) hx1 (by intro k h1 h2; first | exact h2.elim | omega | (simp only [] at *; omega)))⟩
        · refine X.opsEnd ?_
          refine X.condF rfl ?_
          refine X.skip ?_
          refine X.inBlock ?_
          refine X.region ?_
          refine X.opw X.wN rfl (X.move (v := .int .u64 _) rfl) ?_
          refine X.opw X.wN rfl (X.add rfl rfl (X.w_u64 (by omega))) ?_
          refine X.opw X.wN rfl (X.assign (v := .int .u64 _) rfl) ?_
          refine X.opsEnd ?_
          refine hback (i + 1, acc + x1.toNat % 128 * 128 ^ i, ys1) _ _ ⟨rfl, rfl, rfl, trivial⟩ ⟨by have := (num_bound x1 hi0 ha (by omega)).2.2; simp only []; omega, (num_bound x1 hi0 ha (by omega)).2.1, hR1, by rw [← hp, pNum, if_neg (by omega), if_neg (by omega)], (Ext.andThen (Ext.andThen (Ext.refl (fun k => k = rb) _) hk (by intro k h1 h2; first | exact h2.elim | omega | (simp only [] at *; omega))) hx1 (by intro k h1 h2; first | exact h2.elim | omega | (simp only [] at *; omega)))⟩ (by simp)
  · rintro w1 hx1
    have hx1' := hx1.size
    refine X.unw_pan Try.func51 ?_
    first
    | (rw [← hp, head_none hb1]; exact ⟨rfl, (Ext.andThen (Ext.andThen (Ext.refl (fun k => k = rb) _) hk (by intro k h1 h2; first | exact h2.elim | omega | (simp only [] at *; omega))) hx1 (by intro k h1 h2; first | exact h2.elim | omega | (simp only [] at *; omega)))⟩)
    | (rw [← hp, pNum, if_pos (by omega)]; exact ⟨rfl, (Ext.andThen (Ext.andThen (Ext.refl (fun k => k = rb) _) hk (by intro k h1 h2; first | exact h2.elim | omega | (simp only [] at *; omega))) hx1 (by intro k h1 h2; first | exact h2.elim | omega | (simp only [] at *; omega)))⟩)
end Go.Proofs.Ytaclpphhidlgpaa
