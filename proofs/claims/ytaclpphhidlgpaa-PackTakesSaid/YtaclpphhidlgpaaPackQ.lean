/- The reader of package pack: the values of a key. -/
import Derived.Test.YtaclpphhidlgpaaPackO
namespace Go.Proofs.Ytaclpphhidlgpaa
open Go Go.Proofs.Ytaclpphhidlgpaa.X
set_option linter.unusedVariables false
set_option linter.unusedSimpArgs false

theorem some8_c (hi rb T : Nat) (xs : List UInt8) (w : World) (hr : Rd w hi rb T xs) :
    PRet Try.prog 69 #[.pointer (some ⟨rb, 0, none⟩), .int .i64 8] w FAULT (if 8 ≤ xs.length then some () else none)
      (fun _ v w' => (∃ A c, v = .slice A 8 c ∧ 8 ≤ c ∧ Sl KB 0 hi w' A 8 (xs.take 8)) ∧ Rd w' hi rb T (xs.drop 8) ∧ Ext (fun k => k = rb) w w') (fun w' => Ext (fun k => k = rb) w w') := by
  refine (some_c hi rb T xs 8 (by decide) w hr).mono fun o w' h => ?_
  by_cases h8 : 8 ≤ xs.length
  · rw [if_pos (by omega)] at h
    rw [if_pos h8]
    exact h
  · rw [if_neg (by omega)] at h
    rw [if_neg h8]
    exact h
def beN (l : List UInt8) : Nat := l.foldl (fun x c => x * 256 + c.toNat) 0
theorem beN_step {l : List UInt8} {j : Nat} {y : UInt8} (hy : l[j]? = some y) : beN (l.take (j + 1)) = beN (l.take j) * 256 + y.toNat := by
  rw [List.take_add_one, hy, beN, List.foldl_append]; rfl
theorem beN_lt : ∀ l : List UInt8, beN l < 256 ^ l.length := by
  intro l
  have key : ∀ (l : List UInt8) (x : Nat), l.foldl (fun x c => x * 256 + c.toNat) x < (x + 1) * 256 ^ l.length := by
    intro l
    induction l with
    | nil => intro x; simp
    | cons c l ih =>
      intro x
      have := ih (x * 256 + c.toNat)
      have hc := c.toNat_lt
      rw [List.foldl_cons, List.length_cons, Nat.pow_succ]
      refine Nat.lt_of_lt_of_le this ?_
      rw [Nat.mul_comm (256 ^ l.length) 256, ← Nat.mul_assoc]
      exact Nat.mul_le_mul_right _ (by omega)
  simpa [beN] using key l 0
theorem be_bound {l : List UInt8} {j : Nat} (hj : j ≤ 7) : beN (l.take j) < 72057594037927936 := by
  refine Nat.lt_of_lt_of_le (beN_lt (l.take j)) ?_
  have : 256 ^ (l.take j).length ≤ 256 ^ 7 := Nat.pow_le_pow_right (by decide) (by rw [List.length_take]; omega)
  exact Nat.le_trans this (by decide)
theorem be_8 {l : List UInt8} : beN (l.take 8) < 18446744073709551616 := by
  refine Nat.lt_of_lt_of_le (beN_lt (l.take 8)) ?_
  have : 256 ^ (l.take 8).length ≤ 256 ^ 8 := Nat.pow_le_pow_right (by decide) (by rw [List.length_take]; omega)
  exact Nat.le_trans this (by decide)
theorem shl_8 (x : Nat) (h : x < 72057594037927936) : IntKind.u64.wrap (((x : Nat) : Int) * 2 ^ (min (8 : Int).toNat IntKind.u64.bits)) = ((x * 256 : Nat) : Int) := by
  have e : ((x : Nat) : Int) * 2 ^ (min (8 : Int).toNat IntKind.u64.bits) = ((x * 256 : Nat) : Int) := by
    have : (2 : Int) ^ (min (8 : Int).toNat IntKind.u64.bits) = 256 := by decide
    rw [this]; omega
  rw [e]
  exact w_u64 (by omega)
theorem or_8 (x c : Nat) (hc : c < 256) (h : x < 72057594037927936) : IntKind.u64.wrap ((BitVec.ofInt IntKind.u64.bits ((x * 256 : Nat) : Int) ||| BitVec.ofInt IntKind.u64.bits ((c : Nat) : Int)).toNat : Int) = ((x * 256 + c : Nat) : Int) := by
  show IntKind.u64.wrap ((BitVec.ofInt 64 ((x * 256 : Nat) : Int) ||| BitVec.ofInt 64 ((c : Nat) : Int)).toNat : Int) = _
  have e : x * 256 ||| c = x * 256 + c := by
    rw [Nat.mul_comm, show (256 : Nat) = 2 ^ 8 by decide, ← Nat.two_pow_add_eq_or_of_lt (by omega)]
  rw [BitVec.ofInt_natCast, BitVec.ofInt_natCast, BitVec.toNat_or, BitVec.toNat_ofNat, BitVec.toNat_ofNat, Nat.mod_eq_of_lt (by omega), Nat.mod_eq_of_lt (by omega), e]
  exact w_u64 (by omega)
theorem xor_K (x : Nat) (h : x < 18446744073709551616) : IntKind.u64.wrap ((BitVec.ofInt IntKind.u64.bits ((x : Nat) : Int) ^^^ BitVec.ofInt IntKind.u64.bits 9223372036854775808).toNat : Int) = (((x + 9223372036854775808) % 18446744073709551616 : Nat) : Int) := by
  show IntKind.u64.wrap ((BitVec.ofInt 64 ((x : Nat) : Int) ^^^ 9223372036854775808#64).toNat : Int) = _
  rw [BitVec.ofInt_natCast, BitVec.toNat_xor, BitVec.toNat_ofNat, BitVec.toNat_ofNat, Nat.mod_eq_of_lt (by omega), Nat.mod_eq_of_lt (a := 9223372036854775808) (by decide), xor63 _ h]
  exact w_u64 (by omega)
theorem i64_K (x : Nat) (h : x < 18446744073709551616) : IntKind.i64.wrap (((x + 9223372036854775808) % 18446744073709551616 : Nat) : Int) = (x : Int) - 9223372036854775808 := by
  simp only [IntKind.wrap, IntKind.bits, IntKind.signed, Bool.true_and]
  split <;> simp_all <;> omega
/-- A value of a key. -/
def pKey : List UInt8 → Option (VAL × List UInt8)
  | [] => none
  | c :: xs => if c.toNat = 1 then (if 8 ≤ xs.length then some ((1, (beN (xs.take 8) : Int) - 9223372036854775808, ⟨#[]⟩), xs.drop 8) else none) else if c.toNat = 2 then (pSym xs).map fun b => ((2, 0, ⟨b.1.toArray⟩), b.2) else none
theorem keyI_ok (l : List UInt8) : okI ((beN (l.take 8) : Int) - 9223372036854775808) := by
  have := be_8 (l := l)
  unfold okI; omega
-- f47 "(*pedigree/pack.reader).keyed" params [81] results [75] -> [(ResultVar.cell 2 75)] nfree 0 ntmps 36 na
set_option maxHeartbeats 4000000 in
set_option maxRecDepth 100000 in
theorem keyed_c (hi rb T : Nat) (xs : List UInt8) (w : World) (hr : Rd w hi rb T xs) : PP 47 #[.pointer (some ⟨rb, 0, none⟩)] w hi rb T (pKey xs) (fun a v _ => v = .agg (encV a).toArray ∧ okV a) := by
  have hrl := hr.lt
  have hhr := hr.T
  refine X.enter Try.func47 rfl Try.ntmps47 rfl ?_
  refine X.seq ?_
  refine X.region ?_
  refine X.opE X.wN rfl (X.allocE Try.zeroValue75 rfl) ?_
  rintro _ w1 ⟨rfl, hB1, hk1, hz1⟩
  refine X.opsEnd ?_
  refine X.seq ?_
  refine X.region ?_
  refine X.opw X.wN rfl (X.move rfl) ?_
  refine X.opPR (some1_c hi rb T _ _ (hr.keep hk1)) X.wN rfl Try.call69 rfl (fun x2 hb2 => ?_) (fun hb2 => ?_)
  · rintro _ w2 ⟨⟨A2, c2, rfl, hcc2, hs2⟩, hR2, hx2⟩
    have hx2' := hx2.size
    obtain ⟨ys2, rfl⟩ := head_some hb2
    simp only [List.tail_cons] at hR2
    have hu2 := x2.toNat_lt
    refine X.opw X.wN rfl (X.idxS hs2 Try.underlying25 Try.sizeOf5 rfl rfl ⟨by omega, by omega⟩) ?_
    refine X.opw X.wN rfl (X.loadS Try.isAgg5 hs2 (j := 0) rfl rfl (fun _ h => by rw [h.1]; rfl)) ?_
    refine X.opsEnd ?_
    refine X.block ?_
    refine X.seq ?_
    refine X.region ?_
    refine X.opP X.wN rfl rfl (X.eqI rfl rfl) (fun h13 => ?_) (fun h13 => ?_)
    · refine X.opw X.wN rfl (X.assign (v := .bool true) rfl) ?_
      refine X.opsEnd ?_
      refine X.condT rfl ?_
      refine X.seq ?_
      refine X.region ?_
      refine X.opw X.wN rfl (X.assign rfl) ?_
      refine X.opsEnd ?_
      refine X.seq ?_
      refine X.seq ?_
      refine X.region ?_
      refine X.opw X.wN rfl (X.move rfl) ?_
      refine X.opPR (some8_c hi rb T _ _ hR2) X.wN rfl Try.call69 rfl (fun u3 hb3 => ?_) (fun hb3 => ?_)
      · rintro _ w3 ⟨⟨A3, c3, rfl, hcc3, hs3⟩, hR3, hx3⟩
        have hx3' := hx3.size
        have h8 : 8 ≤ ys2.length := by
          by_cases h : 8 ≤ ys2.length
          · exact h
          · rw [if_neg h] at hb3; cases hb3
        refine X.opw X.wN rfl (X.lenSl Try.underlying25 rfl) ?_
        refine X.opw X.wN rfl (X.move rfl) ?_
        refine X.opsEnd ?_
        refine X.block ?_
        -- LOOP live: 2, 3=x*, 15, 16, 17*
        refine X.loopL (σ := Nat) (fun s => [(2, .pointer (some ⟨w.heap.size, 0, none⟩)), (3, .int .u64 ((beN ((ys2.take 8).take s) : Nat) : Int)), (15, .slice A3 8 c3), (16, .int .i64 8), (17, .int .i64 (s : Int))]) (fun s w' => s ≤ 8 ∧ w3 = w') (fun s => 8 - s) 0 ⟨rfl, rfl, rfl, rfl, rfl, trivial⟩ ⟨by simp, rfl⟩ ?_
        rintro j b _ ⟨hj, rfl⟩ hback
        refine X.seq ?_
        refine X.region ?_
        refine X.opP X.wN rfl rfl (X.lss rfl rfl) (fun h18 => ?_) (fun h18 => ?_)
        · obtain ⟨y, hy⟩ := getN j hs3.len h18
          have hbd := be_bound (l := ys2.take 8) (j := j) (by omega)
          have huy := y.toNat_lt
          refine X.opsEnd ?_
          refine X.seq ?_
          refine X.condT rfl ?_
          refine X.skip ?_
          refine X.seq ?_
          refine X.block ?_
          refine X.seq ?_
          refine X.region ?_
          refine X.opw X.wN rfl (X.idxS hs3 Try.underlying25 Try.sizeOf5 rfl rfl ⟨by omega, by omega⟩) ?_
          refine X.opw X.wN rfl (X.loadS Try.isAgg5 hs3 hy rfl (fun _ h => by rw [h.1]; rfl)) ?_
          refine X.opw X.wN rfl (X.assign (v := .int .u8 _) rfl) ?_
          refine X.opsEnd ?_
          refine X.region ?_
          refine X.opw X.wN rfl (X.move (v := .int .u64 _) rfl) ?_
          refine X.opw X.wN rfl (X.shl rfl rfl (by decide) (shl_8 _ hbd)) ?_
          refine X.opw X.wN rfl (X.move (v := .int .u8 _) rfl) ?_
          refine X.opw X.wN rfl (X.cvI Try.underlying5 Try.underlying33 rfl (X.w_u64 (by omega))) ?_
          refine X.opw X.wN rfl (X.or_ (c := ((beN ((ys2.take 8).take (j + 1)) : Nat) : Int)) rfl rfl (by rw [beN_step hy]; exact or_8 _ _ huy hbd)) ?_
          refine X.opw X.wN rfl (X.assign (v := .int .u64 _) rfl) ?_
          refine X.opsEnd ?_
          refine X.inBlock ?_
          refine X.region ?_
          refine X.opw X.wN rfl (X.add rfl rfl (X.w_i64 (by omega))) ?_
          refine X.opw X.wN rfl (X.move (v := .int .i64 _) rfl) ?_
          refine X.opsEnd ?_
          refine hback (j + 1) _ _ ⟨rfl, rfl, rfl, rfl, rfl, trivial⟩ ⟨by omega, rfl⟩ (by omega)
        · have hj8 : j = 8 := by omega
          subst hj8
          have hb8 := be_8 (l := ys2.take 8)
          rw [List.take_take] at hb8
          refine X.opsEnd ?_
          refine X.seq ?_
          refine X.condF rfl ?_
          refine X.exit rfl ?_
          refine X.seq ?_
          refine X.region ?_
          refine X.opw X.wN rfl (X.move (v := .int .u64 _) rfl) ?_
          refine X.opw X.wN rfl (X.xor_ rfl rfl (xor_K _ (be_8 (l := ys2.take 8)))) ?_
          refine X.opw X.wN rfl (X.cvI (c := (beN (ys2.take 8) : Int) - 9223372036854775808) Try.underlying33 Try.underlying2 rfl (by have e := i64_K _ (be_8 (l := ys2.take 8)); rw [e, List.take_take]; rfl)) ?_
          refine X.opw X.wN rfl (X.buildB (vs := [(0, .int .i64 1), (1, .int .i64 ((beN (ys2.take 8) : Int) - 9223372036854775808))]) (cs := (encV (1, (beN (ys2.take 8) : Int) - 9223372036854775808, ⟨#[]⟩)).toArray) rfl (by kernel_rfl)) ?_
          refine X.opE X.wN rfl (X.storeNE Try.sizeOf75 ((hB1.ext hx2 (by intros; (try simp only []); omega)).ext hx3 (by intros; (try simp only []); omega)) rfl rfl rfl rfl (encV_one _)) ?_
          rintro _ w4 ⟨hB4, hx4, hz4⟩
          refine X.opsEnd ?_
          refine X.ret_unw (X.unwR1 Try.func47 Try.results47 (X.ResOk.cell rfl (X.lvN Try.isAgg75 Try.sizeOf75 hB4 rfl)) ?_)
          rw [pKey, if_pos (by omega), if_pos h8]
          exact ⟨_, rfl, ⟨rfl, by simp [okI], keyI_ok ys2, by simp [ByteArray.size]⟩, (hR3.ext hx4 (by intros; (try simp only []); omega)), (Ext.andThen (Ext.andThen (Ext.andThen (Ext.andThen (Ext.refl (fun k => k = rb) _) hk1 (by intro k h1 h2; first | exact h2.elim | omega | (simp only [] at *; omega))) hx2 (by intro k h1 h2; first | exact h2.elim | omega | (simp only [] at *; omega))) hx3 (by intro k h1 h2; first | exact h2.elim | omega | (simp only [] at *; omega))) hx4 (by intro k h1 h2; first | exact h2.elim | omega | (simp only [] at *; omega)))⟩
      · rintro w3 hx3
        have hx3' := hx3.size
        refine X.unw_pan Try.func47 ?_
        first
        | (rw [head_none hb2, pKey]; exact ⟨rfl, (Ext.andThen (Ext.andThen (Ext.andThen (Ext.refl (fun k => k = rb) _) hk1 (by intro k h1 h2; first | exact h2.elim | omega | (simp only [] at *; omega))) hx2 (by intro k h1 h2; first | exact h2.elim | omega | (simp only [] at *; omega))) hx3 (by intro k h1 h2; first | exact h2.elim | omega | (simp only [] at *; omega)))⟩)
        | (rw [pKey, if_pos (by omega), if_neg (by intro h; rw [if_pos h] at hb3; cases hb3)]; exact ⟨rfl, (Ext.andThen (Ext.andThen (Ext.andThen (Ext.refl (fun k => k = rb) _) hk1 (by intro k h1 h2; first | exact h2.elim | omega | (simp only [] at *; omega))) hx2 (by intro k h1 h2; first | exact h2.elim | omega | (simp only [] at *; omega))) hx3 (by intro k h1 h2; first | exact h2.elim | omega | (simp only [] at *; omega)))⟩)
        | (rw [pKey, if_neg (by omega), if_pos (by omega), hb5]; exact ⟨rfl, (Ext.andThen (Ext.andThen (Ext.andThen (Ext.refl (fun k => k = rb) _) hk1 (by intro k h1 h2; first | exact h2.elim | omega | (simp only [] at *; omega))) hx2 (by intro k h1 h2; first | exact h2.elim | omega | (simp only [] at *; omega))) hx3 (by intro k h1 h2; first | exact h2.elim | omega | (simp only [] at *; omega)))⟩)
        | (rw [pKey, if_neg (by omega), if_neg (by omega)]; exact ⟨rfl, (Ext.andThen (Ext.andThen (Ext.andThen (Ext.refl (fun k => k = rb) _) hk1 (by intro k h1 h2; first | exact h2.elim | omega | (simp only [] at *; omega))) hx2 (by intro k h1 h2; first | exact h2.elim | omega | (simp only [] at *; omega))) hx3 (by intro k h1 h2; first | exact h2.elim | omega | (simp only [] at *; omega)))⟩)
    · refine X.opw X.wN rfl (X.assign (v := .bool false) rfl) ?_
      refine X.opsEnd ?_
      refine X.condF rfl ?_
      refine X.seq ?_
      refine X.region ?_
      refine X.opP X.wN rfl rfl (X.eqI rfl rfl) (fun h32 => ?_) (fun h32 => ?_)
      · refine X.opw X.wN rfl (X.assign (v := .bool true) rfl) ?_
        refine X.opsEnd ?_
        refine X.condT rfl ?_
        refine X.seq ?_
        refine X.region ?_
        refine X.opw X.wN rfl (X.move rfl) ?_
        refine X.opPR (symbol_c hi rb T _ _ hR2) X.wN rfl Try.call70 rfl (fun b5 hb5 => ?_) (fun hb5 => ?_)
        · rintro _ w5 ⟨⟨rfl, hn5⟩, hR5, hx5⟩
          have hx5' := hx5.size
          obtain ⟨a5, ys5⟩ := b5
          simp only at hR5 hn5
          refine X.opw X.wN rfl (X.buildB (vs := [(0, .int .i64 2), (2, .string ⟨a5.toArray⟩)]) (cs := (encV (2, 0, ⟨a5.toArray⟩)).toArray) rfl (by kernel_rfl)) ?_
          refine X.opE X.wN rfl (X.storeNE Try.sizeOf75 ((hB1.ext hx2 (by intros; (try simp only []); omega)).ext hx5 (by intros; (try simp only []); omega)) rfl rfl rfl rfl (encV_one _)) ?_
          rintro _ w6 ⟨hB6, hx6, hz6⟩
          refine X.opsEnd ?_
          refine X.ret_unw (X.unwR1 Try.func47 Try.results47 (X.ResOk.cell rfl (X.lvN Try.isAgg75 Try.sizeOf75 hB6 rfl)) ?_)
          rw [pKey, if_neg (by omega), if_pos (by omega), hb5]
          exact ⟨_, rfl, ⟨rfl, by simp [okI], by simp [okI], by show a5.toArray.size ≤ _; simp; omega⟩, (hR5.ext hx6 (by intros; (try simp only []); omega)), (Ext.andThen (Ext.andThen (Ext.andThen (Ext.andThen (Ext.refl (fun k => k = rb) _) hk1 (by intro k h1 h2; first | exact h2.elim | omega | (simp only [] at *; omega))) hx2 (by intro k h1 h2; first | exact h2.elim | omega | (simp only [] at *; omega))) hx5 (by intro k h1 h2; first | exact h2.elim | omega | (simp only [] at *; omega))) hx6 (by intro k h1 h2; first | exact h2.elim | omega | (simp only [] at *; omega)))⟩
        · rintro w5 hx5
          have hx5' := hx5.size
          refine X.unw_pan Try.func47 ?_
          first
          | (rw [head_none hb2, pKey]; exact ⟨rfl, (Ext.andThen (Ext.andThen (Ext.andThen (Ext.refl (fun k => k = rb) _) hk1 (by intro k h1 h2; first | exact h2.elim | omega | (simp only [] at *; omega))) hx2 (by intro k h1 h2; first | exact h2.elim | omega | (simp only [] at *; omega))) hx5 (by intro k h1 h2; first | exact h2.elim | omega | (simp only [] at *; omega)))⟩)
          | (rw [pKey, if_pos (by omega), if_neg (by intro h; rw [if_pos h] at hb3; cases hb3)]; exact ⟨rfl, (Ext.andThen (Ext.andThen (Ext.andThen (Ext.refl (fun k => k = rb) _) hk1 (by intro k h1 h2; first | exact h2.elim | omega | (simp only [] at *; omega))) hx2 (by intro k h1 h2; first | exact h2.elim | omega | (simp only [] at *; omega))) hx5 (by intro k h1 h2; first | exact h2.elim | omega | (simp only [] at *; omega)))⟩)
          | (rw [pKey, if_neg (by omega), if_pos (by omega), hb5]; exact ⟨rfl, (Ext.andThen (Ext.andThen (Ext.andThen (Ext.refl (fun k => k = rb) _) hk1 (by intro k h1 h2; first | exact h2.elim | omega | (simp only [] at *; omega))) hx2 (by intro k h1 h2; first | exact h2.elim | omega | (simp only [] at *; omega))) hx5 (by intro k h1 h2; first | exact h2.elim | omega | (simp only [] at *; omega)))⟩)
          | (rw [pKey, if_neg (by omega), if_neg (by omega)]; exact ⟨rfl, (Ext.andThen (Ext.andThen (Ext.andThen (Ext.refl (fun k => k = rb) _) hk1 (by intro k h1 h2; first | exact h2.elim | omega | (simp only [] at *; omega))) hx2 (by intro k h1 h2; first | exact h2.elim | omega | (simp only [] at *; omega))) hx5 (by intro k h1 h2; first | exact h2.elim | omega | (simp only [] at *; omega)))⟩)
      · refine X.opw X.wN rfl (X.assign (v := .bool false) rfl) ?_
        refine X.opsEnd ?_
        refine X.condF rfl ?_
        refine X.region ?_
        refine X.opw X.wN rfl (X.buildB (cs := #[]) rfl (by kernel_rfl)) ?_
        refine X.opw X.wN rfl (X.mkIface Try.underlying88 rfl rfl) ?_
        refine X.opPanic X.wN rfl ?_
        refine X.unw_pan Try.func47 ?_
        first
        | (rw [head_none hb2, pKey]; exact ⟨rfl, (Ext.andThen (Ext.andThen (Ext.refl (fun k => k = rb) _) hk1 (by intro k h1 h2; first | exact h2.elim | omega | (simp only [] at *; omega))) hx2 (by intro k h1 h2; first | exact h2.elim | omega | (simp only [] at *; omega)))⟩)
        | (rw [pKey, if_pos (by omega), if_neg (by intro h; rw [if_pos h] at hb3; cases hb3)]; exact ⟨rfl, (Ext.andThen (Ext.andThen (Ext.refl (fun k => k = rb) _) hk1 (by intro k h1 h2; first | exact h2.elim | omega | (simp only [] at *; omega))) hx2 (by intro k h1 h2; first | exact h2.elim | omega | (simp only [] at *; omega)))⟩)
        | (rw [pKey, if_neg (by omega), if_pos (by omega), hb5]; exact ⟨rfl, (Ext.andThen (Ext.andThen (Ext.refl (fun k => k = rb) _) hk1 (by intro k h1 h2; first | exact h2.elim | omega | (simp only [] at *; omega))) hx2 (by intro k h1 h2; first | exact h2.elim | omega | (simp only [] at *; omega)))⟩)
        | (rw [pKey, if_neg (by omega), if_neg (by omega)]; exact ⟨rfl, (Ext.andThen (Ext.andThen (Ext.refl (fun k => k = rb) _) hk1 (by intro k h1 h2; first | exact h2.elim | omega | (simp only [] at *; omega))) hx2 (by intro k h1 h2; first | exact h2.elim | omega | (simp only [] at *; omega)))⟩)
  · rintro w2 hx2
    have hx2' := hx2.size
    refine X.unw_pan Try.func47 ?_
    first
    | (rw [head_none hb2, pKey]; exact ⟨rfl, (Ext.andThen (Ext.andThen (Ext.refl (fun k => k = rb) _) hk1 (by intro k h1 h2; first | exact h2.elim | omega | (simp only [] at *; omega))) hx2 (by intro k h1 h2; first | exact h2.elim | omega | (simp only [] at *; omega)))⟩)
    | (rw [pKey, if_pos (by omega), if_neg (by intro h; rw [if_pos h] at hb3; cases hb3)]; exact ⟨rfl, (Ext.andThen (Ext.andThen (Ext.refl (fun k => k = rb) _) hk1 (by intro k h1 h2; first | exact h2.elim | omega | (simp only [] at *; omega))) hx2 (by intro k h1 h2; first | exact h2.elim | omega | (simp only [] at *; omega)))⟩)
    | (rw [pKey, if_neg (by omega), if_pos (by omega), hb5]; exact ⟨rfl, (Ext.andThen (Ext.andThen (Ext.refl (fun k => k = rb) _) hk1 (by intro k h1 h2; first | exact h2.elim | omega | (simp only [] at *; omega))) hx2 (by intro k h1 h2; first | exact h2.elim | omega | (simp only [] at *; omega)))⟩)
    | (rw [pKey, if_neg (by omega), if_neg (by omega)]; exact ⟨rfl, (Ext.andThen (Ext.andThen (Ext.refl (fun k => k = rb) _) hk1 (by intro k h1 h2; first | exact h2.elim | omega | (simp only [] at *; omega))) hx2 (by intro k h1 h2; first | exact h2.elim | omega | (simp only [] at *; omega)))⟩)
/-- All values of a key; the tuple. -/
def pKeys : Nat → List UInt8 → Option (List VAL)
  | _, [] => some []
  | 0, _ :: _ => none
  | n + 1, c :: xs => match pKey (c :: xs) with
    | none => none
    | some (v, ys) => (pKeys n ys).map fun l => v :: l
def pFrom (xs : List UInt8) : Option (List VAL) :=
  match pKeys xs.length xs with
  | none => none
  | some l => if isT l then some l else none
theorem pSym_lt : ∀ (n : Nat) (xs : List UInt8), xs.length ≤ n → ∀ b, pSym xs = some b → b.2.length < xs.length ∧ b.1.length ≤ xs.length := by
  intro n
  induction n with
  | zero =>
    intro xs h b hb
    have : xs = [] := List.eq_nil_of_length_eq_zero (by omega)
    subst this; cases hb
  | succ n ih =>
    intro xs h b hb
    cases xs with
    | nil => cases hb
    | cons c xs =>
      simp only [List.length_cons] at *
      by_cases hc : c.toNat = 0
      · rw [pSym_0 hc] at hb
        cases xs with
        | nil => cases hb
        | cons d ys =>
          dsimp only at hb
          simp only [List.length_cons] at *
          split at hb
          · cases hb; simp only [List.length_nil]; omega
          · split at hb
            · obtain ⟨q, hq, rfl⟩ := Option.map_eq_some_iff.1 hb
              have := ih ys (by omega) q hq
              simp only [List.length_cons]; omega
            · cases hb
      · rw [pSym_1 hc] at hb
        obtain ⟨q, hq, rfl⟩ := Option.map_eq_some_iff.1 hb
        have := ih xs (by omega) q hq
        simp only [List.length_cons]; omega
theorem pKey_lt {xs : List UInt8} {b : VAL × List UInt8} (h : pKey xs = some b) : b.2.length < xs.length := by
  cases xs with
  | nil => cases h
  | cons c xs =>
    rw [pKey] at h
    simp only [List.length_cons]
    split at h
    · split at h
      · cases h; simp only [List.length_drop]; omega
      · cases h
    · split at h
      · obtain ⟨q, hq, rfl⟩ := Option.map_eq_some_iff.1 h
        have := (pSym_lt xs.length xs (Nat.le_refl _) q hq).1
        dsimp only; omega
      · cases h
theorem keys_map (o : Option (List VAL)) (s : List VAL) (v : VAL) : (o.map fun l => s ++ [v] ++ l) = ((o.map fun l => v :: l).map fun l => s ++ l) := by
  rw [Option.map_map]; congr 1; funext b; simp
-- f46 "pedigree/pack.FromKey$1" params [81] results [23] -> [(ResultVar.tmp 2)] nfree 0 ntmps 22 names ["r", 
set_option maxHeartbeats 4000000 in
set_option maxRecDepth 100000 in
theorem fromKey1_c (hi rb T : Nat) (xs : List UInt8) (w : World) (hr : Rd w hi rb T xs) : PP 46 #[.pointer (some ⟨rb, 0, none⟩)] w hi rb T ((pFrom xs).map fun l => (l, [])) (fun a v w' => Mine KV 75 (fun k => w.heap.size ≤ k) 0 0 w' v a ∧ (∀ u ∈ a, okV u) ∧ isT a = true) := by
  have hrl := hr.lt
  have hhr := hr.T
  refine X.enter Try.func46 rfl Try.ntmps46 rfl ?_
  refine X.seq ?_
  refine X.region ?_
  refine X.opw X.wN rfl (X.assign rfl) ?_
  refine X.opsEnd ?_
  refine X.seq ?_
  refine X.region ?_
  refine X.opw X.wN rfl (X.assign rfl) ?_
  refine X.opsEnd ?_
  refine X.seq ?_
  refine X.block ?_
  -- LOOP live: 0=r, 3=t*
  refine X.loopL (σ := Value × List VAL × List UInt8 × Nat) (fun s => [(0, .pointer (some ⟨rb, 0, none⟩)), (3, s.1)]) (fun s w' => s.2.1.length + s.2.2.1.length ≤ T ∧ s.2.2.1.length ≤ s.2.2.2 ∧ (∀ u ∈ s.2.1, okV u) ∧ Mine KV 75 (fun k => w.heap.size ≤ k) 0 0 w' s.1 s.2.1 ∧ Rd w' hi rb T s.2.2.1 ∧ ((pKeys s.2.2.2 s.2.2.1).map fun l => s.2.1 ++ l) = pKeys xs.length xs ∧ Ext (fun k => k = rb) w w') (fun s => s.2.2.1.length) (_, [], xs, xs.length) ⟨rfl, rfl, trivial⟩ ⟨by simp; omega, by simp, by simp, (Mine.nil _ _ _ _ _ _), hr, by simp, (Ext.refl (fun k => k = rb) _)⟩ ?_
  rintro ⟨v, s, l, n⟩ b wl ⟨hll, hln, hlo, hM, hR, hp, hk⟩ hback
  simp only at hll hln hlo hM hR hp
  have hk' := hk.size
  have hrl2 := hR.lt
  have hR' := hR
  obtain ⟨A, c, hnc, hB, hsl, hh1, hh2, hh3⟩ := hR'
  refine X.seq ?_
  refine X.seq ?_
  refine X.region ?_
  refine X.opw X.wN rfl (X.move rfl) ?_
  refine X.opw X.wN rfl (X.nilCk rfl) ?_
  refine X.opw X.wN rfl (X.fldB (j := 0) Try.underlying85 rfl rfl Try.sizeOf83 rfl) ?_
  refine X.opw X.wN rfl (X.fldB (j := 0) Try.underlying83 rfl rfl Try.sizeOf25 rfl) ?_
  refine X.opw X.wN rfl (X.load1B Try.isAgg25 hB rfl rfl) ?_
  refine X.opw X.wN rfl (X.lenSl Try.underlying25 rfl) ?_
  refine X.opP X.wN rfl rfl (X.gtr rfl rfl) (fun h10 => ?_) (fun h10 => ?_)
  · refine X.opsEnd ?_
    refine X.condT rfl ?_
    refine X.skip ?_
    refine X.block ?_
    refine X.region ?_
    refine X.opw X.wN rfl (X.move rfl) ?_
    refine X.opw X.wN rfl (X.move rfl) ?_
    refine X.opPR (keyed_c hi rb T _ _ hR) X.wN rfl Try.call47 rfl (fun b1 hb1 => ?_) (fun hb1 => ?_)
    · rintro _ w1 ⟨⟨rfl, hn1⟩, hR1, hx1⟩
      have hx1' := hx1.size
      have hlt := pKey_lt hb1
      obtain ⟨a1, ys1⟩ := b1
      simp only at hR1 hn1
      simp only at hlt
      refine X.opE X.wN rfl (X.litKE (K := KV) (xs := [Operand.tmp 13]) (vs := [.agg (encV a1).toArray]) (ys := [a1]) Try.underlying23 Try.sizeOf75 Try.zeroValue75 rfl rfl rfl rfl rfl (litV_ok hn1)) ?_
      rintro _ w2 ⟨rfl, hs2, hB2, hk2, hz2⟩
      refine X.opE X.wN rfl (X.appE (K := KV) (S := fun k => w.heap.size ≤ k) KV_flat Try.underlying23 EV rfl rfl ((hM.ext hx1 (by intros; (try simp only []); omega) (by intros; (try simp only []); omega)).keep hk2) hs2 (by (try simp only [List.length_append, List.length_cons, List.length_nil, List.length_take, List.length_drop, List.length_map, List.length_range]); omega) (by intros; (try simp only [] at *); omega)) ?_
      rintro v3 w3 ⟨hM3, hx3⟩
      have hx3' := hx3.size
      refine X.opw X.wN rfl (X.assign rfl) ?_
      refine X.opsEnd ?_
      refine X.inBlock ?_
      refine hback (_, s ++ [a1], ys1, n - 1) _ _ ⟨rfl, rfl, trivial⟩ ⟨by simp only [List.length_append, List.length_cons, List.length_nil]; omega, by dsimp only; omega, by intro u hu; simp only [List.mem_append, List.mem_singleton] at hu; rcases hu with hu | rfl; exact hlo u hu; exact hn1, hM3, ((hR1.keep hk2).ext hx3 (by intros; (try simp only []); omega)), ?_, (Ext.andThen (Ext.andThen (Ext.andThen (Ext.andThen (Ext.refl (fun k => k = rb) _) hk (by intro k h1 h2; first | exact h2.elim | omega | (simp only [] at *; omega))) hx1 (by intro k h1 h2; first | exact h2.elim | omega | (simp only [] at *; omega))) hk2 (by intro k h1 h2; first | exact h2.elim | omega | (simp only [] at *; omega))) hx3 (by intro k h1 h2; first | exact h2.elim | omega | (simp only [] at *; omega)))⟩ (by dsimp only; omega)
      dsimp only
      rw [← hp, keys_map]
      congr 1
      rcases hq : l with _ | ⟨c0, l0⟩
      · subst hq; simp at hlt
      · rw [hq] at hb1 hln
        obtain ⟨n', rfl⟩ : ∃ n', n = n' + 1 := ⟨n - 1, by simp at hln; omega⟩
        rw [pKeys, hb1]; rfl
    · rintro w1 hx1
      have hx1' := hx1.size
      refine X.unw_pan Try.func46 ?_
      first
      | (rw [pFrom, ← hp]; rcases hq : l with _ | ⟨c0, l0⟩; · subst hq; simp at h10
         · rw [hq] at hb1 hln; obtain ⟨n', rfl⟩ : ∃ n', n = n' + 1 := ⟨n - 1, by simp at hln; omega⟩; rw [pKeys, hb1]; exact ⟨rfl, (Ext.andThen (Ext.andThen (Ext.refl (fun k => k = rb) _) hk (by intro k h1 h2; first | exact h2.elim | omega | (simp only [] at *; omega))) hx1 (by intro k h1 h2; first | exact h2.elim | omega | (simp only [] at *; omega)))⟩)
      | (rw [pFrom, ← hp]; dsimp only; rw [if_neg (by simpa using hc)]; exact ⟨rfl, (Ext.andThen (Ext.andThen (Ext.refl (fun k => k = rb) _) hk (by intro k h1 h2; first | exact h2.elim | omega | (simp only [] at *; omega))) hx1 (by intro k h1 h2; first | exact h2.elim | omega | (simp only [] at *; omega)))⟩)
  · have hl0 : l = [] := List.eq_nil_of_length_eq_zero (by omega)
    subst hl0
    rw [pKeys] at hp
    simp only [Option.map_some, List.append_nil] at hp
    refine X.opsEnd ?_
    refine X.condF rfl ?_
    refine X.exit rfl ?_
    refine X.seq ?_
    refine X.seq ?_
    refine X.region ?_
    refine X.opw X.wN rfl (X.move rfl) ?_
    have q5 := hM.slF KV_flat 0 (fun _ _ => Nat.zero_le _)
    obtain ⟨A5, c5, rfl, hc5, hs5⟩ := q5
    refine X.opE X.wN rfl (X.callE (may_c _ hs5) Try.call41 rfl rfl) ?_
    rintro _ w4 ⟨rfl, hk4⟩
    have hk4' := hk4.size
    refine X.opw X.wN rfl (X.not_ rfl) ?_
    refine X.opsEnd ?_
    refine X.condB rfl (fun hc => ?_) (fun hc => ?_)
    · refine X.region ?_
      refine X.opw X.wN rfl (X.buildB (cs := #[]) rfl (by kernel_rfl)) ?_
      refine X.opw X.wN rfl (X.mkIface Try.underlying88 rfl rfl) ?_
      refine X.opPanic X.wN rfl ?_
      refine X.unw_pan Try.func46 ?_
      first
      | (rw [pFrom, ← hp]; rcases hq : l with _ | ⟨c0, l0⟩; · subst hq; simp at h10
         · rw [hq] at hb1 hln; obtain ⟨n', rfl⟩ : ∃ n', n = n' + 1 := ⟨n - 1, by simp at hln; omega⟩; rw [pKeys, hb1]; exact ⟨rfl, (Ext.andThen (Ext.andThen (Ext.refl (fun k => k = rb) _) hk (by intro k h1 h2; first | exact h2.elim | omega | (simp only [] at *; omega))) hk4 (by intro k h1 h2; first | exact h2.elim | omega | (simp only [] at *; omega)))⟩)
      | (rw [pFrom, ← hp]; dsimp only; rw [if_neg (by simpa using hc)]; exact ⟨rfl, (Ext.andThen (Ext.andThen (Ext.refl (fun k => k = rb) _) hk (by intro k h1 h2; first | exact h2.elim | omega | (simp only [] at *; omega))) hk4 (by intro k h1 h2; first | exact h2.elim | omega | (simp only [] at *; omega)))⟩)
    · have hT : isT s = true := by simpa using hc
      refine X.skip ?_
      refine X.seq ?_
      refine X.region ?_
      refine X.opw X.wN rfl (X.move rfl) ?_
      refine X.opw X.wN rfl (X.assign rfl) ?_
      refine X.opsEnd ?_
      refine X.ret1 Try.func46 Try.results46 rfl ?_
      rw [pFrom, ← hp]
      dsimp only
      rw [if_pos hT]
      exact ⟨_, rfl, ⟨(hM.keep hk4), hlo, hT⟩, (hR.keep hk4), (Ext.andThen (Ext.andThen (Ext.refl (fun k => k = rb) _) hk (by intro k h1 h2; first | exact h2.elim | omega | (simp only [] at *; omega))) hk4 (by intro k h1 h2; first | exact h2.elim | omega | (simp only [] at *; omega)))⟩
end Go.Proofs.Ytaclpphhidlgpaa
