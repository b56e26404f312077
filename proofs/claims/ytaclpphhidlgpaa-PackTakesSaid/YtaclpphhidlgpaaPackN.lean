/- The reader of package pack: ints, rows, values, tuples. -/
import Derived.Test.YtaclpphhidlgpaaPackL
namespace Go.Proofs.Ytaclpphhidlgpaa
open Go Go.Proofs.Ytaclpphhidlgpaa.X
set_option linter.unusedVariables false
set_option linter.unusedSimpArgs false

def unzig (a : Nat) : Int := if a % 2 = 0 then (a / 2 : Nat) else -((a / 2 : Nat) : Int) - 1
def pInt (xs : List UInt8) : Option (Int × List UInt8) := (pNum 0 0 xs).map fun b => (unzig b.1, b.2)
theorem unzig_ok {a : Nat} (h : a < 18446744073709551616) : okI (unzig a) := by
  unfold unzig okI; split <;> omega
theorem and_1 (a : Nat) (h : a < 18446744073709551616) : IntKind.u64.wrap ((BitVec.ofInt IntKind.u64.bits ((a : Nat) : Int) &&& BitVec.ofInt IntKind.u64.bits 1).toNat : Int) = ((a % 2 : Nat) : Int) := by
  show IntKind.u64.wrap ((BitVec.ofInt 64 ((a : Nat) : Int) &&& 1#64).toNat : Int) = _
  rw [BitVec.ofInt_natCast, BitVec.toNat_and, BitVec.toNat_ofNat, BitVec.toNat_ofNat]
  have : a % 2 ^ 64 &&& 1 % 2 ^ 64 = a % 2 := by
    rw [show (1 : Nat) % 2 ^ 64 = 2 ^ 1 - 1 by decide, Nat.and_two_pow_sub_one_eq_mod]
    omega
  rw [this]; exact w_u64 (by omega)
theorem shr_1 (a : Nat) : ((a : Nat) : Int).fdiv (2 ^ (min (1 : Int).toNat IntKind.u64.bits)) = ((a / 2 : Nat) : Int) := by
  rw [Int.fdiv_eq_ediv_of_nonneg _ (by decide)]
  rfl
theorem unzig_xor (a : Nat) (h : a < 18446744073709551616) : IntKind.i64.wrap ((BitVec.ofInt IntKind.i64.bits ((a / 2 : Nat) : Int) ^^^ BitVec.ofInt IntKind.i64.bits (0 - ((a % 2 : Nat) : Int))).toNat : Int) = unzig a := by
  show IntKind.i64.wrap ((BitVec.ofInt 64 ((a / 2 : Nat) : Int) ^^^ BitVec.ofInt 64 (0 - ((a % 2 : Nat) : Int))).toNat : Int) = _
  unfold unzig
  rcases Nat.mod_two_eq_zero_or_one a with e | e
  · rw [e, if_pos rfl, show (0 : Int) - ((0 : Nat) : Int) = 0 by rfl, show BitVec.ofInt 64 0 = 0#64 by decide, BitVec.xor_zero, BitVec.ofInt_natCast, BitVec.toNat_ofNat, Nat.mod_eq_of_lt (by omega)]
    exact w_i64 (by omega)
  · have key : ∀ y : Nat, y = 18446744073709551615 - a / 2 → IntKind.i64.wrap (y : Int) = -((a / 2 : Nat) : Int) - 1 := by
      intro y hy
      have hs : y + a / 2 = 18446744073709551615 := by rw [hy]; exact Nat.sub_add_cancel (by omega)
      clear hy
      simp only [IntKind.wrap, IntKind.bits, IntKind.signed, Bool.true_and]
      split <;> simp_all <;> omega
    rw [e, if_neg (by decide), show (0 : Int) - ((1 : Nat) : Int) = -1 by rfl, show BitVec.ofInt 64 (-1) = BitVec.allOnes 64 by decide, BitVec.xor_allOnes]
    refine key _ ?_
    rw [BitVec.toNat_not, BitVec.ofInt_natCast, BitVec.toNat_ofNat, Nat.mod_eq_of_lt (by omega)]
-- f54 "(*pedigree/pack.reader).whole" params [81] results [2] -> [(ResultVar.tmp 2)] nfree 0 ntmps 14 names [
set_option maxHeartbeats 4000000 in
set_option maxRecDepth 100000 in
theorem whole_c (hi rb T : Nat) (xs : List UInt8) (w : World) (hr : Rd w hi rb T xs) : PP 54 #[.pointer (some ⟨rb, 0, none⟩)] w hi rb T (pInt xs) (fun a v _ => v = .int .i64 a ∧ okI a) := by
  have hrl := hr.lt
  refine X.enter Try.func54 rfl Try.ntmps54 rfl ?_
  refine X.seq ?_
  refine X.region ?_
  refine X.opw X.wN rfl (X.assign rfl) ?_
  refine X.opsEnd ?_
  refine X.seq ?_
  refine X.region ?_
  refine X.opw X.wN rfl (X.move rfl) ?_
  refine X.opPR (num_c hi rb T _ _ hr) X.wN rfl Try.call51 rfl (fun b1 hb1 => ?_) (fun hb1 => ?_)
  · rintro _ w1 ⟨⟨rfl, hn1⟩, hR1, hx1⟩
    have hx1' := hx1.size
    obtain ⟨a1, ys1⟩ := b1
    simp only at hR1 hn1
    refine X.opw X.wN rfl (X.assign (v := .int .u64 _) rfl) ?_
    refine X.opsEnd ?_
    refine X.seq ?_
    refine X.region ?_
    refine X.opw X.wN rfl (X.move (v := .int .u64 _) rfl) ?_
    refine X.opw X.wN rfl (X.shr rfl rfl (by decide) (shr_1 a1)) ?_
    refine X.opw X.wN rfl (X.cvI Try.underlying33 Try.underlying2 rfl (X.w_i64 (by omega))) ?_
    refine X.opw X.wN rfl (X.move (v := .int .u64 _) rfl) ?_
    refine X.opw X.wN rfl (X.and_ rfl rfl (and_1 a1 hn1)) ?_
    refine X.opw X.wN rfl (X.cvI Try.underlying33 Try.underlying2 rfl (X.w_i64 (by omega))) ?_
    refine X.opw X.wN rfl (X.neg rfl (X.w_i64 (by omega))) ?_
    refine X.opw X.wN rfl (X.xor_ rfl rfl (unzig_xor a1 hn1)) ?_
    refine X.opw X.wN rfl (X.assign (v := .int .i64 _) rfl) ?_
    refine X.opsEnd ?_
    refine X.ret1 (v := (.int .i64 _)) Try.func54 Try.results54 rfl ?_
    rw [pInt, hb1]
    exact ⟨_, rfl, ⟨rfl, unzig_ok hn1⟩, hR1, (Ext.andThen (Ext.refl (fun k => k = rb) _) hx1 (by intro k h1 h2; first | exact h2.elim | omega | (simp only [] at *; omega)))⟩
  · rintro w1 hx1
    have hx1' := hx1.size
    refine X.unw_pan Try.func54 ?_
    rw [pInt, hb1]
    exact ⟨rfl, (Ext.andThen (Ext.refl (fun k => k = rb) _) hx1 (by intro k h1 h2; first | exact h2.elim | omega | (simp only [] at *; omega)))⟩
-- f74 "slices.Clone[[]byte,byte]" params [25] results [25] -> [(ResultVar.tmp 2)] nfree 0 ntmps 8 names ["s",
set_option maxHeartbeats 4000000 in
set_option maxRecDepth 100000 in
theorem Clone_c {lo hi : Nat} {A : Option Addr} {n c : Nat} {l : List UInt8} (w : World) (hs : Sl KB lo hi w A n l) (hn : n ≤ 1000000) : Ret Try.prog 74 #[.slice A n c] w fun r w' => FreshB w w' r l := by
  have hl := hs.len
  refine X.enter Try.func74 rfl Try.ntmps74 rfl ?_
  refine X.seq ?_
  refine X.region ?_
  refine X.opw X.wN rfl (X.assign rfl) ?_
  refine X.opsEnd ?_
  refine X.seq ?_
  refine X.seq ?_
  refine X.region ?_
  refine X.opw X.wN rfl (X.move (v := .slice _ _ _) rfl) ?_
  refine X.opB X.wN rfl rfl (X.eqNil Try.underlying25 rfl rfl) (fun h4 => ?_) (fun h4 => ?_)
  · refine X.opsEnd ?_
    refine X.condT rfl ?_
    refine X.seq ?_
    refine X.region ?_
    refine X.opw X.wN rfl (X.assign rfl) ?_
    refine X.opsEnd ?_
    refine X.ret1 Try.func74 Try.results74 rfl ?_
    refine ⟨?_, (Keep.refl _)⟩
    rcases Nat.eq_zero_or_pos n with h | h
    · have hq : l = [] := List.eq_nil_of_length_eq_zero (by omega)
      subst hq; exact (Mine.nil _ _ _ _ _ _)
    · obtain ⟨ad, e, _⟩ := hs.at_ h
      subst e; simp at h4
  · refine X.opsEnd ?_
    refine X.condF rfl ?_
    refine X.skip ?_
    refine X.seq ?_
    refine X.region ?_
    refine X.opE X.wN rfl (X.lit0E (K := KB) (S := fun k => w.heap.size ≤ k) Try.underlying25 Try.sizeOf5 (by intros; (try simp only [] at *); omega)) ?_
    rintro v1 w1 ⟨hM1, hk1, hz1⟩
    refine X.opw X.wN rfl (X.move (v := .slice _ _ _) rfl) ?_
    refine X.opE X.wN rfl (X.appE (K := KB) (S := fun k => w.heap.size ≤ k) KB_flat Try.underlying25 E5 rfl rfl hM1 (hs.keep hk1) (by (try simp only [List.length_append, List.length_cons, List.length_nil, List.length_take, List.length_drop, List.length_map, List.length_range]); omega) (by intros; (try simp only [] at *); omega)) ?_
    rintro v2 w2 ⟨hM2, hx2⟩
    have hx2' := hx2.size
    refine X.opw X.wN rfl (X.assign rfl) ?_
    refine X.opsEnd ?_
    refine X.ret1 Try.func74 Try.results74 rfl ?_
    exact ⟨hM2, (hk1.step hx2 (by intros; (try simp only [] at *); omega))⟩
/-- A row of at most so many bytes. -/
def pText (most : Int) (xs : List UInt8) : Option (List UInt8 × List UInt8) :=
  match pNum 0 0 xs with
  | none => none
  | some (a, ys) => if most < 0 ∨ most < (a : Int) ∨ 1048576 < a ∨ ys.length < a then none else some (ys.take a, ys.drop a)
-- f57 "(*pedigree/pack.reader).text" params [81, 3] results [25] -> [(ResultVar.tmp 4)] nfree 0 ntmps 27 name
set_option maxHeartbeats 4000000 in
set_option maxRecDepth 100000 in
theorem text_c (most : Int) (hmo : okI most) (hi rb T : Nat) (xs : List UInt8) (w : World) (hr : Rd w hi rb T xs) : PP 57 #[.pointer (some ⟨rb, 0, none⟩), .int .i64 most] w hi rb T (pText most xs) (fun a v w' => Mine KB 5 (fun k => w.heap.size ≤ k) 0 0 w' v a) := by
  have hrl := hr.lt
  unfold okI at hmo
  refine X.enter Try.func57 rfl Try.ntmps57 rfl ?_
  refine X.seq ?_
  refine X.region ?_
  refine X.opw X.wN rfl (X.assign rfl) ?_
  refine X.opsEnd ?_
  refine X.seq ?_
  refine X.region ?_
  refine X.opw X.wN rfl (X.move rfl) ?_
  refine X.opPR (num_c hi rb T _ _ hr) X.wN rfl Try.call51 rfl (fun b1 hb1 => ?_) (fun hb1 => ?_)
  · rintro _ w1 ⟨⟨rfl, hn1⟩, hR1, hx1⟩
    have hx1' := hx1.size
    obtain ⟨a1, ys1⟩ := b1
    simp only at hR1 hn1
    refine X.opw X.wN rfl (X.assign (v := .int .u64 _) rfl) ?_
    refine X.opsEnd ?_
    refine X.seq ?_
    refine X.seq ?_
    refine X.region ?_
    refine X.opw X.wN rfl (X.move (v := .int .i64 _) rfl) ?_
    refine X.opP X.wN rfl rfl (X.lss rfl rfl) (fun h9 => ?_) (fun h9 => ?_)
    · refine X.opw X.wN rfl (X.move (v := .bool true) rfl) ?_
      refine X.opS rfl rfl rfl rfl rfl ?_
      refine X.opS rfl rfl rfl rfl rfl ?_
      refine X.opS rfl rfl rfl rfl rfl ?_
      refine X.opS rfl rfl rfl rfl rfl ?_
      refine X.opw X.wN rfl (X.pickT (v := .bool true) rfl rfl) ?_
      refine X.opw X.wN rfl (X.move (v := .bool true) rfl) ?_
      refine X.opS rfl rfl rfl rfl rfl ?_
      refine X.opS rfl rfl rfl rfl rfl ?_
      refine X.opw X.wN rfl (X.pickT (v := .bool true) rfl rfl) ?_
      refine X.opsEnd ?_
      refine X.condT rfl ?_
      refine X.region ?_
      refine X.opw X.wN rfl (X.buildB (cs := #[]) rfl (by kernel_rfl)) ?_
      refine X.opw X.wN rfl (X.mkIface Try.underlying88 rfl rfl) ?_
      refine X.opPanic X.wN rfl ?_
      refine X.unw_pan Try.func57 ?_
      rw [pText, hb1]
      first
      | exact ⟨rfl, (Ext.andThen (Ext.refl (fun k => k = rb) _) hx1 (by intro k h1 h2; first | exact h2.elim | omega | (simp only [] at *; omega)))⟩
      | (dsimp only; rw [if_pos (by omega)]; exact ⟨rfl, (Ext.andThen (Ext.refl (fun k => k = rb) _) hx1 (by intro k h1 h2; first | exact h2.elim | omega | (simp only [] at *; omega)))⟩)
      | (dsimp only; rw [if_pos]; exact ⟨rfl, (Ext.andThen (Ext.refl (fun k => k = rb) _) hx1 (by intro k h1 h2; first | exact h2.elim | omega | (simp only [] at *; omega)))⟩; by_cases h : (a1 : Int) ≤ (ys1.length : Int); · rw [if_pos h] at hb2; cases hb2
         · omega)
    · refine X.opw X.wN rfl (X.move (v := .bool false) rfl) ?_
      refine X.opw (X.wG rfl rfl rfl) rfl (X.move (v := .int .u64 _) rfl) ?_
      refine X.opw (X.wG rfl rfl rfl) rfl (X.move (v := .int .i64 _) rfl) ?_
      refine X.opw (X.wG rfl rfl rfl) rfl (X.cvI (c := most) Try.underlying3 Try.underlying33 rfl (X.w_u64 (by omega))) ?_
      refine X.opP (X.wG rfl rfl rfl) rfl rfl (X.gtr rfl rfl) (fun h14 => ?_) (fun h14 => ?_)
      · refine X.opw X.wN rfl (X.pickF (v := .bool true) rfl rfl) ?_
        refine X.opw X.wN rfl (X.move (v := .bool true) rfl) ?_
        refine X.opS rfl rfl rfl rfl rfl ?_
        refine X.opS rfl rfl rfl rfl rfl ?_
        refine X.opw X.wN rfl (X.pickT (v := .bool true) rfl rfl) ?_
        refine X.opsEnd ?_
        refine X.condT rfl ?_
        refine X.region ?_
        refine X.opw X.wN rfl (X.buildB (cs := #[]) rfl (by kernel_rfl)) ?_
        refine X.opw X.wN rfl (X.mkIface Try.underlying88 rfl rfl) ?_
        refine X.opPanic X.wN rfl ?_
        refine X.unw_pan Try.func57 ?_
        rw [pText, hb1]
        first
        | exact ⟨rfl, (Ext.andThen (Ext.refl (fun k => k = rb) _) hx1 (by intro k h1 h2; first | exact h2.elim | omega | (simp only [] at *; omega)))⟩
        | (dsimp only; rw [if_pos (by omega)]; exact ⟨rfl, (Ext.andThen (Ext.refl (fun k => k = rb) _) hx1 (by intro k h1 h2; first | exact h2.elim | omega | (simp only [] at *; omega)))⟩)
        | (dsimp only; rw [if_pos]; exact ⟨rfl, (Ext.andThen (Ext.refl (fun k => k = rb) _) hx1 (by intro k h1 h2; first | exact h2.elim | omega | (simp only [] at *; omega)))⟩; by_cases h : (a1 : Int) ≤ (ys1.length : Int); · rw [if_pos h] at hb2; cases hb2
           · omega)
      · refine X.opw X.wN rfl (X.pickF (v := .bool false) rfl rfl) ?_
        refine X.opw X.wN rfl (X.move (v := .bool false) rfl) ?_
        refine X.opw (X.wG rfl rfl rfl) rfl (X.move (v := .int .u64 _) rfl) ?_
        refine X.opP (X.wG rfl rfl rfl) rfl rfl (X.gtr rfl rfl) (fun h18 => ?_) (fun h18 => ?_)
        · refine X.opw X.wN rfl (X.pickF (v := .bool true) rfl rfl) ?_
          refine X.opsEnd ?_
          refine X.condT rfl ?_
          refine X.region ?_
          refine X.opw X.wN rfl (X.buildB (cs := #[]) rfl (by kernel_rfl)) ?_
          refine X.opw X.wN rfl (X.mkIface Try.underlying88 rfl rfl) ?_
          refine X.opPanic X.wN rfl ?_
          refine X.unw_pan Try.func57 ?_
          rw [pText, hb1]
          first
          | exact ⟨rfl, (Ext.andThen (Ext.refl (fun k => k = rb) _) hx1 (by intro k h1 h2; first | exact h2.elim | omega | (simp only [] at *; omega)))⟩
          | (dsimp only; rw [if_pos (by omega)]; exact ⟨rfl, (Ext.andThen (Ext.refl (fun k => k = rb) _) hx1 (by intro k h1 h2; first | exact h2.elim | omega | (simp only [] at *; omega)))⟩)
          | (dsimp only; rw [if_pos]; exact ⟨rfl, (Ext.andThen (Ext.refl (fun k => k = rb) _) hx1 (by intro k h1 h2; first | exact h2.elim | omega | (simp only [] at *; omega)))⟩; by_cases h : (a1 : Int) ≤ (ys1.length : Int); · rw [if_pos h] at hb2; cases hb2
             · omega)
        · refine X.opw X.wN rfl (X.pickF (v := .bool false) rfl rfl) ?_
          refine X.opsEnd ?_
          refine X.condF rfl ?_
          refine X.skip ?_
          refine X.seq ?_
          refine X.region ?_
          refine X.opw X.wN rfl (X.move rfl) ?_
          refine X.opw X.wN rfl (X.move (v := .int .u64 _) rfl) ?_
          refine X.opw X.wN rfl (X.cvI Try.underlying33 Try.underlying3 rfl (X.w_i64 (by omega))) ?_
          refine X.opPR (some_c hi rb T _ _ (by omega) _ hR1) X.wN rfl Try.call69 rfl (fun u2 hb2 => ?_) (fun hb2 => ?_)
          · rintro _ w2 ⟨⟨A2, c2, rfl, hcc2, hs2⟩, hR2, hx2⟩
            have hx2' := hx2.size
            have hle2 : (a1 : Int) ≤ (ys1.length : Int) := by
              by_cases h : (a1 : Int) ≤ (ys1.length : Int)
              · exact h
              · rw [if_neg h] at hb2; cases hb2
            have hrT := hR1.T
            refine X.opE X.wN rfl (X.callE (Clone_c _ hs2 (by omega)) Try.call74 rfl rfl) ?_
            rintro v3 w3 ⟨hM3, hk3⟩
            have hk3' := hk3.size
            refine X.opw X.wN rfl (X.assign rfl) ?_
            refine X.opsEnd ?_
            refine X.ret1 Try.func57 Try.results57 rfl ?_
            rw [pText, hb1]
            dsimp only
            rw [if_neg (by omega)]
            exact ⟨_, rfl, Mine.mono (T := fun k => w.heap.size ≤ k) hM3 (fun k h1 h2 => by (try simp only [] at *); omega), (hR2.keep hk3), (Ext.andThen (Ext.andThen (Ext.andThen (Ext.refl (fun k => k = rb) _) hx1 (by intro k h1 h2; first | exact h2.elim | omega | (simp only [] at *; omega))) hx2 (by intro k h1 h2; first | exact h2.elim | omega | (simp only [] at *; omega))) hk3 (by intro k h1 h2; first | exact h2.elim | omega | (simp only [] at *; omega)))⟩
          · rintro w2 hx2
            have hx2' := hx2.size
            refine X.unw_pan Try.func57 ?_
            rw [pText, hb1]
            first
            | exact ⟨rfl, (Ext.andThen (Ext.andThen (Ext.refl (fun k => k = rb) _) hx1 (by intro k h1 h2; first | exact h2.elim | omega | (simp only [] at *; omega))) hx2 (by intro k h1 h2; first | exact h2.elim | omega | (simp only [] at *; omega)))⟩
            | (dsimp only; rw [if_pos (by omega)]; exact ⟨rfl, (Ext.andThen (Ext.andThen (Ext.refl (fun k => k = rb) _) hx1 (by intro k h1 h2; first | exact h2.elim | omega | (simp only [] at *; omega))) hx2 (by intro k h1 h2; first | exact h2.elim | omega | (simp only [] at *; omega)))⟩)
            | (dsimp only; rw [if_pos]; exact ⟨rfl, (Ext.andThen (Ext.andThen (Ext.refl (fun k => k = rb) _) hx1 (by intro k h1 h2; first | exact h2.elim | omega | (simp only [] at *; omega))) hx2 (by intro k h1 h2; first | exact h2.elim | omega | (simp only [] at *; omega)))⟩; by_cases h : (a1 : Int) ≤ (ys1.length : Int); · rw [if_pos h] at hb2; cases hb2
               · omega)
  · rintro w1 hx1
    have hx1' := hx1.size
    refine X.unw_pan Try.func57 ?_
    rw [pText, hb1]
    first
    | exact ⟨rfl, (Ext.andThen (Ext.refl (fun k => k = rb) _) hx1 (by intro k h1 h2; first | exact h2.elim | omega | (simp only [] at *; omega)))⟩
    | (dsimp only; rw [if_pos (by omega)]; exact ⟨rfl, (Ext.andThen (Ext.refl (fun k => k = rb) _) hx1 (by intro k h1 h2; first | exact h2.elim | omega | (simp only [] at *; omega)))⟩)
    | (dsimp only; rw [if_pos]; exact ⟨rfl, (Ext.andThen (Ext.refl (fun k => k = rb) _) hx1 (by intro k h1 h2; first | exact h2.elim | omega | (simp only [] at *; omega)))⟩; by_cases h : (a1 : Int) ≤ (ys1.length : Int); · rw [if_pos h] at hb2; cases hb2
       · omega)
end Go.Proofs.Ytaclpphhidlgpaa
