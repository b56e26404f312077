/- Texts that the proof of RunWrites stands on, part 15. -/
import Derived.Test.YtbljooblpfdbiaaGreatDoorProg
import Derived.Test.YtbljooblpfdbiaaGreatDoorBunRunWrites14
set_option linter.unusedSimpArgs false
set_option linter.unusedVariables false
namespace Go.Proofs.YtbljooblpfdbiaaGreatDoor
open Go Go.Proofs.YtbljooblpfdbiaaGreatDoor.X
abbrev FLT : Value := .iface 166 (.agg #[])
theorem pNum_suf : ∀ {xs : List UInt8} {i acc : Nat} {b : Nat × List UInt8}, pNum i acc xs = some b → ∃ pre, pre ≠ [] ∧ xs = pre ++ b.2
  | [], _, _, _, h => by cases h
  | c :: xs, i, acc, b, h => by
    unfold pNum at h
    split at h
    · cases h
    · split at h
      · cases h; exact ⟨[c], by simp, rfl⟩
      · obtain ⟨pre, _, e⟩ := pNum_suf h
        exact ⟨c :: pre, by simp, by rw [e]; rfl⟩
theorem pText_suf {most : Int} {xs : List UInt8} {b : List UInt8 × List UInt8} (h : pText most xs = some b) : ∃ pre, pre ≠ [] ∧ xs = pre ++ b.2 := by
  unfold pText at h
  cases hp : pNum 0 0 xs with
  | none => rw [hp] at h; cases h
  | some z =>
    obtain ⟨a, ys⟩ := z
    obtain ⟨pre, h1, e⟩ := pNum_suf hp
    rw [hp] at h
    simp only at h
    split at h
    · cases h
    · cases h
      refine ⟨pre ++ ys.take a, by simp [h1], ?_⟩
      rw [List.append_assoc, List.take_append_drop]; exact e
theorem suf_drop {xs pre ys : List UInt8} (h : xs = pre ++ ys) : xs.drop (xs.length - ys.length) = ys := by
  subst h; rw [List.length_append, Nat.add_sub_cancel, List.drop_left]
set_option maxHeartbeats 4000000 in
set_option maxRecDepth 100000 in
theorem rcaught_0 (be : Nat) (w : World) : DCall Tryz.prog 91 #[.pointer (some ⟨be, 0, none⟩)] w .returning fun m w' => m = .returning ∧ w' = w := by
  refine X.DCall.rec2 (mode' := .returning) (v := .nilIface) Tryz.func91 rfl Tryz.ntmps91 rfl rfl rfl ?_
  refine X.opw X.wN rfl (X.assign rfl) ?_
  refine X.opsEnd ?_
  refine X.seq ?_
  refine X.seq ?_
  refine X.region ?_
  refine X.opw X.wN rfl (X.move rfl) ?_
  refine X.opw X.wN rfl (X.eqIf0 Tryz.underlying20 rfl rfl) ?_
  refine X.opsEnd ?_
  refine X.condT rfl ?_
  refine X.ret0 Tryz.func91 Tryz.results91 ?_
  exact ⟨rfl, rfl⟩
set_option maxHeartbeats 4000000 in
set_option maxRecDepth 100000 in
theorem rcaught_1 (be : Nat) (x : Value) (w : World) (hB : Blk w be [x] 27) : DCall Tryz.prog 91 #[.pointer (some ⟨be, 0, none⟩)] w (.panicking [{ v := FLT, recovered := false }]) fun m w' => m = .panicking [{ v := FLT, recovered := true }] ∧ Blk w' be [.int .i64 71] 27 ∧ Ext (fun k => k = be) w w' := by
  have hlt := hB.lt
  refine X.DCall.rec2 (mode' := .panicking [{ v := FLT, recovered := true }]) (v := FLT) Tryz.func91 rfl Tryz.ntmps91 rfl rfl rfl ?_
  refine X.opw X.wN rfl (X.assign rfl) ?_
  refine X.opsEnd ?_
  refine X.seq ?_
  refine X.seq ?_
  refine X.region ?_
  refine X.opw X.wN rfl (X.move rfl) ?_
  refine X.opw X.wN rfl (X.eqIf1 Tryz.underlying20 rfl rfl) ?_
  refine X.opsEnd ?_
  refine X.condF rfl ?_
  refine X.skip ?_
  refine X.seq ?_
  refine X.seq ?_
  refine X.region ?_
  refine X.opw X.wN rfl (X.move rfl) ?_
  refine X.opw X.wN rfl (X.tAssert Tryz.underlying166 rfl rfl) ?_
  refine X.opw X.wN rfl (X.move rfl) ?_
  refine X.opw X.wN rfl (X.extr rfl rfl) ?_
  refine X.opw X.wN rfl (X.extr (v := .bool true) rfl rfl) ?_
  refine X.opE X.wN rfl (X.allocE Tryz.zeroValue166 rfl) ?_
  rintro _ w1 ⟨rfl, hB1, hk1, hz1⟩
  refine X.opE X.wN rfl (X.storeNE Tryz.sizeOf166 hB1 rfl rfl rfl rfl (fun _ h => by cases h)) ?_
  rintro _ w2 ⟨hB2, hx2, hz2⟩
  refine X.opw X.wN rfl (X.assign (v := .bool true) rfl) ?_
  refine X.opsEnd ?_
  refine X.seq ?_
  refine X.region ?_
  refine X.opw X.wN rfl (X.move (v := .bool true) rfl) ?_
  refine X.opw X.wN rfl (X.not_ rfl) ?_
  refine X.opsEnd ?_
  refine X.condF rfl ?_
  refine X.skip ?_
  refine X.region ?_
  refine X.opw X.wN rfl (X.move rfl) ?_
  refine X.opw X.wN rfl (X.nilCk rfl) ?_
  refine X.opE X.wN rfl (X.storeE Tryz.sizeOf27 (hB.keep (hk1.step hx2 zq26)) rfl rfl rfl rfl) ?_
  rintro _ w3 ⟨hB3, hx3, hz3⟩
  refine X.opsEnd ?_
  refine X.end0 Tryz.func91 Tryz.results91 ?_
  exact ⟨rfl, hB3, (Ext.andThen (Ext.andThen (Ext.andThen (Ext.refl (fun k => k = be) _) hk1 zq23) hx2 zq23) hx3 zq23)⟩
theorem PRet.of {β : Type} {P : Program} {f : FuncId} {args : Array Value} {w : World} {x : Value} {ok : Option β} {Q : β → Value → World → Prop} {B : World → Prop} (h : X.Call P f args w fun o w' => match ok with
    | some b => ∃ v, o = .ret v ∧ Q b v w'
    | none => o = .pan [{ v := x, recovered := false }] ∧ B w') : PRet P f args w x ok Q B := h
def okE (e : Int) : Option Unit := if e = 0 then some () else none
set_option maxHeartbeats 4000000 in
set_option maxRecDepth 100000 in
theorem must_c (e : Int) (w : World) : PRet Tryz.prog 93 #[.int .i64 e] w FLT (okE e) (fun _ v w' => v = .tuple #[] ∧ Keep w w') (fun w' => Keep w w') := by
  unfold okE
  apply PRet.of
  refine X.enter Tryz.func93 rfl Tryz.ntmps93 rfl ?_
  refine X.seq ?_
  refine X.region ?_
  refine X.opw X.wN rfl (X.move (v := .int .i64 _) rfl) ?_
  refine X.opP X.wN rfl rfl (X.neI rfl rfl) (fun h3 => ?_) (fun h3 => ?_)
  · rw [if_neg h3]
    refine X.opsEnd ?_
    refine X.condT rfl ?_
    refine X.region ?_
    refine X.opw X.wN rfl (X.buildB (vs := []) (cs := #[]) rfl (by kernel_rfl)) ?_
    refine X.opw X.wN rfl (X.mkIface Tryz.underlying166 rfl rfl) ?_
    refine X.opPanic X.wN rfl ?_
    refine X.unw_pan Tryz.func93 ?_
    exact ⟨rfl, (Keep.refl _)⟩
  · have h3 : e = 0 := Classical.byContradiction h3
    rw [if_pos h3]
    refine X.opsEnd ?_
    refine X.condF rfl ?_
    refine X.skip ?_
    refine X.end0 Tryz.func93 Tryz.results93 ?_
    exact ⟨_, rfl, rfl, (Keep.refl _)⟩
end Go.Proofs.YtbljooblpfdbiaaGreatDoor
namespace Go.Proofs.YtbljooblpfdbiaaGreatDoor
open Go Go.Proofs.YtbljooblpfdbiaaGreatDoor.X
abbrev LEAF := Nat × Nat × List VAL
def parts (all : Nat) : Nat → Nat → Option (List VAL) → List UInt8 → Option (List LEAF)
  | 0, a, _, x => if x = [] ∧ a = all then some [] else none
  | k + 1, a, last, x => match pNum 0 0 x with
    | none => none
    | some (sz, x1) => match pText 1048576 x1 with
      | none => none
      | some (kb, x2) => match pFrom kb with
        | none => none
        | some t => if all - a < sz ∨ (match last with | none => false | some u => decide (0 ≤ cmpT u t)) = true then none
          else (parts all k (a + sz) (some t) x2).map fun l => (a, sz, t) :: l
def le4 (t : List UInt8) : Nat := (t.getD 0 0).toNat + 256 * (t.getD 1 0).toNat + 65536 * (t.getD 2 0).toNat + 16777216 * (t.getD 3 0).toNat
def idx3 (all : Nat) (x : List UInt8) : Option (List LEAF × Nat) := match pNum 0 0 x with
  | none => none
  | some (cn, x1) => match pNum 0 0 x1 with
    | none => none
    | some (sm, x2) => if 9223372036854775807 < sm then none else (parts all cn 0 none x2).map fun l => (l, sm)
def idx2 (b : List UInt8) (t : List UInt8) : Option (List LEAF × Nat) :=
  if b.length - 8 < le4 t then none else match openC ((b.drop (b.length - 8 - le4 t)).take (le4 t)) with
    | (e, x) => if e ≠ 0 then none else idx3 (b.length - 8 - le4 t) x
def idxP (b : List UInt8) : Option (List LEAF × Nat) :=
  if b.length < 8 then none else match openC (b.drop (b.length - 8)) with
    | (e, t) => if e ≠ 0 then none else idx2 b t
theorem okE_some {α : Type} {o : Option (α × List UInt8)} {u : Unit} (h : okE (code o) = some u) : ∃ z, o = some z := by
  cases o with
  | none => exact absurd h (by show okE 30 ≠ _; simp [okE])
  | some z => exact ⟨z, rfl⟩
theorem okE_none {α : Type} {o : Option (α × List UInt8)} (h : okE (code o) = none) : o = none := by
  cases o with
  | none => rfl
  | some z => exact absurd h (by show okE 0 ≠ _; simp [okE])
theorem okE_s {e : Int} {u : Unit} (h : okE e = some u) : e = 0 := by
  unfold okE at h; split at h
  · assumption
  · cases h
theorem okE_n {e : Int} (h : okE e = none) : e ≠ 0 := by
  unfold okE at h; split at h
  · cases h
  · assumption
set_option maxHeartbeats 4000000 in
set_option maxRecDepth 100000 in
theorem rnum_c {lo hi : Nat} {A : Option Addr} {n c : Nat} {xs : List UInt8} (w : World) (hs : Sl KB lo hi w A n xs) (hhi : hi ≤ w.heap.size) (hnc : n ≤ c) (hn : n ≤ 1000000) : PRet Tryz.prog 94 #[.slice A n c] w FLT (pNum 0 0 xs) (fun b v w' => ∃ A' c', v = .tuple #[.int .u64 ((b.1 : Nat) : Int), .slice A' b.2.length c'] ∧ b.2.length ≤ c' ∧ c' ≤ c ∧ b.1 < 18446744073709551616 ∧ Sl KB lo hi w' A' b.2.length b.2 ∧ Keep w w') (fun w' => Keep w w') := by
  have hl := hs.len
  apply PRet.of
  refine X.enter Tryz.func94 rfl Tryz.ntmps94 rfl ?_
  refine X.seq ?_
  refine X.region ?_
  refine X.opw X.wN rfl (X.assign rfl) ?_
  refine X.opw X.wN rfl (X.assign rfl) ?_
  refine X.opsEnd ?_
  refine X.seq ?_
  refine X.region ?_
  refine X.opw X.wN rfl (X.move (v := .slice _ _ _) rfl) ?_
  refine X.opE X.wN rfl (X.callE (TakeNum_c _ (hs.wide (Nat.zero_le _) (by omega)) hnc hn) Tryz.call126 rfl rfl) ?_
  rintro _ w1 ⟨rfl, hk1⟩
  have hk1' := hk1.size
  refine X.opw X.wN rfl (X.move rfl) ?_
  refine X.opw X.wN rfl (X.extr rfl rfl) ?_
  refine X.opw X.wN rfl (X.extr rfl rfl) ?_
  refine X.opw X.wN rfl (X.extr rfl rfl) ?_
  refine X.opw X.wN rfl (X.assign (v := .int .u64 _) rfl) ?_
  refine X.opw X.wN rfl (X.assign (v := .int .i64 _) rfl) ?_
  refine X.opw X.wN rfl (X.assign (v := .int .i64 _) rfl) ?_
  refine X.opsEnd ?_
  refine X.seq ?_
  refine X.region ?_
  refine X.opw X.wN rfl (X.move (v := .int .i64 _) rfl) ?_
  refine X.opPR (must_c _ _) X.wN rfl Tryz.call93 rfl (fun b2 hb2 => ?_) (fun hb2 => ?_)
  · rintro _ w2 ⟨rfl, hk2⟩
    have hk2' := hk2.size
    obtain ⟨z, hz⟩ := okE_some hb2
    obtain ⟨pre, hpre, hxs⟩ := pNum_suf hz
    have hzl : z.2.length ≤ n := by rw [← hl, hxs, List.length_append]; omega
    have hcn : cnt (pNum 0 0 xs) n = ((n - z.2.length : Nat) : Int) := by rw [hz]; show (n : Int) - (z.2.length : Int) = _; omega
    refine X.opsEnd ?_
    refine X.seq ?_
    refine X.regionD (fun _ => False) 5 (by kernel_rfl) (by kernel_rfl) (fun w3 hk3 hz3 => ?_)
    refine X.dTake 0 rfl (by kernel_rfl) (by kernel_rfl) (by kernel_rfl) (X.dwN rfl) (fun w' hk' => X.move (v := .int .u64 _) rfl) ?_
    refine X.dTake 1 rfl (by kernel_rfl) (by kernel_rfl) (by kernel_rfl) (X.dwN rfl) (fun w' hk' => X.move (v := .slice _ _ _) rfl) ?_
    refine X.dTake 2 rfl (by kernel_rfl) (by kernel_rfl) (by kernel_rfl) (X.dwN rfl) (fun w' hk' => X.move (v := .int .i64 _) rfl) ?_
    refine X.dTake 3 rfl (by kernel_rfl) (by kernel_rfl) (by kernel_rfl) (X.dwN rfl) (fun w' hk' => X.cutL (m := cnt (pNum 0 0 xs) n) Tryz.underlying43 Tryz.sizeOf5 rfl rfl ⟨by omega, by omega⟩) ?_
    refine X.dTake 4 rfl (by kernel_rfl) (by kernel_rfl) (by kernel_rfl) (X.dwN rfl) (fun w' hk' => X.assign (v := .int .u64 _) rfl) ?_
    refine X.dStep (i := 5) (by kernel_rfl) rfl (X.dwN rfl) (X.assign rfl) (fun h => absurd h (by decide)) ?_
    refine X.dEnd (by kernel_rfl) ?_
    refine X.ret2 (v1 := (.int .u64 _)) Tryz.func94 Tryz.results94 rfl rfl ?_
    have e1 : n - (cnt (pNum 0 0 xs) n).toNat = z.2.length := by rw [hcn, Int.toNat_natCast]; omega
    have hd := hs.drop (cnt (pNum 0 0 xs) n).toNat c (by omega) hnc
    rw [e1, hcn, Int.toNat_natCast, ← hl, suf_drop hxs] at hd
    rw [hl] at hd
    rw [hz] at e1 ⊢
    refine ⟨_, rfl, _, c - (cnt (some z) n).toNat, by rw [e1]; rfl, ?_, by omega, pNum_lt xs 0 0 z (by omega) (by decide) hz, ?_, ((hk1.trans hk2).trans hk3)⟩
    · rw [hz] at hcn; rw [hcn, Int.toNat_natCast]; omega
    · rw [hz] at hcn; rw [hcn, Int.toNat_natCast]; exact hd.keep ((hk1.trans hk2).trans hk3)
  · rintro w2 hx2
    have hx2' := hx2.size
    refine X.unw_pan Tryz.func94 ?_
    have hz := okE_none hb2
    rw [hz]
    exact ⟨rfl, ((hk1.step hx2 (by intro q g1; first | exact (g1 : False).elim | (have g1 : q = _ := g1; omega) | omega))).mono fun _ _ h => h.elim⟩
end Go.Proofs.YtbljooblpfdbiaaGreatDoor
namespace Go.Proofs.YtbljooblpfdbiaaGreatDoor
open Go Go.Proofs.YtbljooblpfdbiaaGreatDoor.X
abbrev LH := Nat × Nat × HDR
abbrev evLf (x : LH) : Value := .agg #[.int .i64 (x.1 : Int), .int .i64 (x.2.1 : Int), .slice x.2.2.1 x.2.2.2.1 x.2.2.2.2]
def KLf : Kd LH := Kd.plain 3 (fun x => [.int .i64 (x.1 : Int), .int .i64 (x.2.1 : Int), .slice x.2.2.1 x.2.2.2.1 x.2.2.2.2]) (fun _ => True) (fun _ => rfl) (fun _ u hu => by simp at hu; rcases hu with rfl | rfl | rfl <;> rfl)
theorem KLf_flat : Flat KLf := fun h => h
theorem repsLf {w : World} (x : LH) : RepsV KLf w [x] [evLf x] := ⟨⟨_, rfl, rfl, trivial⟩, trivial⟩
theorem ELf : ElemInfo Tryz.prog 106 3 40 := ElemInfo.of (z := .agg #[.int .i64 0, .int .i64 0, .slice none 0 0]) (by kernel_rfl) rfl rfl rfl
def NdLf : Nd LH LEAF where
  K := KLf
  flat := KLf_flat
  R := fun TB w x q => x.1 = q.1 ∧ x.2.1 = q.2.1 ∧ x.2.2.2.1 ≤ x.2.2.2.2 ∧ ∃ lo hi, (∀ k, lo ≤ k → k < hi → TB k) ∧ Sl KV lo hi w x.2.2.1 x.2.2.2.1 q.2.2
  ext := fun ⟨h1, h2, h3, lo, hi, h4, h5⟩ y hU => ⟨h1, h2, h3, lo, hi, h4, h5.ext y fun k a b => hU k (h4 k a b)⟩
  mono := fun ⟨h1, h2, h3, lo, hi, h4, h5⟩ hT => ⟨h1, h2, h3, lo, hi, fun k a b => hT k (h4 k a b), h5⟩
theorem or64 (a b k : Nat) (ha : a < 2 ^ k) (hk : k ≤ 24) (hb : b < 256) : IntKind.i64.wrap (BitVec.ofInt IntKind.i64.bits (a : Int) ||| BitVec.ofInt IntKind.i64.bits ((b * 2 ^ k : Nat) : Int)).toNat = ((a + 2 ^ k * b : Nat) : Int) := by
  have h1 : (2 : Nat) ^ k ≤ 2 ^ 24 := Nat.pow_le_pow_right (by decide) hk
  have h2 : b * 2 ^ k ≤ 255 * 2 ^ 24 := Nat.mul_le_mul (by omega) h1
  have e : (BitVec.ofInt IntKind.i64.bits (a : Int) ||| BitVec.ofInt IntKind.i64.bits ((b * 2 ^ k : Nat) : Int)).toNat = a + 2 ^ k * b := by
    show (BitVec.ofInt 64 (a : Int) ||| BitVec.ofInt 64 ((b * 2 ^ k : Nat) : Int)).toNat = _
    rw [BitVec.toNat_or, BitVec.ofInt_natCast, BitVec.ofInt_natCast, BitVec.toNat_ofNat, BitVec.toNat_ofNat, Nat.mod_eq_of_lt (by omega), Nat.mod_eq_of_lt (by omega), Nat.or_comm, ← Nat.shiftLeft_eq, ← Nat.shiftLeft_add_eq_or_of_lt ha, Nat.shiftLeft_eq, Nat.mul_comm]
    omega
  rw [e, X.w_i64]
  have := Nat.mul_comm b (2 ^ k)
  omega
theorem shl64 (b k : Nat) (hk : k ≤ 24) (hb : b < 256) : IntKind.i64.wrap ((b : Int) * 2 ^ (min ((k : Int)).toNat IntKind.i64.bits)) = ((b * 2 ^ k : Nat) : Int) := by
  have h : min ((k : Int)).toNat IntKind.i64.bits = k := by show min ((k : Int)).toNat 64 = k; omega
  have h1 : (2 : Nat) ^ k ≤ 2 ^ 24 := Nat.pow_le_pow_right (by decide) hk
  have h2 : b * 2 ^ k ≤ 255 * 2 ^ 24 := Nat.mul_le_mul (by omega) h1
  have e : (2 : Int) ^ k = ((2 ^ k : Nat) : Int) := by rw [Int.natCast_pow]; rfl
  rw [h, e, ← Int.natCast_mul, X.w_i64 (by omega)]
theorem list4 {l : List UInt8} (h : l.length = 4) : ∃ a b c d, l = [a, b, c, d] := by
  match l, h with
  | [a, b, c, d], _ => exact ⟨a, b, c, d, rfl⟩
theorem open_len {l : List UInt8} (h : (openC l).1 = 0) : 4 ≤ l.length ∧ (openC l).2 = l.take (l.length - 4) := by
  rw [openC] at h ⊢
  split at h
  · exact absurd h (by decide)
  · rename_i h4
    rw [if_neg h4]
    split at h
    · rename_i h5; rw [if_pos h5]; exact ⟨by omega, rfl⟩
    · exact absurd h (by decide)
section
variable {all k a : Nat} {last : Option (List VAL)} {x : List UInt8}
theorem parts_1 (h : pNum 0 0 x = none) : parts all (k + 1) a last x = none := by rw [parts, h]
theorem parts_2 {z : Nat × List UInt8} (h : pNum 0 0 x = some z) (h2 : pText 1048576 z.2 = none) : parts all (k + 1) a last x = none := by obtain ⟨s, x1⟩ := z; rw [parts, h]; simp only; rw [h2]
theorem parts_3 {z : Nat × List UInt8} {y : List UInt8 × List UInt8} (h : pNum 0 0 x = some z) (h2 : pText 1048576 z.2 = some y) (h3 : pFrom y.1 = none) : parts all (k + 1) a last x = none := by obtain ⟨s, x1⟩ := z; obtain ⟨kb, x2⟩ := y; rw [parts, h]; simp only; rw [h2]; simp only; rw [h3]
def badL (last : Option (List VAL)) (t : List VAL) : Bool := match last with | none => false | some u => decide (0 ≤ cmpT u t)
theorem parts_4 {z : Nat × List UInt8} {y : List UInt8 × List UInt8} {t : List VAL} (h : pNum 0 0 x = some z) (h2 : pText 1048576 z.2 = some y) (h3 : pFrom y.1 = some t) (h4 : all - a < z.1 ∨ badL last t = true) : parts all (k + 1) a last x = none := by
  obtain ⟨s, x1⟩ := z; obtain ⟨kb, x2⟩ := y; rw [parts, h]; simp only; rw [h2]; simp only; rw [h3]; simp only; exact if_pos h4
theorem parts_5 {z : Nat × List UInt8} {y : List UInt8 × List UInt8} {t : List VAL} (h : pNum 0 0 x = some z) (h2 : pText 1048576 z.2 = some y) (h3 : pFrom y.1 = some t) (h4 : ¬ (all - a < z.1 ∨ badL last t = true)) : parts all (k + 1) a last x = (parts all k (a + z.1) (some t) y.2).map fun l => (a, z.1, t) :: l := by
  obtain ⟨s, x1⟩ := z; obtain ⟨kb, x2⟩ := y; rw [parts, h]; simp only; rw [h2]; simp only; rw [h3]; simp only; exact if_neg h4
end
def lastT (l : List LEAF) : Option (List VAL) := l.getLast?.map (·.2.2)
theorem lastT_snoc (l : List LEAF) (q : LEAF) : lastT (l ++ [q]) = some q.2.2 := by rw [lastT, List.getLast?_concat]; rfl
set_option maxHeartbeats 4000000 in
set_option maxRecDepth 100000 in
theorem zeroI0_c (be bx bn : Nat) (w : World) (hE : Blk w be [.int .i64 0] 27) : Ret Tryz.prog 90 #[.pointer (some ⟨be, 0, none⟩), .pointer (some ⟨bx, 0, none⟩), .pointer (some ⟨bn, 0, none⟩)] w fun _ w' => w' = w := by
  refine X.enter Tryz.func90 rfl Tryz.ntmps90 rfl ?_
  refine X.seq ?_
  refine X.region ?_
  refine X.opw X.wN rfl (X.load1B Tryz.isAgg27 hE rfl rfl) ?_
  refine X.opP X.wN rfl rfl (X.neI rfl rfl) (fun h4 => ?_) (fun h4 => ?_)
  · exact absurd rfl h4
  · refine X.opsEnd ?_
    refine X.condF rfl ?_
    refine X.skip ?_
    refine X.end0 Tryz.func90 Tryz.results90 ?_
    rfl
set_option maxHeartbeats 4000000 in
set_option maxRecDepth 100000 in
theorem zeroI1_c (be bx bn : Nat) (x k : Value) (w : World) (hE : Blk w be [.int .i64 71] 27) (hX : Blk w bx [x] 54) (hN : Blk w bn [k] 3) (h1 : bx ≠ be) (h2 : bn ≠ be) (h3 : bn ≠ bx) : Ret Tryz.prog 90 #[.pointer (some ⟨be, 0, none⟩), .pointer (some ⟨bx, 0, none⟩), .pointer (some ⟨bn, 0, none⟩)] w
    fun _ w' => Blk w' be [.int .i64 71] 27 ∧ Blk w' bx [.slice none 0 0] 54 ∧ Blk w' bn [.int .i64 0] 3 ∧ Ext (fun k => k = bx ∨ k = bn) w w' := by
  refine X.enter Tryz.func90 rfl Tryz.ntmps90 rfl ?_
  refine X.seq ?_
  refine X.region ?_
  refine X.opw X.wN rfl (X.load1B Tryz.isAgg27 hE rfl rfl) ?_
  refine X.opP X.wN rfl rfl (X.neI rfl rfl) (fun h4 => ?_) (fun h4 => ?_)
  · refine X.opsEnd ?_
    refine X.condT rfl ?_
    refine X.region ?_
    refine X.opE X.wN rfl (X.storeE Tryz.sizeOf54 hX rfl rfl rfl rfl) ?_
    rintro _ w1 ⟨hB1, hx1, hz1⟩
    refine X.opE X.wN rfl (X.storeE Tryz.sizeOf3 (hN.ext hx1 zq28) rfl rfl rfl rfl) ?_
    rintro _ w2 ⟨hB2, hx2, hz2⟩
    refine X.opsEnd ?_
    refine X.end0 Tryz.func90 Tryz.results90 ?_
    exact ⟨((hE.ext hx1 zq28).ext hx2 zq28), (hB1.ext hx2 zq28), hB2, (Ext.andThen (Ext.andThen (Ext.refl (fun k => k = bx ∨ k = bn) _) hx1 zq23) hx2 zq23)⟩
  · exact absurd (by decide) h4
end Go.Proofs.YtbljooblpfdbiaaGreatDoor
namespace Go.Proofs.YtbljooblpfdbiaaGreatDoor
open Go Go.Proofs.YtbljooblpfdbiaaGreatDoor.X
theorem open_sl {e : Nat} {w w' : World} {v : Value} {l : List UInt8} (h : Fresh KB e w w' v l) : ∃ A c, v = .slice A l.length c ∧ l.length ≤ c ∧ Sl KB w.heap.size w'.heap.size w' A l.length l ∧ Keep w w' := by
  obtain ⟨hM, hk⟩ := h
  obtain ⟨A, c, e, hc, hs⟩ := hM.slF KB_flat w.heap.size (fun _ h => h)
  exact ⟨A, c, e, hc, hs, hk⟩
theorem sl_cast {α : Type} {K : Kd α} {lo hi : Nat} {w : World} {A : Option Addr} {n : Nat} {l l' : List α} (h : Sl K lo hi w A n l) (e : l = l') : Sl K lo hi w A n l' := e ▸ h
theorem mineKV_sl {w w' : World} {v : Value} {l : List VAL} (hM : Mine KV 90 (fun k => w.heap.size ≤ k) 0 0 w' v l) : ∃ A c, v = .slice A l.length c ∧ l.length ≤ c ∧ Sl KV w.heap.size w'.heap.size w' A l.length l := hM.slF KV_flat w.heap.size (fun _ h => h)
theorem pText_fst {most : Int} {xs : List UInt8} {b : List UInt8 × List UInt8} (h : pText most xs = some b) : b.1.length + b.2.length ≤ xs.length := by
  unfold pText at h
  cases hp : pNum 0 0 xs with
  | none => rw [hp] at h; cases h
  | some z =>
    obtain ⟨a, ys⟩ := z
    obtain ⟨pre, h1, e⟩ := pNum_suf hp
    rw [hp] at h
    simp only at h
    split at h
    · cases h
    · cases h
      rw [e, List.length_append]; simp only [List.length_take, List.length_drop]; omega
theorem last_at {l : List LEAF} {q : LEAF} (h : l[l.length - 1]? = some q) : lastT l = some q.2.2 := by rw [lastT, List.getLast?_eq_getElem?, h]; rfl
theorem last_nil {l : List LEAF} (h : ¬ 0 < l.length) : lastT l = none := by
  have : l = [] := List.eq_nil_of_length_eq_zero (by omega)
  rw [this]; rfl
theorem idx_a {xs : List UInt8} (h : xs.length < 8) : idxP xs = none := by rw [idxP, if_pos h]
theorem idx_b {xs : List UInt8} (h : ¬ xs.length < 8) (h2 : (openC (xs.drop (xs.length - 8))).1 ≠ 0) : idxP xs = none := by rw [idxP, if_neg h]; simp only []; exact if_pos h2
theorem idx_c {xs : List UInt8} (h : ¬ xs.length < 8) (h2 : (openC (xs.drop (xs.length - 8))).1 = 0) : idxP xs = idx2 xs (openC (xs.drop (xs.length - 8))).2 := by rw [idxP, if_neg h]; simp only []; exact if_neg (by simp [h2])
theorem idx_d {xs t : List UInt8} (h : xs.length - 8 < le4 t) : idx2 xs t = none := by rw [idx2, if_pos h]
theorem idx_e {xs t : List UInt8} (h : ¬ xs.length - 8 < le4 t) (h2 : (openC ((xs.take (xs.length - 8 - le4 t + le4 t)).drop (xs.length - 8 - le4 t))).1 ≠ 0) : idx2 xs t = none := by
  rw [List.drop_take, Nat.add_sub_cancel_left] at h2
  rw [idx2, if_neg h]; simp only []; exact if_pos h2
theorem idx_f {xs t : List UInt8} (h : ¬ xs.length - 8 < le4 t) (h2 : (openC ((xs.take (xs.length - 8 - le4 t + le4 t)).drop (xs.length - 8 - le4 t))).1 = 0) : idx2 xs t = idx3 (xs.length - 8 - le4 t) (openC ((xs.take (xs.length - 8 - le4 t + le4 t)).drop (xs.length - 8 - le4 t))).2 := by
  rw [List.drop_take, Nat.add_sub_cancel_left] at h2 ⊢
  rw [idx2, if_neg h]; simp only []; exact if_neg (by simp [h2])
theorem idx_g {all : Nat} {x : List UInt8} (h : pNum 0 0 x = none) : idx3 all x = none := by rw [idx3, h]
theorem idx_h {all : Nat} {x : List UInt8} {z : Nat × List UInt8} (h : pNum 0 0 x = some z) (h2 : pNum 0 0 z.2 = none) : idx3 all x = none := by obtain ⟨s, x1⟩ := z; rw [idx3, h]; simp only; rw [h2]
theorem idx_i {all : Nat} {x : List UInt8} {z y : Nat × List UInt8} (h : pNum 0 0 x = some z) (h2 : pNum 0 0 z.2 = some y) (h3 : 9223372036854775807 < y.1) : idx3 all x = none := by obtain ⟨s, x1⟩ := z; obtain ⟨s2, x2⟩ := y; rw [idx3, h]; simp only; rw [h2]; simp only; exact if_pos h3
theorem idx_j {all : Nat} {x : List UInt8} {z y : Nat × List UInt8} (h : pNum 0 0 x = some z) (h2 : pNum 0 0 z.2 = some y) (h3 : ¬ 9223372036854775807 < y.1) : idx3 all x = (parts all z.1 0 none y.2).map fun l => (l, y.1) := by obtain ⟨s, x1⟩ := z; obtain ⟨s2, x2⟩ := y; rw [idx3, h]; simp only; rw [h2]; simp only; exact if_neg h3
theorem map_nil {o : Option (List LEAF)} {k : Nat} : (o.map fun l => (l, k)) = ((o.map (([] : List LEAF) ++ ·)).map fun l => (l, k)) := by cases o <;> rfl
theorem map_snoc {o : Option (List LEAF)} {l : List LEAF} {q : LEAF} : ((o.map fun l' => q :: l').map (l ++ ·)) = o.map ((l ++ [q]) ++ ·) := by cases o <;> simp
set_option maxHeartbeats 4000000 in
set_option maxRecDepth 100000 in
theorem index_c {lo hi : Nat} {A : Option Addr} {n c : Nat} {xs : List UInt8} (w : World) (hs : Sl KB lo hi w A n xs) (hhi : hi ≤ w.heap.size) (hnc : n ≤ c) (hn : n ≤ 1000000) (hTb : TabOk w) : Ret Tryz.prog 41 #[.slice A n c] w fun r w' => (match idxP xs with
    | some (l, k) => ∃ v L m S G, r = .tuple #[v, .int .i64 (k : Int), .int .i64 0] ∧ NRow NdLf 106 w.heap.size m S G w' v L l
    | none => r = .tuple #[.slice none 0 0, .int .i64 0, .int .i64 71]) ∧ Keep w w' := by
  have hsl := hs.len
  have htl := hTb.lt
  refine X.enter Tryz.func41 rfl Tryz.ntmps41 rfl ?_
  refine X.seq ?_
  refine X.region ?_
  refine X.opE X.wN rfl (X.allocE Tryz.zeroValue54 rfl) ?_
  rintro _ w1 ⟨rfl, hB1, hk1, hz1⟩
  refine X.opE X.wN rfl (X.allocE Tryz.zeroValue3 rfl) ?_
  rintro _ w2 ⟨rfl, hB2, hk2, hz2⟩
  refine X.opE X.wN rfl (X.allocE Tryz.zeroValue27 rfl) ?_
  rintro _ w3 ⟨rfl, hB3, hk3, hz3⟩
  refine X.opsEnd ?_
  refine X.seq ?_
  refine X.region ?_
  refine X.opw X.wN rfl (X.mkFunc rfl) ?_
  refine X.opDefer X.wN rfl rfl ?_
  refine X.opsEnd ?_
  refine X.seq ?_
  refine X.region ?_
  refine X.opDefer X.wN rfl rfl ?_
  refine X.opsEnd ?_
  refine X.seq ?_
  refine X.seq ?_
  refine X.region ?_
  refine X.opw X.wN rfl (X.move (v := .slice _ _ _) rfl) ?_
  refine X.opw X.wN rfl (X.lenSl Tryz.underlying43 rfl) ?_
  refine X.opP X.wN rfl rfl (X.lss rfl rfl) (fun h22 => ?_) (fun h22 => ?_)
  · 
    refine X.opsEnd ?_
    refine X.condT rfl ?_
    refine X.region ?_
    refine X.opw X.wN rfl (X.buildB (vs := []) (cs := #[]) rfl (by kernel_rfl)) ?_
    refine X.opw X.wN rfl (X.mkIface Tryz.underlying166 rfl rfl) ?_
    refine X.opPanic X.wN rfl ?_
    have hN : idxP xs = none := idx_a (by omega)
    refine X.unw_defer Tryz.call91 (fun h => by cases h) (rcaught_1 _ _ _ hB3) ?_
    rintro m wz ⟨rfl, hBz, hxz⟩
    have hxz' := hxz.size
    show X.Unw _ _ _ FrameMode.returning _ _ _ _
    refine X.unw_defer Tryz.call90 (fun h => by cases h) (X.DCall.of_ret (zeroI1_c _ _ _ _ _ _ hBz ((hB1.keep (hk2.trans hk3)).ext hxz zq27) ((hB2.keep hk3).ext hxz zq27) (by omega) (by omega) (by omega))) ?_
    rintro m wq ⟨rfl, vq, hq1, hq2, hq3, hq4⟩
    show X.Unw _ _ _ FrameMode.returning _ _ _ _
    refine X.unwR3 Tryz.func41 Tryz.results41 (X.ResOk.cell rfl (X.lv1 Tryz.isAgg54 hq2 rfl)) (X.ResOk.cell rfl (X.lv1 Tryz.isAgg3 hq3 rfl)) (X.ResOk.cell rfl (X.lv1 Tryz.isAgg27 hq1 rfl)) ?_
    rw [hN]
    exact ⟨rfl, ((((hk1.trans hk2).trans hk3)).step hxz zq17).step hq4 zq17⟩
  · refine X.opsEnd ?_
    refine X.condF rfl ?_
    refine X.skip ?_
    refine X.seq ?_
    refine X.region ?_
    refine X.opw X.wN rfl (X.move (v := .slice _ _ _) rfl) ?_
    refine X.opw X.wN rfl (X.lenSl Tryz.underlying43 rfl) ?_
    refine X.opw X.wN rfl (X.sub (c := ((n - 8 : Nat) : Int)) rfl rfl (by rw [X.w_i64 (by omega)]; omega)) ?_
    refine X.opw X.wN rfl (X.assign (v := .int .i64 _) rfl) ?_
    refine X.opsEnd ?_
    refine X.seq ?_
    refine X.region ?_
    refine X.opw X.wN rfl (X.move (v := .slice _ _ _) rfl) ?_
    refine X.opw X.wN rfl (X.move (v := .int .i64 _) rfl) ?_
    refine X.opw X.wN rfl (X.cutL Tryz.underlying43 Tryz.sizeOf5 rfl rfl (by omega)) ?_
    refine X.opE X.wN rfl (X.callE (Open_c _ ((hs.drop (n - 8) c (by omega) (by omega)).keep ((hk1.trans hk2).trans hk3)) (by omega) (by omega) (hTb.keep ((hk1.trans hk2).trans hk3))) Tryz.call92 rfl rfl) ?_
    rintro _ w4 ⟨v4, rfl, hF4⟩
    obtain ⟨Ao1, co1, rfl, hco1, hso1, hk4⟩ := open_sl hF4
    have hk4' := hk4.size
    refine X.opw X.wN rfl (X.move rfl) ?_
    refine X.opw X.wN rfl (X.extr rfl rfl) ?_
    refine X.opw X.wN rfl (X.extr rfl rfl) ?_
    refine X.opw X.wN rfl (X.assign (v := .slice _ _ _) rfl) ?_
    refine X.opw X.wN rfl (X.assign (v := .int .i64 _) rfl) ?_
    refine X.opsEnd ?_
    refine X.seq ?_
    refine X.region ?_
    refine X.opw X.wN rfl (X.move (v := .int .i64 _) rfl) ?_
    refine X.opPR (must_c _ _) X.wN rfl Tryz.call93 rfl (fun b5 hb5 => ?_) (fun hb5 => ?_)
    · rintro _ w5 ⟨rfl, hk5⟩
      have hk5' := hk5.size
      have ho1 := okE_s hb5
      obtain ⟨g1, g2⟩ := open_len ho1
      have hE1 : idxP xs = idx2 xs (openC (xs.drop (n - 8))).2 := by subst hsl; exact idx_c (by omega) ho1
      have hT4 : (openC (xs.drop (n - 8))).2.length = 4 := by rw [g2, List.length_take, List.length_drop]; omega
      obtain ⟨c0, c1, c2, c3, hT⟩ := list4 hT4
      have hT0 : (openC (xs.drop (n - 8))).2[0]? = some c0 := by rw [hT]; rfl
      have hT1 : (openC (xs.drop (n - 8))).2[1]? = some c1 := by rw [hT]; rfl
      have hT2 : (openC (xs.drop (n - 8))).2[2]? = some c2 := by rw [hT]; rfl
      have hT3 : (openC (xs.drop (n - 8))).2[3]? = some c3 := by rw [hT]; rfl
      have hTle : (le4 (openC (xs.drop (n - 8))).2) = c0.toNat + 256 * c1.toNat + 65536 * c2.toNat + 16777216 * c3.toNat := by rw [hT]; rfl
      have hc0 := c0.toNat_lt
      have hc1 := c1.toNat_lt
      have hc2 := c2.toNat_lt
      have hc3 := c3.toNat_lt
      refine X.opsEnd ?_
      refine X.seq ?_
      refine X.regionD (fun _ => False) 22 (by kernel_rfl) (by kernel_rfl) (fun w6 hk6 hz6 => ?_)
      refine X.dTake 0 rfl (by kernel_rfl) (by kernel_rfl) (by kernel_rfl) (X.dwN rfl) (fun w' hk' => X.move (v := .slice _ _ _) rfl) ?_
      refine X.dTake 1 rfl (by kernel_rfl) (by kernel_rfl) (by kernel_rfl) (X.dwN rfl) (fun w' hk' => X.idxS (hso1.keep ((hk5.trans hk6).trans hk')) Tryz.underlying43 Tryz.sizeOf5 rfl rfl ⟨by omega, by omega⟩) ?_
      refine X.dTake 2 rfl (by kernel_rfl) (by kernel_rfl) (by kernel_rfl) (X.dwN rfl) (fun w' hk' => X.loadS Tryz.isAgg5 (hso1.keep ((hk5.trans hk6).trans hk')) (j := 0) hT0 rfl (fun _ h => by rw [h.1]; rfl)) ?_
      refine X.dTake 3 rfl (by kernel_rfl) (by kernel_rfl) (by kernel_rfl) (X.dwN rfl) (fun w' hk' => X.cvI Tryz.underlying5 Tryz.underlying3 rfl (X.w_i64 (by omega))) ?_
      refine X.dTake 4 rfl (by kernel_rfl) (by kernel_rfl) (by kernel_rfl) (X.dwN rfl) (fun w' hk' => X.move (v := .slice _ _ _) rfl) ?_
      refine X.dTake 5 rfl (by kernel_rfl) (by kernel_rfl) (by kernel_rfl) (X.dwN rfl) (fun w' hk' => X.idxS (hso1.keep ((hk5.trans hk6).trans hk')) Tryz.underlying43 Tryz.sizeOf5 rfl rfl ⟨by omega, by omega⟩) ?_
      refine X.dTake 6 rfl (by kernel_rfl) (by kernel_rfl) (by kernel_rfl) (X.dwN rfl) (fun w' hk' => X.loadS Tryz.isAgg5 (hso1.keep ((hk5.trans hk6).trans hk')) (j := 1) hT1 rfl (fun _ h => by rw [h.1]; rfl)) ?_
      refine X.dTake 7 rfl (by kernel_rfl) (by kernel_rfl) (by kernel_rfl) (X.dwN rfl) (fun w' hk' => X.cvI Tryz.underlying5 Tryz.underlying3 rfl (X.w_i64 (by omega))) ?_
      refine X.dTake 8 rfl (by kernel_rfl) (by kernel_rfl) (by kernel_rfl) (X.dwN rfl) (fun w' hk' => X.shl (c := ((c1.toNat * 2 ^ 8 : Nat) : Int)) rfl rfl (by decide) (shl64 c1.toNat 8 (by decide) (by omega))) ?_
      refine X.dTake 9 rfl (by kernel_rfl) (by kernel_rfl) (by kernel_rfl) (X.dwN rfl) (fun w' hk' => X.or_ (c := (((c0.toNat + 2 ^ 8 * c1.toNat) : Nat) : Int)) rfl rfl (or64 c0.toNat c1.toNat 8 (by omega) (by decide) (by omega))) ?_
      refine X.dTake 10 rfl (by kernel_rfl) (by kernel_rfl) (by kernel_rfl) (X.dwN rfl) (fun w' hk' => X.move (v := .slice _ _ _) rfl) ?_
      refine X.dTake 11 rfl (by kernel_rfl) (by kernel_rfl) (by kernel_rfl) (X.dwN rfl) (fun w' hk' => X.idxS (hso1.keep ((hk5.trans hk6).trans hk')) Tryz.underlying43 Tryz.sizeOf5 rfl rfl ⟨by omega, by omega⟩) ?_
      refine X.dTake 12 rfl (by kernel_rfl) (by kernel_rfl) (by kernel_rfl) (X.dwN rfl) (fun w' hk' => X.loadS Tryz.isAgg5 (hso1.keep ((hk5.trans hk6).trans hk')) (j := 2) hT2 rfl (fun _ h => by rw [h.1]; rfl)) ?_
      refine X.dTake 13 rfl (by kernel_rfl) (by kernel_rfl) (by kernel_rfl) (X.dwN rfl) (fun w' hk' => X.cvI Tryz.underlying5 Tryz.underlying3 rfl (X.w_i64 (by omega))) ?_
      refine X.dTake 14 rfl (by kernel_rfl) (by kernel_rfl) (by kernel_rfl) (X.dwN rfl) (fun w' hk' => X.shl (c := ((c2.toNat * 2 ^ 16 : Nat) : Int)) rfl rfl (by decide) (shl64 c2.toNat 16 (by decide) (by omega))) ?_
      refine X.dTake 15 rfl (by kernel_rfl) (by kernel_rfl) (by kernel_rfl) (X.dwN rfl) (fun w' hk' => X.or_ (c := ((((c0.toNat + 2 ^ 8 * c1.toNat) + 2 ^ 16 * c2.toNat) : Nat) : Int)) rfl rfl (or64 (c0.toNat + 2 ^ 8 * c1.toNat) c2.toNat 16 (by omega) (by decide) (by omega))) ?_
      refine X.dTake 16 rfl (by kernel_rfl) (by kernel_rfl) (by kernel_rfl) (X.dwN rfl) (fun w' hk' => X.move (v := .slice _ _ _) rfl) ?_
      refine X.dTake 17 rfl (by kernel_rfl) (by kernel_rfl) (by kernel_rfl) (X.dwN rfl) (fun w' hk' => X.idxS (hso1.keep ((hk5.trans hk6).trans hk')) Tryz.underlying43 Tryz.sizeOf5 rfl rfl ⟨by omega, by omega⟩) ?_
      refine X.dTake 18 rfl (by kernel_rfl) (by kernel_rfl) (by kernel_rfl) (X.dwN rfl) (fun w' hk' => X.loadS Tryz.isAgg5 (hso1.keep ((hk5.trans hk6).trans hk')) (j := 3) hT3 rfl (fun _ h => by rw [h.1]; rfl)) ?_
      refine X.dTake 19 rfl (by kernel_rfl) (by kernel_rfl) (by kernel_rfl) (X.dwN rfl) (fun w' hk' => X.cvI Tryz.underlying5 Tryz.underlying3 rfl (X.w_i64 (by omega))) ?_
      refine X.dTake 20 rfl (by kernel_rfl) (by kernel_rfl) (by kernel_rfl) (X.dwN rfl) (fun w' hk' => X.shl (c := ((c3.toNat * 2 ^ 24 : Nat) : Int)) rfl rfl (by decide) (shl64 c3.toNat 24 (by decide) (by omega))) ?_
      refine X.dTake 21 rfl (by kernel_rfl) (by kernel_rfl) (by kernel_rfl) (X.dwN rfl) (fun w' hk' => X.or_ (c := (((le4 (openC (xs.drop (n - 8))).2) : Nat) : Int)) rfl rfl (by rw [show (le4 (openC (xs.drop (n - 8))).2) = (((c0.toNat + 2 ^ 8 * c1.toNat) + 2 ^ 16 * c2.toNat) + 2 ^ 24 * c3.toNat) by omega]; exact or64 ((c0.toNat + 2 ^ 8 * c1.toNat) + 2 ^ 16 * c2.toNat) c3.toNat 24 (by omega) (by decide) (by omega))) ?_
      refine X.dStep (i := 22) (by kernel_rfl) rfl (X.dwN rfl) (X.assign (v := .int .i64 _) rfl) (fun h => absurd h (by decide)) ?_
      refine X.dEnd (by kernel_rfl) ?_
      refine X.seq ?_
      refine X.seq ?_
      refine X.region ?_
      refine X.opw X.wN rfl (X.move (v := .int .i64 _) rfl) ?_
      refine X.opw X.wN rfl (X.move (v := .int .i64 _) rfl) ?_
      refine X.opP X.wN rfl rfl (X.gtr rfl rfl) (fun h61 => ?_) (fun h61 => ?_)
      · 
        refine X.opsEnd ?_
        refine X.condT rfl ?_
        refine X.region ?_
        refine X.opw X.wN rfl (X.buildB (vs := []) (cs := #[]) rfl (by kernel_rfl)) ?_
        refine X.opw X.wN rfl (X.mkIface Tryz.underlying166 rfl rfl) ?_
        refine X.opPanic X.wN rfl ?_
        have hN : idxP xs = none := by rw [hE1]; subst hsl; exact idx_d (by omega)
        refine X.unw_defer Tryz.call91 (fun h => by cases h) (rcaught_1 _ _ _ (hB3.keep ((hk4.trans hk5).trans hk6))) ?_
        rintro m wz ⟨rfl, hBz, hxz⟩
        have hxz' := hxz.size
        show X.Unw _ _ _ FrameMode.returning _ _ _ _
        refine X.unw_defer Tryz.call90 (fun h => by cases h) (X.DCall.of_ret (zeroI1_c _ _ _ _ _ _ hBz ((hB1.keep ((((hk2.trans hk3).trans hk4).trans hk5).trans hk6)).ext hxz zq27) ((hB2.keep (((hk3.trans hk4).trans hk5).trans hk6)).ext hxz zq27) (by omega) (by omega) (by omega))) ?_
        rintro m wq ⟨rfl, vq, hq1, hq2, hq3, hq4⟩
        show X.Unw _ _ _ FrameMode.returning _ _ _ _
        refine X.unwR3 Tryz.func41 Tryz.results41 (X.ResOk.cell rfl (X.lv1 Tryz.isAgg54 hq2 rfl)) (X.ResOk.cell rfl (X.lv1 Tryz.isAgg3 hq3 rfl)) (X.ResOk.cell rfl (X.lv1 Tryz.isAgg27 hq1 rfl)) ?_
        rw [hN]
        exact ⟨rfl, (((((((hk1.trans hk2).trans hk3).trans hk4).trans hk5).trans hk6)).step hxz zq17).step hq4 zq17⟩
      · refine X.opsEnd ?_
        refine X.condF rfl ?_
        refine X.skip ?_
        refine X.seq ?_
        refine X.region ?_
        refine X.opw X.wN rfl (X.move (v := .int .i64 _) rfl) ?_
        refine X.opw X.wN rfl (X.move (v := .int .i64 _) rfl) ?_
        refine X.opw X.wN rfl (X.sub (c := (((n - 8 - (le4 (openC (xs.drop (n - 8))).2)) : Nat) : Int)) rfl rfl (by rw [X.w_i64 (by omega)]; omega)) ?_
        refine X.opw X.wN rfl (X.assign (v := .int .i64 _) rfl) ?_
        refine X.opsEnd ?_
        refine X.seq ?_
        refine X.region ?_
        refine X.opw X.wN rfl (X.move (v := .slice _ _ _) rfl) ?_
        refine X.opw X.wN rfl (X.move (v := .int .i64 _) rfl) ?_
        refine X.opw X.wN rfl (X.move (v := .int .i64 _) rfl) ?_
        refine X.opw X.wN rfl (X.move (v := .int .i64 _) rfl) ?_
        refine X.opw X.wN rfl (X.add (c := (((n - 8 - (le4 (openC (xs.drop (n - 8))).2)) + (le4 (openC (xs.drop (n - 8))).2) : Nat) : Int)) rfl rfl (by rw [X.w_i64 (by omega)]; omega)) ?_
        refine X.opw X.wN rfl (X.cutLH Tryz.underlying43 Tryz.sizeOf5 rfl rfl rfl (by omega)) ?_
        refine X.opE X.wN rfl (X.callE (Open_c _ (((hs.take ((n - 8 - (le4 (openC (xs.drop (n - 8))).2)) + (le4 (openC (xs.drop (n - 8))).2)) (by omega)).drop (n - 8 - (le4 (openC (xs.drop (n - 8))).2)) c (by omega) (by omega)).keep (((((hk1.trans hk2).trans hk3).trans hk4).trans hk5).trans hk6)) (by omega) (by omega) (hTb.keep (((((hk1.trans hk2).trans hk3).trans hk4).trans hk5).trans hk6))) Tryz.call92 rfl rfl) ?_
        rintro _ w7 ⟨v7, rfl, hF7⟩
        obtain ⟨Ao2, co2, rfl, hco2, hso2, hk7⟩ := open_sl hF7
        have hk7' := hk7.size
        refine X.opw X.wN rfl (X.move rfl) ?_
        refine X.opw X.wN rfl (X.extr rfl rfl) ?_
        refine X.opw X.wN rfl (X.extr rfl rfl) ?_
        refine X.opw X.wN rfl (X.assign (v := .slice _ _ _) rfl) ?_
        refine X.opw X.wN rfl (X.assign (v := .int .i64 _) rfl) ?_
        refine X.opsEnd ?_
        refine X.seq ?_
        refine X.region ?_
        refine X.opw X.wN rfl (X.move (v := .int .i64 _) rfl) ?_
        refine X.opPR (must_c _ _) X.wN rfl Tryz.call93 rfl (fun b8 hb8 => ?_) (fun hb8 => ?_)
        · rintro _ w8 ⟨rfl, hk8⟩
          have hk8' := hk8.size
          have ho2 := okE_s hb8
          obtain ⟨g3, g4⟩ := open_len ho2
          have hE2 : idxP xs = idx3 (n - 8 - (le4 (openC (xs.drop (n - 8))).2)) (openC ((xs.take ((n - 8 - (le4 (openC (xs.drop (n - 8))).2)) + (le4 (openC (xs.drop (n - 8))).2))).drop (n - 8 - (le4 (openC (xs.drop (n - 8))).2)))).2 := by rw [hE1]; subst hsl; exact idx_f (by omega) ho2
          have hx0 : (openC ((xs.take ((n - 8 - (le4 (openC (xs.drop (n - 8))).2)) + (le4 (openC (xs.drop (n - 8))).2))).drop (n - 8 - (le4 (openC (xs.drop (n - 8))).2)))).2.length ≤ 1000000 := by rw [g4, List.length_take, List.length_drop, List.length_take]; omega
          refine X.opsEnd ?_
          refine X.seq ?_
          refine X.region ?_
          refine X.opw X.wN rfl (X.move (v := .slice _ _ _) rfl) ?_
          refine X.opPR (rnum_c _ (hso2.keep hk8) (by omega) (by omega) (by omega)) X.wN rfl Tryz.call94 rfl (fun z1 hz1 => ?_) (fun hz1 => ?_)
          · rintro _ w9 ⟨An1, cn1, rfl, hnc1, _, hnl1, hsn1, hk9⟩
            have hk9' := hk9.size
            obtain ⟨pre1, _, hp1⟩ := pNum_suf hz1
            have hq1 := congrArg List.length hp1
            rw [List.length_append] at hq1
            have hr1 := List.length_pos_iff.2 ‹pre1 ≠ []›
            refine X.opw X.wN rfl (X.move rfl) ?_
            refine X.opw X.wN rfl (X.extr rfl rfl) ?_
            refine X.opw X.wN rfl (X.extr rfl rfl) ?_
            refine X.opw X.wN rfl (X.assign (v := .int .u64 _) rfl) ?_
            refine X.opw X.wN rfl (X.assign (v := .slice _ _ _) rfl) ?_
            refine X.opsEnd ?_
            refine X.seq ?_
            refine X.region ?_
            refine X.opw X.wN rfl (X.move (v := .slice _ _ _) rfl) ?_
            refine X.opPR (rnum_c _ hsn1 (by omega) (by omega) (by omega)) X.wN rfl Tryz.call94 rfl (fun z2 hz2 => ?_) (fun hz2 => ?_)
            · rintro _ w10 ⟨An2, cn2, rfl, hnc2, _, hnl2, hsn2, hk10⟩
              have hk10' := hk10.size
              obtain ⟨pre2, _, hp2⟩ := pNum_suf hz2
              have hq2 := congrArg List.length hp2
              rw [List.length_append] at hq2
              have hr2 := List.length_pos_iff.2 ‹pre2 ≠ []›
              refine X.opw X.wN rfl (X.move rfl) ?_
              refine X.opw X.wN rfl (X.extr rfl rfl) ?_
              refine X.opw X.wN rfl (X.extr rfl rfl) ?_
              refine X.opw X.wN rfl (X.assign (v := .int .u64 _) rfl) ?_
              refine X.opw X.wN rfl (X.assign (v := .slice _ _ _) rfl) ?_
              refine X.opsEnd ?_
              refine X.seq ?_
              refine X.seq ?_
              refine X.region ?_
              refine X.opw X.wN rfl (X.move (v := .int .u64 _) rfl) ?_
              refine X.opP X.wN rfl rfl (X.gtr rfl rfl) (fun h90 => ?_) (fun h90 => ?_)
              · 
                refine X.opsEnd ?_
                refine X.condT rfl ?_
                refine X.region ?_
                refine X.opw X.wN rfl (X.buildB (vs := []) (cs := #[]) rfl (by kernel_rfl)) ?_
                refine X.opw X.wN rfl (X.mkIface Tryz.underlying166 rfl rfl) ?_
                refine X.opPanic X.wN rfl ?_
                have hN : idxP xs = none := by rw [hE2]; exact idx_i hz1 hz2 (by omega)
                refine X.unw_defer Tryz.call91 (fun h => by cases h) (rcaught_1 _ _ _ (hB3.keep ((((((hk4.trans hk5).trans hk6).trans hk7).trans hk8).trans hk9).trans hk10))) ?_
                rintro m wz ⟨rfl, hBz, hxz⟩
                have hxz' := hxz.size
                show X.Unw _ _ _ FrameMode.returning _ _ _ _
                refine X.unw_defer Tryz.call90 (fun h => by cases h) (X.DCall.of_ret (zeroI1_c _ _ _ _ _ _ hBz ((hB1.keep ((((((((hk2.trans hk3).trans hk4).trans hk5).trans hk6).trans hk7).trans hk8).trans hk9).trans hk10)).ext hxz zq27) ((hB2.keep (((((((hk3.trans hk4).trans hk5).trans hk6).trans hk7).trans hk8).trans hk9).trans hk10)).ext hxz zq27) (by omega) (by omega) (by omega))) ?_
                rintro m wq ⟨rfl, vq, hq1, hq2, hq3, hq4⟩
                show X.Unw _ _ _ FrameMode.returning _ _ _ _
                refine X.unwR3 Tryz.func41 Tryz.results41 (X.ResOk.cell rfl (X.lv1 Tryz.isAgg54 hq2 rfl)) (X.ResOk.cell rfl (X.lv1 Tryz.isAgg3 hq3 rfl)) (X.ResOk.cell rfl (X.lv1 Tryz.isAgg27 hq1 rfl)) ?_
                rw [hN]
                exact ⟨rfl, (((((((((((hk1.trans hk2).trans hk3).trans hk4).trans hk5).trans hk6).trans hk7).trans hk8).trans hk9).trans hk10)).step hxz zq17).step hq4 zq17⟩
              · have hE3 : idxP xs = (parts (n - 8 - (le4 (openC (xs.drop (n - 8))).2)) z1.1 0 none z2.2).map fun l => (l, z2.1) := by rw [hE2]; exact idx_j hz1 hz2 (by omega)
                refine X.opsEnd ?_
                refine X.condF rfl ?_
                refine X.skip ?_
                refine X.seq ?_
                refine X.region ?_
                refine X.opw X.wN rfl (X.assign rfl) ?_
                refine X.opsEnd ?_
                refine X.seq ?_
                refine X.seq ?_
                refine X.region ?_
                refine X.opw X.wN rfl (X.move (v := .int .u64 _) rfl) ?_
                refine X.opw X.wN rfl (X.move rfl) ?_
                refine X.opsEnd ?_
                refine X.block ?_
                refine X.loopL (σ := Nat × Nat × Value × Option Addr × Nat × Nat × List UInt8) (fun s => [(2, .pointer (some ⟨w.heap.size, 0, none⟩)), (3, .pointer (some ⟨w1.heap.size, 0, none⟩)), (4, .pointer (some ⟨w2.heap.size, 0, none⟩)), (5, .int .i64 ((((n - 8 - (le4 (openC (xs.drop (n - 8))).2)) : Nat) : Int) : Int)), (9, .slice s.2.2.2.1 s.2.2.2.2.1 s.2.2.2.2.2.1), (11, .int .u64 ((z2.1 : Nat) : Int)), (12, .int .i64 (s.2.1 : Int)), (93, .int .u64 ((z1.1 : Nat) : Int)), (94, .int .u64 (s.1 : Int))]) (fun s w' => s.1 ≤ z1.1 ∧ s.2.1 ≤ (n - 8 - (le4 (openC (xs.drop (n - 8))).2)) ∧ Keep w w' ∧ Blk w' w.heap.size [s.2.2.1] 54 ∧ Blk w' w1.heap.size [.int .i64 0] 3 ∧ Blk w' w2.heap.size [.int .i64 0] 27 ∧ s.2.2.2.2.1 = s.2.2.2.2.2.2.length ∧ s.2.2.2.2.1 ≤ s.2.2.2.2.2.1 ∧ w10.heap.size ≤ w'.heap.size ∧ ∃ lo9 hi9, Sl KB lo9 hi9 w' s.2.2.2.1 s.2.2.2.2.1 s.2.2.2.2.2.2 ∧ w3.heap.size ≤ lo9 ∧ hi9 ≤ w10.heap.size ∧ ∃ L l S G, NRow NdLf 106 w10.heap.size w'.heap.size S G w' s.2.2.1 L l ∧ l.length + s.2.2.2.2.1 ≤ 1000000 ∧ idxP xs = ((parts (n - 8 - (le4 (openC (xs.drop (n - 8))).2)) (z1.1 - s.1) s.2.1 (lastT l) s.2.2.2.2.2.2).map (l ++ ·)).map fun l => (l, z2.1)) (fun s => z1.1 - s.1) (0, 0, .slice none 0 0, An2, z2.2.length, cn2, z2.2) ⟨rfl, rfl, rfl, rfl, rfl, rfl, rfl, rfl, rfl, trivial⟩ ⟨Nat.zero_le _, Nat.zero_le _, (((((((((hk1.trans hk2).trans hk3).trans hk4).trans hk5).trans hk6).trans hk7).trans hk8).trans hk9).trans hk10), (hB1.keep ((((((((hk2.trans hk3).trans hk4).trans hk5).trans hk6).trans hk7).trans hk8).trans hk9).trans hk10)), (hB2.keep (((((((hk3.trans hk4).trans hk5).trans hk6).trans hk7).trans hk8).trans hk9).trans hk10)), (hB3.keep ((((((hk4.trans hk5).trans hk6).trans hk7).trans hk8).trans hk9).trans hk10)), rfl, hnc2, by (try dsimp only); omega, _, _, hsn2, by omega, by omega, [], [], _, _, NRow.nil _ _ _ _ (Nat.le_refl _), by (try dsimp only); simp; omega, by (try dsimp only); rw [hE3, Nat.sub_zero]; exact map_nil⟩ ?_
                rintro ⟨i, a, v, A9, n9, c9, x9⟩ b w1 ⟨hi0, ha, hk, hB2, hB3, hB4, h9l, h9c, hbs, lo9, hi9, hs9, hlo9, hhi9, L, l, S, G, hNR, hll, hE⟩ hback
                dsimp only
                dsimp only at hi0 ha hB2 h9l h9c hs9 hNR hll hE
                have hk0 := hk.size
                obtain ⟨Av, cv, rfl, hcv, hsv⟩ := hNR.rd
                refine X.seq ?_
                refine X.region ?_
                refine X.opP X.wN rfl rfl (X.lss rfl rfl) (fun h95 => ?_) (fun h95 => ?_)
                · obtain ⟨k, hki⟩ : ∃ k, z1.1 - i = k + 1 := ⟨z1.1 - i - 1, by omega⟩
                  refine X.opsEnd ?_
                  refine X.seq ?_
                  refine X.condT rfl ?_
                  refine X.skip ?_
                  refine X.seq ?_
                  refine X.block ?_
                  refine X.seq ?_
                  refine X.region ?_
                  refine X.opw X.wN rfl (X.assign rfl) ?_
                  refine X.opsEnd ?_
                  refine X.seq ?_
                  refine X.region ?_
                  refine X.opw X.wN rfl (X.move (v := .slice _ _ _) rfl) ?_
                  refine X.opPR (rnum_c _ hs9 (by omega) (by omega) (by omega)) X.wN rfl Tryz.call94 rfl (fun z3 hz3 => ?_) (fun hz3 => ?_)
                  · rintro _ w11 ⟨An3, cn3, rfl, hnc3, _, hnl3, hsn3, hk11⟩
                    have hk11' := hk11.size
                    obtain ⟨pre3, _, hp3⟩ := pNum_suf hz3
                    have hq3 := congrArg List.length hp3
                    rw [List.length_append] at hq3
                    have hr3 := List.length_pos_iff.2 ‹pre3 ≠ []›
                    refine X.opw X.wN rfl (X.move rfl) ?_
                    refine X.opw X.wN rfl (X.extr rfl rfl) ?_
                    refine X.opw X.wN rfl (X.extr rfl rfl) ?_
                    refine X.opw X.wN rfl (X.assign (v := .int .u64 _) rfl) ?_
                    refine X.opw X.wN rfl (X.assign (v := .slice _ _ _) rfl) ?_
                    refine X.opsEnd ?_
                    refine X.seq ?_
                    refine X.region ?_
                    refine X.opw X.wN rfl (X.move (v := .slice _ _ _) rfl) ?_
                    refine X.opE X.wN rfl (X.callE (TakeText_c 1048576 ⟨by decide, by decide⟩ _ (hsn3.wide (Nat.zero_le _) (by omega)) (by omega) (by omega)) Tryz.call95 rfl rfl) ?_
                    rintro _ w12 ⟨vt, rfl, hMt, hk12⟩
                    have hk12' := hk12.size
                    refine X.opw X.wN rfl (X.move rfl) ?_
                    refine X.opw X.wN rfl (X.extr rfl rfl) ?_
                    refine X.opw X.wN rfl (X.extr rfl rfl) ?_
                    refine X.opw X.wN rfl (X.extr rfl rfl) ?_
                    refine X.opw X.wN rfl (X.assign rfl) ?_
                    refine X.opw X.wN rfl (X.assign (v := .int .i64 _) rfl) ?_
                    refine X.opw X.wN rfl (X.assign (v := .int .i64 _) rfl) ?_
                    refine X.opsEnd ?_
                    refine X.seq ?_
                    refine X.region ?_
                    refine X.opw X.wN rfl (X.move (v := .int .i64 _) rfl) ?_
                    refine X.opPR (must_c _ _) X.wN rfl Tryz.call93 rfl (fun b13 hb13 => ?_) (fun hb13 => ?_)
                    · rintro _ w13 ⟨rfl, hk13⟩
                      have hk13' := hk13.size
                      obtain ⟨y, hy⟩ := okE_some hb13
                      obtain ⟨pre, hpre, hxy⟩ := pText_suf hy
                      have hyf := pText_fst hy
                      have hyl : y.2.length ≤ z3.2.length := by omega
                      have hcn : cnt (pText 1048576 z3.2) z3.2.length = ((z3.2.length - y.2.length : Nat) : Int) := by rw [hy]; show (z3.2.length : Int) - (y.2.length : Int) = _; omega
                      have htd : told (pText 1048576 z3.2) [] = y.1 := by rw [hy]; rfl
                      have htl : (told (pText 1048576 z3.2) []).length ≤ 1000000 := by rw [htd]; omega
                      refine X.opsEnd ?_
                      refine X.seq ?_
                      refine X.region ?_
                      refine X.opw X.wN rfl (X.move (v := .slice _ _ _) rfl) ?_
                      refine X.opw X.wN rfl (X.move (v := .int .i64 _) rfl) ?_
                      have hsd := ((hsn3.keep (hk12.trans hk13))).drop (cnt (pText 1048576 z3.2) z3.2.length).toNat cn3 (by omega) (by omega)
                      rw [show z3.2.drop (cnt (pText 1048576 z3.2) z3.2.length).toNat = y.2 by rw [hcn, Int.toNat_natCast]; exact suf_drop hxy] at hsd
                      refine X.opw X.wN rfl (X.cutL (m := cnt (pText 1048576 z3.2) z3.2.length) Tryz.underlying43 Tryz.sizeOf5 rfl rfl ⟨by omega, by omega⟩) ?_
                      refine X.opw X.wN rfl (X.assign rfl) ?_
                      refine X.opsEnd ?_
                      refine X.seq ?_
                      refine X.region ?_
                      refine X.opw X.wN rfl (X.move rfl) ?_
                      have q15 := (hMt.keep hk13).slF KB_flat 0 (fun _ _ => Nat.zero_le _)
                      obtain ⟨A15, c15, rfl, hc15, hs15⟩ := q15
                      refine X.opE X.wN rfl (X.callE (FromKey_c _ (hs15.wide (Nat.le_refl _) (by omega)) (by first | assumption | omega) htl) Tryz.call96 rfl rfl) ?_
                      rintro _ w14 ⟨vk, rfl, hMk, hk14⟩
                      obtain ⟨Ak, ck, rfl, hck, hsk⟩ := mineKV_sl hMk
                      have hk14' := hk14.size
                      refine X.opw X.wN rfl (X.move rfl) ?_
                      refine X.opw X.wN rfl (X.extr rfl rfl) ?_
                      refine X.opw X.wN rfl (X.extr rfl rfl) ?_
                      refine X.opw X.wN rfl (X.assign (v := .slice _ _ _) rfl) ?_
                      refine X.opw X.wN rfl (X.assign (v := .int .i64 _) rfl) ?_
                      refine X.opsEnd ?_
                      refine X.seq ?_
                      refine X.region ?_
                      refine X.opw X.wN rfl (X.move (v := .int .i64 _) rfl) ?_
                      refine X.opPR (must_c _ _) X.wN rfl Tryz.call93 rfl (fun b16 hb16 => ?_) (fun hb16 => ?_)
                      · rintro _ w16 ⟨rfl, hk16⟩
                        have hk16' := hk16.size
                        obtain ⟨t, ht⟩ : ∃ t, pFrom y.1 = some t := by
                          have h0 := okE_s hb16
                          rw [htd] at h0
                          cases hp : pFrom y.1 with
                          | none => rw [hp] at h0; exact absurd h0 (by decide)
                          | some t => exact ⟨t, rfl⟩
                        refine X.opsEnd ?_
                        refine X.seq ?_
                        refine X.seq ?_
                        refine X.region ?_
                        refine X.opw X.wN rfl (X.move (v := .int .u64 _) rfl) ?_
                        refine X.opw X.wN rfl (X.move (v := .int .i64 _) rfl) ?_
                        refine X.opw X.wN rfl (X.move (v := .int .i64 _) rfl) ?_
                        refine X.opw X.wN rfl (X.sub rfl rfl (X.w_i64 (by omega))) ?_
                        refine X.opw X.wN rfl (X.cvI Tryz.underlying3 Tryz.underlying119 rfl (X.w_u64 (by omega))) ?_
                        refine X.opP X.wN rfl rfl (X.gtr rfl rfl) (fun h124 => ?_) (fun h124 => ?_)
                        · have hskt := sl_cast hsk (show (pFrom (told (pText 1048576 z3.2) [])).getD [] = t by rw [htd, ht]; rfl)
                          refine X.opw X.wN rfl (X.move (v := .bool true) rfl) ?_
                          refine X.opS rfl rfl rfl rfl rfl ?_
                          refine X.opS rfl rfl rfl rfl rfl ?_
                          refine X.opS rfl rfl rfl rfl rfl ?_
                          refine X.opS rfl rfl rfl rfl rfl ?_
                          refine X.opU rfl rfl rfl rfl ?_
                          refine X.opU rfl rfl rfl rfl ?_
                          refine X.opU rfl rfl rfl rfl ?_
                          refine X.opU rfl rfl rfl rfl ?_
                          refine X.opU rfl rfl rfl rfl ?_
                          refine X.opU rfl rfl rfl rfl ?_
                          refine X.opU rfl rfl rfl rfl ?_
                          refine X.opU rfl rfl rfl rfl ?_
                          refine X.opU rfl rfl rfl rfl ?_
                          refine X.opU rfl rfl rfl rfl ?_
                          refine X.opS rfl rfl rfl rfl rfl ?_
                          refine X.opw X.wN rfl (X.pickT (v := .bool true) rfl rfl) ?_
                          refine X.opsEnd ?_
                          refine X.condT rfl ?_
                          refine X.region ?_
                          refine X.opw X.wN rfl (X.buildB (vs := []) (cs := #[]) rfl (by kernel_rfl)) ?_
                          refine X.opw X.wN rfl (X.mkIface Tryz.underlying166 rfl rfl) ?_
                          refine X.opPanic X.wN rfl ?_
                          have hN : idxP xs = none := by rw [hE, hki, parts_4 hz3 hy ht (.inl (by omega))]; rfl
                          refine X.unw_defer Tryz.call91 (fun h => by cases h) (rcaught_1 _ _ _ (hB4.keep ((((hk11.trans hk12).trans hk13).trans hk14).trans hk16))) ?_
                          rintro m wz ⟨rfl, hBz, hxz⟩
                          have hxz' := hxz.size
                          show X.Unw _ _ _ FrameMode.returning _ _ _ _
                          refine X.unw_defer Tryz.call90 (fun h => by cases h) (X.DCall.of_ret (zeroI1_c _ _ _ _ _ _ hBz ((hB2.keep ((((hk11.trans hk12).trans hk13).trans hk14).trans hk16)).ext hxz zq27) ((hB3.keep ((((hk11.trans hk12).trans hk13).trans hk14).trans hk16)).ext hxz zq27) (by omega) (by omega) (by omega))) ?_
                          rintro m wq ⟨rfl, vq, hq1, hq2, hq3, hq4⟩
                          show X.Unw _ _ _ FrameMode.returning _ _ _ _
                          refine X.unwR3 Tryz.func41 Tryz.results41 (X.ResOk.cell rfl (X.lv1 Tryz.isAgg54 hq2 rfl)) (X.ResOk.cell rfl (X.lv1 Tryz.isAgg3 hq3 rfl)) (X.ResOk.cell rfl (X.lv1 Tryz.isAgg27 hq1 rfl)) ?_
                          rw [hN]
                          exact ⟨rfl, (((((((hk.trans hk11).trans hk12).trans hk13).trans hk14).trans hk16)).step hxz zq17).step hq4 zq17⟩
                        · have hskt := sl_cast hsk (show (pFrom (told (pText 1048576 z3.2) [])).getD [] = t by rw [htd, ht]; rfl)
                          refine X.opw X.wN rfl (X.move (v := .bool false) rfl) ?_
                          refine X.opw (X.wG rfl rfl rfl) rfl (X.load1B Tryz.isAgg54 (hB2.keep ((((hk11.trans hk12).trans hk13).trans hk14).trans hk16)) rfl rfl) ?_
                          refine X.opw (X.wG rfl rfl rfl) rfl (X.lenSl Tryz.underlying54 rfl) ?_
                          refine X.opP (X.wG rfl rfl rfl) rfl rfl (X.gtr rfl rfl) (fun h128 => ?_) (fun h128 => ?_)
                          · obtain ⟨xl, hxl⟩ : ∃ xl, L[l.length - 1]? = some xl := ⟨_, List.getElem?_eq_getElem (by rw [hNR.d.1]; omega)⟩
                            obtain ⟨ql, hql, _, _, _, loq, hiq, _, hqs⟩ := hNR.d.2 _ _ hxl
                            have hla := last_at hql
                            have hxl' : L[((l.length : Int) - 1).toNat]? = some xl := by rw [show ((l.length : Int) - 1).toNat = l.length - 1 by omega]; exact hxl
                            refine X.opw (X.wG rfl rfl rfl) rfl (X.move (v := .bool true) rfl) ?_
                            refine X.opw (X.wG rfl rfl rfl) rfl (X.load1B Tryz.isAgg54 (hB2.keep ((((hk11.trans hk12).trans hk13).trans hk14).trans hk16)) rfl rfl) ?_
                            refine X.opw (X.wG rfl rfl rfl) rfl (X.load1B Tryz.isAgg54 (hB2.keep ((((hk11.trans hk12).trans hk13).trans hk14).trans hk16)) rfl rfl) ?_
                            refine X.opw (X.wG rfl rfl rfl) rfl (X.lenSl Tryz.underlying54 rfl) ?_
                            refine X.opw (X.wG rfl rfl rfl) rfl (X.sub rfl rfl (X.w_i64 (by omega))) ?_
                            refine X.opw (X.wG rfl rfl rfl) rfl (X.idxS (hsv.keep ((((hk11.trans hk12).trans hk13).trans hk14).trans hk16)) Tryz.underlying54 Tryz.sizeOf106 rfl rfl ⟨by omega, by omega⟩) ?_
                            refine X.opw (X.wG rfl rfl rfl) rfl (X.fldA Tryz.underlying106 rfl rfl Tryz.sizeOf38) ?_
                            refine X.opw (X.wG rfl rfl rfl) rfl (X.loadSf (o := 2) Tryz.isAgg38 (hsv.keep ((((hk11.trans hk12).trans hk13).trans hk14).trans hk16)) hxl' rfl (fun _ h => by rw [h.1]; rfl)) ?_
                            refine X.opw (X.wG rfl rfl rfl) rfl (X.move (v := .slice _ _ _) rfl) ?_
                            refine X.opE (X.wG rfl rfl rfl) rfl (X.callE (tupleCompare_c _ (hqs.keep ((((hk11.trans hk12).trans hk13).trans hk14).trans hk16)) (hsk.keep hk16)) Tryz.call47 rfl rfl) ?_
                            rintro _ w17 ⟨rfl, hk17⟩
                            have hk17' := hk17.size
                            refine X.opP (X.wG rfl rfl rfl) rfl rfl (X.geq rfl rfl) (fun h139 => ?_) (fun h139 => ?_)
                            · have h139' : 0 ≤ cmpT ql.2.2 t := by
                                have h0 := h139
                                rw [show (pFrom (told (pText 1048576 z3.2) [])).getD [] = t by rw [htd, ht]; rfl] at h0
                                exact h0
                              refine X.opw (X.wG rfl rfl rfl) rfl (X.pickT (v := .bool true) rfl rfl) ?_
                              refine X.opw X.wN rfl (X.pickF (v := .bool true) rfl rfl) ?_
                              refine X.opsEnd ?_
                              refine X.condT rfl ?_
                              refine X.region ?_
                              refine X.opw X.wN rfl (X.buildB (vs := []) (cs := #[]) rfl (by kernel_rfl)) ?_
                              refine X.opw X.wN rfl (X.mkIface Tryz.underlying166 rfl rfl) ?_
                              refine X.opPanic X.wN rfl ?_
                              have hN : idxP xs = none := by rw [hE, hki, parts_4 hz3 hy ht (.inr (by rw [hla]; exact decide_eq_true h139'))]; rfl
                              refine X.unw_defer Tryz.call91 (fun h => by cases h) (rcaught_1 _ _ _ (hB4.keep (((((hk11.trans hk12).trans hk13).trans hk14).trans hk16).trans hk17))) ?_
                              rintro m wz ⟨rfl, hBz, hxz⟩
                              have hxz' := hxz.size
                              show X.Unw _ _ _ FrameMode.returning _ _ _ _
                              refine X.unw_defer Tryz.call90 (fun h => by cases h) (X.DCall.of_ret (zeroI1_c _ _ _ _ _ _ hBz ((hB2.keep (((((hk11.trans hk12).trans hk13).trans hk14).trans hk16).trans hk17)).ext hxz zq27) ((hB3.keep (((((hk11.trans hk12).trans hk13).trans hk14).trans hk16).trans hk17)).ext hxz zq27) (by omega) (by omega) (by omega))) ?_
                              rintro m wq ⟨rfl, vq, hq1, hq2, hq3, hq4⟩
                              show X.Unw _ _ _ FrameMode.returning _ _ _ _
                              refine X.unwR3 Tryz.func41 Tryz.results41 (X.ResOk.cell rfl (X.lv1 Tryz.isAgg54 hq2 rfl)) (X.ResOk.cell rfl (X.lv1 Tryz.isAgg3 hq3 rfl)) (X.ResOk.cell rfl (X.lv1 Tryz.isAgg27 hq1 rfl)) ?_
                              rw [hN]
                              exact ⟨rfl, ((((((((hk.trans hk11).trans hk12).trans hk13).trans hk14).trans hk16).trans hk17)).step hxz zq17).step hq4 zq17⟩
                            · have h139' : ¬ 0 ≤ cmpT ql.2.2 t := by
                                have h0 := h139
                                rw [show (pFrom (told (pText 1048576 z3.2) [])).getD [] = t by rw [htd, ht]; rfl] at h0
                                exact h0
                              have hbad : ¬ badL (lastT l) t = true := by rw [hla]; exact fun h => h139' (of_decide_eq_true h)
                              refine X.opw (X.wG rfl rfl rfl) rfl (X.pickT (v := .bool false) rfl rfl) ?_
                              refine X.opw X.wN rfl (X.pickF (v := .bool false) rfl rfl) ?_
                              refine X.opsEnd ?_
                              refine X.condF rfl ?_
                              refine X.skip ?_
                              refine X.seq ?_
                              refine X.region ?_
                              refine X.opw X.wN rfl (X.load1B Tryz.isAgg54 (hB2.keep (((((hk11.trans hk12).trans hk13).trans hk14).trans hk16).trans hk17)) rfl rfl) ?_
                              refine X.opw X.wN rfl (X.move (v := .int .i64 _) rfl) ?_
                              refine X.opw X.wN rfl (X.move (v := .int .u64 _) rfl) ?_
                              refine X.opw X.wN rfl (X.cvI Tryz.underlying119 Tryz.underlying3 rfl (X.w_i64 (by omega))) ?_
                              refine X.opw X.wN rfl (X.move (v := .slice _ _ _) rfl) ?_
                              refine X.opw X.wN rfl (X.buildB (vs := [(0, .int .i64 (a : Int)), (1, .int .i64 ((z3.1 : Nat) : Int)), (2, .slice Ak ((pFrom (told (pText 1048576 z3.2) [])).getD []).length ck)]) (cs := #[.int .i64 (a : Int), .int .i64 ((z3.1 : Nat) : Int), .slice Ak ((pFrom (told (pText 1048576 z3.2) [])).getD []).length ck]) rfl (by kernel_rfl)) ?_
                              refine X.opE X.wN rfl (X.litKF KLf_flat (K := KLf) (xs := [Operand.tmp 149]) (vs := [evLf (a, z3.1, (Ak, ((pFrom (told (pText 1048576 z3.2) [])).getD []).length, ck))]) (ys := [(a, z3.1, (Ak, ((pFrom (told (pText 1048576 z3.2) [])).getD []).length, ck))]) Tryz.underlying54 Tryz.sizeOf106 Tryz.zeroValue106 rfl rfl rfl rfl rfl (repsLf _)) ?_
                              rintro _ w18 ⟨rfl, hs18, hB18, hk18, hz18⟩
                              refine X.opE X.wN rfl (NRow.app (y := (a, z3.1, (Ak, ((pFrom (told (pText 1048576 z3.2) [])).getD []).length, ck))) (q := (a, z3.1, t)) (hNR.keep ((((((hk11.trans hk12).trans hk13).trans hk14).trans hk16).trans hk17).trans hk18)) hs18 ⟨rfl, rfl, hck, _, _, fun _ h1 h2 => ⟨h1, h2⟩, hskt.keep ((hk16.trans hk17).trans hk18)⟩ (by omega) (by omega) (by omega) Tryz.underlying54 ELf rfl rfl (by omega)) ?_
                              rintro _ w19 ⟨Aq, cq, S', G', rfl, hNn, hx19⟩
                              have hx19' := hx19.size
                              refine X.opE X.wN rfl (X.storeE Tryz.sizeOf54 ((hB2.keep ((((((hk11.trans hk12).trans hk13).trans hk14).trans hk16).trans hk17).trans hk18)).ext hx19 zq3) rfl rfl rfl rfl) ?_
                              rintro _ w20 ⟨hB20, hx20, hz20⟩
                              refine X.opsEnd ?_
                              refine X.region ?_
                              refine X.opw X.wN rfl (X.move (v := .int .i64 _) rfl) ?_
                              refine X.opw X.wN rfl (X.move (v := .int .u64 _) rfl) ?_
                              refine X.opw X.wN rfl (X.cvI Tryz.underlying119 Tryz.underlying3 rfl (X.w_i64 (by omega))) ?_
                              refine X.opw X.wN rfl (X.add (c := ((a + z3.1 : Nat) : Int)) rfl rfl (by rw [X.w_i64 (by omega)]; omega)) ?_
                              refine X.opw X.wN rfl (X.assign (v := .int .i64 _) rfl) ?_
                              refine X.opsEnd ?_
                              refine X.inBlock ?_
                              refine X.region ?_
                              refine X.opw X.wN rfl (X.add (c := ((i + 1 : Nat) : Int)) rfl rfl (by rw [X.w_u64 (by omega)]; omega)) ?_
                              refine X.opw X.wN rfl (X.move (v := .int .u64 _) rfl) ?_
                              refine X.opsEnd ?_
                              refine hback (i + 1, a + z3.1, .slice Aq (l ++ [(a, z3.1, t)]).length cq, _, _, _, y.2) _ _ ⟨rfl, rfl, rfl, rfl, rfl, rfl, rfl, rfl, rfl, trivial⟩ ⟨by (try dsimp only); omega, by (try dsimp only); omega, (((((((((hk.trans hk11).trans hk12).trans hk13).trans hk14).trans hk16).trans hk17).trans hk18).step hx19 zq11).step hx20 zq11), hB20, (((hB3.keep ((((((hk11.trans hk12).trans hk13).trans hk14).trans hk16).trans hk17).trans hk18)).ext hx19 zq3).ext hx20 zq3), (((hB4.keep ((((((hk11.trans hk12).trans hk13).trans hk14).trans hk16).trans hk17).trans hk18)).ext hx19 zq3).ext hx20 zq3), ?_, ?_, by (try dsimp only); omega, _, _, (((hsd.keep (((hk14.trans hk16).trans hk17).trans hk18)).ext hx19 zq3).ext hx20 zq3), hlo9, hhi9, L ++ [_], l ++ [(a, z3.1, t)], S', G', ((hNn.ext hx20 zq3)).all, ?_, ?_⟩ ?_
                              · (try dsimp only); rw [hcn, Int.toNat_natCast]; omega
                              · (try dsimp only); rw [hcn, Int.toNat_natCast]; omega
                              · (try dsimp only); rw [List.length_append, List.length_singleton, hcn, Int.toNat_natCast]; omega
                              · (try dsimp only); rw [hE, hki, parts_5 hz3 hy ht (by intro hh; rcases hh with hh | hh; omega; exact hbad hh), map_snoc, lastT_snoc, show z1.1 - (i + 1) = k by omega]
                              · (try dsimp only); omega
                          · have hbad : ¬ badL (lastT l) t = true := by rw [last_nil (by omega)]; exact fun h => by cases h
                            refine X.opw (X.wG rfl rfl rfl) rfl (X.move (v := .bool false) rfl) ?_
                            refine X.opS rfl rfl rfl rfl rfl ?_
                            refine X.opS rfl rfl rfl rfl rfl ?_
                            refine X.opS rfl rfl rfl rfl rfl ?_
                            refine X.opS rfl rfl rfl rfl rfl ?_
                            refine X.opS rfl rfl rfl rfl rfl ?_
                            refine X.opS rfl rfl rfl rfl rfl ?_
                            refine X.opS rfl rfl rfl rfl rfl ?_
                            refine X.opS rfl rfl rfl rfl rfl ?_
                            refine X.opS rfl rfl rfl rfl rfl ?_
                            refine X.opS rfl rfl rfl rfl rfl ?_
                            refine X.opw (X.wG rfl rfl rfl) rfl (X.pickF (v := .bool false) rfl rfl) ?_
                            refine X.opw X.wN rfl (X.pickF (v := .bool false) rfl rfl) ?_
                            refine X.opsEnd ?_
                            refine X.condF rfl ?_
                            refine X.skip ?_
                            refine X.seq ?_
                            refine X.region ?_
                            refine X.opw X.wN rfl (X.load1B Tryz.isAgg54 (hB2.keep ((((hk11.trans hk12).trans hk13).trans hk14).trans hk16)) rfl rfl) ?_
                            refine X.opw X.wN rfl (X.move (v := .int .i64 _) rfl) ?_
                            refine X.opw X.wN rfl (X.move (v := .int .u64 _) rfl) ?_
                            refine X.opw X.wN rfl (X.cvI Tryz.underlying119 Tryz.underlying3 rfl (X.w_i64 (by omega))) ?_
                            refine X.opw X.wN rfl (X.move (v := .slice _ _ _) rfl) ?_
                            refine X.opw X.wN rfl (X.buildB (vs := [(0, .int .i64 (a : Int)), (1, .int .i64 ((z3.1 : Nat) : Int)), (2, .slice Ak ((pFrom (told (pText 1048576 z3.2) [])).getD []).length ck)]) (cs := #[.int .i64 (a : Int), .int .i64 ((z3.1 : Nat) : Int), .slice Ak ((pFrom (told (pText 1048576 z3.2) [])).getD []).length ck]) rfl (by kernel_rfl)) ?_
                            refine X.opE X.wN rfl (X.litKF KLf_flat (K := KLf) (xs := [Operand.tmp 149]) (vs := [evLf (a, z3.1, (Ak, ((pFrom (told (pText 1048576 z3.2) [])).getD []).length, ck))]) (ys := [(a, z3.1, (Ak, ((pFrom (told (pText 1048576 z3.2) [])).getD []).length, ck))]) Tryz.underlying54 Tryz.sizeOf106 Tryz.zeroValue106 rfl rfl rfl rfl rfl (repsLf _)) ?_
                            rintro _ w21 ⟨rfl, hs21, hB21, hk21, hz21⟩
                            refine X.opE X.wN rfl (NRow.app (y := (a, z3.1, (Ak, ((pFrom (told (pText 1048576 z3.2) [])).getD []).length, ck))) (q := (a, z3.1, t)) (hNR.keep (((((hk11.trans hk12).trans hk13).trans hk14).trans hk16).trans hk21)) hs21 ⟨rfl, rfl, hck, _, _, fun _ h1 h2 => ⟨h1, h2⟩, hskt.keep (hk16.trans hk21)⟩ (by omega) (by omega) (by omega) Tryz.underlying54 ELf rfl rfl (by omega)) ?_
                            rintro _ w22 ⟨Aq, cq, S', G', rfl, hNn, hx22⟩
                            have hx22' := hx22.size
                            refine X.opE X.wN rfl (X.storeE Tryz.sizeOf54 ((hB2.keep (((((hk11.trans hk12).trans hk13).trans hk14).trans hk16).trans hk21)).ext hx22 zq3) rfl rfl rfl rfl) ?_
                            rintro _ w23 ⟨hB23, hx23, hz23⟩
                            refine X.opsEnd ?_
                            refine X.region ?_
                            refine X.opw X.wN rfl (X.move (v := .int .i64 _) rfl) ?_
                            refine X.opw X.wN rfl (X.move (v := .int .u64 _) rfl) ?_
                            refine X.opw X.wN rfl (X.cvI Tryz.underlying119 Tryz.underlying3 rfl (X.w_i64 (by omega))) ?_
                            refine X.opw X.wN rfl (X.add (c := ((a + z3.1 : Nat) : Int)) rfl rfl (by rw [X.w_i64 (by omega)]; omega)) ?_
                            refine X.opw X.wN rfl (X.assign (v := .int .i64 _) rfl) ?_
                            refine X.opsEnd ?_
                            refine X.inBlock ?_
                            refine X.region ?_
                            refine X.opw X.wN rfl (X.add (c := ((i + 1 : Nat) : Int)) rfl rfl (by rw [X.w_u64 (by omega)]; omega)) ?_
                            refine X.opw X.wN rfl (X.move (v := .int .u64 _) rfl) ?_
                            refine X.opsEnd ?_
                            refine hback (i + 1, a + z3.1, .slice Aq (l ++ [(a, z3.1, t)]).length cq, _, _, _, y.2) _ _ ⟨rfl, rfl, rfl, rfl, rfl, rfl, rfl, rfl, rfl, trivial⟩ ⟨by (try dsimp only); omega, by (try dsimp only); omega, ((((((((hk.trans hk11).trans hk12).trans hk13).trans hk14).trans hk16).trans hk21).step hx22 zq11).step hx23 zq11), hB23, (((hB3.keep (((((hk11.trans hk12).trans hk13).trans hk14).trans hk16).trans hk21)).ext hx22 zq3).ext hx23 zq3), (((hB4.keep (((((hk11.trans hk12).trans hk13).trans hk14).trans hk16).trans hk21)).ext hx22 zq3).ext hx23 zq3), ?_, ?_, by (try dsimp only); omega, _, _, (((hsd.keep ((hk14.trans hk16).trans hk21)).ext hx22 zq3).ext hx23 zq3), hlo9, hhi9, L ++ [_], l ++ [(a, z3.1, t)], S', G', ((hNn.ext hx23 zq3)).all, ?_, ?_⟩ ?_
                            · (try dsimp only); rw [hcn, Int.toNat_natCast]; omega
                            · (try dsimp only); rw [hcn, Int.toNat_natCast]; omega
                            · (try dsimp only); rw [List.length_append, List.length_singleton, hcn, Int.toNat_natCast]; omega
                            · (try dsimp only); rw [hE, hki, parts_5 hz3 hy ht (by intro hh; rcases hh with hh | hh; omega; exact hbad hh), map_snoc, lastT_snoc, show z1.1 - (i + 1) = k by omega]
                            · (try dsimp only); omega
                      · rintro w16 hx16
                        have hx16' := hx16.size
                        have hN : idxP xs = none := by
                          have h0 := okE_n hb16
                          rw [htd] at h0
                          have hp : pFrom y.1 = none := by
                            cases hp : pFrom y.1 with
                            | none => rfl
                            | some t => rw [hp] at h0; exact absurd rfl h0
                          rw [hE, hki, parts_3 hz3 hy hp]; rfl
                        refine X.unw_defer Tryz.call91 (fun h => by cases h) (rcaught_1 _ _ _ ((hB4.keep (((hk11.trans hk12).trans hk13).trans hk14)).ext hx16 zq3)) ?_
                        rintro m wz ⟨rfl, hBz, hxz⟩
                        have hxz' := hxz.size
                        show X.Unw _ _ _ FrameMode.returning _ _ _ _
                        refine X.unw_defer Tryz.call90 (fun h => by cases h) (X.DCall.of_ret (zeroI1_c _ _ _ _ _ _ hBz (((hB2.keep (((hk11.trans hk12).trans hk13).trans hk14)).ext hx16 zq3).ext hxz zq27) (((hB3.keep (((hk11.trans hk12).trans hk13).trans hk14)).ext hx16 zq3).ext hxz zq27) (by omega) (by omega) (by omega))) ?_
                        rintro m wq ⟨rfl, vq, hq1, hq2, hq3, hq4⟩
                        show X.Unw _ _ _ FrameMode.returning _ _ _ _
                        refine X.unwR3 Tryz.func41 Tryz.results41 (X.ResOk.cell rfl (X.lv1 Tryz.isAgg54 hq2 rfl)) (X.ResOk.cell rfl (X.lv1 Tryz.isAgg3 hq3 rfl)) (X.ResOk.cell rfl (X.lv1 Tryz.isAgg27 hq1 rfl)) ?_
                        rw [hN]
                        exact ⟨rfl, (((((((hk.trans hk11).trans hk12).trans hk13).trans hk14).step hx16 zq11)).step hxz zq17).step hq4 zq17⟩
                    · rintro w13 hx13
                      have hx13' := hx13.size
                      have hN : idxP xs = none := by rw [hE, hki, parts_2 hz3 (okE_none hb13)]; rfl
                      refine X.unw_defer Tryz.call91 (fun h => by cases h) (rcaught_1 _ _ _ ((hB4.keep (hk11.trans hk12)).ext hx13 zq3)) ?_
                      rintro m wz ⟨rfl, hBz, hxz⟩
                      have hxz' := hxz.size
                      show X.Unw _ _ _ FrameMode.returning _ _ _ _
                      refine X.unw_defer Tryz.call90 (fun h => by cases h) (X.DCall.of_ret (zeroI1_c _ _ _ _ _ _ hBz (((hB2.keep (hk11.trans hk12)).ext hx13 zq3).ext hxz zq27) (((hB3.keep (hk11.trans hk12)).ext hx13 zq3).ext hxz zq27) (by omega) (by omega) (by omega))) ?_
                      rintro m wq ⟨rfl, vq, hq1, hq2, hq3, hq4⟩
                      show X.Unw _ _ _ FrameMode.returning _ _ _ _
                      refine X.unwR3 Tryz.func41 Tryz.results41 (X.ResOk.cell rfl (X.lv1 Tryz.isAgg54 hq2 rfl)) (X.ResOk.cell rfl (X.lv1 Tryz.isAgg3 hq3 rfl)) (X.ResOk.cell rfl (X.lv1 Tryz.isAgg27 hq1 rfl)) ?_
                      rw [hN]
                      exact ⟨rfl, (((((hk.trans hk11).trans hk12).step hx13 zq11)).step hxz zq17).step hq4 zq17⟩
                  · rintro w11 hx11
                    have hx11' := hx11.size
                    have hN : idxP xs = none := by rw [hE, hki, parts_1 hz3]; rfl
                    refine X.unw_defer Tryz.call91 (fun h => by cases h) (rcaught_1 _ _ _ (hB4.ext hx11 zq3)) ?_
                    rintro m wz ⟨rfl, hBz, hxz⟩
                    have hxz' := hxz.size
                    show X.Unw _ _ _ FrameMode.returning _ _ _ _
                    refine X.unw_defer Tryz.call90 (fun h => by cases h) (X.DCall.of_ret (zeroI1_c _ _ _ _ _ _ hBz ((hB2.ext hx11 zq3).ext hxz zq27) ((hB3.ext hx11 zq3).ext hxz zq27) (by omega) (by omega) (by omega))) ?_
                    rintro m wq ⟨rfl, vq, hq1, hq2, hq3, hq4⟩
                    show X.Unw _ _ _ FrameMode.returning _ _ _ _
                    refine X.unwR3 Tryz.func41 Tryz.results41 (X.ResOk.cell rfl (X.lv1 Tryz.isAgg54 hq2 rfl)) (X.ResOk.cell rfl (X.lv1 Tryz.isAgg3 hq3 rfl)) (X.ResOk.cell rfl (X.lv1 Tryz.isAgg27 hq1 rfl)) ?_
                    rw [hN]
                    exact ⟨rfl, (((hk.step hx11 zq11)).step hxz zq17).step hq4 zq17⟩
                · refine X.opsEnd ?_
                  refine X.seq ?_
                  refine X.condF rfl ?_
                  refine X.exit rfl ?_
                  refine X.seq ?_
                  refine X.seq ?_
                  refine X.region ?_
                  refine X.opw X.wN rfl (X.move (v := .slice _ _ _) rfl) ?_
                  refine X.opw X.wN rfl (X.lenSl Tryz.underlying43 rfl) ?_
                  refine X.opP X.wN rfl rfl (X.gtr rfl rfl) (fun h159 => ?_) (fun h159 => ?_)
                  · 
                    refine X.opw X.wN rfl (X.move (v := .bool true) rfl) ?_
                    refine X.opS rfl rfl rfl rfl rfl ?_
                    refine X.opS rfl rfl rfl rfl rfl ?_
                    refine X.opS rfl rfl rfl rfl rfl ?_
                    refine X.opw X.wN rfl (X.pickT (v := .bool true) rfl rfl) ?_
                    refine X.opsEnd ?_
                    refine X.condT rfl ?_
                    refine X.region ?_
                    refine X.opw X.wN rfl (X.buildB (vs := []) (cs := #[]) rfl (by kernel_rfl)) ?_
                    refine X.opw X.wN rfl (X.mkIface Tryz.underlying166 rfl rfl) ?_
                    refine X.opPanic X.wN rfl ?_
                    have hN : idxP xs = none := by
                      rw [hE, show z1.1 - i = 0 by omega, parts, if_neg (fun h => by rw [h.1] at h9l; simp at h9l; omega)]; rfl
                    refine X.unw_defer Tryz.call91 (fun h => by cases h) (rcaught_1 _ _ _ hB4) ?_
                    rintro m wz ⟨rfl, hBz, hxz⟩
                    have hxz' := hxz.size
                    show X.Unw _ _ _ FrameMode.returning _ _ _ _
                    refine X.unw_defer Tryz.call90 (fun h => by cases h) (X.DCall.of_ret (zeroI1_c _ _ _ _ _ _ hBz (hB2.ext hxz zq27) (hB3.ext hxz zq27) (by omega) (by omega) (by omega))) ?_
                    rintro m wq ⟨rfl, vq, hq1, hq2, hq3, hq4⟩
                    show X.Unw _ _ _ FrameMode.returning _ _ _ _
                    refine X.unwR3 Tryz.func41 Tryz.results41 (X.ResOk.cell rfl (X.lv1 Tryz.isAgg54 hq2 rfl)) (X.ResOk.cell rfl (X.lv1 Tryz.isAgg3 hq3 rfl)) (X.ResOk.cell rfl (X.lv1 Tryz.isAgg27 hq1 rfl)) ?_
                    rw [hN]
                    exact ⟨rfl, ((hk).step hxz zq17).step hq4 zq17⟩
                  · refine X.opw X.wN rfl (X.move (v := .bool false) rfl) ?_
                    refine X.opw (X.wG rfl rfl rfl) rfl (X.move (v := .int .i64 _) rfl) ?_
                    refine X.opw (X.wG rfl rfl rfl) rfl (X.move (v := .int .i64 _) rfl) ?_
                    refine X.opP (X.wG rfl rfl rfl) rfl rfl (X.neI rfl rfl) (fun h163 => ?_) (fun h163 => ?_)
                    · 
                      refine X.opw X.wN rfl (X.pickF (v := .bool true) rfl rfl) ?_
                      refine X.opsEnd ?_
                      refine X.condT rfl ?_
                      refine X.region ?_
                      refine X.opw X.wN rfl (X.buildB (vs := []) (cs := #[]) rfl (by kernel_rfl)) ?_
                      refine X.opw X.wN rfl (X.mkIface Tryz.underlying166 rfl rfl) ?_
                      refine X.opPanic X.wN rfl ?_
                      have hN : idxP xs = none := by
                        rw [hE, show z1.1 - i = 0 by omega, parts, if_neg (fun h => by omega)]; rfl
                      refine X.unw_defer Tryz.call91 (fun h => by cases h) (rcaught_1 _ _ _ hB4) ?_
                      rintro m wz ⟨rfl, hBz, hxz⟩
                      have hxz' := hxz.size
                      show X.Unw _ _ _ FrameMode.returning _ _ _ _
                      refine X.unw_defer Tryz.call90 (fun h => by cases h) (X.DCall.of_ret (zeroI1_c _ _ _ _ _ _ hBz (hB2.ext hxz zq27) (hB3.ext hxz zq27) (by omega) (by omega) (by omega))) ?_
                      rintro m wq ⟨rfl, vq, hq1, hq2, hq3, hq4⟩
                      show X.Unw _ _ _ FrameMode.returning _ _ _ _
                      refine X.unwR3 Tryz.func41 Tryz.results41 (X.ResOk.cell rfl (X.lv1 Tryz.isAgg54 hq2 rfl)) (X.ResOk.cell rfl (X.lv1 Tryz.isAgg3 hq3 rfl)) (X.ResOk.cell rfl (X.lv1 Tryz.isAgg27 hq1 rfl)) ?_
                      rw [hN]
                      exact ⟨rfl, ((hk).step hxz zq17).step hq4 zq17⟩
                    · refine X.opw X.wN rfl (X.pickF (v := .bool false) rfl rfl) ?_
                      refine X.opsEnd ?_
                      refine X.condF rfl ?_
                      refine X.skip ?_
                      refine X.seq ?_
                      refine X.region ?_
                      refine X.opw X.wN rfl (X.load1B Tryz.isAgg54 hB2 rfl rfl) ?_
                      refine X.opw X.wN rfl (X.move (v := .int .u64 _) rfl) ?_
                      refine X.opw X.wN rfl (X.cvI Tryz.underlying119 Tryz.underlying3 rfl (X.w_i64 (by omega))) ?_
                      refine X.opE X.wN rfl (X.storeE Tryz.sizeOf54 hB2 rfl rfl rfl rfl) ?_
                      rintro _ w24 ⟨hB24, hx24, hz24⟩
                      refine X.opE X.wN rfl (X.storeE Tryz.sizeOf3 (hB3.ext hx24 zq3) rfl rfl rfl rfl) ?_
                      rintro _ w25 ⟨hB25, hx25, hz25⟩
                      refine X.opE X.wN rfl (X.storeE Tryz.sizeOf27 ((hB4.ext hx24 zq3).ext hx25 zq3) rfl rfl rfl rfl) ?_
                      rintro _ w26 ⟨hB26, hx26, hz26⟩
                      refine X.opsEnd ?_
                      refine X.ret_unw ?_
                      refine X.unw_defer Tryz.call91 (fun h => by cases h) (rcaught_0 _ _) ?_
                      rintro m wz ⟨rfl, rfl⟩
                      show X.Unw _ _ _ FrameMode.returning _ _ _ _
                      refine X.unw_defer Tryz.call90 (fun h => by cases h) (X.DCall.of_ret (zeroI0_c _ _ _ _ hB26)) ?_
                      rintro m wz ⟨rfl, vz, rfl⟩
                      show X.Unw _ _ _ FrameMode.returning _ _ _ _
                      refine X.unwR3 Tryz.func41 Tryz.results41 (X.ResOk.cell rfl (X.lv1 Tryz.isAgg54 ((hB24.ext hx25 zq3).ext hx26 zq3) rfl)) (X.ResOk.cell rfl (X.lv1 Tryz.isAgg3 (hB25.ext hx26 zq3) rfl)) (X.ResOk.cell rfl (X.lv1 Tryz.isAgg27 hB26 rfl)) ?_
                      have hfin : idxP xs = some (l, z2.1) := by
                        rw [hE, show z1.1 - i = 0 by omega, parts, if_pos ⟨List.eq_nil_of_length_eq_zero (by omega), by omega⟩]; simp
                      rw [hfin]
                      have hNf := (((hNR.ext hx24 zq3).ext hx25 zq3).ext hx26 zq3)
                      exact ⟨⟨_, L, _, S, G, rfl, hNf.low (by omega)⟩, (((hk.step hx24 zq11).step hx25 zq11).step hx26 zq11)⟩
            · rintro w10 hx10
              have hx10' := hx10.size
              have hN : idxP xs = none := by rw [hE2]; exact idx_h hz1 hz2
              refine X.unw_defer Tryz.call91 (fun h => by cases h) (rcaught_1 _ _ _ ((hB3.keep (((((hk4.trans hk5).trans hk6).trans hk7).trans hk8).trans hk9)).ext hx10 zq3)) ?_
              rintro m wz ⟨rfl, hBz, hxz⟩
              have hxz' := hxz.size
              show X.Unw _ _ _ FrameMode.returning _ _ _ _
              refine X.unw_defer Tryz.call90 (fun h => by cases h) (X.DCall.of_ret (zeroI1_c _ _ _ _ _ _ hBz (((hB1.keep (((((((hk2.trans hk3).trans hk4).trans hk5).trans hk6).trans hk7).trans hk8).trans hk9)).ext hx10 zq3).ext hxz zq27) (((hB2.keep ((((((hk3.trans hk4).trans hk5).trans hk6).trans hk7).trans hk8).trans hk9)).ext hx10 zq3).ext hxz zq27) (by omega) (by omega) (by omega))) ?_
              rintro m wq ⟨rfl, vq, hq1, hq2, hq3, hq4⟩
              show X.Unw _ _ _ FrameMode.returning _ _ _ _
              refine X.unwR3 Tryz.func41 Tryz.results41 (X.ResOk.cell rfl (X.lv1 Tryz.isAgg54 hq2 rfl)) (X.ResOk.cell rfl (X.lv1 Tryz.isAgg3 hq3 rfl)) (X.ResOk.cell rfl (X.lv1 Tryz.isAgg27 hq1 rfl)) ?_
              rw [hN]
              exact ⟨rfl, (((((((((((hk1.trans hk2).trans hk3).trans hk4).trans hk5).trans hk6).trans hk7).trans hk8).trans hk9).step hx10 zq11)).step hxz zq17).step hq4 zq17⟩
          · rintro w9 hx9
            have hx9' := hx9.size
            have hN : idxP xs = none := by rw [hE2]; exact idx_g hz1
            refine X.unw_defer Tryz.call91 (fun h => by cases h) (rcaught_1 _ _ _ ((hB3.keep ((((hk4.trans hk5).trans hk6).trans hk7).trans hk8)).ext hx9 zq3)) ?_
            rintro m wz ⟨rfl, hBz, hxz⟩
            have hxz' := hxz.size
            show X.Unw _ _ _ FrameMode.returning _ _ _ _
            refine X.unw_defer Tryz.call90 (fun h => by cases h) (X.DCall.of_ret (zeroI1_c _ _ _ _ _ _ hBz (((hB1.keep ((((((hk2.trans hk3).trans hk4).trans hk5).trans hk6).trans hk7).trans hk8)).ext hx9 zq3).ext hxz zq27) (((hB2.keep (((((hk3.trans hk4).trans hk5).trans hk6).trans hk7).trans hk8)).ext hx9 zq3).ext hxz zq27) (by omega) (by omega) (by omega))) ?_
            rintro m wq ⟨rfl, vq, hq1, hq2, hq3, hq4⟩
            show X.Unw _ _ _ FrameMode.returning _ _ _ _
            refine X.unwR3 Tryz.func41 Tryz.results41 (X.ResOk.cell rfl (X.lv1 Tryz.isAgg54 hq2 rfl)) (X.ResOk.cell rfl (X.lv1 Tryz.isAgg3 hq3 rfl)) (X.ResOk.cell rfl (X.lv1 Tryz.isAgg27 hq1 rfl)) ?_
            rw [hN]
            exact ⟨rfl, ((((((((((hk1.trans hk2).trans hk3).trans hk4).trans hk5).trans hk6).trans hk7).trans hk8).step hx9 zq11)).step hxz zq17).step hq4 zq17⟩
        · rintro w8 hx8
          have hx8' := hx8.size
          have hN : idxP xs = none := by rw [hE1]; subst hsl; exact idx_e (by omega) (okE_n hb8)
          refine X.unw_defer Tryz.call91 (fun h => by cases h) (rcaught_1 _ _ _ ((hB3.keep (((hk4.trans hk5).trans hk6).trans hk7)).ext hx8 zq3)) ?_
          rintro m wz ⟨rfl, hBz, hxz⟩
          have hxz' := hxz.size
          show X.Unw _ _ _ FrameMode.returning _ _ _ _
          refine X.unw_defer Tryz.call90 (fun h => by cases h) (X.DCall.of_ret (zeroI1_c _ _ _ _ _ _ hBz (((hB1.keep (((((hk2.trans hk3).trans hk4).trans hk5).trans hk6).trans hk7)).ext hx8 zq3).ext hxz zq27) (((hB2.keep ((((hk3.trans hk4).trans hk5).trans hk6).trans hk7)).ext hx8 zq3).ext hxz zq27) (by omega) (by omega) (by omega))) ?_
          rintro m wq ⟨rfl, vq, hq1, hq2, hq3, hq4⟩
          show X.Unw _ _ _ FrameMode.returning _ _ _ _
          refine X.unwR3 Tryz.func41 Tryz.results41 (X.ResOk.cell rfl (X.lv1 Tryz.isAgg54 hq2 rfl)) (X.ResOk.cell rfl (X.lv1 Tryz.isAgg3 hq3 rfl)) (X.ResOk.cell rfl (X.lv1 Tryz.isAgg27 hq1 rfl)) ?_
          rw [hN]
          exact ⟨rfl, (((((((((hk1.trans hk2).trans hk3).trans hk4).trans hk5).trans hk6).trans hk7).step hx8 zq11)).step hxz zq17).step hq4 zq17⟩
    · rintro w5 hx5
      have hx5' := hx5.size
      have hN : idxP xs = none := by subst hsl; exact idx_b (by omega) (okE_n hb5)
      refine X.unw_defer Tryz.call91 (fun h => by cases h) (rcaught_1 _ _ _ ((hB3.keep hk4).ext hx5 zq3)) ?_
      rintro m wz ⟨rfl, hBz, hxz⟩
      have hxz' := hxz.size
      show X.Unw _ _ _ FrameMode.returning _ _ _ _
      refine X.unw_defer Tryz.call90 (fun h => by cases h) (X.DCall.of_ret (zeroI1_c _ _ _ _ _ _ hBz (((hB1.keep ((hk2.trans hk3).trans hk4)).ext hx5 zq3).ext hxz zq27) (((hB2.keep (hk3.trans hk4)).ext hx5 zq3).ext hxz zq27) (by omega) (by omega) (by omega))) ?_
      rintro m wq ⟨rfl, vq, hq1, hq2, hq3, hq4⟩
      show X.Unw _ _ _ FrameMode.returning _ _ _ _
      refine X.unwR3 Tryz.func41 Tryz.results41 (X.ResOk.cell rfl (X.lv1 Tryz.isAgg54 hq2 rfl)) (X.ResOk.cell rfl (X.lv1 Tryz.isAgg3 hq3 rfl)) (X.ResOk.cell rfl (X.lv1 Tryz.isAgg27 hq1 rfl)) ?_
      rw [hN]
      exact ⟨rfl, ((((((hk1.trans hk2).trans hk3).trans hk4).step hx5 zq11)).step hxz zq17).step hq4 zq17⟩
end Go.Proofs.YtbljooblpfdbiaaGreatDoor
namespace Go.Proofs.YtbljooblpfdbiaaGreatDoor
open Go Go.Proofs.YtbljooblpfdbiaaGreatDoor.X
def NdCt : Nd CT CD where
  K := KCt
  flat := KCt_flat
  R := fun TB w x q => x.2 = q.2 ∧ okI q.2 ∧ x.1.2.1 ≤ x.1.2.2 ∧ ∃ lo hi, (∀ k, lo ≤ k → k < hi → TB k) ∧ Sl KV lo hi w x.1.1 x.1.2.1 q.1
  ext := fun ⟨h1, h2, h3, lo, hi, h4, h5⟩ y hU => ⟨h1, h2, h3, lo, hi, h4, h5.ext y fun k a b => hU k (h4 k a b)⟩
  mono := fun ⟨h1, h2, h3, lo, hi, h4, h5⟩ hT => ⟨h1, h2, h3, lo, hi, fun k a b => hT k (h4 k a b), h5⟩
theorem kv_tight {lo hi lo' hi' : Nat} {w : World} {A : Option Addr} {n : Nat} {l : List VAL} (h : Sl KV lo hi w A n l) (hT : ∀ k, lo ≤ k → k < hi → lo' ≤ k ∧ k < hi') : Sl KV lo' hi' w A n l := by
  refine ⟨h.len, h.bound, fun hn => ?_⟩
  obtain ⟨ad, e, a1, a2, a3⟩ := h.at_ hn
  have hb := hT _ a1 a2
  exact ⟨ad, e, hb.1, hb.2, fun j y hy => by
    obtain ⟨cs, hr, hcc⟩ := a3 j y hy
    exact ⟨cs, KV_flat hr, hcc⟩⟩
theorem nrow_kc {tb base m : Nat} {S G : Nat → Prop} {w : World} {v : Value} {L : List CT} {l : List CD} (h : NRow NdCt tb base m S G w v L l) : ∃ A c, v = .slice A l.length c ∧ l.length ≤ c ∧ Sl KC base w.heap.size w A l.length l := by
  obtain ⟨A, c, e, hc, hs⟩ := h.rd
  refine ⟨A, c, e, hc, hd_kc (hs.wide (Nat.le_refl _) h.l1) ⟨h.d.1, fun i x hx => ?_⟩⟩
  obtain ⟨q, h1, h2, h3, h4, lo, hi, h5, h6⟩ := h.d.2 i x hx
  exact ⟨q, h1, h2, h3, h4, kv_tight h6 fun k a b => by have := h.g k (h5 k a b); omega⟩
def ents : Nat → List UInt8 → Option (List CD)
  | 0, x => if x = [] then some [] else none
  | k + 1, x => match pCnt x with
    | none => none
    | some (q, x1) => (ents k x1).map (q :: ·)
def pgF (t : List VAL) (o : Option (List CD)) : Option (List CD) := o.bind fun p => if p ≠ [] ∧ isR p = true ∧ cmpT (headT p) t = 0 then some p else none
def pgP (b : List UInt8) (t : List VAL) : Option (List CD) := if (openC b).1 ≠ 0 then none else match pNum 0 0 (openC b).2 with
  | none => none
  | some z => pgF t (ents z.1 z.2)
section
variable {b : List UInt8} {t : List VAL}
theorem pg_a (h : (openC b).1 ≠ 0) : pgP b t = none := if_pos h
theorem pg_b (h : (openC b).1 = 0) (h2 : pNum 0 0 (openC b).2 = none) : pgP b t = none := by rw [pgP, if_neg (by simp [h]), h2]
theorem pg_c {z : Nat × List UInt8} (h : (openC b).1 = 0) (h2 : pNum 0 0 (openC b).2 = some z) : pgP b t = pgF t (ents z.1 z.2) := by rw [pgP, if_neg (by simp [h]), h2]
theorem ents_a {k : Nat} {x : List UInt8} (h : pCnt x = none) : ents (k + 1) x = none := by rw [ents, h]
theorem ents_b {k : Nat} {x : List UInt8} {y : CD × List UInt8} (h : pCnt x = some y) : ents (k + 1) x = (ents k y.2).map (y.1 :: ·) := by obtain ⟨q, x1⟩ := y; rw [ents, h]
theorem pgF_T {l : List CD} (h1 : l ≠ []) (h2 : isR l = true) (h3 : cmpT (headT l) t = 0) : pgF t (some l) = some l := by show (if _ then _ else _) = _; rw [if_pos ⟨h1, h2, h3⟩]
theorem pgF_F {l : List CD} (h : ¬ (l ≠ [] ∧ isR l = true ∧ cmpT (headT l) t = 0)) : pgF t (some l) = none := by show (if _ then _ else _) = _; rw [if_neg h]
theorem emap_nil {o : Option (List CD)} : o = o.map (([] : List CD) ++ ·) := by cases o <;> rfl
theorem emap_snoc {o : Option (List CD)} {l : List CD} {q : CD} : ((o.map (q :: ·)).map (l ++ ·)) = o.map ((l ++ [q]) ++ ·) := by cases o <;> simp
end
set_option maxHeartbeats 4000000 in
set_option maxRecDepth 100000 in
theorem zeroP0_c (be bx : Nat) (w : World) (hE : Blk w be [.int .i64 0] 27) : Ret Tryz.prog 97 #[.pointer (some ⟨be, 0, none⟩), .pointer (some ⟨bx, 0, none⟩)] w fun _ w' => w' = w := by
  refine X.enter Tryz.func97 rfl Tryz.ntmps97 rfl ?_
  refine X.seq ?_
  refine X.region ?_
  refine X.opw X.wN rfl (X.load1B Tryz.isAgg27 hE rfl rfl) ?_
  refine X.opP X.wN rfl rfl (X.neI rfl rfl) (fun h3 => ?_) (fun h3 => ?_)
  · exact absurd rfl h3
  · refine X.opsEnd ?_
    refine X.condF rfl ?_
    refine X.skip ?_
    refine X.end0 Tryz.func97 Tryz.results97 ?_
    rfl
set_option maxHeartbeats 4000000 in
set_option maxRecDepth 100000 in
theorem zeroP1_c (be bx : Nat) (x : Value) (w : World) (hE : Blk w be [.int .i64 71] 27) (hX : Blk w bx [x] 22) (h1 : bx ≠ be) : Ret Tryz.prog 97 #[.pointer (some ⟨be, 0, none⟩), .pointer (some ⟨bx, 0, none⟩)] w
    fun _ w' => Blk w' be [.int .i64 71] 27 ∧ Blk w' bx [.slice none 0 0] 22 ∧ Ext (fun k => k = bx) w w' := by
  refine X.enter Tryz.func97 rfl Tryz.ntmps97 rfl ?_
  refine X.seq ?_
  refine X.region ?_
  refine X.opw X.wN rfl (X.load1B Tryz.isAgg27 hE rfl rfl) ?_
  refine X.opP X.wN rfl rfl (X.neI rfl rfl) (fun h3 => ?_) (fun h3 => ?_)
  · refine X.opsEnd ?_
    refine X.condT rfl ?_
    refine X.region ?_
    refine X.opE X.wN rfl (X.storeE Tryz.sizeOf22 hX rfl rfl rfl rfl) ?_
    rintro _ w1 ⟨hB1, hx1, hz1⟩
    refine X.opsEnd ?_
    refine X.end0 Tryz.func97 Tryz.results97 ?_
    exact ⟨(hE.ext hx1 zq28), hB1, (Ext.andThen (Ext.refl (fun k => k = bx) _) hx1 zq23)⟩
  · exact absurd (by decide) h3
set_option maxHeartbeats 4000000 in
set_option maxRecDepth 100000 in
theorem page_c {lo hi lo1 hi1 : Nat} {A A1 : Option Addr} {n c n1 c1 : Nat} {xs : List UInt8} {t : List VAL} (w : World) (hs : Sl KB lo hi w A n xs) (hhi : hi ≤ w.heap.size) (hnc : n ≤ c) (hn : n ≤ 1000000) (ht : Sl KV lo1 hi1 w A1 n1 t) (hh1 : hi1 ≤ w.heap.size) (hTb : TabOk w) : Ret Tryz.prog 43 #[.slice A n c, .slice A1 n1 c1] w fun r w' => (match pgP xs t with
    | some l => ∃ v L m S G, r = .tuple #[v, .int .i64 0] ∧ NRow NdCt 40 w.heap.size m S G w' v L l
    | none => r = .tuple #[.slice none 0 0, .int .i64 71]) ∧ Keep w w' := by
  have hsl := hs.len
  have htl := hTb.lt
  refine X.enter Tryz.func43 rfl Tryz.ntmps43 rfl ?_
  refine X.seq ?_
  refine X.region ?_
  refine X.opE X.wN rfl (X.allocE Tryz.zeroValue22 rfl) ?_
  rintro _ w1 ⟨rfl, hB1, hk1, hz1⟩
  refine X.opE X.wN rfl (X.allocE Tryz.zeroValue27 rfl) ?_
  rintro _ w2 ⟨rfl, hB2, hk2, hz2⟩
  refine X.opsEnd ?_
  refine X.seq ?_
  refine X.region ?_
  refine X.opw X.wN rfl (X.mkFunc rfl) ?_
  refine X.opDefer X.wN rfl rfl ?_
  refine X.opsEnd ?_
  refine X.seq ?_
  refine X.region ?_
  refine X.opDefer X.wN rfl rfl ?_
  refine X.opsEnd ?_
  refine X.seq ?_
  refine X.region ?_
  refine X.opw X.wN rfl (X.move (v := .slice _ _ _) rfl) ?_
  refine X.opE X.wN rfl (X.callE (Open_c _ (hs.keep (hk1.trans hk2)) (by omega) (by omega) (hTb.keep (hk1.trans hk2))) Tryz.call92 rfl rfl) ?_
  rintro _ w3 ⟨v3, rfl, hF3⟩
  obtain ⟨Ao, co, rfl, hco, hso, hk3⟩ := open_sl hF3
  have hk3' := hk3.size
  refine X.opw X.wN rfl (X.move rfl) ?_
  refine X.opw X.wN rfl (X.extr rfl rfl) ?_
  refine X.opw X.wN rfl (X.extr rfl rfl) ?_
  refine X.opw X.wN rfl (X.assign (v := .slice _ _ _) rfl) ?_
  refine X.opw X.wN rfl (X.assign (v := .int .i64 _) rfl) ?_
  refine X.opsEnd ?_
  refine X.seq ?_
  refine X.region ?_
  refine X.opw X.wN rfl (X.move (v := .int .i64 _) rfl) ?_
  refine X.opPR (must_c _ _) X.wN rfl Tryz.call93 rfl (fun b4 hb4 => ?_) (fun hb4 => ?_)
  · rintro _ w4 ⟨rfl, hk4⟩
    have hk4' := hk4.size
    have ho1 := okE_s hb4
    obtain ⟨g1, g2⟩ := open_len ho1
    have hx0 : (openC xs).2.length ≤ 1000000 := by rw [g2, List.length_take]; omega
    refine X.opsEnd ?_
    refine X.seq ?_
    refine X.region ?_
    refine X.opw X.wN rfl (X.move (v := .slice _ _ _) rfl) ?_
    refine X.opPR (rnum_c _ (hso.keep hk4) (by omega) (by omega) (by omega)) X.wN rfl Tryz.call94 rfl (fun z1 hz1 => ?_) (fun hz1 => ?_)
    · rintro _ w5 ⟨An1, cn1, rfl, hnc1, _, hnl1, hsn1, hk5⟩
      have hk5' := hk5.size
      obtain ⟨pre1, _, hp1⟩ := pNum_suf hz1
      have hq1 := congrArg List.length hp1
      rw [List.length_append] at hq1
      refine X.opw X.wN rfl (X.move rfl) ?_
      refine X.opw X.wN rfl (X.extr rfl rfl) ?_
      refine X.opw X.wN rfl (X.extr rfl rfl) ?_
      refine X.opw X.wN rfl (X.assign (v := .int .u64 _) rfl) ?_
      refine X.opw X.wN rfl (X.assign (v := .slice _ _ _) rfl) ?_
      refine X.opsEnd ?_
      refine X.seq ?_
      refine X.seq ?_
      refine X.region ?_
      refine X.opw X.wN rfl (X.move (v := .int .u64 _) rfl) ?_
      refine X.opw X.wN rfl (X.move rfl) ?_
      refine X.opsEnd ?_
      refine X.block ?_
      have hE1 : pgP xs t = pgF t (ents z1.1 z1.2) := pg_c ho1 hz1
      refine X.loopL (σ := Nat × Value × Option Addr × Nat × Nat × List UInt8) (fun s => [(1, .slice A1 n1 c1), (4, .pointer (some ⟨w.heap.size, 0, none⟩)), (5, .pointer (some ⟨w1.heap.size, 0, none⟩)), (6, .slice s.2.2.1 s.2.2.2.1 s.2.2.2.2.1), (25, .int .u64 ((z1.1 : Nat) : Int)), (26, .int .u64 (s.1 : Int))]) (fun s w' => s.1 ≤ z1.1 ∧ Keep w w' ∧ Blk w' w.heap.size [s.2.1] 22 ∧ Blk w' w1.heap.size [.int .i64 0] 27 ∧ s.2.2.2.1 = s.2.2.2.2.2.length ∧ s.2.2.2.1 ≤ s.2.2.2.2.1 ∧ w5.heap.size ≤ w'.heap.size ∧ ∃ lo9 hi9, Sl KB lo9 hi9 w' s.2.2.1 s.2.2.2.1 s.2.2.2.2.2 ∧ w2.heap.size ≤ lo9 ∧ hi9 ≤ w5.heap.size ∧ ∃ L l S G, NRow NdCt 40 w5.heap.size w'.heap.size S G w' s.2.1 L l ∧ l.length + s.2.2.2.1 ≤ 1000000 ∧ pgP xs t = pgF t ((ents (z1.1 - s.1) s.2.2.2.2.2).map (l ++ ·))) (fun s => z1.1 - s.1) (0, .slice none 0 0, An1, z1.2.length, cn1, z1.2) ⟨rfl, rfl, rfl, rfl, rfl, rfl, trivial⟩ ⟨Nat.zero_le _, ((((hk1.trans hk2).trans hk3).trans hk4).trans hk5), (hB1.keep (((hk2.trans hk3).trans hk4).trans hk5)), (hB2.keep ((hk3.trans hk4).trans hk5)), rfl, hnc1, by (try dsimp only); omega, _, _, hsn1, by omega, by omega, [], [], _, _, NRow.nil _ _ _ _ (Nat.le_refl _), by (try dsimp only); simp; omega, by (try dsimp only); rw [hE1, Nat.sub_zero, ← emap_nil]⟩ ?_
      rintro ⟨i, v, A6, n6, c6, x6⟩ b w1 ⟨hi0, hk, hB4, hB5, h6l, h6c, hbs, lo9, hi9, hs6, hlo9, hhi9, L, l, S, G, hNR, hll, hE⟩ hback
      dsimp only
      dsimp only at hi0 hB4 h6l h6c hs6 hNR hll hE
      have hk0 := hk.size
      obtain ⟨Av, cv, rfl, hcv, hsv⟩ := hNR.rd
      refine X.seq ?_
      refine X.region ?_
      refine X.opP X.wN rfl rfl (X.lss rfl rfl) (fun h27 => ?_) (fun h27 => ?_)
      · obtain ⟨k, hki⟩ : ∃ k, z1.1 - i = k + 1 := ⟨z1.1 - i - 1, by omega⟩
        refine X.opsEnd ?_
        refine X.seq ?_
        refine X.condT rfl ?_
        refine X.skip ?_
        refine X.seq ?_
        refine X.block ?_
        refine X.seq ?_
        refine X.region ?_
        refine X.opw X.wN rfl (X.move (v := .slice _ _ _) rfl) ?_
        refine X.opE X.wN rfl (X.callE (TakeCounted_c _ (hs6.wide (Nat.zero_le _) (by omega)) (by omega) (by omega)) Tryz.call98 rfl rfl) ?_
        rintro _ w6 ⟨vk, rfl, hMk, hk6⟩
        obtain ⟨Ak, ck, rfl, hck, hsk⟩ := mineKV_sl hMk
        have hk6' := hk6.size
        refine X.opw X.wN rfl (X.move rfl) ?_
        refine X.opw X.wN rfl (X.extr rfl rfl) ?_
        refine X.opw X.wN rfl (X.extr rfl rfl) ?_
        refine X.opw X.wN rfl (X.extr rfl rfl) ?_
        refine X.opE X.wN rfl (X.allocE Tryz.zeroValue40 rfl) ?_
        rintro _ w7 ⟨rfl, hB7, hk7, hz7⟩
        refine X.opE X.wN rfl (X.storeNE Tryz.sizeOf40 hB7 rfl rfl rfl rfl (fun u hu => by simp at hu; rcases hu with rfl | rfl <;> rfl)) ?_
        rintro _ w8 ⟨hB8, hx8, hz8⟩
        refine X.opw X.wN rfl (X.assign (v := .int .i64 _) rfl) ?_
        refine X.opw X.wN rfl (X.assign (v := .int .i64 _) rfl) ?_
        refine X.opsEnd ?_
        refine X.seq ?_
        refine X.region ?_
        refine X.opw X.wN rfl (X.move (v := .int .i64 _) rfl) ?_
        refine X.opPR (must_c _ _) X.wN rfl Tryz.call93 rfl (fun b9 hb9 => ?_) (fun hb9 => ?_)
        · rintro _ w9 ⟨rfl, hk9⟩
          have hk9' := hk9.size
          obtain ⟨y, hy⟩ := okE_some hb9
          obtain ⟨hxy, hyT, hyV, hyI⟩ := pCnt_just hy
          have hyl : y.2.length ≤ x6.length := by rw [hxy, List.length_append]; omega
          have hyp : y.2.length < x6.length := by rw [hxy, List.length_append]; simp only [cntB, tupB, List.length_append, List.length_cons]; omega
          have hcn : cnt (pCnt x6) n6 = ((n6 - y.2.length : Nat) : Int) := by rw [hy]; show (n6 : Int) - (y.2.length : Int) = _; omega
          have htd : told (pCnt x6) ([], 0) = y.1 := by rw [hy]; rfl
          have hskt := sl_cast hsk (congrArg Prod.fst htd)
          refine X.opsEnd ?_
          refine X.regionD (fun k => (w5.heap.size ≤ k ∧ k < w1.heap.size) ∨ k = w.heap.size) 8 (by kernel_rfl) (by kernel_rfl) (fun w10 hk10 hz10 => ?_)
          refine X.dTake 1 rfl (by kernel_rfl) (by kernel_rfl) (by kernel_rfl) (X.dwN rfl) (fun w' hk' => X.loadNB Tryz.isAgg40 Tryz.sizeOf40 ((hB8.keep (hk9.trans hk10)).ext hk' zq1) rfl rfl rfl) ?_
          refine X.dTake 4 rfl (by kernel_rfl) (by kernel_rfl) (by kernel_rfl) (X.dwN rfl) (fun w' hk' => X.move (v := .slice _ _ _) rfl) ?_
          refine X.dTake 5 rfl (by kernel_rfl) (by kernel_rfl) (by kernel_rfl) (X.dwN rfl) (fun w' hk' => X.move (v := .int .i64 _) rfl) ?_
          have hsd := ((hs6.keep ((((hk6.trans hk7).step hx8 zq18).trans hk9).trans hk10))).drop (cnt (pCnt x6) n6).toNat c6 (by omega) (by omega)
          rw [show x6.drop (cnt (pCnt x6) n6).toNat = y.2 by rw [hcn, Int.toNat_natCast, h6l]; exact suf_drop hxy] at hsd
          refine X.dTake 6 rfl (by kernel_rfl) (by kernel_rfl) (by kernel_rfl) (X.dwN rfl) (fun w' hk' => X.cutL (m := cnt (pCnt x6) n6) Tryz.underlying43 Tryz.sizeOf5 rfl rfl ⟨by omega, by omega⟩) ?_
          refine X.dTwo (i := 0) (j := 2) (by kernel_rfl) ?_ ?_
          · refine X.d1Step (i := 0) rfl (X.dwN rfl) (X.load1B Tryz.isAgg22 (hB4.keep ((((hk6.trans hk7).step hx8 zq18).trans hk9).trans hk10)) rfl rfl) (fun _ => Ext.refl _ _) ?_
            refine X.dE (i := 2) (by kernel_rfl) rfl (X.dwN rfl) (X.litKF KCt_flat (K := KCt) (xs := [Operand.tmp 37]) (vs := [evC ((Ak, (told (pCnt x6) ([], 0)).1.length, ck), (told (pCnt x6) ([], 0)).2)]) (ys := [((Ak, (told (pCnt x6) ([], 0)).1.length, ck), (told (pCnt x6) ([], 0)).2)]) Tryz.underlying22 Tryz.sizeOf40 Tryz.zeroValue40 rfl rfl rfl rfl rfl (repsC _)) (by rintro _ w11 ⟨rfl, hs11, hB11, hk11, hz11⟩ _; exact hk11.mono (fun _ _ h => h.elim)) ?_
            rintro _ w11 ⟨rfl, hs11, hB11, hk11, hz11⟩
            refine X.dE (i := 3) (by kernel_rfl) rfl (X.dwN rfl) (NRow.app (y := ((Ak, (told (pCnt x6) ([], 0)).1.length, ck), (told (pCnt x6) ([], 0)).2)) (q := y.1) (hNR.keep (((((hk6.trans hk7).step hx8 zq18).trans hk9).trans hk10).trans hk11)) hs11 ⟨congrArg Prod.snd htd, hyI, hck, _, _, fun _ h1 h2 => ⟨h1, h2⟩, (hskt.keep ((((hk7.step hx8 zq18).trans hk9).trans hk10).trans hk11))⟩ (by omega) (by omega) (by omega) Tryz.underlying22 ECt rfl rfl (by omega)) (by rintro _ w12 ⟨Aq, cq, S', G', rfl, hNn, hx12⟩ _; exact hx12.mono (fun k _ h => by (try simp only [] at *); omega)) ?_
            rintro _ w12 ⟨Aq, cq, S', G', rfl, hNn, hx12⟩
            have hx12' := hx12.size
            refine X.dE (i := 7) (by kernel_rfl) rfl (X.dwN rfl) (X.storeE Tryz.sizeOf22 ((hB4.keep (((((hk6.trans hk7).step hx8 zq18).trans hk9).trans hk10).trans hk11)).ext hx12 zq1) rfl rfl rfl rfl) (by rintro _ w13 ⟨hB13, hx13, hz13⟩ _; exact hx13.mono (fun k _ h => by (try simp only [] at *); omega)) ?_
            rintro _ w13 ⟨hB13, hx13, hz13⟩
            refine X.dStep (i := 8) (by kernel_rfl) rfl (X.dwN rfl) (X.assign rfl) (fun h => absurd h (by decide)) ?_
            refine X.dEnd (by kernel_rfl) ?_
            refine X.inBlock ?_
            refine X.region ?_
            refine X.opw X.wN rfl (X.add (c := ((i + 1 : Nat) : Int)) rfl rfl (by rw [X.w_u64 (by omega)]; omega)) ?_
            refine X.opw X.wN rfl (X.move (v := .int .u64 _) rfl) ?_
            refine X.opsEnd ?_
            refine hback (i + 1, .slice Aq (l ++ [y.1]).length cq, _, _, _, y.2) _ _ ⟨rfl, rfl, rfl, rfl, rfl, rfl, trivial⟩ ⟨by (try dsimp only); omega, ((((((((hk.trans hk6).trans hk7).step hx8 zq18).trans hk9).trans hk10).trans hk11).step hx12 zq18).step hx13 zq18), hB13, (((hB5.keep (((((hk6.trans hk7).step hx8 zq18).trans hk9).trans hk10).trans hk11)).ext hx12 zq1).ext hx13 zq1), ?_, ?_, by (try dsimp only); omega, _, _, (((hsd.keep hk11).ext hx12 zq1).ext hx13 zq1), hlo9, hhi9, L ++ [_], l ++ [y.1], S', G', ((hNn.ext hx13 zq1)).all, ?_, ?_⟩ ?_
            · (try dsimp only); rw [hcn, Int.toNat_natCast]; omega
            · (try dsimp only); rw [hcn, Int.toNat_natCast]; omega
            · (try dsimp only); rw [List.length_append, List.length_singleton, hcn, Int.toNat_natCast]; omega
            · (try dsimp only); rw [hE, hki, ents_b hy, emap_snoc, show z1.1 - (i + 1) = k by omega]
            · (try dsimp only); omega
          · refine X.d1E (i := 2) rfl (X.dwN rfl) (X.litKF KCt_flat (K := KCt) (xs := [Operand.tmp 37]) (vs := [evC ((Ak, (told (pCnt x6) ([], 0)).1.length, ck), (told (pCnt x6) ([], 0)).2)]) (ys := [((Ak, (told (pCnt x6) ([], 0)).1.length, ck), (told (pCnt x6) ([], 0)).2)]) Tryz.underlying22 Tryz.sizeOf40 Tryz.zeroValue40 rfl rfl rfl rfl rfl (repsC _)) (by rintro _ w14 ⟨rfl, hs14, hB14, hk14, hz14⟩ _; exact hk14.mono (fun _ _ h => h.elim)) ?_
            rintro _ w14 ⟨rfl, hs14, hB14, hk14, hz14⟩
            refine X.dStep (i := 0) (by kernel_rfl) rfl (X.dwN rfl) (X.load1B Tryz.isAgg22 (hB4.keep (((((hk6.trans hk7).step hx8 zq18).trans hk9).trans hk10).trans hk14)) rfl rfl) (fun _ => Ext.refl _ _) ?_
            refine X.dE (i := 3) (by kernel_rfl) rfl (X.dwN rfl) (NRow.app (y := ((Ak, (told (pCnt x6) ([], 0)).1.length, ck), (told (pCnt x6) ([], 0)).2)) (q := y.1) (hNR.keep (((((hk6.trans hk7).step hx8 zq18).trans hk9).trans hk10).trans hk14)) hs14 ⟨congrArg Prod.snd htd, hyI, hck, _, _, fun _ h1 h2 => ⟨h1, h2⟩, (hskt.keep ((((hk7.step hx8 zq18).trans hk9).trans hk10).trans hk14))⟩ (by omega) (by omega) (by omega) Tryz.underlying22 ECt rfl rfl (by omega)) (by rintro _ w15 ⟨Aq, cq, S', G', rfl, hNn, hx15⟩ _; exact hx15.mono (fun k _ h => by (try simp only [] at *); omega)) ?_
            rintro _ w15 ⟨Aq, cq, S', G', rfl, hNn, hx15⟩
            have hx15' := hx15.size
            refine X.dE (i := 7) (by kernel_rfl) rfl (X.dwN rfl) (X.storeE Tryz.sizeOf22 ((hB4.keep (((((hk6.trans hk7).step hx8 zq18).trans hk9).trans hk10).trans hk14)).ext hx15 zq1) rfl rfl rfl rfl) (by rintro _ w16 ⟨hB16, hx16, hz16⟩ _; exact hx16.mono (fun k _ h => by (try simp only [] at *); omega)) ?_
            rintro _ w16 ⟨hB16, hx16, hz16⟩
            refine X.dStep (i := 8) (by kernel_rfl) rfl (X.dwN rfl) (X.assign rfl) (fun h => absurd h (by decide)) ?_
            refine X.dEnd (by kernel_rfl) ?_
            refine X.inBlock ?_
            refine X.region ?_
            refine X.opw X.wN rfl (X.add (c := ((i + 1 : Nat) : Int)) rfl rfl (by rw [X.w_u64 (by omega)]; omega)) ?_
            refine X.opw X.wN rfl (X.move (v := .int .u64 _) rfl) ?_
            refine X.opsEnd ?_
            refine hback (i + 1, .slice Aq (l ++ [y.1]).length cq, _, _, _, y.2) _ _ ⟨rfl, rfl, rfl, rfl, rfl, rfl, trivial⟩ ⟨by (try dsimp only); omega, ((((((((hk.trans hk6).trans hk7).step hx8 zq18).trans hk9).trans hk10).trans hk14).step hx15 zq18).step hx16 zq18), hB16, (((hB5.keep (((((hk6.trans hk7).step hx8 zq18).trans hk9).trans hk10).trans hk14)).ext hx15 zq1).ext hx16 zq1), ?_, ?_, by (try dsimp only); omega, _, _, (((hsd.keep hk14).ext hx15 zq1).ext hx16 zq1), hlo9, hhi9, L ++ [_], l ++ [y.1], S', G', ((hNn.ext hx16 zq1)).all, ?_, ?_⟩ ?_
            · (try dsimp only); rw [hcn, Int.toNat_natCast]; omega
            · (try dsimp only); rw [hcn, Int.toNat_natCast]; omega
            · (try dsimp only); rw [List.length_append, List.length_singleton, hcn, Int.toNat_natCast]; omega
            · (try dsimp only); rw [hE, hki, ents_b hy, emap_snoc, show z1.1 - (i + 1) = k by omega]
            · (try dsimp only); omega
        · rintro w9 hx9
          have hx9' := hx9.size
          have hN : pgP xs t = none := by rw [hE, hki, ents_a (okE_none hb9)]; rfl
          refine X.unw_defer Tryz.call91 (fun h => by cases h) (rcaught_1 _ _ _ ((hB5.keep ((hk6.trans hk7).step hx8 zq18)).ext hx9 zq1)) ?_
          rintro m wz ⟨rfl, hBz, hxz⟩
          have hxz' := hxz.size
          show X.Unw _ _ _ FrameMode.returning _ _ _ _
          refine X.unw_defer Tryz.call97 (fun h => by cases h) (X.DCall.of_ret (zeroP1_c _ _ _ _ hBz (((hB4.keep ((hk6.trans hk7).step hx8 zq18)).ext hx9 zq1).ext hxz zq27) (by omega))) ?_
          rintro m wq ⟨rfl, vq, hq1, hq2, hq4⟩
          show X.Unw _ _ _ FrameMode.returning _ _ _ _
          refine X.unwR2 Tryz.func43 Tryz.results43 (X.ResOk.cell rfl (X.lv1 Tryz.isAgg22 hq2 rfl)) (X.ResOk.cell rfl (X.lv1 Tryz.isAgg27 hq1 rfl)) ?_
          rw [hN]
          exact ⟨rfl, ((((((hk.trans hk6).trans hk7).step hx8 zq18).step hx9 zq18)).step hxz zq20).step hq4 zq20⟩
      · refine X.opsEnd ?_
        refine X.seq ?_
        refine X.condF rfl ?_
        refine X.exit rfl ?_
        refine X.seq ?_
        refine X.seq ?_
        refine X.region ?_
        refine X.opw X.wN rfl (X.move (v := .slice _ _ _) rfl) ?_
        refine X.opw X.wN rfl (X.lenSl Tryz.underlying43 rfl) ?_
        refine X.opP X.wN rfl rfl (X.gtr rfl rfl) (fun h46 => ?_) (fun h46 => ?_)
        · 
          refine X.opw X.wN rfl (X.move (v := .bool true) rfl) ?_
          refine X.opS rfl rfl rfl rfl rfl ?_
          refine X.opS rfl rfl rfl rfl rfl ?_
          refine X.opS rfl rfl rfl rfl rfl ?_
          refine X.opw X.wN rfl (X.pickT (v := .bool true) rfl rfl) ?_
          refine X.opw X.wN rfl (X.move (v := .bool true) rfl) ?_
          refine X.opS rfl rfl rfl rfl rfl ?_
          refine X.opS rfl rfl rfl rfl rfl ?_
          refine X.opS rfl rfl rfl rfl rfl ?_
          refine X.opw X.wN rfl (X.pickT (v := .bool true) rfl rfl) ?_
          refine X.opw X.wN rfl (X.move (v := .bool true) rfl) ?_
          refine X.opS rfl rfl rfl rfl rfl ?_
          refine X.opS rfl rfl rfl rfl rfl ?_
          refine X.opS rfl rfl rfl rfl rfl ?_
          refine X.opS rfl rfl rfl rfl rfl ?_
          refine X.opS rfl rfl rfl rfl rfl ?_
          refine X.opS rfl rfl rfl rfl rfl ?_
          refine X.opS rfl rfl rfl rfl rfl ?_
          refine X.opw X.wN rfl (X.pickT (v := .bool true) rfl rfl) ?_
          refine X.opsEnd ?_
          refine X.condT rfl ?_
          refine X.region ?_
          refine X.opw X.wN rfl (X.buildB (vs := []) (cs := #[]) rfl (by kernel_rfl)) ?_
          refine X.opw X.wN rfl (X.mkIface Tryz.underlying166 rfl rfl) ?_
          refine X.opPanic X.wN rfl ?_
          have hN : pgP xs t = none := by
            rw [hE, show z1.1 - i = 0 by omega, ents, if_neg (fun h => by rw [h] at h6l; simp at h6l; omega)]; rfl
          refine X.unw_defer Tryz.call91 (fun h => by cases h) (rcaught_1 _ _ _ hB5) ?_
          rintro m wz ⟨rfl, hBz, hxz⟩
          have hxz' := hxz.size
          show X.Unw _ _ _ FrameMode.returning _ _ _ _
          refine X.unw_defer Tryz.call97 (fun h => by cases h) (X.DCall.of_ret (zeroP1_c _ _ _ _ hBz (hB4.ext hxz zq27) (by omega))) ?_
          rintro m wq ⟨rfl, vq, hq1, hq2, hq4⟩
          show X.Unw _ _ _ FrameMode.returning _ _ _ _
          refine X.unwR2 Tryz.func43 Tryz.results43 (X.ResOk.cell rfl (X.lv1 Tryz.isAgg22 hq2 rfl)) (X.ResOk.cell rfl (X.lv1 Tryz.isAgg27 hq1 rfl)) ?_
          rw [hN]
          exact ⟨rfl, ((hk).step hxz zq20).step hq4 zq20⟩
        · have hx60 : x6 = [] := List.eq_nil_of_length_eq_zero (by omega)
          have hfin : (ents (z1.1 - i) x6).map (l ++ ·) = some l := by rw [show z1.1 - i = 0 by omega, ents, if_pos hx60]; simp
          refine X.opw X.wN rfl (X.move (v := .bool false) rfl) ?_
          refine X.opw (X.wG rfl rfl rfl) rfl (X.load1B Tryz.isAgg22 hB4 rfl rfl) ?_
          refine X.opw (X.wG rfl rfl rfl) rfl (X.lenSl Tryz.underlying22 rfl) ?_
          refine X.opP (X.wG rfl rfl rfl) rfl rfl (X.eqI rfl rfl) (fun h50 => ?_) (fun h50 => ?_)
          · 
            refine X.opw X.wN rfl (X.pickF (v := .bool true) rfl rfl) ?_
            refine X.opw X.wN rfl (X.move (v := .bool true) rfl) ?_
            refine X.opS rfl rfl rfl rfl rfl ?_
            refine X.opS rfl rfl rfl rfl rfl ?_
            refine X.opS rfl rfl rfl rfl rfl ?_
            refine X.opw X.wN rfl (X.pickT (v := .bool true) rfl rfl) ?_
            refine X.opw X.wN rfl (X.move (v := .bool true) rfl) ?_
            refine X.opS rfl rfl rfl rfl rfl ?_
            refine X.opS rfl rfl rfl rfl rfl ?_
            refine X.opS rfl rfl rfl rfl rfl ?_
            refine X.opS rfl rfl rfl rfl rfl ?_
            refine X.opS rfl rfl rfl rfl rfl ?_
            refine X.opS rfl rfl rfl rfl rfl ?_
            refine X.opS rfl rfl rfl rfl rfl ?_
            refine X.opw X.wN rfl (X.pickT (v := .bool true) rfl rfl) ?_
            refine X.opsEnd ?_
            refine X.condT rfl ?_
            refine X.region ?_
            refine X.opw X.wN rfl (X.buildB (vs := []) (cs := #[]) rfl (by kernel_rfl)) ?_
            refine X.opw X.wN rfl (X.mkIface Tryz.underlying166 rfl rfl) ?_
            refine X.opPanic X.wN rfl ?_
            have hN : pgP xs t = none := by
              rw [hE, hfin]; exact pgF_F (fun h => h.1 (List.eq_nil_of_length_eq_zero (by omega)))
            refine X.unw_defer Tryz.call91 (fun h => by cases h) (rcaught_1 _ _ _ hB5) ?_
            rintro m wz ⟨rfl, hBz, hxz⟩
            have hxz' := hxz.size
            show X.Unw _ _ _ FrameMode.returning _ _ _ _
            refine X.unw_defer Tryz.call97 (fun h => by cases h) (X.DCall.of_ret (zeroP1_c _ _ _ _ hBz (hB4.ext hxz zq27) (by omega))) ?_
            rintro m wq ⟨rfl, vq, hq1, hq2, hq4⟩
            show X.Unw _ _ _ FrameMode.returning _ _ _ _
            refine X.unwR2 Tryz.func43 Tryz.results43 (X.ResOk.cell rfl (X.lv1 Tryz.isAgg22 hq2 rfl)) (X.ResOk.cell rfl (X.lv1 Tryz.isAgg27 hq1 rfl)) ?_
            rw [hN]
            exact ⟨rfl, ((hk).step hxz zq20).step hq4 zq20⟩
          · have hne : l ≠ [] := fun h => by rw [h] at h50; simp at h50
            have hnp := List.length_pos_iff.2 hne
            obtain ⟨Av', cv', ev, hcv', hkc⟩ := nrow_kc hNR
            injection ev with ev1 ev2 ev3
            subst ev1 ev3
            obtain ⟨x0, hx0'⟩ : ∃ x0, L[0]? = some x0 := ⟨_, List.getElem?_eq_getElem (by rw [hNR.d.1]; omega)⟩
            obtain ⟨q0, hq0, _, _, _, loq, hiq, _, hqs⟩ := hNR.d.2 _ _ hx0'
            have hhq := kv_head (x := x0) hq0
            refine X.opw X.wN rfl (X.pickF (v := .bool false) rfl rfl) ?_
            refine X.opw X.wN rfl (X.move (v := .bool false) rfl) ?_
            refine X.opw (X.wG rfl rfl rfl) rfl (X.load1B Tryz.isAgg22 hB4 rfl rfl) ?_
            refine X.opE (X.wG rfl rfl rfl) rfl (X.callE (rCheck_c _ hkc (by omega)) Tryz.call21 rfl rfl) ?_
            rintro _ w17 ⟨rfl, hk17⟩
            have hk17' := hk17.size
            refine X.opP (X.wG rfl rfl rfl) rfl rfl (X.neI rfl rfl) (fun h55 => ?_) (fun h55 => ?_)
            · 
              refine X.opw X.wN rfl (X.pickF (v := .bool true) rfl rfl) ?_
              refine X.opw X.wN rfl (X.move (v := .bool true) rfl) ?_
              refine X.opS rfl rfl rfl rfl rfl ?_
              refine X.opS rfl rfl rfl rfl rfl ?_
              refine X.opS rfl rfl rfl rfl rfl ?_
              refine X.opS rfl rfl rfl rfl rfl ?_
              refine X.opS rfl rfl rfl rfl rfl ?_
              refine X.opS rfl rfl rfl rfl rfl ?_
              refine X.opS rfl rfl rfl rfl rfl ?_
              refine X.opw X.wN rfl (X.pickT (v := .bool true) rfl rfl) ?_
              refine X.opsEnd ?_
              refine X.condT rfl ?_
              refine X.region ?_
              refine X.opw X.wN rfl (X.buildB (vs := []) (cs := #[]) rfl (by kernel_rfl)) ?_
              refine X.opw X.wN rfl (X.mkIface Tryz.underlying166 rfl rfl) ?_
              refine X.opPanic X.wN rfl ?_
              have hN : pgP xs t = none := by
                rw [hE, hfin]; exact pgF_F (fun h => by rw [h.2.1] at h55; exact absurd rfl h55)
              refine X.unw_defer Tryz.call91 (fun h => by cases h) (rcaught_1 _ _ _ (hB5.keep hk17)) ?_
              rintro m wz ⟨rfl, hBz, hxz⟩
              have hxz' := hxz.size
              show X.Unw _ _ _ FrameMode.returning _ _ _ _
              refine X.unw_defer Tryz.call97 (fun h => by cases h) (X.DCall.of_ret (zeroP1_c _ _ _ _ hBz ((hB4.keep hk17).ext hxz zq27) (by omega))) ?_
              rintro m wq ⟨rfl, vq, hq1, hq2, hq4⟩
              show X.Unw _ _ _ FrameMode.returning _ _ _ _
              refine X.unwR2 Tryz.func43 Tryz.results43 (X.ResOk.cell rfl (X.lv1 Tryz.isAgg22 hq2 rfl)) (X.ResOk.cell rfl (X.lv1 Tryz.isAgg27 hq1 rfl)) ?_
              rw [hN]
              exact ⟨rfl, (((hk.trans hk17)).step hxz zq20).step hq4 zq20⟩
            · have hRt : isR l = true := by
                cases hq : isR l with
                | true => rfl
                | false => rw [hq] at h55; exact absurd (by decide : ¬ (70 : Int) = 0) h55
              refine X.opw X.wN rfl (X.pickF (v := .bool false) rfl rfl) ?_
              refine X.opw X.wN rfl (X.move (v := .bool false) rfl) ?_
              refine X.opw (X.wG rfl rfl rfl) rfl (X.load1B Tryz.isAgg22 (hB4.keep hk17) rfl rfl) ?_
              refine X.opw (X.wG rfl rfl rfl) rfl (X.idxS (hsv.keep hk17) Tryz.underlying22 Tryz.sizeOf40 rfl rfl ⟨by omega, by omega⟩) ?_
              refine X.opw (X.wG rfl rfl rfl) rfl (X.fldA Tryz.underlying40 rfl rfl Tryz.sizeOf38) ?_
              refine X.opw (X.wG rfl rfl rfl) rfl (X.loadSf (o := 0) Tryz.isAgg38 (hsv.keep hk17) (j := 0) hx0' rfl (fun _ h => by rw [h.1]; rfl)) ?_
              refine X.opw (X.wG rfl rfl rfl) rfl (X.move rfl) ?_
              refine X.opE (X.wG rfl rfl rfl) rfl (X.callE (tupleCompare_c _ (hqs.keep hk17) (ht.keep (hk.trans hk17))) Tryz.call47 rfl rfl) ?_
              rintro _ w18 ⟨rfl, hk18⟩
              have hk18' := hk18.size
              refine X.opP (X.wG rfl rfl rfl) rfl rfl (X.neI rfl rfl) (fun h64 => ?_) (fun h64 => ?_)
              · 
                refine X.opw X.wN rfl (X.pickF (v := .bool true) rfl rfl) ?_
                refine X.opsEnd ?_
                refine X.condT rfl ?_
                refine X.region ?_
                refine X.opw X.wN rfl (X.buildB (vs := []) (cs := #[]) rfl (by kernel_rfl)) ?_
                refine X.opw X.wN rfl (X.mkIface Tryz.underlying166 rfl rfl) ?_
                refine X.opPanic X.wN rfl ?_
                have hN : pgP xs t = none := by
                  rw [hE, hfin]; exact pgF_F (fun h => h64 (by rw [← hhq]; exact h.2.2))
                refine X.unw_defer Tryz.call91 (fun h => by cases h) (rcaught_1 _ _ _ (hB5.keep (hk17.trans hk18))) ?_
                rintro m wz ⟨rfl, hBz, hxz⟩
                have hxz' := hxz.size
                show X.Unw _ _ _ FrameMode.returning _ _ _ _
                refine X.unw_defer Tryz.call97 (fun h => by cases h) (X.DCall.of_ret (zeroP1_c _ _ _ _ hBz ((hB4.keep (hk17.trans hk18)).ext hxz zq27) (by omega))) ?_
                rintro m wq ⟨rfl, vq, hq1, hq2, hq4⟩
                show X.Unw _ _ _ FrameMode.returning _ _ _ _
                refine X.unwR2 Tryz.func43 Tryz.results43 (X.ResOk.cell rfl (X.lv1 Tryz.isAgg22 hq2 rfl)) (X.ResOk.cell rfl (X.lv1 Tryz.isAgg27 hq1 rfl)) ?_
                rw [hN]
                exact ⟨rfl, ((((hk.trans hk17).trans hk18)).step hxz zq20).step hq4 zq20⟩
              · have hcm : cmpT (headT l) t = 0 := by rw [hhq]; exact Classical.byContradiction h64
                refine X.opw X.wN rfl (X.pickF (v := .bool false) rfl rfl) ?_
                refine X.opsEnd ?_
                refine X.condF rfl ?_
                refine X.skip ?_
                refine X.seq ?_
                refine X.region ?_
                refine X.opw X.wN rfl (X.load1B Tryz.isAgg22 (hB4.keep (hk17.trans hk18)) rfl rfl) ?_
                refine X.opE X.wN rfl (X.storeE Tryz.sizeOf22 (hB4.keep (hk17.trans hk18)) rfl rfl rfl rfl) ?_
                rintro _ w19 ⟨hB19, hx19, hz19⟩
                refine X.opE X.wN rfl (X.storeE Tryz.sizeOf27 ((hB5.keep (hk17.trans hk18)).ext hx19 zq1) rfl rfl rfl rfl) ?_
                rintro _ w20 ⟨hB20, hx20, hz20⟩
                refine X.opsEnd ?_
                refine X.ret_unw ?_
                refine X.unw_defer Tryz.call91 (fun h => by cases h) (rcaught_0 _ _) ?_
                rintro m wz ⟨rfl, rfl⟩
                show X.Unw _ _ _ FrameMode.returning _ _ _ _
                refine X.unw_defer Tryz.call97 (fun h => by cases h) (X.DCall.of_ret (zeroP0_c _ _ _ hB20)) ?_
                rintro m wz ⟨rfl, vz, rfl⟩
                show X.Unw _ _ _ FrameMode.returning _ _ _ _
                refine X.unwR2 Tryz.func43 Tryz.results43 (X.ResOk.cell rfl (X.lv1 Tryz.isAgg22 (hB19.ext hx20 zq1) rfl)) (X.ResOk.cell rfl (X.lv1 Tryz.isAgg27 hB20 rfl)) ?_
                rw [hE, hfin, pgF_T hne hRt hcm]
                have hNf := (((hNR.keep (hk17.trans hk18)).ext hx19 zq1).ext hx20 zq1)
                exact ⟨⟨_, L, _, S, G, rfl, hNf.low (by omega)⟩, ((((hk.trans hk17).trans hk18).step hx19 zq18).step hx20 zq18)⟩
    · rintro w5 hx5
      have hx5' := hx5.size
      have hN : pgP xs t = none := pg_b ho1 hz1
      refine X.unw_defer Tryz.call91 (fun h => by cases h) (rcaught_1 _ _ _ ((hB2.keep (hk3.trans hk4)).ext hx5 zq1)) ?_
      rintro m wz ⟨rfl, hBz, hxz⟩
      have hxz' := hxz.size
      show X.Unw _ _ _ FrameMode.returning _ _ _ _
      refine X.unw_defer Tryz.call97 (fun h => by cases h) (X.DCall.of_ret (zeroP1_c _ _ _ _ hBz (((hB1.keep ((hk2.trans hk3).trans hk4)).ext hx5 zq1).ext hxz zq27) (by omega))) ?_
      rintro m wq ⟨rfl, vq, hq1, hq2, hq4⟩
      show X.Unw _ _ _ FrameMode.returning _ _ _ _
      refine X.unwR2 Tryz.func43 Tryz.results43 (X.ResOk.cell rfl (X.lv1 Tryz.isAgg22 hq2 rfl)) (X.ResOk.cell rfl (X.lv1 Tryz.isAgg27 hq1 rfl)) ?_
      rw [hN]
      exact ⟨rfl, ((((((hk1.trans hk2).trans hk3).trans hk4).step hx5 zq18)).step hxz zq20).step hq4 zq20⟩
  · rintro w4 hx4
    have hx4' := hx4.size
    have hN : pgP xs t = none := pg_a (okE_n hb4)
    refine X.unw_defer Tryz.call91 (fun h => by cases h) (rcaught_1 _ _ _ ((hB2.keep hk3).ext hx4 zq1)) ?_
    rintro m wz ⟨rfl, hBz, hxz⟩
    have hxz' := hxz.size
    show X.Unw _ _ _ FrameMode.returning _ _ _ _
    refine X.unw_defer Tryz.call97 (fun h => by cases h) (X.DCall.of_ret (zeroP1_c _ _ _ _ hBz (((hB1.keep (hk2.trans hk3)).ext hx4 zq1).ext hxz zq27) (by omega))) ?_
    rintro m wq ⟨rfl, vq, hq1, hq2, hq4⟩
    show X.Unw _ _ _ FrameMode.returning _ _ _ _
    refine X.unwR2 Tryz.func43 Tryz.results43 (X.ResOk.cell rfl (X.lv1 Tryz.isAgg22 hq2 rfl)) (X.ResOk.cell rfl (X.lv1 Tryz.isAgg27 hq1 rfl)) ?_
    rw [hN]
    exact ⟨rfl, (((((hk1.trans hk2).trans hk3).step hx4 zq18)).step hxz zq20).step hq4 zq20⟩
end Go.Proofs.YtbljooblpfdbiaaGreatDoor
