/- Texts that the proof of RunWrites stands on, part 10. -/
import Derived.Test.YtbljooblpfdbiaaGreatDoorProg
import Derived.Test.YtbljooblpfdbiaaGreatDoorBunRunWrites9
set_option linter.unusedSimpArgs false
set_option linter.unusedVariables false
namespace Go.Proofs.YtbljooblpfdbiaaGreatDoor
open Go Go.Proofs.YtbljooblpfdbiaaGreatDoor.X
abbrev VAL := Int × Int × ByteArray
def encV (v : VAL) : List Value := [.int .i64 v.1, .int .i64 v.2.1, .string v.2.2]
def okI (n : Int) : Prop := -9223372036854775808 ≤ n ∧ n ≤ 9223372036854775807
def okV (v : VAL) : Prop := okI v.1 ∧ okI v.2.1 ∧ v.2.2.size ≤ 9223372036854775807
def KV : Kd VAL := Kd.plain 3 encV okV (fun _ => rfl) (fun x u hu => by simp [encV] at hu; rcases hu with rfl | rfl | rfl <;> rfl)
theorem KV_flat : Flat KV := fun h => h
theorem encV_one (x : VAL) : ∀ u, u ∈ encV x → u.oneCell' = true := fun u hu => by simp [encV] at hu; rcases hu with rfl | rfl | rfl <;> rfl
theorem KV_ok {lo hi : Nat} {w : World} {A : Option Addr} {n : Nat} {l : List VAL} (h : Sl KV lo hi w A n l) (i : Nat) (x : VAL) (hx : l[i]? = some x) : okV x := let ⟨_, _, _, hr, _⟩ := h.get i x hx; hr.2
theorem EVal : ElemInfo Tryz.prog 90 3 32 := ElemInfo.of (z := .agg #[.int .i64 0, .int .i64 0, .string ⟨#[]⟩]) (by kernel_rfl) rfl rfl rfl
def cmpV (a b : VAL) : Int := if a = b then 0 else if a.1 < b.1 ∨ a.1 = b.1 ∧ (a.2.1 < b.2.1 ∨ a.2.1 = b.2.1 ∧ Op.bytesLess a.2.2.data.toList b.2.2.data.toList = true) then -1 else 1
def cmpT : List VAL → List VAL → Int
  | [], [] => 0
  | [], _ :: _ => -1
  | _ :: _, [] => 1
  | a :: l, b :: m => if cmpV a b ≠ 0 then cmpV a b else cmpT l m
theorem eqV (a b : VAL) (w : World) : (Op.equalIn 10000 90 (.agg (encV a).toArray) (.agg (encV b).toArray)).run Tryz.prog w = .ok (decide (a = b)) w := by
  rw [run_equalIn_struct w 9999 _ _ _ (by simp [Program.fieldsOf, Tryz.underlying90]) (by kernel_rfl)]
  simp only [Program.fieldsOf, Tryz.underlying90]
  simp [Op.eqFields, part, encV, Tryz.isAgg88, Tryz.isAgg2, Tryz.isAgg9, run_equalIn_int _ 9998 88 .i64 .i64 _ _ Tryz.underlying88, run_equalIn_int _ 9998 2 .i64 .i64 _ _ Tryz.underlying2, run_equalIn_string _ 9998 9 _ _ Tryz.underlying9, str_eq]
  obtain ⟨a1, a2, a3⟩ := a
  obtain ⟨b1, b2, b3⟩ := b
  by_cases h1 : a1 = b1 <;> by_cases h2 : a2 = b2 <;> by_cases h3 : a3 = b3 <;> simp [h1, h2, h3]
theorem eqV_guard : Tryz.prog.eqGuardType Tryz.prog.depth 90 = false := by kernel_rfl
set_option maxHeartbeats 4000000 in
set_option maxRecDepth 100000 in
theorem R01Compare_c (a b : VAL) (w : World) : Ret Tryz.prog 48 #[.agg (encV a).toArray, .agg (encV b).toArray] w fun r w' => r = .int .i64 (cmpV a b) ∧ Keep w w' := by
  refine X.enter Tryz.func48 rfl Tryz.ntmps48 rfl ?_
  refine X.seq ?_
  refine X.region ?_
  refine X.opE X.wN rfl (X.boxE rfl rfl) ?_
  rintro _ w1 ⟨rfl, hB1, hk1, hz1⟩
  refine X.opE X.wN rfl (X.boxE rfl rfl) ?_
  rintro _ w2 ⟨rfl, hB2, hk2, hz2⟩
  refine X.opw X.wN rfl (X.assign rfl) ?_
  refine X.opsEnd ?_
  refine X.seq ?_
  refine X.block ?_
  refine X.seq ?_
  refine X.region ?_
  refine X.opw X.wN rfl (X.loadNB Tryz.isAgg90 Tryz.sizeOf90 (hB1.keep hk2) rfl rfl rfl) ?_
  refine X.opw X.wN rfl (X.loadNB Tryz.isAgg90 Tryz.sizeOf90 hB2 rfl rfl rfl) ?_
  refine X.opw X.wN rfl (X.eqA eqV_guard rfl rfl (eqV a b _)) ?_
  refine X.opw X.wN rfl (X.assign (v := .bool _) rfl) ?_
  refine X.opsEnd ?_
  refine X.condB rfl (fun hc => ?_) (fun hc => ?_)
  · refine X.seq ?_
    refine X.region ?_
    refine X.opw X.wN rfl (X.assign rfl) ?_
    refine X.opsEnd ?_
    refine X.ret1 (v := (.int .i64 _)) Tryz.func48 Tryz.results48 rfl ?_
    exact ⟨by congr 1; simp_all [cmpV] <;> omega, (hk1.trans hk2)⟩
  · refine X.seq ?_
    refine X.region ?_
    refine X.opw X.wN rfl (X.fldB (j := 0) Tryz.underlying90 rfl rfl Tryz.sizeOf88 rfl) ?_
    refine X.opw X.wN rfl (X.load1B Tryz.isAgg88 (hB1.keep hk2) rfl rfl) ?_
    refine X.opw X.wN rfl (X.fldB (j := 0) Tryz.underlying90 rfl rfl Tryz.sizeOf88 rfl) ?_
    refine X.opw X.wN rfl (X.load1B Tryz.isAgg88 hB2 rfl rfl) ?_
    refine X.opP X.wN rfl rfl (X.lss rfl rfl) (fun h14 => ?_) (fun h14 => ?_)
    · refine X.opw X.wN rfl (X.move (v := .bool true) rfl) ?_
      refine X.opS rfl rfl rfl rfl rfl ?_
      refine X.opS rfl rfl rfl rfl rfl ?_
      refine X.opS rfl rfl rfl rfl rfl ?_
      refine X.opS rfl rfl rfl rfl rfl ?_
      refine X.opS rfl rfl rfl rfl rfl ?_
      refine X.opS rfl rfl rfl rfl rfl ?_
      refine X.opU rfl rfl rfl rfl ?_
      refine X.opU rfl rfl rfl rfl ?_
      refine X.opU rfl rfl rfl rfl ?_
      refine X.opU rfl rfl rfl rfl ?_
      refine X.opU rfl rfl rfl rfl ?_
      refine X.opU rfl rfl rfl rfl ?_
      refine X.opU rfl rfl rfl rfl ?_
      refine X.opU rfl rfl rfl rfl ?_
      refine X.opU rfl rfl rfl rfl ?_
      refine X.opU rfl rfl rfl rfl ?_
      refine X.opU rfl rfl rfl rfl ?_
      refine X.opU rfl rfl rfl rfl ?_
      refine X.opU rfl rfl rfl rfl ?_
      refine X.opU rfl rfl rfl rfl ?_
      refine X.opU rfl rfl rfl rfl ?_
      refine X.opU rfl rfl rfl rfl ?_
      refine X.opU rfl rfl rfl rfl ?_
      refine X.opU rfl rfl rfl rfl ?_
      refine X.opU rfl rfl rfl rfl ?_
      refine X.opS rfl rfl rfl rfl rfl ?_
      refine X.opw X.wN rfl (X.pickT (v := .bool true) rfl rfl) ?_
      refine X.opw X.wN rfl (X.assign (v := .bool true) rfl) ?_
      refine X.opsEnd ?_
      refine X.condT rfl ?_
      refine X.seq ?_
      refine X.region ?_
      refine X.opw X.wN rfl (X.assign rfl) ?_
      refine X.opsEnd ?_
      refine X.ret1 (v := (.int .i64 _)) Tryz.func48 Tryz.results48 rfl ?_
      exact ⟨by congr 1; simp_all [cmpV] <;> omega, (hk1.trans hk2)⟩
    · refine X.opw X.wN rfl (X.move (v := .bool false) rfl) ?_
      refine X.opw (X.wG rfl rfl rfl) rfl (X.fldB (j := 0) Tryz.underlying90 rfl rfl Tryz.sizeOf88 rfl) ?_
      refine X.opw (X.wG rfl rfl rfl) rfl (X.load1B Tryz.isAgg88 (hB1.keep hk2) rfl rfl) ?_
      refine X.opw (X.wG rfl rfl rfl) rfl (X.fldB (j := 0) Tryz.underlying90 rfl rfl Tryz.sizeOf88 rfl) ?_
      refine X.opw (X.wG rfl rfl rfl) rfl (X.load1B Tryz.isAgg88 hB2 rfl rfl) ?_
      refine X.opP (X.wG rfl rfl rfl) rfl rfl (X.eqI rfl rfl) (fun h20 => ?_) (fun h20 => ?_)
      · refine X.opw (X.wG rfl rfl rfl) rfl (X.move (v := .bool true) rfl) ?_
        refine X.opw (X.wG rfl rfl rfl) rfl (X.fldB (j := 1) Tryz.underlying90 rfl rfl Tryz.sizeOf2 rfl) ?_
        refine X.opw (X.wG rfl rfl rfl) rfl (X.load1B Tryz.isAgg2 (hB1.keep hk2) rfl rfl) ?_
        refine X.opw (X.wG rfl rfl rfl) rfl (X.fldB (j := 1) Tryz.underlying90 rfl rfl Tryz.sizeOf2 rfl) ?_
        refine X.opw (X.wG rfl rfl rfl) rfl (X.load1B Tryz.isAgg2 hB2 rfl rfl) ?_
        refine X.opP (X.wG rfl rfl rfl) rfl rfl (X.lss rfl rfl) (fun h26 => ?_) (fun h26 => ?_)
        · refine X.opw (X.wG rfl rfl rfl) rfl (X.move (v := .bool true) rfl) ?_
          refine X.opS rfl rfl rfl rfl rfl ?_
          refine X.opS rfl rfl rfl rfl rfl ?_
          refine X.opS rfl rfl rfl rfl rfl ?_
          refine X.opS rfl rfl rfl rfl rfl ?_
          refine X.opS rfl rfl rfl rfl rfl ?_
          refine X.opS rfl rfl rfl rfl rfl ?_
          refine X.opU rfl rfl rfl rfl ?_
          refine X.opU rfl rfl rfl rfl ?_
          refine X.opU rfl rfl rfl rfl ?_
          refine X.opU rfl rfl rfl rfl ?_
          refine X.opU rfl rfl rfl rfl ?_
          refine X.opS rfl rfl rfl rfl rfl ?_
          refine X.opw (X.wG rfl rfl rfl) rfl (X.pickT (v := .bool true) rfl rfl) ?_
          refine X.opw (X.wG rfl rfl rfl) rfl (X.pickT (v := .bool true) rfl rfl) ?_
          refine X.opw X.wN rfl (X.pickF (v := .bool true) rfl rfl) ?_
          refine X.opw X.wN rfl (X.assign (v := .bool true) rfl) ?_
          refine X.opsEnd ?_
          refine X.condT rfl ?_
          refine X.seq ?_
          refine X.region ?_
          refine X.opw X.wN rfl (X.assign rfl) ?_
          refine X.opsEnd ?_
          refine X.ret1 (v := (.int .i64 _)) Tryz.func48 Tryz.results48 rfl ?_
          exact ⟨by congr 1; simp_all [cmpV] <;> omega, (hk1.trans hk2)⟩
        · refine X.opw (X.wG rfl rfl rfl) rfl (X.move (v := .bool false) rfl) ?_
          refine X.opw (X.wG rfl rfl rfl) rfl (X.fldB (j := 1) Tryz.underlying90 rfl rfl Tryz.sizeOf2 rfl) ?_
          refine X.opw (X.wG rfl rfl rfl) rfl (X.load1B Tryz.isAgg2 (hB1.keep hk2) rfl rfl) ?_
          refine X.opw (X.wG rfl rfl rfl) rfl (X.fldB (j := 1) Tryz.underlying90 rfl rfl Tryz.sizeOf2 rfl) ?_
          refine X.opw (X.wG rfl rfl rfl) rfl (X.load1B Tryz.isAgg2 hB2 rfl rfl) ?_
          refine X.opP (X.wG rfl rfl rfl) rfl rfl (X.eqI rfl rfl) (fun h32 => ?_) (fun h32 => ?_)
          · refine X.opw (X.wG rfl rfl rfl) rfl (X.move (v := .bool true) rfl) ?_
            refine X.opw (X.wG rfl rfl rfl) rfl (X.fldB (j := 2) Tryz.underlying90 rfl rfl Tryz.sizeOf9 rfl) ?_
            refine X.opw (X.wG rfl rfl rfl) rfl (X.load1B Tryz.isAgg9 (hB1.keep hk2) rfl rfl) ?_
            refine X.opw (X.wG rfl rfl rfl) rfl (X.fldB (j := 2) Tryz.underlying90 rfl rfl Tryz.sizeOf9 rfl) ?_
            refine X.opw (X.wG rfl rfl rfl) rfl (X.load1B Tryz.isAgg9 hB2 rfl rfl) ?_
            refine X.opB (X.wG rfl rfl rfl) rfl rfl (X.ltD rfl rfl) (fun h38 => ?_) (fun h38 => ?_)
            · refine X.opw (X.wG rfl rfl rfl) rfl (X.pickT (v := .bool true) rfl rfl) ?_
              refine X.opw (X.wG rfl rfl rfl) rfl (X.pickF (v := .bool true) rfl rfl) ?_
              refine X.opw (X.wG rfl rfl rfl) rfl (X.pickT (v := .bool true) rfl rfl) ?_
              refine X.opw X.wN rfl (X.pickF (v := .bool true) rfl rfl) ?_
              refine X.opw X.wN rfl (X.assign (v := .bool true) rfl) ?_
              refine X.opsEnd ?_
              refine X.condT rfl ?_
              refine X.seq ?_
              refine X.region ?_
              refine X.opw X.wN rfl (X.assign rfl) ?_
              refine X.opsEnd ?_
              refine X.ret1 (v := (.int .i64 _)) Tryz.func48 Tryz.results48 rfl ?_
              exact ⟨by congr 1; simp_all [cmpV] <;> omega, (hk1.trans hk2)⟩
            · refine X.opw (X.wG rfl rfl rfl) rfl (X.pickT (v := .bool false) rfl rfl) ?_
              refine X.opw (X.wG rfl rfl rfl) rfl (X.pickF (v := .bool false) rfl rfl) ?_
              refine X.opw (X.wG rfl rfl rfl) rfl (X.pickT (v := .bool false) rfl rfl) ?_
              refine X.opw X.wN rfl (X.pickF (v := .bool false) rfl rfl) ?_
              refine X.opw X.wN rfl (X.assign (v := .bool false) rfl) ?_
              refine X.opsEnd ?_
              refine X.condF rfl ?_
              refine X.skip ?_
              refine X.inBlock ?_
              refine X.seq ?_
              refine X.region ?_
              refine X.opw X.wN rfl (X.assign rfl) ?_
              refine X.opsEnd ?_
              refine X.ret1 (v := (.int .i64 _)) Tryz.func48 Tryz.results48 rfl ?_
              exact ⟨by congr 1; simp_all [cmpV] <;> omega, (hk1.trans hk2)⟩
          · refine X.opw (X.wG rfl rfl rfl) rfl (X.move (v := .bool false) rfl) ?_
            refine X.opS rfl rfl rfl rfl rfl ?_
            refine X.opS rfl rfl rfl rfl rfl ?_
            refine X.opS rfl rfl rfl rfl rfl ?_
            refine X.opS rfl rfl rfl rfl rfl ?_
            refine X.opS rfl rfl rfl rfl rfl ?_
            refine X.opw (X.wG rfl rfl rfl) rfl (X.pickF (v := .bool false) rfl rfl) ?_
            refine X.opw (X.wG rfl rfl rfl) rfl (X.pickF (v := .bool false) rfl rfl) ?_
            refine X.opw (X.wG rfl rfl rfl) rfl (X.pickT (v := .bool false) rfl rfl) ?_
            refine X.opw X.wN rfl (X.pickF (v := .bool false) rfl rfl) ?_
            refine X.opw X.wN rfl (X.assign (v := .bool false) rfl) ?_
            refine X.opsEnd ?_
            refine X.condF rfl ?_
            refine X.skip ?_
            refine X.inBlock ?_
            refine X.seq ?_
            refine X.region ?_
            refine X.opw X.wN rfl (X.assign rfl) ?_
            refine X.opsEnd ?_
            refine X.ret1 (v := (.int .i64 _)) Tryz.func48 Tryz.results48 rfl ?_
            exact ⟨by congr 1; simp_all [cmpV] <;> omega, (hk1.trans hk2)⟩
      · refine X.opw (X.wG rfl rfl rfl) rfl (X.move (v := .bool false) rfl) ?_
        refine X.opS rfl rfl rfl rfl rfl ?_
        refine X.opS rfl rfl rfl rfl rfl ?_
        refine X.opS rfl rfl rfl rfl rfl ?_
        refine X.opS rfl rfl rfl rfl rfl ?_
        refine X.opS rfl rfl rfl rfl rfl ?_
        refine X.opS rfl rfl rfl rfl rfl ?_
        refine X.opU rfl rfl rfl rfl ?_
        refine X.opU rfl rfl rfl rfl ?_
        refine X.opU rfl rfl rfl rfl ?_
        refine X.opU rfl rfl rfl rfl ?_
        refine X.opU rfl rfl rfl rfl ?_
        refine X.opU rfl rfl rfl rfl ?_
        refine X.opU rfl rfl rfl rfl ?_
        refine X.opU rfl rfl rfl rfl ?_
        refine X.opU rfl rfl rfl rfl ?_
        refine X.opU rfl rfl rfl rfl ?_
        refine X.opU rfl rfl rfl rfl ?_
        refine X.opU rfl rfl rfl rfl ?_
        refine X.opS rfl rfl rfl rfl rfl ?_
        refine X.opw (X.wG rfl rfl rfl) rfl (X.pickF (v := .bool false) rfl rfl) ?_
        refine X.opw X.wN rfl (X.pickF (v := .bool false) rfl rfl) ?_
        refine X.opw X.wN rfl (X.assign (v := .bool false) rfl) ?_
        refine X.opsEnd ?_
        refine X.condF rfl ?_
        refine X.skip ?_
        refine X.inBlock ?_
        refine X.seq ?_
        refine X.region ?_
        refine X.opw X.wN rfl (X.assign rfl) ?_
        refine X.opsEnd ?_
        refine X.ret1 (v := (.int .i64 _)) Tryz.func48 Tryz.results48 rfl ?_
        exact ⟨by congr 1; simp_all [cmpV] <;> omega, (hk1.trans hk2)⟩
theorem cmp_end {l1 l2 : List VAL} {i : Nat} (h1 : i ≤ l1.length) (h2 : i ≤ l2.length) (h : i = l1.length ∨ i = l2.length) : cmpT (l1.drop i) (l2.drop i) = if l1.length < l2.length then -1 else if l2.length < l1.length then 1 else 0 := by
  have e1 : (l1.drop i).length = l1.length - i := List.length_drop
  have e2 : (l2.drop i).length = l2.length - i := List.length_drop
  generalize l1.drop i = x at *
  generalize l2.drop i = y at *
  cases x <;> cases y <;> simp only [List.length_cons, List.length_nil] at e1 e2 <;> unfold cmpT
  · rw [if_neg (by omega), if_neg (by omega)]
  · rw [if_pos (by omega)]
  · rw [if_neg (by omega), if_pos (by omega)]
  · omega
set_option maxHeartbeats 4000000 in
set_option maxRecDepth 100000 in
theorem R02Compare_c {lo1 hi1 lo2 hi2 : Nat} {A1 A2 : Option Addr} {n1 n2 c1 c2 : Nat} {l1 l2 : List VAL} (w : World) (hs1 : Sl KV lo1 hi1 w A1 n1 l1) (hs2 : Sl KV lo2 hi2 w A2 n2 l2) : Ret Tryz.prog 17 #[.slice A1 n1 c1, .slice A2 n2 c2] w fun r w' => r = .int .i64 (cmpT l1 l2) ∧ Keep w w' := by
  have hn1 := hs1.bound
  have hl1 := hs1.len
  have hn2 := hs2.bound
  have hl2 := hs2.len
  refine X.enter Tryz.func17 rfl Tryz.ntmps17 rfl ?_
  refine X.seq ?_
  refine X.region ?_
  refine X.opw X.wN rfl (X.assign rfl) ?_
  refine X.opsEnd ?_
  refine X.seq ?_
  refine X.seq ?_
  refine X.region ?_
  refine X.opw X.wN rfl (X.assign rfl) ?_
  refine X.opsEnd ?_
  refine X.block ?_
  refine X.loopL (σ := Nat) (fun s => [(0, .slice A1 n1 c1), (1, .slice A2 n2 c2), (5, .int .i64 (s : Int))]) (fun s w' => s ≤ n1 ∧ s ≤ n2 ∧ cmpT (l1.drop s) (l2.drop s) = cmpT l1 l2 ∧ Keep w w') (fun s => n1 - s) 0 ⟨rfl, rfl, rfl, trivial⟩ ⟨Nat.zero_le _, Nat.zero_le _, rfl, (Keep.refl _)⟩ ?_
  rintro i b w1 ⟨hi1, hi2, hcm, hk⟩ hback
  have hk' := hk.size
  refine X.seq ?_
  refine X.seq ?_
  refine X.region ?_
  refine X.opw X.wN rfl (X.move (v := .int .i64 _) rfl) ?_
  refine X.opw X.wN rfl (X.move (v := .slice _ _ _) rfl) ?_
  refine X.opw X.wN rfl (X.lenSl Tryz.underlying38 rfl) ?_
  refine X.opP X.wN rfl rfl (X.lss rfl rfl) (fun h10 => ?_) (fun h10 => ?_)
  · refine X.opw X.wN rfl (X.move (v := .bool true) rfl) ?_
    refine X.opw (X.wG rfl rfl rfl) rfl (X.move (v := .int .i64 _) rfl) ?_
    refine X.opw (X.wG rfl rfl rfl) rfl (X.move (v := .slice _ _ _) rfl) ?_
    refine X.opw (X.wG rfl rfl rfl) rfl (X.lenSl Tryz.underlying38 rfl) ?_
    refine X.opP (X.wG rfl rfl rfl) rfl rfl (X.lss rfl rfl) (fun h15 => ?_) (fun h15 => ?_)
    · obtain ⟨x, hx⟩ := getN i hl1 h10
      obtain ⟨y, hy⟩ := getN i hl2 h15
      rw [drop_at hx, drop_at hy, cmpT] at hcm
      refine X.opw X.wN rfl (X.pickT (v := .bool true) rfl rfl) ?_
      refine X.opsEnd ?_
      refine X.condT rfl ?_
      refine X.skip ?_
      refine X.seq ?_
      refine X.block ?_
      refine X.seq ?_
      refine X.regionD (fun _ => False) 9 (by kernel_rfl) (by kernel_rfl) (fun w1 hk1 hz1 => ?_)
      refine X.dTake 0 rfl (by kernel_rfl) (by kernel_rfl) (by kernel_rfl) (X.dwN rfl) (fun w' hk' => X.move (v := .slice _ _ _) rfl) ?_
      refine X.dTake 1 rfl (by kernel_rfl) (by kernel_rfl) (by kernel_rfl) (X.dwN rfl) (fun w' hk' => X.move (v := .int .i64 _) rfl) ?_
      refine X.dTake 2 rfl (by kernel_rfl) (by kernel_rfl) (by kernel_rfl) (X.dwN rfl) (fun w' hk' => X.idxS (hs1.keep ((hk.trans hk1).trans hk')) Tryz.underlying38 Tryz.sizeOf90 rfl rfl ⟨by omega, by omega⟩) ?_
      refine X.dTake 3 rfl (by kernel_rfl) (by kernel_rfl) (by kernel_rfl) (X.dwN rfl) (fun w' hk' => X.loadSN Tryz.isAgg90 Tryz.sizeOf90 (hs1.keep ((hk.trans hk1).trans hk')) hx rfl (fun _ h => h.1) rfl) ?_
      refine X.dTake 4 rfl (by kernel_rfl) (by kernel_rfl) (by kernel_rfl) (X.dwN rfl) (fun w' hk' => X.move (v := .slice _ _ _) rfl) ?_
      refine X.dTake 5 rfl (by kernel_rfl) (by kernel_rfl) (by kernel_rfl) (X.dwN rfl) (fun w' hk' => X.move (v := .int .i64 _) rfl) ?_
      refine X.dTake 6 rfl (by kernel_rfl) (by kernel_rfl) (by kernel_rfl) (X.dwN rfl) (fun w' hk' => X.idxS (hs2.keep ((hk.trans hk1).trans hk')) Tryz.underlying38 Tryz.sizeOf90 rfl rfl ⟨by omega, by omega⟩) ?_
      refine X.dTake 7 rfl (by kernel_rfl) (by kernel_rfl) (by kernel_rfl) (X.dwN rfl) (fun w' hk' => X.loadSN Tryz.isAgg90 Tryz.sizeOf90 (hs2.keep ((hk.trans hk1).trans hk')) hy rfl (fun _ h => h.1) rfl) ?_
      refine X.dE (i := 8) (by kernel_rfl) rfl (X.dwN rfl) (X.callE (R01Compare_c x y _) Tryz.call48 rfl rfl) (by rintro _ w2 ⟨rfl, hk2⟩ _; exact hk2.mono (fun _ _ h => h.elim)) ?_
      rintro _ w2 ⟨rfl, hk2⟩
      have hk2' := hk2.size
      refine X.dStep (i := 9) (by kernel_rfl) rfl (X.dwN rfl) (X.assign (v := .int .i64 _) rfl) (fun h => absurd h (by decide)) ?_
      refine X.dEnd (by kernel_rfl) ?_
      refine X.seq ?_
      refine X.region ?_
      refine X.opw X.wN rfl (X.move (v := .int .i64 _) rfl) ?_
      refine X.opP X.wN rfl rfl (X.neI rfl rfl) (fun h29 => ?_) (fun h29 => ?_)
      · refine X.opsEnd ?_
        refine X.condT rfl ?_
        refine X.seq ?_
        refine X.region ?_
        refine X.opw X.wN rfl (X.move (v := .int .i64 _) rfl) ?_
        refine X.opw X.wN rfl (X.assign (v := .int .i64 _) rfl) ?_
        refine X.opsEnd ?_
        refine X.ret1 (v := (.int .i64 _)) Tryz.func17 Tryz.results17 rfl ?_
        exact ⟨by rw [if_pos h29] at hcm; rw [hcm], ((hk.trans hk1).trans hk2)⟩
      · refine X.opsEnd ?_
        refine X.condF rfl ?_
        refine X.skip ?_
        refine X.inBlock ?_
        refine X.region ?_
        refine X.opw X.wN rfl (X.move (v := .int .i64 _) rfl) ?_
        refine X.opw X.wN rfl (X.add rfl rfl (X.w_i64 (by omega))) ?_
        refine X.opw X.wN rfl (X.assign (v := .int .i64 _) rfl) ?_
        refine X.opsEnd ?_
        refine hback (i + 1) _ _ ⟨rfl, rfl, rfl, trivial⟩ ⟨by omega, by omega, by rw [if_neg h29] at hcm; exact hcm, ((hk.trans hk1).trans hk2)⟩ (by omega)
    · refine X.opw X.wN rfl (X.pickT (v := .bool false) rfl rfl) ?_
      refine X.opsEnd ?_
      refine X.condF rfl ?_
      refine X.exit rfl ?_
      refine X.seq ?_
      refine X.block ?_
      refine X.seq ?_
      refine X.region ?_
      refine X.opw X.wN rfl (X.move (v := .slice _ _ _) rfl) ?_
      refine X.opw X.wN rfl (X.lenSl Tryz.underlying38 rfl) ?_
      refine X.opw X.wN rfl (X.move (v := .slice _ _ _) rfl) ?_
      refine X.opw X.wN rfl (X.lenSl Tryz.underlying38 rfl) ?_
      refine X.opP X.wN rfl rfl (X.lss rfl rfl) (fun h36 => ?_) (fun h36 => ?_)
      · refine X.opw X.wN rfl (X.assign (v := .bool true) rfl) ?_
        refine X.opsEnd ?_
        refine X.condT rfl ?_
        refine X.seq ?_
        refine X.region ?_
        refine X.opw X.wN rfl (X.assign rfl) ?_
        refine X.opsEnd ?_
        refine X.ret1 (v := (.int .i64 _)) Tryz.func17 Tryz.results17 rfl ?_
        exact ⟨by congr 1; rw [← hcm, cmp_end (by omega) (by omega) (by omega)]; (repeat' split) <;> omega, hk⟩
      · refine X.opw X.wN rfl (X.assign (v := .bool false) rfl) ?_
        refine X.opsEnd ?_
        refine X.condF rfl ?_
        refine X.seq ?_
        refine X.region ?_
        refine X.opw X.wN rfl (X.move (v := .slice _ _ _) rfl) ?_
        refine X.opw X.wN rfl (X.lenSl Tryz.underlying38 rfl) ?_
        refine X.opw X.wN rfl (X.move (v := .slice _ _ _) rfl) ?_
        refine X.opw X.wN rfl (X.lenSl Tryz.underlying38 rfl) ?_
        refine X.opP X.wN rfl rfl (X.gtr rfl rfl) (fun h42 => ?_) (fun h42 => ?_)
        · refine X.opw X.wN rfl (X.assign (v := .bool true) rfl) ?_
          refine X.opsEnd ?_
          refine X.condT rfl ?_
          refine X.seq ?_
          refine X.region ?_
          refine X.opw X.wN rfl (X.assign rfl) ?_
          refine X.opsEnd ?_
          refine X.ret1 (v := (.int .i64 _)) Tryz.func17 Tryz.results17 rfl ?_
          exact ⟨by congr 1; rw [← hcm, cmp_end (by omega) (by omega) (by omega)]; (repeat' split) <;> omega, hk⟩
        · refine X.opw X.wN rfl (X.assign (v := .bool false) rfl) ?_
          refine X.opsEnd ?_
          refine X.condF rfl ?_
          refine X.skip ?_
          refine X.inBlock ?_
          refine X.seq ?_
          refine X.region ?_
          refine X.opw X.wN rfl (X.assign rfl) ?_
          refine X.opsEnd ?_
          refine X.ret1 (v := (.int .i64 _)) Tryz.func17 Tryz.results17 rfl ?_
          exact ⟨by congr 1; rw [← hcm, cmp_end (by omega) (by omega) (by omega)]; (repeat' split) <;> omega, hk⟩
  · refine X.opw X.wN rfl (X.move (v := .bool false) rfl) ?_
    refine X.opS rfl rfl rfl rfl rfl ?_
    refine X.opS rfl rfl rfl rfl rfl ?_
    refine X.opS rfl rfl rfl rfl rfl ?_
    refine X.opS rfl rfl rfl rfl rfl ?_
    refine X.opw X.wN rfl (X.pickF (v := .bool false) rfl rfl) ?_
    refine X.opsEnd ?_
    refine X.condF rfl ?_
    refine X.exit rfl ?_
    refine X.seq ?_
    refine X.block ?_
    refine X.seq ?_
    refine X.region ?_
    refine X.opw X.wN rfl (X.move (v := .slice _ _ _) rfl) ?_
    refine X.opw X.wN rfl (X.lenSl Tryz.underlying38 rfl) ?_
    refine X.opw X.wN rfl (X.move (v := .slice _ _ _) rfl) ?_
    refine X.opw X.wN rfl (X.lenSl Tryz.underlying38 rfl) ?_
    refine X.opP X.wN rfl rfl (X.lss rfl rfl) (fun h36 => ?_) (fun h36 => ?_)
    · refine X.opw X.wN rfl (X.assign (v := .bool true) rfl) ?_
      refine X.opsEnd ?_
      refine X.condT rfl ?_
      refine X.seq ?_
      refine X.region ?_
      refine X.opw X.wN rfl (X.assign rfl) ?_
      refine X.opsEnd ?_
      refine X.ret1 (v := (.int .i64 _)) Tryz.func17 Tryz.results17 rfl ?_
      exact ⟨by congr 1; rw [← hcm, cmp_end (by omega) (by omega) (by omega)]; (repeat' split) <;> omega, hk⟩
    · refine X.opw X.wN rfl (X.assign (v := .bool false) rfl) ?_
      refine X.opsEnd ?_
      refine X.condF rfl ?_
      refine X.seq ?_
      refine X.region ?_
      refine X.opw X.wN rfl (X.move (v := .slice _ _ _) rfl) ?_
      refine X.opw X.wN rfl (X.lenSl Tryz.underlying38 rfl) ?_
      refine X.opw X.wN rfl (X.move (v := .slice _ _ _) rfl) ?_
      refine X.opw X.wN rfl (X.lenSl Tryz.underlying38 rfl) ?_
      refine X.opP X.wN rfl rfl (X.gtr rfl rfl) (fun h42 => ?_) (fun h42 => ?_)
      · refine X.opw X.wN rfl (X.assign (v := .bool true) rfl) ?_
        refine X.opsEnd ?_
        refine X.condT rfl ?_
        refine X.seq ?_
        refine X.region ?_
        refine X.opw X.wN rfl (X.assign rfl) ?_
        refine X.opsEnd ?_
        refine X.ret1 (v := (.int .i64 _)) Tryz.func17 Tryz.results17 rfl ?_
        exact ⟨by congr 1; rw [← hcm, cmp_end (by omega) (by omega) (by omega)]; (repeat' split) <;> omega, hk⟩
      · refine X.opw X.wN rfl (X.assign (v := .bool false) rfl) ?_
        refine X.opsEnd ?_
        refine X.condF rfl ?_
        refine X.skip ?_
        refine X.inBlock ?_
        refine X.seq ?_
        refine X.region ?_
        refine X.opw X.wN rfl (X.assign rfl) ?_
        refine X.opsEnd ?_
        refine X.ret1 (v := (.int .i64 _)) Tryz.func17 Tryz.results17 rfl ?_
        exact ⟨by congr 1; rw [← hcm, cmp_end (by omega) (by omega) (by omega)]; (repeat' split) <;> omega, hk⟩
theorem less_irr : ∀ x : List UInt8, Op.bytesLess x x = false
  | [] => rfl
  | a :: x => by rw [Op.bytesLess, less_irr x]; simp
theorem less_tri : ∀ x y : List UInt8, Op.bytesLess x y = false → Op.bytesLess y x = false → x = y
  | [], [], _, _ => rfl
  | [], b :: y, h, _ => by simp [Op.bytesLess] at h
  | a :: x, [], _, h => by simp [Op.bytesLess] at h
  | a :: x, b :: y, h1, h2 => by
    simp only [Op.bytesLess, Bool.or_eq_false_iff, decide_eq_false_iff_not, Bool.and_eq_false_iff, beq_eq_false_iff_ne] at h1 h2
    have e : a = b := UInt8.le_antisymm (UInt8.not_lt.1 h2.1) (UInt8.not_lt.1 h1.1)
    subst e
    rw [less_tri x y (h1.2.resolve_left (fun h => h rfl)) (h2.2.resolve_left (fun h => h rfl))]
theorem data_inj {a b : ByteArray} (h : a.data.toList = b.data.toList) : a = b := by
  obtain ⟨⟨a⟩⟩ := a
  obtain ⟨⟨b⟩⟩ := b
  simp at h; subst h; rfl
theorem cmpS_0 {a b : ByteArray} (h1 : ¬ Op.bytesLess a.data.toList b.data.toList = true) (h2 : ¬ Op.bytesLess b.data.toList a.data.toList = true) : a = b :=
  data_inj (less_tri _ _ (by simpa using h1) (by simpa using h2))
end Go.Proofs.YtbljooblpfdbiaaGreatDoor
namespace Go.Proofs.YtbljooblpfdbiaaGreatDoor
open Go Go.Proofs.YtbljooblpfdbiaaGreatDoor.X
set_option maxHeartbeats 4000000 in
set_option maxRecDepth 100000 in
theorem isNaNKind_c (a : Int) (w : World) : Ret Tryz.prog 167 #[.int .i64 a] w fun r w' => r = .bool false ∧ Keep w w' := by
  refine X.enter Tryz.func167 rfl Tryz.ntmps167 rfl ?_
  refine X.seq ?_
  refine X.region ?_
  refine X.opw X.wN rfl (X.assign rfl) ?_
  refine X.opsEnd ?_
  refine X.seq ?_
  refine X.region ?_
  refine X.opw X.wN rfl (X.move (v := .int .i64 _) rfl) ?_
  refine X.opw X.wN rfl (X.move (v := .int .i64 _) rfl) ?_
  refine X.opw X.wN rfl (X.neI rfl rfl) ?_
  refine X.opw X.wN rfl (X.assign (v := .bool _) rfl) ?_
  refine X.opsEnd ?_
  refine X.ret1 (v := (.bool _)) Tryz.func167 Tryz.results167 rfl ?_
  exact ⟨by simp, (Keep.refl _)⟩
set_option maxHeartbeats 4000000 in
set_option maxRecDepth 100000 in
theorem isNaNNum_c (a : Int) (w : World) : Ret Tryz.prog 168 #[.int .i64 a] w fun r w' => r = .bool false ∧ Keep w w' := by
  refine X.enter Tryz.func168 rfl Tryz.ntmps168 rfl ?_
  refine X.seq ?_
  refine X.region ?_
  refine X.opw X.wN rfl (X.assign rfl) ?_
  refine X.opsEnd ?_
  refine X.seq ?_
  refine X.region ?_
  refine X.opw X.wN rfl (X.move (v := .int .i64 _) rfl) ?_
  refine X.opw X.wN rfl (X.move (v := .int .i64 _) rfl) ?_
  refine X.opw X.wN rfl (X.neI rfl rfl) ?_
  refine X.opw X.wN rfl (X.assign (v := .bool _) rfl) ?_
  refine X.opsEnd ?_
  refine X.ret1 (v := (.bool _)) Tryz.func168 Tryz.results168 rfl ?_
  exact ⟨by simp, (Keep.refl _)⟩
set_option maxHeartbeats 4000000 in
set_option maxRecDepth 100000 in
theorem isNaNStr_c (a : ByteArray) (w : World) : Ret Tryz.prog 169 #[.string a] w fun r w' => r = .bool false ∧ Keep w w' := by
  refine X.enter Tryz.func169 rfl Tryz.ntmps169 rfl ?_
  refine X.seq ?_
  refine X.region ?_
  refine X.opw X.wN rfl (X.assign rfl) ?_
  refine X.opsEnd ?_
  refine X.seq ?_
  refine X.region ?_
  refine X.opw X.wN rfl (X.move (v := .string _) rfl) ?_
  refine X.opw X.wN rfl (X.move (v := .string _) rfl) ?_
  refine X.opw X.wN rfl (X.neD rfl rfl) ?_
  refine X.opw X.wN rfl (X.assign (v := .bool _) rfl) ?_
  refine X.opsEnd ?_
  refine X.ret1 (v := (.bool _)) Tryz.func169 Tryz.results169 rfl ?_
  exact ⟨by simp, (Keep.refl _)⟩
def cmp3 (a b : Int) : Int := if a < b then -1 else if b < a then 1 else 0
def cmpS (a b : ByteArray) : Int := if Op.bytesLess a.data.toList b.data.toList then -1 else if Op.bytesLess b.data.toList a.data.toList then 1 else 0
def orI : List Int → Int
  | [] => 0
  | x :: l => if x ≠ 0 then x else orI l
theorem cmp3_ok (a b : Int) : okI (cmp3 a b) := by unfold cmp3 okI; (repeat' split) <;> omega
theorem cmpS_ok (a b : ByteArray) : okI (cmpS a b) := by unfold cmpS okI; (repeat' split) <;> omega
set_option maxHeartbeats 4000000 in
set_option maxRecDepth 100000 in
theorem cmpKind_c (a b : Int) (w : World) : Ret Tryz.prog 138 #[.int .i64 a, .int .i64 b] w fun r w' => r = .int .i64 (cmp3 a b) ∧ Keep w w' := by
  refine X.enter Tryz.func138 rfl Tryz.ntmps138 rfl ?_
  refine X.seq ?_
  refine X.region ?_
  refine X.opw X.wN rfl (X.assign rfl) ?_
  refine X.opsEnd ?_
  refine X.seq ?_
  refine X.region ?_
  refine X.opw X.wN rfl (X.move (v := .int .i64 _) rfl) ?_
  refine X.opE X.wN rfl (X.callE (isNaNKind_c _ _) Tryz.call167 rfl rfl) ?_
  rintro _ w1 ⟨rfl, hk1⟩
  have hk1' := hk1.size
  refine X.opw X.wN rfl (X.assign (v := .bool _) rfl) ?_
  refine X.opsEnd ?_
  refine X.seq ?_
  refine X.region ?_
  refine X.opw X.wN rfl (X.move (v := .int .i64 _) rfl) ?_
  refine X.opE X.wN rfl (X.callE (isNaNKind_c _ _) Tryz.call167 rfl rfl) ?_
  rintro _ w2 ⟨rfl, hk2⟩
  have hk2' := hk2.size
  refine X.opw X.wN rfl (X.assign (v := .bool _) rfl) ?_
  refine X.opsEnd ?_
  refine X.seq ?_
  refine X.seq ?_
  refine X.region ?_
  refine X.opw X.wN rfl (X.move (v := .bool _) rfl) ?_
  refine X.opsEnd ?_
  refine X.condB rfl (fun hc => ?_) (fun hc => ?_)
  · cases hc
  · refine X.skip ?_
    refine X.seq ?_
    refine X.seq ?_
    refine X.region ?_
    refine X.opw X.wN rfl (X.move (v := .bool _) rfl) ?_
    refine X.opsEnd ?_
    refine X.condB rfl (fun hd => ?_) (fun hd => ?_)
    · cases hd
    · refine X.skip ?_
      refine X.seq ?_
      refine X.seq ?_
      refine X.region ?_
      refine X.opw X.wN rfl (X.move (v := .int .i64 _) rfl) ?_
      refine X.opw X.wN rfl (X.move (v := .int .i64 _) rfl) ?_
      refine X.opP X.wN rfl rfl (X.lss rfl rfl) (fun h16 => ?_) (fun h16 => ?_)
      · refine X.opsEnd ?_
        refine X.condT rfl ?_
        refine X.seq ?_
        refine X.region ?_
        refine X.opw X.wN rfl (X.assign rfl) ?_
        refine X.opsEnd ?_
        refine X.ret1 (v := (.int .i64 _)) Tryz.func138 Tryz.results138 rfl ?_
        exact ⟨by congr 1; unfold cmp3; (repeat' split) <;> omega, (hk1.trans hk2)⟩
      · refine X.opsEnd ?_
        refine X.condF rfl ?_
        refine X.skip ?_
        refine X.seq ?_
        refine X.seq ?_
        refine X.region ?_
        refine X.opw X.wN rfl (X.move (v := .int .i64 _) rfl) ?_
        refine X.opw X.wN rfl (X.move (v := .int .i64 _) rfl) ?_
        refine X.opP X.wN rfl rfl (X.gtr rfl rfl) (fun h19 => ?_) (fun h19 => ?_)
        · refine X.opsEnd ?_
          refine X.condT rfl ?_
          refine X.seq ?_
          refine X.region ?_
          refine X.opw X.wN rfl (X.assign rfl) ?_
          refine X.opsEnd ?_
          refine X.ret1 (v := (.int .i64 _)) Tryz.func138 Tryz.results138 rfl ?_
          exact ⟨by congr 1; unfold cmp3; (repeat' split) <;> omega, (hk1.trans hk2)⟩
        · refine X.opsEnd ?_
          refine X.condF rfl ?_
          refine X.skip ?_
          refine X.seq ?_
          refine X.region ?_
          refine X.opw X.wN rfl (X.assign rfl) ?_
          refine X.opsEnd ?_
          refine X.ret1 (v := (.int .i64 _)) Tryz.func138 Tryz.results138 rfl ?_
          exact ⟨by congr 1; unfold cmp3; (repeat' split) <;> omega, (hk1.trans hk2)⟩
set_option maxHeartbeats 4000000 in
set_option maxRecDepth 100000 in
theorem cmpNum_c (a b : Int) (w : World) : Ret Tryz.prog 139 #[.int .i64 a, .int .i64 b] w fun r w' => r = .int .i64 (cmp3 a b) ∧ Keep w w' := by
  refine X.enter Tryz.func139 rfl Tryz.ntmps139 rfl ?_
  refine X.seq ?_
  refine X.region ?_
  refine X.opw X.wN rfl (X.assign rfl) ?_
  refine X.opsEnd ?_
  refine X.seq ?_
  refine X.region ?_
  refine X.opw X.wN rfl (X.move (v := .int .i64 _) rfl) ?_
  refine X.opE X.wN rfl (X.callE (isNaNNum_c _ _) Tryz.call168 rfl rfl) ?_
  rintro _ w1 ⟨rfl, hk1⟩
  have hk1' := hk1.size
  refine X.opw X.wN rfl (X.assign (v := .bool _) rfl) ?_
  refine X.opsEnd ?_
  refine X.seq ?_
  refine X.region ?_
  refine X.opw X.wN rfl (X.move (v := .int .i64 _) rfl) ?_
  refine X.opE X.wN rfl (X.callE (isNaNNum_c _ _) Tryz.call168 rfl rfl) ?_
  rintro _ w2 ⟨rfl, hk2⟩
  have hk2' := hk2.size
  refine X.opw X.wN rfl (X.assign (v := .bool _) rfl) ?_
  refine X.opsEnd ?_
  refine X.seq ?_
  refine X.seq ?_
  refine X.region ?_
  refine X.opw X.wN rfl (X.move (v := .bool _) rfl) ?_
  refine X.opsEnd ?_
  refine X.condB rfl (fun hc => ?_) (fun hc => ?_)
  · cases hc
  · refine X.skip ?_
    refine X.seq ?_
    refine X.seq ?_
    refine X.region ?_
    refine X.opw X.wN rfl (X.move (v := .bool _) rfl) ?_
    refine X.opsEnd ?_
    refine X.condB rfl (fun hd => ?_) (fun hd => ?_)
    · cases hd
    · refine X.skip ?_
      refine X.seq ?_
      refine X.seq ?_
      refine X.region ?_
      refine X.opw X.wN rfl (X.move (v := .int .i64 _) rfl) ?_
      refine X.opw X.wN rfl (X.move (v := .int .i64 _) rfl) ?_
      refine X.opP X.wN rfl rfl (X.lss rfl rfl) (fun h16 => ?_) (fun h16 => ?_)
      · refine X.opsEnd ?_
        refine X.condT rfl ?_
        refine X.seq ?_
        refine X.region ?_
        refine X.opw X.wN rfl (X.assign rfl) ?_
        refine X.opsEnd ?_
        refine X.ret1 (v := (.int .i64 _)) Tryz.func139 Tryz.results139 rfl ?_
        exact ⟨by congr 1; unfold cmp3; (repeat' split) <;> omega, (hk1.trans hk2)⟩
      · refine X.opsEnd ?_
        refine X.condF rfl ?_
        refine X.skip ?_
        refine X.seq ?_
        refine X.seq ?_
        refine X.region ?_
        refine X.opw X.wN rfl (X.move (v := .int .i64 _) rfl) ?_
        refine X.opw X.wN rfl (X.move (v := .int .i64 _) rfl) ?_
        refine X.opP X.wN rfl rfl (X.gtr rfl rfl) (fun h19 => ?_) (fun h19 => ?_)
        · refine X.opsEnd ?_
          refine X.condT rfl ?_
          refine X.seq ?_
          refine X.region ?_
          refine X.opw X.wN rfl (X.assign rfl) ?_
          refine X.opsEnd ?_
          refine X.ret1 (v := (.int .i64 _)) Tryz.func139 Tryz.results139 rfl ?_
          exact ⟨by congr 1; unfold cmp3; (repeat' split) <;> omega, (hk1.trans hk2)⟩
        · refine X.opsEnd ?_
          refine X.condF rfl ?_
          refine X.skip ?_
          refine X.seq ?_
          refine X.region ?_
          refine X.opw X.wN rfl (X.assign rfl) ?_
          refine X.opsEnd ?_
          refine X.ret1 (v := (.int .i64 _)) Tryz.func139 Tryz.results139 rfl ?_
          exact ⟨by congr 1; unfold cmp3; (repeat' split) <;> omega, (hk1.trans hk2)⟩
set_option maxHeartbeats 4000000 in
set_option maxRecDepth 100000 in
theorem cmpStr_c (a b : ByteArray) (w : World) : Ret Tryz.prog 140 #[.string a, .string b] w fun r w' => r = .int .i64 (cmpS a b) ∧ Keep w w' := by
  refine X.enter Tryz.func140 rfl Tryz.ntmps140 rfl ?_
  refine X.seq ?_
  refine X.region ?_
  refine X.opw X.wN rfl (X.assign rfl) ?_
  refine X.opsEnd ?_
  refine X.seq ?_
  refine X.region ?_
  refine X.opw X.wN rfl (X.move (v := .string _) rfl) ?_
  refine X.opE X.wN rfl (X.callE (isNaNStr_c _ _) Tryz.call169 rfl rfl) ?_
  rintro _ w1 ⟨rfl, hk1⟩
  have hk1' := hk1.size
  refine X.opw X.wN rfl (X.assign (v := .bool _) rfl) ?_
  refine X.opsEnd ?_
  refine X.seq ?_
  refine X.region ?_
  refine X.opw X.wN rfl (X.move (v := .string _) rfl) ?_
  refine X.opE X.wN rfl (X.callE (isNaNStr_c _ _) Tryz.call169 rfl rfl) ?_
  rintro _ w2 ⟨rfl, hk2⟩
  have hk2' := hk2.size
  refine X.opw X.wN rfl (X.assign (v := .bool _) rfl) ?_
  refine X.opsEnd ?_
  refine X.seq ?_
  refine X.seq ?_
  refine X.region ?_
  refine X.opw X.wN rfl (X.move (v := .bool _) rfl) ?_
  refine X.opsEnd ?_
  refine X.condB rfl (fun hc => ?_) (fun hc => ?_)
  · cases hc
  · refine X.skip ?_
    refine X.seq ?_
    refine X.seq ?_
    refine X.region ?_
    refine X.opw X.wN rfl (X.move (v := .bool _) rfl) ?_
    refine X.opsEnd ?_
    refine X.condB rfl (fun hd => ?_) (fun hd => ?_)
    · cases hd
    · refine X.skip ?_
      refine X.seq ?_
      refine X.seq ?_
      refine X.region ?_
      refine X.opw X.wN rfl (X.move (v := .string _) rfl) ?_
      refine X.opw X.wN rfl (X.move (v := .string _) rfl) ?_
      refine X.opB X.wN rfl rfl (X.ltD rfl rfl) (fun h16 => ?_) (fun h16 => ?_)
      · refine X.opsEnd ?_
        refine X.condT rfl ?_
        refine X.seq ?_
        refine X.region ?_
        refine X.opw X.wN rfl (X.assign rfl) ?_
        refine X.opsEnd ?_
        refine X.ret1 (v := (.int .i64 _)) Tryz.func140 Tryz.results140 rfl ?_
        exact ⟨by congr 1; unfold cmpS; simp_all, (hk1.trans hk2)⟩
      · refine X.opsEnd ?_
        refine X.condF rfl ?_
        refine X.skip ?_
        refine X.seq ?_
        refine X.seq ?_
        refine X.region ?_
        refine X.opw X.wN rfl (X.move (v := .string _) rfl) ?_
        refine X.opw X.wN rfl (X.move (v := .string _) rfl) ?_
        refine X.opB X.wN rfl rfl (X.gtD rfl rfl) (fun h19 => ?_) (fun h19 => ?_)
        · refine X.opsEnd ?_
          refine X.condT rfl ?_
          refine X.seq ?_
          refine X.region ?_
          refine X.opw X.wN rfl (X.assign rfl) ?_
          refine X.opsEnd ?_
          refine X.ret1 (v := (.int .i64 _)) Tryz.func140 Tryz.results140 rfl ?_
          exact ⟨by congr 1; unfold cmpS; simp_all, (hk1.trans hk2)⟩
        · refine X.opsEnd ?_
          refine X.condF rfl ?_
          refine X.skip ?_
          refine X.seq ?_
          refine X.region ?_
          refine X.opw X.wN rfl (X.assign rfl) ?_
          refine X.opsEnd ?_
          refine X.ret1 (v := (.int .i64 _)) Tryz.func140 Tryz.results140 rfl ?_
          exact ⟨by congr 1; unfold cmpS; simp_all, (hk1.trans hk2)⟩
set_option maxHeartbeats 4000000 in
set_option maxRecDepth 100000 in
theorem cmpOr_c {lo hi : Nat} {A : Option Addr} {n c : Nat} {l : List Int} (w : World) (hs : Sl KI lo hi w A n l) : Ret Tryz.prog 137 #[.slice A n c] w fun r w' => r = .int .i64 (orI l) ∧ Keep w w' := by
  have hn := hs.bound
  have hl := hs.len
  refine X.enter Tryz.func137 rfl Tryz.ntmps137 rfl ?_
  refine X.seq ?_
  refine X.region ?_
  refine X.opw X.wN rfl (X.assign rfl) ?_
  refine X.opsEnd ?_
  refine X.seq ?_
  refine X.region ?_
  refine X.opw X.wN rfl (X.assign rfl) ?_
  refine X.opsEnd ?_
  refine X.seq ?_
  refine X.seq ?_
  refine X.region ?_
  refine X.opw X.wN rfl (X.move (v := .slice _ _ _) rfl) ?_
  refine X.opw X.wN rfl (X.lenSl Tryz.underlying74 rfl) ?_
  refine X.opw X.wN rfl (X.move rfl) ?_
  refine X.opsEnd ?_
  refine X.block ?_
  refine X.loopL (σ := Nat) (fun s => [(3, .int .i64 0), (6, .slice A n c), (7, .int .i64 (n : Int)), (8, .int .i64 (s : Int))]) (fun s w' => s ≤ n ∧ orI (l.drop s) = orI l ∧ Keep w w') (fun s => n - s) 0 ⟨rfl, rfl, rfl, rfl, trivial⟩ ⟨Nat.zero_le _, rfl, (Keep.refl _)⟩ ?_
  rintro i b w1 ⟨hi1, hcm, hk⟩ hback
  have hk' := hk.size
  refine X.seq ?_
  refine X.region ?_
  refine X.opP X.wN rfl rfl (X.lss rfl rfl) (fun h9 => ?_) (fun h9 => ?_)
  · obtain ⟨x, hx⟩ := getN i hl h9
    rw [drop_at hx, orI] at hcm
    refine X.opsEnd ?_
    refine X.seq ?_
    refine X.condT rfl ?_
    refine X.skip ?_
    refine X.seq ?_
    refine X.block ?_
    refine X.seq ?_
    refine X.region ?_
    refine X.opw X.wN rfl (X.idxS (hs.keep hk) Tryz.underlying74 Tryz.sizeOf3 rfl rfl ⟨by omega, by omega⟩) ?_
    refine X.opw X.wN rfl (X.loadS Tryz.isAgg3 (hs.keep hk) hx rfl (fun _ h => by rw [h.1]; rfl)) ?_
    refine X.opw X.wN rfl (X.assign (v := .int .i64 _) rfl) ?_
    refine X.opsEnd ?_
    refine X.seq ?_
    refine X.region ?_
    refine X.opw X.wN rfl (X.move (v := .int .i64 _) rfl) ?_
    refine X.opw X.wN rfl (X.move (v := .int .i64 _) rfl) ?_
    refine X.opP X.wN rfl rfl (X.neI rfl rfl) (fun h14 => ?_) (fun h14 => ?_)
    · refine X.opsEnd ?_
      refine X.condT rfl ?_
      refine X.seq ?_
      refine X.region ?_
      refine X.opw X.wN rfl (X.move (v := .int .i64 _) rfl) ?_
      refine X.opw X.wN rfl (X.assign (v := .int .i64 _) rfl) ?_
      refine X.opsEnd ?_
      refine X.ret1 (v := (.int .i64 _)) Tryz.func137 Tryz.results137 rfl ?_
      exact ⟨by rw [if_pos h14] at hcm; rw [hcm], hk⟩
    · refine X.opsEnd ?_
      refine X.condF rfl ?_
      refine X.skip ?_
      refine X.inBlock ?_
      refine X.region ?_
      refine X.opw X.wN rfl (X.add rfl rfl (X.w_i64 (by omega))) ?_
      refine X.opw X.wN rfl (X.move (v := .int .i64 _) rfl) ?_
      refine X.opsEnd ?_
      refine hback (i + 1) _ _ ⟨rfl, rfl, rfl, rfl, trivial⟩ ⟨by omega, by rw [if_neg h14] at hcm; exact hcm, hk⟩ (by omega)
  · refine X.opsEnd ?_
    refine X.seq ?_
    refine X.condF rfl ?_
    refine X.exit rfl ?_
    refine X.seq ?_
    refine X.region ?_
    refine X.opw X.wN rfl (X.move (v := .int .i64 _) rfl) ?_
    refine X.opw X.wN rfl (X.assign (v := .int .i64 _) rfl) ?_
    refine X.opsEnd ?_
    refine X.ret1 (v := (.int .i64 _)) Tryz.func137 Tryz.results137 rfl ?_
    exact ⟨by rw [← hcm, List.drop_of_length_le (by omega)]; rfl, hk⟩
end Go.Proofs.YtbljooblpfdbiaaGreatDoor
namespace Go.Proofs.YtbljooblpfdbiaaGreatDoor
open Go Go.Proofs.YtbljooblpfdbiaaGreatDoor.X
theorem orI_cmp (a b : VAL) : orI [cmp3 a.1 b.1, cmp3 a.2.1 b.2.1, cmpS a.2.2 b.2.2] = cmpV a b := by
  obtain ⟨a1, a2, a3⟩ := a
  obtain ⟨b1, b2, b3⟩ := b
  simp only [orI, cmp3, cmpS, cmpV, Prod.mk.injEq]
  by_cases h1 : a1 < b1
  · have : ¬ a1 = b1 := by omega
    simp [h1, this]
  by_cases h2 : b1 < a1
  · have : ¬ a1 = b1 := by omega
    simp [h1, h2, this]
  have e : a1 = b1 := by omega
  subst e
  by_cases h3 : a2 < b2
  · have : ¬ a2 = b2 := by omega
    simp [h3, this]
  by_cases h4 : b2 < a2
  · have : ¬ a2 = b2 := by omega
    simp [h3, h4, this]
  have e : a2 = b2 := by omega
  subst e
  by_cases h5 : Op.bytesLess a3.data.toList b3.data.toList = true
  · have : ¬ a3 = b3 := fun e => by subst e; rw [less_irr] at h5; cases h5
    simp [h5, this]
  by_cases h6 : Op.bytesLess b3.data.toList a3.data.toList = true
  · have : ¬ a3 = b3 := fun e => by subst e; rw [less_irr] at h6; cases h6
    simp [h5, h6, this]
  have e := cmpS_0 h5 h6
  subst e
  simp [less_irr]
theorem reps3I {w : World} {x y z : Int} (hx : okI x) (hy : okI y) (hz : okI z) : RepsV KI w [x, y, z] [.int .i64 x, .int .i64 y, .int .i64 z] := ⟨⟨_, rfl, rfl, hx⟩, ⟨_, rfl, rfl, hy⟩, ⟨_, rfl, rfl, hz⟩, trivial⟩
set_option maxHeartbeats 4000000 in
set_option maxRecDepth 100000 in
theorem valueCompare_c (a b : VAL) (w : World) : Ret Tryz.prog 100 #[.agg (encV a).toArray, .agg (encV b).toArray] w fun r w' => r = .int .i64 (cmpV a b) ∧ Keep w w' := by
  refine X.enter Tryz.func100 rfl Tryz.ntmps100 rfl ?_
  refine X.seq ?_
  refine X.region ?_
  refine X.opE X.wN rfl (X.boxE rfl rfl) ?_
  rintro _ w1 ⟨rfl, hB1, hk1, hz1⟩
  refine X.opE X.wN rfl (X.boxE rfl rfl) ?_
  rintro _ w2 ⟨rfl, hB2, hk2, hz2⟩
  refine X.opw X.wN rfl (X.assign rfl) ?_
  refine X.opsEnd ?_
  refine X.seq ?_
  refine X.regionD (fun _ => False) 17 (by kernel_rfl) (by kernel_rfl) (fun w3 hk3 hz3 => ?_)
  refine X.dTake 0 rfl (by kernel_rfl) (by kernel_rfl) (by kernel_rfl) (X.dwN rfl) (fun w' hk' => X.fldB (j := 0) Tryz.underlying90 rfl rfl Tryz.sizeOf88 rfl) ?_
  refine X.dTake 1 rfl (by kernel_rfl) (by kernel_rfl) (by kernel_rfl) (X.dwN rfl) (fun w' hk' => X.load1B Tryz.isAgg88 (hB1.keep ((hk2.trans hk3).trans hk')) rfl rfl) ?_
  refine X.dTake 2 rfl (by kernel_rfl) (by kernel_rfl) (by kernel_rfl) (X.dwN rfl) (fun w' hk' => X.fldB (j := 0) Tryz.underlying90 rfl rfl Tryz.sizeOf88 rfl) ?_
  refine X.dTake 3 rfl (by kernel_rfl) (by kernel_rfl) (by kernel_rfl) (X.dwN rfl) (fun w' hk' => X.load1B Tryz.isAgg88 (hB2.keep (hk3.trans hk')) rfl rfl) ?_
  refine X.dTake 5 rfl (by kernel_rfl) (by kernel_rfl) (by kernel_rfl) (X.dwN rfl) (fun w' hk' => X.fldB (j := 1) Tryz.underlying90 rfl rfl Tryz.sizeOf2 rfl) ?_
  refine X.dTake 6 rfl (by kernel_rfl) (by kernel_rfl) (by kernel_rfl) (X.dwN rfl) (fun w' hk' => X.load1B Tryz.isAgg2 (hB1.keep ((hk2.trans hk3).trans hk')) rfl rfl) ?_
  refine X.dTake 7 rfl (by kernel_rfl) (by kernel_rfl) (by kernel_rfl) (X.dwN rfl) (fun w' hk' => X.fldB (j := 1) Tryz.underlying90 rfl rfl Tryz.sizeOf2 rfl) ?_
  refine X.dTake 8 rfl (by kernel_rfl) (by kernel_rfl) (by kernel_rfl) (X.dwN rfl) (fun w' hk' => X.load1B Tryz.isAgg2 (hB2.keep (hk3.trans hk')) rfl rfl) ?_
  refine X.dTake 10 rfl (by kernel_rfl) (by kernel_rfl) (by kernel_rfl) (X.dwN rfl) (fun w' hk' => X.fldB (j := 2) Tryz.underlying90 rfl rfl Tryz.sizeOf9 rfl) ?_
  refine X.dTake 11 rfl (by kernel_rfl) (by kernel_rfl) (by kernel_rfl) (X.dwN rfl) (fun w' hk' => X.load1B Tryz.isAgg9 (hB1.keep ((hk2.trans hk3).trans hk')) rfl rfl) ?_
  refine X.dTake 12 rfl (by kernel_rfl) (by kernel_rfl) (by kernel_rfl) (X.dwN rfl) (fun w' hk' => X.fldB (j := 2) Tryz.underlying90 rfl rfl Tryz.sizeOf9 rfl) ?_
  refine X.dTake 13 rfl (by kernel_rfl) (by kernel_rfl) (by kernel_rfl) (X.dwN rfl) (fun w' hk' => X.load1B Tryz.isAgg9 (hB2.keep (hk3.trans hk')) rfl rfl) ?_
  refine X.dE (i := 4) (by kernel_rfl) rfl (X.dwN rfl) (X.callE (cmpKind_c _ _ _) Tryz.call138 rfl rfl) (by rintro _ w4 ⟨rfl, hk4⟩ _; exact hk4.mono (fun _ _ h => h.elim)) ?_
  rintro _ w4 ⟨rfl, hk4⟩
  have hk4' := hk4.size
  refine X.dE (i := 9) (by kernel_rfl) rfl (X.dwN rfl) (X.callE (cmpNum_c _ _ _) Tryz.call139 rfl rfl) (by rintro _ w5 ⟨rfl, hk5⟩ _; exact hk5.mono (fun _ _ h => h.elim)) ?_
  rintro _ w5 ⟨rfl, hk5⟩
  have hk5' := hk5.size
  refine X.dE (i := 14) (by kernel_rfl) rfl (X.dwN rfl) (X.callE (cmpStr_c _ _ _) Tryz.call140 rfl rfl) (by rintro _ w6 ⟨rfl, hk6⟩ _; exact hk6.mono (fun _ _ h => h.elim)) ?_
  rintro _ w6 ⟨rfl, hk6⟩
  have hk6' := hk6.size
  refine X.dE (i := 15) (by kernel_rfl) rfl (X.dwN rfl) (X.litKF KI_flat (K := KI) (xs := [Operand.tmp 9, Operand.tmp 14, Operand.tmp 19]) (vs := [.int .i64 (cmp3 a.1 b.1), .int .i64 (cmp3 a.2.1 b.2.1), .int .i64 (cmpS a.2.2 b.2.2)]) (ys := [cmp3 a.1 b.1, cmp3 a.2.1 b.2.1, cmpS a.2.2 b.2.2]) Tryz.underlying74 Tryz.sizeOf3 Tryz.zeroValue3 rfl rfl rfl rfl rfl (reps3I (cmp3_ok _ _) (cmp3_ok _ _) (cmpS_ok _ _))) (by rintro _ w7 ⟨rfl, hs7, hB7, hk7, hz7⟩ _; exact hk7.mono (fun _ _ h => h.elim)) ?_
  rintro _ w7 ⟨rfl, hs7, hB7, hk7, hz7⟩
  refine X.dE (i := 16) (by kernel_rfl) rfl (X.dwN rfl) (X.callE (cmpOr_c _ hs7) Tryz.call137 rfl rfl) (by rintro _ w8 ⟨rfl, hk8⟩ _; exact hk8.mono (fun _ _ h => h.elim)) ?_
  rintro _ w8 ⟨rfl, hk8⟩
  have hk8' := hk8.size
  refine X.dStep (i := 17) (by kernel_rfl) rfl (X.dwN rfl) (X.assign (v := .int .i64 _) rfl) (fun h => absurd h (by decide)) ?_
  refine X.dEnd (by kernel_rfl) ?_
  refine X.ret1 (v := (.int .i64 _)) Tryz.func100 Tryz.results100 rfl ?_
  exact ⟨by rw [orI_cmp], (((((((hk1.trans hk2).trans hk3).trans hk4).trans hk5).trans hk6).trans hk7).trans hk8)⟩
set_option maxHeartbeats 4000000 in
set_option maxRecDepth 100000 in
theorem CompareFunc_c {lo1 hi1 lo2 hi2 : Nat} {A1 A2 : Option Addr} {n1 n2 c1 c2 : Nat} {l1 l2 : List VAL} (w : World) (hs1 : Sl KV lo1 hi1 w A1 n1 l1) (hs2 : Sl KV lo2 hi2 w A2 n2 l2) : Ret Tryz.prog 99 #[.slice A1 n1 c1, .slice A2 n2 c2, .func (.func 100) #[] #[]] w fun r w' => r = .int .i64 (cmpT l1 l2) ∧ Keep w w' := by
  have hn1 := hs1.bound
  have hl1 := hs1.len
  have hn2 := hs2.bound
  have hl2 := hs2.len
  refine X.enter Tryz.func99 rfl Tryz.ntmps99 rfl ?_
  refine X.seq ?_
  refine X.region ?_
  refine X.opw X.wN rfl (X.assign rfl) ?_
  refine X.opsEnd ?_
  refine X.seq ?_
  refine X.seq ?_
  refine X.region ?_
  refine X.opw X.wN rfl (X.move (v := .slice _ _ _) rfl) ?_
  refine X.opw X.wN rfl (X.lenSl Tryz.underlying38 rfl) ?_
  refine X.opw X.wN rfl (X.move rfl) ?_
  refine X.opsEnd ?_
  refine X.block ?_
  refine X.loopL (σ := Nat) (fun s => [(0, .slice A1 n1 c1), (1, .slice A2 n2 c2), (2, .func (.func 100) #[] #[]), (11, .slice A1 n1 c1), (12, .int .i64 (n1 : Int)), (13, .int .i64 (s : Int))]) (fun s w' => s ≤ n1 ∧ s ≤ n2 ∧ cmpT (l1.drop s) (l2.drop s) = cmpT l1 l2 ∧ Keep w w') (fun s => n1 - s) 0 ⟨rfl, rfl, rfl, rfl, rfl, rfl, trivial⟩ ⟨Nat.zero_le _, Nat.zero_le _, rfl, (Keep.refl _)⟩ ?_
  rintro i b w1 ⟨hi1, hi2, hcm, hk⟩ hback
  have hk' := hk.size
  refine X.seq ?_
  refine X.region ?_
  refine X.opP X.wN rfl rfl (X.lss rfl rfl) (fun h14 => ?_) (fun h14 => ?_)
  · obtain ⟨x, hx⟩ := getN i hl1 h14
    refine X.opsEnd ?_
    refine X.seq ?_
    refine X.condT rfl ?_
    refine X.skip ?_
    refine X.seq ?_
    refine X.block ?_
    refine X.seq ?_
    refine X.region ?_
    refine X.opw X.wN rfl (X.move (v := .int .i64 _) rfl) ?_
    refine X.opw X.wN rfl (X.idxS (hs1.keep hk) Tryz.underlying38 Tryz.sizeOf90 rfl rfl ⟨by omega, by omega⟩) ?_
    refine X.opw X.wN rfl (X.loadSN Tryz.isAgg90 Tryz.sizeOf90 (hs1.keep hk) hx rfl (fun _ h => h.1) rfl) ?_
    refine X.opE X.wN rfl (X.allocE Tryz.zeroValue90 rfl) ?_
    rintro _ w1 ⟨rfl, hB1, hk1, hz1⟩
    refine X.opw X.wN rfl (X.assign (v := .int .i64 _) rfl) ?_
    refine X.opE X.wN rfl (X.storeNE Tryz.sizeOf90 hB1 rfl rfl rfl rfl (encV_one _)) ?_
    rintro _ w2 ⟨hB2, hx2, hz2⟩
    refine X.opsEnd ?_
    refine X.seq ?_
    refine X.seq ?_
    refine X.region ?_
    refine X.opw X.wN rfl (X.move (v := .int .i64 _) rfl) ?_
    refine X.opw X.wN rfl (X.move (v := .slice _ _ _) rfl) ?_
    refine X.opw X.wN rfl (X.lenSl Tryz.underlying38 rfl) ?_
    refine X.opP X.wN rfl rfl (X.geq rfl rfl) (fun h21 => ?_) (fun h21 => ?_)
    · refine X.opsEnd ?_
      refine X.condT rfl ?_
      refine X.seq ?_
      refine X.region ?_
      refine X.opw X.wN rfl (X.assign rfl) ?_
      refine X.opsEnd ?_
      refine X.ret1 (v := (.int .i64 _)) Tryz.func99 Tryz.results99 rfl ?_
      exact ⟨by congr 1; rw [← hcm, cmp_end (by omega) (by omega) (by omega)]; (repeat' split) <;> omega, ((hk.trans hk1).step hx2 zq26)⟩
    · obtain ⟨y, hy⟩ := getN i hl2 (by omega)
      rw [drop_at hx, drop_at hy, cmpT] at hcm
      refine X.opsEnd ?_
      refine X.condF rfl ?_
      refine X.skip ?_
      refine X.seq ?_
      refine X.region ?_
      refine X.opw X.wN rfl (X.move (v := .slice _ _ _) rfl) ?_
      refine X.opw X.wN rfl (X.move (v := .int .i64 _) rfl) ?_
      refine X.opw X.wN rfl (X.idxS (hs2.keep ((hk.trans hk1).step hx2 zq26)) Tryz.underlying38 Tryz.sizeOf90 rfl rfl ⟨by omega, by omega⟩) ?_
      refine X.opw X.wN rfl (X.loadSN Tryz.isAgg90 Tryz.sizeOf90 (hs2.keep ((hk.trans hk1).step hx2 zq26)) hy rfl (fun _ h => h.1) rfl) ?_
      refine X.opE X.wN rfl (X.allocE Tryz.zeroValue90 rfl) ?_
      rintro _ w3 ⟨rfl, hB3, hk3, hz3⟩
      refine X.opE X.wN rfl (X.storeNE Tryz.sizeOf90 hB3 rfl rfl rfl rfl (encV_one _)) ?_
      rintro _ w4 ⟨hB4, hx4, hz4⟩
      refine X.opsEnd ?_
      refine X.seq ?_
      refine X.region ?_
      refine X.opw X.wN rfl (X.move rfl) ?_
      refine X.opw X.wN rfl (X.loadNB Tryz.isAgg90 Tryz.sizeOf90 (hB2.keep (hk3.step hx4 zq26)) rfl rfl rfl) ?_
      refine X.opw X.wN rfl (X.loadNB Tryz.isAgg90 Tryz.sizeOf90 hB4 rfl rfl rfl) ?_
      refine X.opE X.wN rfl ((YC.of_ret (args := [_, _]) (cap := []) (valueCompare_c x y _) Tryz.call100) _ _ _ _ _ _ _ _ _ rfl rfl) ?_
      rintro _ w5 ⟨rfl, hk5⟩
      have hk5' := hk5.size
      refine X.opw X.wN rfl (X.assign (v := .int .i64 _) rfl) ?_
      refine X.opsEnd ?_
      refine X.seq ?_
      refine X.region ?_
      refine X.opw X.wN rfl (X.move (v := .int .i64 _) rfl) ?_
      refine X.opP X.wN rfl rfl (X.neI rfl rfl) (fun h31 => ?_) (fun h31 => ?_)
      · refine X.opsEnd ?_
        refine X.condT rfl ?_
        refine X.seq ?_
        refine X.region ?_
        refine X.opw X.wN rfl (X.move (v := .int .i64 _) rfl) ?_
        refine X.opw X.wN rfl (X.assign (v := .int .i64 _) rfl) ?_
        refine X.opsEnd ?_
        refine X.ret1 (v := (.int .i64 _)) Tryz.func99 Tryz.results99 rfl ?_
        exact ⟨by rw [if_pos h31] at hcm; rw [hcm], (((((hk.trans hk1).step hx2 zq26).trans hk3).step hx4 zq26).trans hk5)⟩
      · refine X.opsEnd ?_
        refine X.condF rfl ?_
        refine X.skip ?_
        refine X.inBlock ?_
        refine X.region ?_
        refine X.opw X.wN rfl (X.add rfl rfl (X.w_i64 (by omega))) ?_
        refine X.opw X.wN rfl (X.move (v := .int .i64 _) rfl) ?_
        refine X.opsEnd ?_
        refine hback (i + 1) _ _ ⟨rfl, rfl, rfl, rfl, rfl, rfl, trivial⟩ ⟨by omega, by omega, by rw [if_neg h31] at hcm; exact hcm, (((((hk.trans hk1).step hx2 zq26).trans hk3).step hx4 zq26).trans hk5)⟩ (by omega)
  · refine X.opsEnd ?_
    refine X.seq ?_
    refine X.condF rfl ?_
    refine X.exit rfl ?_
    refine X.seq ?_
    refine X.seq ?_
    refine X.region ?_
    refine X.opw X.wN rfl (X.move (v := .slice _ _ _) rfl) ?_
    refine X.opw X.wN rfl (X.lenSl Tryz.underlying38 rfl) ?_
    refine X.opw X.wN rfl (X.move (v := .slice _ _ _) rfl) ?_
    refine X.opw X.wN rfl (X.lenSl Tryz.underlying38 rfl) ?_
    refine X.opP X.wN rfl rfl (X.lss rfl rfl) (fun h38 => ?_) (fun h38 => ?_)
    · refine X.opsEnd ?_
      refine X.condT rfl ?_
      refine X.seq ?_
      refine X.region ?_
      refine X.opw X.wN rfl (X.assign rfl) ?_
      refine X.opsEnd ?_
      refine X.ret1 (v := (.int .i64 _)) Tryz.func99 Tryz.results99 rfl ?_
      exact ⟨by congr 1; rw [← hcm, cmp_end (by omega) (by omega) (by omega)]; (repeat' split) <;> omega, hk⟩
    · refine X.opsEnd ?_
      refine X.condF rfl ?_
      refine X.skip ?_
      refine X.seq ?_
      refine X.region ?_
      refine X.opw X.wN rfl (X.assign rfl) ?_
      refine X.opsEnd ?_
      refine X.ret1 (v := (.int .i64 _)) Tryz.func99 Tryz.results99 rfl ?_
      exact ⟨by congr 1; rw [← hcm, cmp_end (by omega) (by omega) (by omega)]; (repeat' split) <;> omega, hk⟩
set_option maxHeartbeats 4000000 in
set_option maxRecDepth 100000 in
theorem tupleCompare_c {lo1 hi1 lo2 hi2 : Nat} {A1 A2 : Option Addr} {n1 n2 c1 c2 : Nat} {l1 l2 : List VAL} (w : World) (hs1 : Sl KV lo1 hi1 w A1 n1 l1) (hs2 : Sl KV lo2 hi2 w A2 n2 l2) : Ret Tryz.prog 47 #[.slice A1 n1 c1, .slice A2 n2 c2] w fun r w' => r = .int .i64 (cmpT l1 l2) ∧ Keep w w' := by
  refine X.enter Tryz.func47 rfl Tryz.ntmps47 rfl ?_
  refine X.seq ?_
  refine X.region ?_
  refine X.opw X.wN rfl (X.assign rfl) ?_
  refine X.opsEnd ?_
  refine X.seq ?_
  refine X.region ?_
  refine X.opw X.wN rfl (X.move (v := .slice _ _ _) rfl) ?_
  refine X.opw X.wN rfl (X.move (v := .slice _ _ _) rfl) ?_
  refine X.opE X.wN rfl (X.callE (CompareFunc_c _ hs1 hs2) Tryz.call99 rfl rfl) ?_
  rintro _ w1 ⟨rfl, hk1⟩
  have hk1' := hk1.size
  refine X.opw X.wN rfl (X.assign (v := .int .i64 _) rfl) ?_
  refine X.opsEnd ?_
  refine X.ret1 (v := (.int .i64 _)) Tryz.func47 Tryz.results47 rfl ?_
  exact ⟨rfl, hk1⟩
end Go.Proofs.YtbljooblpfdbiaaGreatDoor
namespace Go.Proofs.YtbljooblpfdbiaaGreatDoor
open Go Go.Proofs.YtbljooblpfdbiaaGreatDoor.X
theorem less_trans : ∀ x y z : List UInt8, Op.bytesLess x y = true → Op.bytesLess y z = true → Op.bytesLess x z = true
  | [], [], _, h, _ => by simp [Op.bytesLess] at h
  | _ :: _, [], _, h, _ => by simp [Op.bytesLess] at h
  | _, _ :: _, [], _, h => by simp [Op.bytesLess] at h
  | [], _ :: _, _ :: _, _, _ => by simp [Op.bytesLess]
  | a :: x, b :: y, c :: z, h1, h2 => by
    simp only [Op.bytesLess, Bool.or_eq_true, decide_eq_true_eq, Bool.and_eq_true, beq_iff_eq] at h1 h2 ⊢
    rcases h1 with h1 | ⟨rfl, h1⟩
    · rcases h2 with h2 | ⟨rfl, h2⟩
      · exact .inl (UInt8.lt_trans h1 h2)
      · exact .inl h1
    · rcases h2 with h2 | ⟨rfl, h2⟩
      · exact .inl h2
      · exact .inr ⟨rfl, less_trans x y z h1 h2⟩
theorem cmpV_0 {a b : VAL} : cmpV a b = 0 ↔ a = b := by
  unfold cmpV
  by_cases h : a = b
  · simp [h]
  · rw [if_neg h]
    constructor
    · intro h2; split at h2 <;> cases h2
    · intro h2; exact absurd h2 h
def ltV (a b : VAL) : Prop := a.1 < b.1 ∨ a.1 = b.1 ∧ (a.2.1 < b.2.1 ∨ a.2.1 = b.2.1 ∧ Op.bytesLess a.2.2.data.toList b.2.2.data.toList = true)
instance (a b : VAL) : Decidable (ltV a b) := by unfold ltV; infer_instance
theorem ltV_irr {a : VAL} : ¬ ltV a a := by
  unfold ltV
  have := less_irr a.2.2.data.toList
  rintro (h | ⟨_, h | ⟨_, h⟩⟩)
  · omega
  · omega
  · rw [this] at h; cases h
theorem ltV_trans {a b c : VAL} (h1 : ltV a b) (h2 : ltV b c) : ltV a c := by
  unfold ltV at *
  rcases h1 with h1 | ⟨h1, h1' | ⟨h1', h1''⟩⟩ <;> rcases h2 with h2 | ⟨h2, h2' | ⟨h2', h2''⟩⟩
  · exact .inl (by omega)
  · exact .inl (by omega)
  · exact .inl (by omega)
  · exact .inl (by omega)
  · exact .inr ⟨by omega, .inl (by omega)⟩
  · exact .inr ⟨by omega, .inl (by omega)⟩
  · exact .inl (by omega)
  · exact .inr ⟨by omega, .inl (by omega)⟩
  · exact .inr ⟨by omega, .inr ⟨by omega, less_trans _ _ _ h1'' h2''⟩⟩
theorem cmpV_lt {a b : VAL} : cmpV a b < 0 ↔ ltV a b := by
  show (if a = b then (0 : Int) else if ltV a b then -1 else 1) < 0 ↔ _
  by_cases h : a = b
  · subst h; rw [if_pos rfl]; exact ⟨fun h => by omega, fun h => absurd h ltV_irr⟩
  · rw [if_neg h]; by_cases h2 : ltV a b
    · rw [if_pos h2]; exact ⟨fun _ => h2, fun _ => by omega⟩
    · rw [if_neg h2]; exact ⟨fun h => by omega, fun h => absurd h h2⟩
theorem cmpT_0 : ∀ l m : List VAL, cmpT l m = 0 ↔ l = m
  | [], [] => by simp [cmpT]
  | [], _ :: _ => by simp [cmpT]
  | _ :: _, [] => by simp [cmpT]
  | a :: l, b :: m => by
    rw [cmpT]
    by_cases h : cmpV a b = 0
    · rw [if_neg (by simpa using h), cmpT_0 l m, cmpV_0.1 h]; simp
    · rw [if_pos h]
      constructor
      · intro h2; exact absurd h2 h
      · intro h2; cases h2; exact absurd (cmpV_0.2 rfl) h
theorem cmpT_self (l : List VAL) : cmpT l l = 0 := (cmpT_0 l l).2 rfl
theorem cmpT_trans : ∀ l m n : List VAL, cmpT l m < 0 → cmpT m n < 0 → cmpT l n < 0
  | [], [], _, h, _ => by simp [cmpT] at h
  | _ :: _, [], _, h, _ => by simp [cmpT] at h
  | _, _ :: _, [], _, h => by simp [cmpT] at h
  | [], _ :: _, _ :: _, _, _ => by simp [cmpT]
  | a :: l, b :: m, c :: n, h1, h2 => by
    rw [cmpT] at h1 h2 ⊢
    by_cases e1 : cmpV a b = 0
    · rw [if_neg (by simpa using e1)] at h1
      have := cmpV_0.1 e1
      subst this
      by_cases e2 : cmpV a c = 0
      · rw [if_neg (by simpa using e2)] at h2 ⊢
        exact cmpT_trans l m n h1 h2
      · rw [if_pos e2] at h2 ⊢; exact h2
    · rw [if_pos e1] at h1
      by_cases e2 : cmpV b c = 0
      · have := cmpV_0.1 e2
        subst this
        rw [if_pos e1]; exact h1
      · rw [if_pos e2] at h2
        have h3 := cmpV_lt.2 (ltV_trans (cmpV_lt.1 h1) (cmpV_lt.1 h2))
        rw [if_pos (by omega)]; exact h3
theorem cmpT_le {l m n : List VAL} (h1 : cmpT l m ≤ 0) (h2 : cmpT m n ≤ 0) : cmpT l n ≤ 0 := by
  by_cases e1 : cmpT l m = 0
  · rw [(cmpT_0 _ _).1 e1]; exact h2
  by_cases e2 : cmpT m n = 0
  · rw [← (cmpT_0 _ _).1 e2]; exact h1
  have := cmpT_trans l m n (by omega) (by omega)
  omega
end Go.Proofs.YtbljooblpfdbiaaGreatDoor
namespace Go.Proofs.YtbljooblpfdbiaaGreatDoor
open Go Go.Proofs.YtbljooblpfdbiaaGreatDoor.X
theorem opens_V {H : Type} {enc : TypeId × Value → H} {W : World} : Opens enc Tryz.prog W 90 KV := fun fuel cs x h => by
  obtain ⟨y, a, b, e, ⟨ha, oa⟩, p, q, e2, ⟨hb, ob⟩, hq, oq⟩ := opens_struct3 (K := KI) (L := KI) (M := KS) Tryz.underlying90 (by kernel_rfl) ⟨rfl, by kernel_rfl⟩ ⟨rfl, by kernel_rfl⟩ ⟨rfl, by kernel_rfl⟩ (opens_i64 Tryz.underlying88) (opens_i64 Tryz.underlying2) (opens_string Tryz.underlying9) fuel cs x h
  subst e ha e2 hb hq
  exact ⟨y, rfl, oa, ob, oq⟩
theorem list_choose {α β : Type} : ∀ {l : List α} {Q : Nat → α → β → Prop}, (∀ j x, l[j]? = some x → ∃ y, Q j x y) → ∃ l' : List β, l'.length = l.length ∧ ∀ j x, l[j]? = some x → ∃ y, l'[j]? = some y ∧ Q j x y
  | [], _, _ => ⟨[], rfl, fun j x h => by simp at h⟩
  | a :: l, Q, h => by
    obtain ⟨b, hb⟩ := h 0 a rfl
    obtain ⟨l', h1, h2⟩ := list_choose (l := l) (Q := fun j x y => Q (j + 1) x y) (fun j x hx => h (j + 1) x (by simpa using hx))
    refine ⟨b :: l', by simp [h1], fun j x hx => ?_⟩
    cases j with
    | zero => simp at hx; subst hx; exact ⟨b, rfl, hb⟩
    | succ j => simp at hx; obtain ⟨y, g1, g2⟩ := h2 j x hx; exact ⟨y, by simpa using g1, g2⟩
end Go.Proofs.YtbljooblpfdbiaaGreatDoor
namespace Go.Proofs.YtbljooblpfdbiaaGreatDoor
open Go Go.Proofs.YtbljooblpfdbiaaGreatDoor.X
abbrev HDR := Option Addr × Nat × Nat
abbrev CT := HDR × Int
abbrev evC (x : CT) : Value := .agg #[.slice x.1.1 x.1.2.1 x.1.2.2, .int .i64 x.2]
def KCt : Kd CT := Kd.plain 2 (fun x => [.slice x.1.1 x.1.2.1 x.1.2.2, .int .i64 x.2]) (fun _ => True) (fun _ => rfl) (fun _ u hu => by simp at hu; rcases hu with rfl | rfl <;> rfl)
theorem KCt_flat : Flat KCt := fun h => h
theorem repsC {w : World} (x : CT) : RepsV KCt w [x] [evC x] := ⟨⟨_, rfl, rfl, trivial⟩, trivial⟩
theorem ECt : ElemInfo Tryz.prog 40 2 32 := ElemInfo.of (z := .agg #[.slice none 0 0, .int .i64 0]) (by kernel_rfl) rfl rfl rfl
abbrev CD := List VAL × Int
abbrev KC : Kd CD := Kd.pair (Kd.slice KV) KI
def Tups (TB : Nat → Prop) (w : World) : List CT → List CD → Prop
  | [], [] => True
  | x :: l, q :: pg => (x.2 = q.2 ∧ okI q.2 ∧ x.1.2.1 ≤ x.1.2.2 ∧ ∃ lo hi, (∀ k, lo ≤ k → k < hi → TB k) ∧ Sl KV lo hi w x.1.1 x.1.2.1 q.1) ∧ Tups TB w l pg
  | _, _ => False
section
variable {TB : Nat → Prop} {w w' : World}
theorem Tups.len : ∀ {l : List CT} {pg : List CD}, Tups TB w l pg → l.length = pg.length
  | [], [], _ => rfl
  | _ :: _, _ :: _, h => by simp [Tups.len h.2]
  | [], _ :: _, h => h.elim
  | _ :: _, [], h => h.elim
theorem Tups.ext {U : Nat → Prop} (x : Ext U w w') (hU : ∀ k, TB k → ¬ U k) : ∀ {l : List CT} {pg : List CD}, Tups TB w l pg → Tups TB w' l pg
  | [], [], _ => trivial
  | _ :: _, _ :: _, ⟨⟨h1, h2, h3, lo, hi, h4, h5⟩, h6⟩ => ⟨⟨h1, h2, h3, lo, hi, h4, h5.ext x fun k a b => hU k (h4 k a b)⟩, Tups.ext x hU h6⟩
  | [], _ :: _, h => h.elim
  | _ :: _, [], h => h.elim
theorem Tups.keep (x : Keep w w') {l : List CT} {pg : List CD} (h : Tups TB w l pg) : Tups TB w' l pg := Tups.ext x (fun _ _ h => h) h
theorem Tups.mono {TC : Nat → Prop} (hT : ∀ k, TB k → TC k) : ∀ {l : List CT} {pg : List CD}, Tups TB w l pg → Tups TC w l pg
  | [], [], _ => trivial
  | _ :: _, _ :: _, ⟨⟨h1, h2, h3, lo, hi, h4, h5⟩, h6⟩ => ⟨⟨h1, h2, h3, lo, hi, fun k a b => hT k (h4 k a b), h5⟩, Tups.mono hT h6⟩
  | [], _ :: _, h => h.elim
  | _ :: _, [], h => h.elim
theorem Tups.snoc {x : CT} {q : CD} (hx : x.2 = q.2 ∧ okI q.2 ∧ x.1.2.1 ≤ x.1.2.2 ∧ ∃ lo hi, (∀ k, lo ≤ k → k < hi → TB k) ∧ Sl KV lo hi w x.1.1 x.1.2.1 q.1) : ∀ {l : List CT} {pg : List CD}, Tups TB w l pg → Tups TB w (l ++ [x]) (pg ++ [q])
  | [], [], _ => ⟨hx, trivial⟩
  | _ :: _, _ :: _, h => ⟨h.1, Tups.snoc hx h.2⟩
  | [], _ :: _, h => h.elim
  | _ :: _, [], h => h.elim
theorem Tups.get : ∀ {l : List CT} {pg : List CD}, Tups TB w l pg → ∀ {i : Nat} {x : CT}, l[i]? = some x → ∃ q, pg[i]? = some q ∧ x.2 = q.2 ∧ okI q.2 ∧ x.1.2.1 ≤ x.1.2.2 ∧ ∃ lo hi, (∀ k, lo ≤ k → k < hi → TB k) ∧ Sl KV lo hi w x.1.1 x.1.2.1 q.1
  | [], [], _, i, x, h => by simp at h
  | y :: l, q :: pg, h, i, x, hx => by
    cases i with
    | zero => simp at hx; subst hx; exact ⟨q, rfl, h.1⟩
    | succ i => simp at hx; obtain ⟨q', h1, h2⟩ := Tups.get h.2 hx; exact ⟨q', by simpa using h1, h2⟩
  | [], _ :: _, h, _, _, _ => h.elim
  | _ :: _, [], h, _, _, _ => h.elim
theorem Tups.sl {lo hi : Nat} {A : Option Addr} {n : Nat} {l : List CT} {pg : List CD} (h : Sl KCt lo hi w A n l) (ht : Tups TB w l pg) (hT : ∀ k, TB k → lo ≤ k ∧ k < hi) : Sl KC lo hi w A n pg := by
  refine ⟨by rw [← ht.len]; exact h.len, h.bound, fun hn => ?_⟩
  obtain ⟨ad, e, h1, h2, hc⟩ := h.at_ hn
  refine ⟨ad, e, h1, h2, fun j q hq => ?_⟩
  obtain ⟨x, hx⟩ : ∃ x, l[j]? = some x := ⟨_, List.getElem?_eq_getElem (by rw [ht.len]; exact (List.getElem?_eq_some_iff.1 hq).1)⟩
  obtain ⟨q', g1, g2, g3, g4, lo', hi', g5, g6⟩ := ht.get hx
  rw [hq] at g1; cases g1
  obtain ⟨cs, ⟨hcs, _⟩, hq2⟩ := hc j x hx
  subst hcs
  refine ⟨[.slice x.1.1 x.1.2.1 x.1.2.2] ++ [.int .i64 x.2], ⟨_, _, rfl, ⟨_, _, _, rfl, g4, ?_⟩, by rw [g2], g3⟩, fun i u hu => by rw [show KC.sz = KCt.sz from rfl]; exact hq2 i u hu⟩
  refine ⟨g6.len, g6.bound, fun hn2 => ?_⟩
  obtain ⟨ad2, e2, a1, a2, a3⟩ := g6.at_ hn2
  have hb := hT _ (g5 _ a1 a2)
  exact ⟨ad2, e2, hb.1, hb.2, fun j y hy => by
    obtain ⟨cs, hr, hcc⟩ := a3 j y hy
    exact ⟨cs, KV_flat hr, hcc⟩⟩
end
end Go.Proofs.YtbljooblpfdbiaaGreatDoor
namespace Go.Proofs.YtbljooblpfdbiaaGreatDoor
open Go Go.Proofs.YtbljooblpfdbiaaGreatDoor.X
def isV (v : VAL) : Bool := decide ((v.1 = 1 ∧ v.2.2 = ⟨#[]⟩) ∨ (v.1 = 2 ∧ v.2.1 = 0 ∧ v.2.2.size ≤ 256))
theorem E5 : ElemInfo Tryz.prog 5 1 1 := ElemInfo.of (z := .int .u8 0) (by kernel_rfl) rfl rfl rfl
theorem R01Is_c (v : VAL) (w : World) : Ret Tryz.prog 83 #[.agg (encV v).toArray] w fun r w' => r = .bool (isV v) ∧ Keep w w' := by
  refine X.enter Tryz.func83 rfl Tryz.ntmps83 rfl ?_
  refine X.seq ?_
  refine X.region ?_
  refine X.opE X.wN rfl (X.boxE rfl rfl) ?_
  rintro _ w1 ⟨rfl, hB1, hk1, hz1⟩
  refine X.opw X.wN rfl (X.assign rfl) ?_
  refine X.opsEnd ?_
  refine X.seq ?_
  refine X.region ?_
  refine X.opw X.wN rfl (X.fldB (j := 0) Tryz.underlying90 rfl rfl Tryz.sizeOf88 rfl) ?_
  refine X.opw X.wN rfl (X.load1B Tryz.isAgg88 hB1 rfl rfl) ?_
  refine X.opP X.wN rfl rfl (X.eqI rfl rfl) (fun h5 => ?_) (fun h5 => ?_)
  · refine X.opw X.wN rfl (X.move rfl) ?_
    refine X.opw (X.wG rfl rfl rfl) rfl (X.fldB (j := 2) Tryz.underlying90 rfl rfl Tryz.sizeOf9 rfl) ?_
    refine X.opw (X.wG rfl rfl rfl) rfl (X.load1B Tryz.isAgg9 hB1 rfl rfl) ?_
    refine X.opP (X.wG rfl rfl rfl) rfl rfl (X.eqD rfl rfl) (fun h9 => ?_) (fun h9 => ?_)
    · refine X.opw X.wN rfl (X.pickT rfl rfl) ?_
      refine X.opw X.wN rfl (X.move rfl) ?_
      refine X.opS rfl rfl rfl rfl rfl ?_
      refine X.opS rfl rfl rfl rfl rfl ?_
      refine X.opS rfl rfl rfl rfl rfl ?_
      refine X.opS rfl rfl rfl rfl rfl ?_
      refine X.opU rfl rfl rfl rfl ?_
      refine X.opU rfl rfl rfl rfl ?_
      refine X.opU rfl rfl rfl rfl ?_
      refine X.opS rfl rfl rfl rfl rfl ?_
      refine X.opS rfl rfl rfl rfl rfl ?_
      refine X.opU rfl rfl rfl rfl ?_
      refine X.opU rfl rfl rfl rfl ?_
      refine X.opU rfl rfl rfl rfl ?_
      refine X.opU rfl rfl rfl rfl ?_
      refine X.opS rfl rfl rfl rfl rfl ?_
      refine X.opw X.wN rfl (X.pickT rfl rfl) ?_
      refine X.opw X.wN rfl (X.assign rfl) ?_
      refine X.opsEnd ?_
      refine X.ret1 (v := .bool _) Tryz.func83 Tryz.results83 rfl ?_
      exact ⟨by congr 1; simp_all [isV] <;> omega, hk1⟩
    · refine X.opw X.wN rfl (X.pickT rfl rfl) ?_
      refine X.opw X.wN rfl (X.move rfl) ?_
      refine X.opw (X.wG rfl rfl rfl) rfl (X.fldB (j := 0) Tryz.underlying90 rfl rfl Tryz.sizeOf88 rfl) ?_
      refine X.opw (X.wG rfl rfl rfl) rfl (X.load1B Tryz.isAgg88 hB1 rfl rfl) ?_
      refine X.opP (X.wG rfl rfl rfl) rfl rfl (X.eqI rfl rfl) (fun h14 => ?_) (fun h14 => ?_)
      · refine X.opw (X.wG rfl rfl rfl) rfl (X.move rfl) ?_
        refine X.opw (X.wG rfl rfl rfl) rfl (X.fldB (j := 1) Tryz.underlying90 rfl rfl Tryz.sizeOf2 rfl) ?_
        refine X.opw (X.wG rfl rfl rfl) rfl (X.load1B Tryz.isAgg2 hB1 rfl rfl) ?_
        refine X.opP (X.wG rfl rfl rfl) rfl rfl (X.eqI rfl rfl) (fun h18 => ?_) (fun h18 => ?_)
        · refine X.opw (X.wG rfl rfl rfl) rfl (X.pickT rfl rfl) ?_
          refine X.opw (X.wG rfl rfl rfl) rfl (X.move rfl) ?_
          refine X.opw (X.wG rfl rfl rfl) rfl (X.fldB (j := 2) Tryz.underlying90 rfl rfl Tryz.sizeOf9 rfl) ?_
          refine X.opw (X.wG rfl rfl rfl) rfl (X.load1B Tryz.isAgg9 hB1 rfl rfl) ?_
          refine X.opw (X.wG rfl rfl rfl) rfl (X.lenS Tryz.underlying9 rfl) ?_
          refine X.opw (X.wG rfl rfl rfl) rfl (X.leq rfl rfl) ?_
          refine X.opw (X.wG rfl rfl rfl) rfl (X.pickT rfl rfl) ?_
          refine X.opw X.wN rfl (X.pickF rfl rfl) ?_
          refine X.opw X.wN rfl (X.assign rfl) ?_
          refine X.opsEnd ?_
          refine X.ret1 (v := .bool _) Tryz.func83 Tryz.results83 rfl ?_
          exact ⟨by congr 1; simp_all [isV] <;> omega, hk1⟩
        · refine X.opw (X.wG rfl rfl rfl) rfl (X.pickT rfl rfl) ?_
          refine X.opw (X.wG rfl rfl rfl) rfl (X.move rfl) ?_
          refine X.opS rfl rfl rfl rfl rfl ?_
          refine X.opS rfl rfl rfl rfl rfl ?_
          refine X.opS rfl rfl rfl rfl rfl ?_
          refine X.opS rfl rfl rfl rfl rfl ?_
          refine X.opw (X.wG rfl rfl rfl) rfl (X.pickF rfl rfl) ?_
          refine X.opw X.wN rfl (X.pickF rfl rfl) ?_
          refine X.opw X.wN rfl (X.assign rfl) ?_
          refine X.opsEnd ?_
          refine X.ret1 (v := .bool _) Tryz.func83 Tryz.results83 rfl ?_
          exact ⟨by congr 1; simp_all [isV] <;> omega, hk1⟩
      · refine X.opw (X.wG rfl rfl rfl) rfl (X.move rfl) ?_
        refine X.opS rfl rfl rfl rfl rfl ?_
        refine X.opS rfl rfl rfl rfl rfl ?_
        refine X.opS rfl rfl rfl rfl rfl ?_
        refine X.opw (X.wG rfl rfl rfl) rfl (X.pickF rfl rfl) ?_
        refine X.opw (X.wG rfl rfl rfl) rfl (X.move rfl) ?_
        refine X.opS rfl rfl rfl rfl rfl ?_
        refine X.opS rfl rfl rfl rfl rfl ?_
        refine X.opS rfl rfl rfl rfl rfl ?_
        refine X.opS rfl rfl rfl rfl rfl ?_
        refine X.opw (X.wG rfl rfl rfl) rfl (X.pickF rfl rfl) ?_
        refine X.opw X.wN rfl (X.pickF rfl rfl) ?_
        refine X.opw X.wN rfl (X.assign rfl) ?_
        refine X.opsEnd ?_
        refine X.ret1 (v := .bool _) Tryz.func83 Tryz.results83 rfl ?_
        exact ⟨by congr 1; simp_all [isV] <;> omega, hk1⟩
  · refine X.opw X.wN rfl (X.move rfl) ?_
    refine X.opS rfl rfl rfl rfl rfl ?_
    refine X.opS rfl rfl rfl rfl rfl ?_
    refine X.opS rfl rfl rfl rfl rfl ?_
    refine X.opw X.wN rfl (X.pickF rfl rfl) ?_
    refine X.opw X.wN rfl (X.move rfl) ?_
    refine X.opw (X.wG rfl rfl rfl) rfl (X.fldB (j := 0) Tryz.underlying90 rfl rfl Tryz.sizeOf88 rfl) ?_
    refine X.opw (X.wG rfl rfl rfl) rfl (X.load1B Tryz.isAgg88 hB1 rfl rfl) ?_
    refine X.opP (X.wG rfl rfl rfl) rfl rfl (X.eqI rfl rfl) (fun h14 => ?_) (fun h14 => ?_)
    · refine X.opw (X.wG rfl rfl rfl) rfl (X.move rfl) ?_
      refine X.opw (X.wG rfl rfl rfl) rfl (X.fldB (j := 1) Tryz.underlying90 rfl rfl Tryz.sizeOf2 rfl) ?_
      refine X.opw (X.wG rfl rfl rfl) rfl (X.load1B Tryz.isAgg2 hB1 rfl rfl) ?_
      refine X.opP (X.wG rfl rfl rfl) rfl rfl (X.eqI rfl rfl) (fun h18 => ?_) (fun h18 => ?_)
      · refine X.opw (X.wG rfl rfl rfl) rfl (X.pickT rfl rfl) ?_
        refine X.opw (X.wG rfl rfl rfl) rfl (X.move rfl) ?_
        refine X.opw (X.wG rfl rfl rfl) rfl (X.fldB (j := 2) Tryz.underlying90 rfl rfl Tryz.sizeOf9 rfl) ?_
        refine X.opw (X.wG rfl rfl rfl) rfl (X.load1B Tryz.isAgg9 hB1 rfl rfl) ?_
        refine X.opw (X.wG rfl rfl rfl) rfl (X.lenS Tryz.underlying9 rfl) ?_
        refine X.opw (X.wG rfl rfl rfl) rfl (X.leq rfl rfl) ?_
        refine X.opw (X.wG rfl rfl rfl) rfl (X.pickT rfl rfl) ?_
        refine X.opw X.wN rfl (X.pickF rfl rfl) ?_
        refine X.opw X.wN rfl (X.assign rfl) ?_
        refine X.opsEnd ?_
        refine X.ret1 (v := .bool _) Tryz.func83 Tryz.results83 rfl ?_
        exact ⟨by congr 1; simp_all [isV] <;> omega, hk1⟩
      · refine X.opw (X.wG rfl rfl rfl) rfl (X.pickT rfl rfl) ?_
        refine X.opw (X.wG rfl rfl rfl) rfl (X.move rfl) ?_
        refine X.opS rfl rfl rfl rfl rfl ?_
        refine X.opS rfl rfl rfl rfl rfl ?_
        refine X.opS rfl rfl rfl rfl rfl ?_
        refine X.opS rfl rfl rfl rfl rfl ?_
        refine X.opw (X.wG rfl rfl rfl) rfl (X.pickF rfl rfl) ?_
        refine X.opw X.wN rfl (X.pickF rfl rfl) ?_
        refine X.opw X.wN rfl (X.assign rfl) ?_
        refine X.opsEnd ?_
        refine X.ret1 (v := .bool _) Tryz.func83 Tryz.results83 rfl ?_
        exact ⟨by congr 1; simp_all [isV] <;> omega, hk1⟩
    · refine X.opw (X.wG rfl rfl rfl) rfl (X.move rfl) ?_
      refine X.opS rfl rfl rfl rfl rfl ?_
      refine X.opS rfl rfl rfl rfl rfl ?_
      refine X.opS rfl rfl rfl rfl rfl ?_
      refine X.opw (X.wG rfl rfl rfl) rfl (X.pickF rfl rfl) ?_
      refine X.opw (X.wG rfl rfl rfl) rfl (X.move rfl) ?_
      refine X.opS rfl rfl rfl rfl rfl ?_
      refine X.opS rfl rfl rfl rfl rfl ?_
      refine X.opS rfl rfl rfl rfl rfl ?_
      refine X.opS rfl rfl rfl rfl rfl ?_
      refine X.opw (X.wG rfl rfl rfl) rfl (X.pickF rfl rfl) ?_
      refine X.opw X.wN rfl (X.pickF rfl rfl) ?_
      refine X.opw X.wN rfl (X.assign rfl) ?_
      refine X.opsEnd ?_
      refine X.ret1 (v := .bool _) Tryz.func83 Tryz.results83 rfl ?_
      exact ⟨by congr 1; simp_all [isV] <;> omega, hk1⟩
theorem Check_c (v : VAL) (w : World) : Ret Tryz.prog 110 #[.agg (encV v).toArray] w fun r w' => r = .int .i64 (if isV v then 0 else 10) ∧ Keep w w' := by
  refine X.enter Tryz.func110 rfl Tryz.ntmps110 rfl ?_
  refine X.seq ?_
  refine X.region ?_
  refine X.opE X.wN rfl (X.boxE rfl rfl) ?_
  rintro _ w1 ⟨rfl, hB1, hk1, hz1⟩
  refine X.opw X.wN rfl (X.assign rfl) ?_
  refine X.opsEnd ?_
  refine X.seq ?_
  refine X.block ?_
  refine X.seq ?_
  refine X.region ?_
  refine X.opw X.wN rfl (X.fldB (j := 0) Tryz.underlying90 rfl rfl Tryz.sizeOf88 rfl) ?_
  refine X.opw X.wN rfl (X.load1B Tryz.isAgg88 hB1 rfl rfl) ?_
  refine X.opP X.wN rfl rfl (X.eqI rfl rfl) (fun h6 => ?_) (fun h6 => ?_)
  · refine X.opw X.wN rfl (X.move rfl) ?_
    refine X.opw (X.wG rfl rfl rfl) rfl (X.fldB (j := 2) Tryz.underlying90 rfl rfl Tryz.sizeOf9 rfl) ?_
    refine X.opw (X.wG rfl rfl rfl) rfl (X.load1B Tryz.isAgg9 hB1 rfl rfl) ?_
    refine X.opP (X.wG rfl rfl rfl) rfl rfl (X.eqD rfl rfl) (fun h10 => ?_) (fun h10 => ?_)
    · refine X.opw X.wN rfl (X.pickT rfl rfl) ?_
      refine X.opw X.wN rfl (X.assign rfl) ?_
      refine X.opsEnd ?_
      refine X.condT rfl ?_
      refine X.seq ?_
      refine X.region ?_
      refine X.opw X.wN rfl (X.assign rfl) ?_
      refine X.opsEnd ?_
      refine X.ret1 (v := .int .i64 _) Tryz.func110 Tryz.results110 rfl ?_
      exact ⟨by congr 1; simp_all [isV] <;> omega, hk1⟩
    · refine X.opw X.wN rfl (X.pickT rfl rfl) ?_
      refine X.opw X.wN rfl (X.assign rfl) ?_
      refine X.opsEnd ?_
      refine X.condF rfl ?_
      refine X.seq ?_
      refine X.region ?_
      refine X.opw X.wN rfl (X.fldB (j := 0) Tryz.underlying90 rfl rfl Tryz.sizeOf88 rfl) ?_
      refine X.opw X.wN rfl (X.load1B Tryz.isAgg88 hB1 rfl rfl) ?_
      refine X.opP X.wN rfl rfl (X.eqI rfl rfl) (fun h15 => ?_) (fun h15 => ?_)
      · refine X.opw X.wN rfl (X.move rfl) ?_
        refine X.opw (X.wG rfl rfl rfl) rfl (X.fldB (j := 1) Tryz.underlying90 rfl rfl Tryz.sizeOf2 rfl) ?_
        refine X.opw (X.wG rfl rfl rfl) rfl (X.load1B Tryz.isAgg2 hB1 rfl rfl) ?_
        refine X.opP (X.wG rfl rfl rfl) rfl rfl (X.eqI rfl rfl) (fun h19 => ?_) (fun h19 => ?_)
        · refine X.opw X.wN rfl (X.pickT rfl rfl) ?_
          refine X.opw X.wN rfl (X.move rfl) ?_
          refine X.opw (X.wG rfl rfl rfl) rfl (X.fldB (j := 2) Tryz.underlying90 rfl rfl Tryz.sizeOf9 rfl) ?_
          refine X.opw (X.wG rfl rfl rfl) rfl (X.load1B Tryz.isAgg9 hB1 rfl rfl) ?_
          refine X.opw (X.wG rfl rfl rfl) rfl (X.lenS Tryz.underlying9 rfl) ?_
          refine X.opP (X.wG rfl rfl rfl) rfl rfl (X.leq rfl rfl) (fun h25 => ?_) (fun h25 => ?_)
          · refine X.opw X.wN rfl (X.pickT rfl rfl) ?_
            refine X.opw X.wN rfl (X.assign rfl) ?_
            refine X.opsEnd ?_
            refine X.condT rfl ?_
            refine X.seq ?_
            refine X.region ?_
            refine X.opw X.wN rfl (X.assign rfl) ?_
            refine X.opsEnd ?_
            refine X.ret1 (v := .int .i64 _) Tryz.func110 Tryz.results110 rfl ?_
            exact ⟨by congr 1; simp_all [isV] <;> omega, hk1⟩
          · refine X.opw X.wN rfl (X.pickT rfl rfl) ?_
            refine X.opw X.wN rfl (X.assign rfl) ?_
            refine X.opsEnd ?_
            refine X.condF rfl ?_
            refine X.skip ?_
            refine X.inBlock ?_
            refine X.seq ?_
            refine X.region ?_
            refine X.opw X.wN rfl (X.assign rfl) ?_
            refine X.opsEnd ?_
            refine X.ret1 (v := .int .i64 _) Tryz.func110 Tryz.results110 rfl ?_
            exact ⟨by congr 1; simp_all [isV] <;> omega, hk1⟩
        · refine X.opw X.wN rfl (X.pickT rfl rfl) ?_
          refine X.opw X.wN rfl (X.move rfl) ?_
          refine X.opS rfl rfl rfl rfl rfl ?_
          refine X.opS rfl rfl rfl rfl rfl ?_
          refine X.opS rfl rfl rfl rfl rfl ?_
          refine X.opS rfl rfl rfl rfl rfl ?_
          refine X.opw X.wN rfl (X.pickF rfl rfl) ?_
          refine X.opw X.wN rfl (X.assign rfl) ?_
          refine X.opsEnd ?_
          refine X.condF rfl ?_
          refine X.skip ?_
          refine X.inBlock ?_
          refine X.seq ?_
          refine X.region ?_
          refine X.opw X.wN rfl (X.assign rfl) ?_
          refine X.opsEnd ?_
          refine X.ret1 (v := .int .i64 _) Tryz.func110 Tryz.results110 rfl ?_
          exact ⟨by congr 1; simp_all [isV] <;> omega, hk1⟩
      · refine X.opw X.wN rfl (X.move rfl) ?_
        refine X.opS rfl rfl rfl rfl rfl ?_
        refine X.opS rfl rfl rfl rfl rfl ?_
        refine X.opS rfl rfl rfl rfl rfl ?_
        refine X.opw X.wN rfl (X.pickF rfl rfl) ?_
        refine X.opw X.wN rfl (X.move rfl) ?_
        refine X.opS rfl rfl rfl rfl rfl ?_
        refine X.opS rfl rfl rfl rfl rfl ?_
        refine X.opS rfl rfl rfl rfl rfl ?_
        refine X.opS rfl rfl rfl rfl rfl ?_
        refine X.opw X.wN rfl (X.pickF rfl rfl) ?_
        refine X.opw X.wN rfl (X.assign rfl) ?_
        refine X.opsEnd ?_
        refine X.condF rfl ?_
        refine X.skip ?_
        refine X.inBlock ?_
        refine X.seq ?_
        refine X.region ?_
        refine X.opw X.wN rfl (X.assign rfl) ?_
        refine X.opsEnd ?_
        refine X.ret1 (v := .int .i64 _) Tryz.func110 Tryz.results110 rfl ?_
        exact ⟨by congr 1; simp_all [isV] <;> omega, hk1⟩
  · refine X.opw X.wN rfl (X.move rfl) ?_
    refine X.opS rfl rfl rfl rfl rfl ?_
    refine X.opS rfl rfl rfl rfl rfl ?_
    refine X.opS rfl rfl rfl rfl rfl ?_
    refine X.opw X.wN rfl (X.pickF rfl rfl) ?_
    refine X.opw X.wN rfl (X.assign rfl) ?_
    refine X.opsEnd ?_
    refine X.condF rfl ?_
    refine X.seq ?_
    refine X.region ?_
    refine X.opw X.wN rfl (X.fldB (j := 0) Tryz.underlying90 rfl rfl Tryz.sizeOf88 rfl) ?_
    refine X.opw X.wN rfl (X.load1B Tryz.isAgg88 hB1 rfl rfl) ?_
    refine X.opP X.wN rfl rfl (X.eqI rfl rfl) (fun h15 => ?_) (fun h15 => ?_)
    · refine X.opw X.wN rfl (X.move rfl) ?_
      refine X.opw (X.wG rfl rfl rfl) rfl (X.fldB (j := 1) Tryz.underlying90 rfl rfl Tryz.sizeOf2 rfl) ?_
      refine X.opw (X.wG rfl rfl rfl) rfl (X.load1B Tryz.isAgg2 hB1 rfl rfl) ?_
      refine X.opP (X.wG rfl rfl rfl) rfl rfl (X.eqI rfl rfl) (fun h19 => ?_) (fun h19 => ?_)
      · refine X.opw X.wN rfl (X.pickT rfl rfl) ?_
        refine X.opw X.wN rfl (X.move rfl) ?_
        refine X.opw (X.wG rfl rfl rfl) rfl (X.fldB (j := 2) Tryz.underlying90 rfl rfl Tryz.sizeOf9 rfl) ?_
        refine X.opw (X.wG rfl rfl rfl) rfl (X.load1B Tryz.isAgg9 hB1 rfl rfl) ?_
        refine X.opw (X.wG rfl rfl rfl) rfl (X.lenS Tryz.underlying9 rfl) ?_
        refine X.opP (X.wG rfl rfl rfl) rfl rfl (X.leq rfl rfl) (fun h25 => ?_) (fun h25 => ?_)
        · refine X.opw X.wN rfl (X.pickT rfl rfl) ?_
          refine X.opw X.wN rfl (X.assign rfl) ?_
          refine X.opsEnd ?_
          refine X.condT rfl ?_
          refine X.seq ?_
          refine X.region ?_
          refine X.opw X.wN rfl (X.assign rfl) ?_
          refine X.opsEnd ?_
          refine X.ret1 (v := .int .i64 _) Tryz.func110 Tryz.results110 rfl ?_
          exact ⟨by congr 1; simp_all [isV] <;> omega, hk1⟩
        · refine X.opw X.wN rfl (X.pickT rfl rfl) ?_
          refine X.opw X.wN rfl (X.assign rfl) ?_
          refine X.opsEnd ?_
          refine X.condF rfl ?_
          refine X.skip ?_
          refine X.inBlock ?_
          refine X.seq ?_
          refine X.region ?_
          refine X.opw X.wN rfl (X.assign rfl) ?_
          refine X.opsEnd ?_
          refine X.ret1 (v := .int .i64 _) Tryz.func110 Tryz.results110 rfl ?_
          exact ⟨by congr 1; simp_all [isV] <;> omega, hk1⟩
      · refine X.opw X.wN rfl (X.pickT rfl rfl) ?_
        refine X.opw X.wN rfl (X.move rfl) ?_
        refine X.opS rfl rfl rfl rfl rfl ?_
        refine X.opS rfl rfl rfl rfl rfl ?_
        refine X.opS rfl rfl rfl rfl rfl ?_
        refine X.opS rfl rfl rfl rfl rfl ?_
        refine X.opw X.wN rfl (X.pickF rfl rfl) ?_
        refine X.opw X.wN rfl (X.assign rfl) ?_
        refine X.opsEnd ?_
        refine X.condF rfl ?_
        refine X.skip ?_
        refine X.inBlock ?_
        refine X.seq ?_
        refine X.region ?_
        refine X.opw X.wN rfl (X.assign rfl) ?_
        refine X.opsEnd ?_
        refine X.ret1 (v := .int .i64 _) Tryz.func110 Tryz.results110 rfl ?_
        exact ⟨by congr 1; simp_all [isV] <;> omega, hk1⟩
    · refine X.opw X.wN rfl (X.move rfl) ?_
      refine X.opS rfl rfl rfl rfl rfl ?_
      refine X.opS rfl rfl rfl rfl rfl ?_
      refine X.opS rfl rfl rfl rfl rfl ?_
      refine X.opw X.wN rfl (X.pickF rfl rfl) ?_
      refine X.opw X.wN rfl (X.move rfl) ?_
      refine X.opS rfl rfl rfl rfl rfl ?_
      refine X.opS rfl rfl rfl rfl rfl ?_
      refine X.opS rfl rfl rfl rfl rfl ?_
      refine X.opS rfl rfl rfl rfl rfl ?_
      refine X.opw X.wN rfl (X.pickF rfl rfl) ?_
      refine X.opw X.wN rfl (X.assign rfl) ?_
      refine X.opsEnd ?_
      refine X.condF rfl ?_
      refine X.skip ?_
      refine X.inBlock ?_
      refine X.seq ?_
      refine X.region ?_
      refine X.opw X.wN rfl (X.assign rfl) ?_
      refine X.opsEnd ?_
      refine X.ret1 (v := .int .i64 _) Tryz.func110 Tryz.results110 rfl ?_
      exact ⟨by congr 1; simp_all [isV] <;> omega, hk1⟩
theorem may1_c (v : VAL) (w : World) : Ret Tryz.prog 143 #[.agg (encV v).toArray] w fun r w' => r = .bool (!isV v) ∧ Keep w w' := by
  refine X.enter Tryz.func143 rfl Tryz.ntmps143 rfl ?_
  refine X.seq ?_
  refine X.region ?_
  refine X.opE X.wN rfl (X.boxE rfl rfl) ?_
  rintro _ w1 ⟨rfl, hB1, hk1, hz1⟩
  refine X.opw X.wN rfl (X.assign rfl) ?_
  refine X.opsEnd ?_
  refine X.seq ?_
  refine X.region ?_
  refine X.opw X.wN rfl (X.loadNB Tryz.isAgg90 Tryz.sizeOf90 hB1 rfl rfl rfl) ?_
  refine X.opE X.wN rfl (X.callE (Check_c v _) Tryz.call110 rfl rfl) ?_
  rintro _ w2 ⟨rfl, hk2⟩
  refine X.opw X.wN rfl (X.neI rfl rfl) ?_
  refine X.opw X.wN rfl (X.assign rfl) ?_
  refine X.opsEnd ?_
  refine X.ret1 (v := .bool _) Tryz.func143 Tryz.results143 rfl ?_
  exact ⟨by congr 1; cases isV v <;> rfl, hk1.trans hk2⟩
end Go.Proofs.YtbljooblpfdbiaaGreatDoor
namespace Go.Proofs.YtbljooblpfdbiaaGreatDoor
open Go Go.Proofs.YtbljooblpfdbiaaGreatDoor.X
theorem getN {α : Type} {l : List α} {n : Nat} (i : Nat) (hl : l.length = n) (h : (i : Int) < (n : Int)) : ∃ x, l[i]? = some x := ⟨l[i]'(by omega), List.getElem?_eq_getElem (by omega)⟩
theorem any_step {α : Type} {l : List α} {i : Nat} {x : α} (p : α → Bool) (hx : l[i]? = some x) : (l.take (i + 1)).any p = ((l.take i).any p || p x) := by
  rw [List.take_add_one, hx]; simp
theorem all_step {α : Type} {l : List α} {i : Nat} {x : α} (p : α → Bool) (hx : l[i]? = some x) : (l.take (i + 1)).all p = ((l.take i).all p && p x) := by
  rw [List.take_add_one, hx]; simp
theorem any_at {α : Type} {l : List α} {i : Nat} {x : α} (p : α → Bool) (hx : l[i]? = some x) (h : p x = true) : l.any p = true := by
  rw [List.any_eq_true]; exact ⟨x, List.mem_of_getElem? hx, h⟩
def isT (l : List VAL) : Bool := l.all isV && decide (l.length ≤ 8)
theorem IndexFunc_c {lo hi : Nat} {A : Option Addr} {n c : Nat} {l : List VAL} (w : World) (hs : Sl KV lo hi w A n l) (p : VAL → Bool) (F : FuncId) (hF : ∀ v w, okV v → Ret Tryz.prog F #[.agg (encV v).toArray] w fun r w' => r = .bool (p v) ∧ Keep w w') (hG : ∀ args w, (callFunc F args).run Tryz.prog w = .ok (.enter F args) w) :
    Ret Tryz.prog 172 #[.slice A n c, .func (.func F) #[] #[]] w fun r w' => (∃ q : Int, r = .int .i64 q ∧ decide (0 ≤ q) = l.any p) ∧ Keep w w' := by
  refine X.enter Tryz.func172 rfl Tryz.ntmps172 rfl ?_
  refine X.seq ?_
  refine X.region ?_
  refine X.opw X.wN rfl (X.assign rfl) ?_
  refine X.opsEnd ?_
  refine X.seq ?_
  refine X.seq ?_
  refine X.region ?_
  refine X.opw X.wN rfl (X.move rfl) ?_
  refine X.opw X.wN rfl (X.lenSl Tryz.underlying38 rfl) ?_
  refine X.opw X.wN rfl (X.move rfl) ?_
  refine X.opsEnd ?_
  refine X.block ?_
  refine X.loopL (σ := Nat) (fun s => [(0, .slice A n c), (1, .func (.func F) #[] #[]), (7, .int .i64 (n : Int)), (8, .int .i64 (s : Int))]) (fun s w' => s ≤ n ∧ (l.take s).any p = false ∧ Keep w w') (fun s => n - s) 0 ⟨rfl, rfl, rfl, rfl, trivial⟩ ⟨Nat.zero_le _, by simp, Keep.refl w⟩ ?_
  rintro i b w1 ⟨hi0, ha, hk⟩ hback
  have hn := hs.bound
  have hl := hs.len
  have hs' := hs.keep hk
  refine X.seq ?_
  refine X.region ?_
  refine X.opw X.wN rfl (X.lss rfl rfl) ?_
  refine X.opsEnd ?_
  refine X.seq ?_
  refine X.condP rfl (fun hc => ?_) (fun hc => ?_)
  · obtain ⟨x, hx⟩ := getN i hs.len hc
    refine X.skip ?_
    refine X.seq ?_
    refine X.block ?_
    refine X.seq ?_
    refine X.region ?_
    refine X.opw X.wN rfl (X.move rfl) ?_
    refine X.opw X.wN rfl (X.assign rfl) ?_
    refine X.opsEnd ?_
    refine X.seq ?_
    refine X.region ?_
    refine X.opw X.wN rfl (X.move rfl) ?_
    refine X.opw X.wN rfl (X.move rfl) ?_
    refine X.opw X.wN rfl (X.move rfl) ?_
    refine X.opw X.wN rfl (X.idxS hs' Tryz.underlying38 Tryz.sizeOf90 rfl rfl ⟨by omega, by omega⟩) ?_
    refine X.opw X.wN rfl (X.loadSN Tryz.isAgg90 Tryz.sizeOf90 hs' hx rfl (fun _ h => h.1) rfl) ?_
    refine X.opE X.wN rfl (X.callVE (vs := [_]) rfl (hF x _ (KV_ok hs i x hx)) hG rfl) ?_
    rintro _ w2 ⟨rfl, hk2⟩
    refine X.opsEnd ?_
    refine X.condB rfl (fun hc => ?_) (fun hc => ?_)
    · refine X.seq ?_
      refine X.region ?_
      refine X.opw X.wN rfl (X.move rfl) ?_
      refine X.opw X.wN rfl (X.assign rfl) ?_
      refine X.opsEnd ?_
      refine X.ret1 (v := (.int .i64 _)) Tryz.func172 Tryz.results172 rfl ?_
      exact ⟨⟨_, rfl, by rw [any_at p hx hc]; simp⟩, hk.trans hk2⟩
    · refine X.skip ?_
      refine X.inBlock ?_
      refine X.region ?_
      refine X.opw X.wN rfl (X.add rfl rfl (X.w_i64 (by omega))) ?_
      refine X.opw X.wN rfl (X.move rfl) ?_
      refine X.opsEnd ?_
      refine hback (i + 1) _ _ ⟨rfl, rfl, rfl, rfl, trivial⟩ ⟨by omega, by rw [any_step p hx, ha, hc]; rfl, hk.trans hk2⟩ (by omega)
  · refine X.exit rfl ?_
    refine X.seq ?_
    refine X.region ?_
    refine X.opw X.wN rfl (X.assign rfl) ?_
    refine X.opsEnd ?_
    refine X.ret1 (v := (.int .i64 _)) Tryz.func172 Tryz.results172 rfl ?_
    refine ⟨⟨_, rfl, ?_⟩, hk⟩
    rw [show i = l.length by omega, List.take_length] at ha
    rw [ha]; rfl
theorem ContainsFunc_c {lo hi : Nat} {A : Option Addr} {n c : Nat} {l : List VAL} (w : World) (hs : Sl KV lo hi w A n l) (p : VAL → Bool) (F : FuncId) (hF : ∀ v w, okV v → Ret Tryz.prog F #[.agg (encV v).toArray] w fun r w' => r = .bool (p v) ∧ Keep w w') (hG : ∀ args w, (callFunc F args).run Tryz.prog w = .ok (.enter F args) w) :
    Ret Tryz.prog 142 #[.slice A n c, .func (.func F) #[] #[]] w fun r w' => r = .bool (l.any p) ∧ Keep w w' := by
  refine X.enter Tryz.func142 rfl Tryz.ntmps142 rfl ?_
  refine X.seq ?_
  refine X.region ?_
  refine X.opw X.wN rfl (X.assign rfl) ?_
  refine X.opsEnd ?_
  refine X.seq ?_
  refine X.region ?_
  refine X.opw X.wN rfl (X.move rfl) ?_
  refine X.opw X.wN rfl (X.move rfl) ?_
  refine X.opE X.wN rfl (X.callE (IndexFunc_c w hs p F hF hG) Tryz.call172 rfl rfl) ?_
  rintro _ w1 ⟨⟨q, rfl, hq⟩, hk⟩
  refine X.opw X.wN rfl (X.geq rfl rfl) ?_
  refine X.opw X.wN rfl (X.assign rfl) ?_
  refine X.opsEnd ?_
  refine X.ret1 (v := (.bool _)) Tryz.func142 Tryz.results142 rfl ?_
  exact ⟨by rw [hq], hk⟩
theorem may_c {lo hi : Nat} {A : Option Addr} {n c : Nat} {l : List VAL} (w : World) (hs : Sl KV lo hi w A n l) :
    Ret Tryz.prog 103 #[.slice A n c] w fun r w' => r = .bool (isT l) ∧ Keep w w' := by
  refine X.enter Tryz.func103 rfl Tryz.ntmps103 rfl ?_
  refine X.seq ?_
  refine X.region ?_
  refine X.opw X.wN rfl (X.assign rfl) ?_
  refine X.opsEnd ?_
  refine X.seq ?_
  refine X.region ?_
  refine X.opw X.wN rfl (X.move rfl) ?_
  refine X.opw X.wN rfl (X.lenSl Tryz.underlying38 rfl) ?_
  refine X.opP X.wN rfl rfl (X.leq rfl rfl) (fun h5 => ?_) (fun h5 => ?_)
  · refine X.opw X.wN rfl (X.move rfl) ?_
    refine X.opw (X.wG rfl rfl rfl) rfl (X.move rfl) ?_
    refine X.opE (X.wG rfl rfl rfl) rfl (X.callE (ContainsFunc_c w hs (fun v => !isV v) 143 (fun v w _ => may1_c v w) Tryz.call143) Tryz.call142 rfl rfl) ?_
    rintro _ w1 ⟨rfl, hk⟩
    refine X.opw (X.wG rfl rfl rfl) rfl (X.not_ rfl) ?_
    refine X.opw X.wN rfl (X.pickT rfl rfl) ?_
    refine X.opw X.wN rfl (X.assign rfl) ?_
    refine X.opsEnd ?_
    refine X.ret1 (v := (.bool _)) Tryz.func103 Tryz.results103 rfl ?_
    exact ⟨by rw [isT, ← hs.len] at *; simp_all [List.any_eq_not_all_not]; intros; omega, hk⟩
  · refine X.opw X.wN rfl (X.move rfl) ?_
    refine X.opS rfl rfl rfl rfl rfl ?_
    refine X.opS rfl rfl rfl rfl rfl ?_
    refine X.opS rfl rfl rfl rfl rfl ?_
    refine X.opw X.wN rfl (X.pickF rfl rfl) ?_
    refine X.opw X.wN rfl (X.assign rfl) ?_
    refine X.opsEnd ?_
    refine X.ret1 (v := (.bool _)) Tryz.func103 Tryz.results103 rfl ?_
    exact ⟨by have := hs.len; simp [isT]; intros; omega, Keep.refl w⟩
theorem R03Is_c {lo hi : Nat} {A : Option Addr} {n c : Nat} {l : List VAL} (w : World) (hs : Sl KV lo hi w A n l) :
    Ret Tryz.prog 107 #[.slice A n c] w fun r w' => r = .bool (isT l) ∧ Keep w w' := by
  refine X.enter Tryz.func107 rfl Tryz.ntmps107 rfl ?_
  refine X.seq ?_
  refine X.region ?_
  refine X.opw X.wN rfl (X.assign rfl) ?_
  refine X.opsEnd ?_
  refine X.seq ?_
  refine X.seq ?_
  refine X.region ?_
  refine X.opw X.wN rfl (X.assign rfl) ?_
  refine X.opsEnd ?_
  refine X.block ?_
  refine X.loopL (σ := Nat) (fun s => [(0, .slice A n c), (3, .int .i64 (s : Int))]) (fun s w' => s ≤ n ∧ (l.take s).all isV = true ∧ Keep w w') (fun s => n - s) 0 ⟨rfl, rfl, trivial⟩ ⟨Nat.zero_le _, by simp, Keep.refl w⟩ ?_
  rintro i b w1 ⟨hi0, ha, hk⟩ hback
  have hn := hs.bound
  have hl := hs.len
  have hs' := hs.keep hk
  refine X.seq ?_
  refine X.seq ?_
  refine X.region ?_
  refine X.opw X.wN rfl (X.move rfl) ?_
  refine X.opw X.wN rfl (X.move rfl) ?_
  refine X.opw X.wN rfl (X.lenSl Tryz.underlying38 rfl) ?_
  refine X.opP X.wN rfl rfl (X.lss rfl rfl) (fun h7 => ?_) (fun h7 => ?_)
  · obtain ⟨x, hx⟩ := getN i hs.len h7
    refine X.opsEnd ?_
    refine X.condT rfl ?_
    refine X.skip ?_
    refine X.seq ?_
    refine X.block ?_
    refine X.seq ?_
    refine X.region ?_
    refine X.opw X.wN rfl (X.move rfl) ?_
    refine X.opw X.wN rfl (X.move rfl) ?_
    refine X.opw X.wN rfl (X.idxS hs' Tryz.underlying38 Tryz.sizeOf90 rfl rfl ⟨by omega, by omega⟩) ?_
    refine X.opw X.wN rfl (X.loadSN Tryz.isAgg90 Tryz.sizeOf90 hs' hx rfl (fun _ h => h.1) rfl) ?_
    refine X.opE X.wN rfl (X.callE (R01Is_c x _) Tryz.call83 rfl rfl) ?_
    rintro _ w2 ⟨rfl, hk2⟩
    refine X.opw X.wN rfl (X.not_ rfl) ?_
    refine X.opsEnd ?_
    refine X.condB rfl (fun hc => ?_) (fun hc => ?_)
    · refine X.seq ?_
      refine X.region ?_
      refine X.opw X.wN rfl (X.assign rfl) ?_
      refine X.opsEnd ?_
      refine X.ret1 (v := (.bool _)) Tryz.func107 Tryz.results107 rfl ?_
      refine ⟨?_, hk.trans hk2⟩
      have : l.all isV = false := by rw [List.all_eq_false]; exact ⟨x, List.mem_of_getElem? hx, by simpa using hc⟩
      simp [isT, this]
    · refine X.skip ?_
      refine X.inBlock ?_
      refine X.region ?_
      refine X.opw X.wN rfl (X.move rfl) ?_
      refine X.opw X.wN rfl (X.add rfl rfl (X.w_i64 (by omega))) ?_
      refine X.opw X.wN rfl (X.assign rfl) ?_
      refine X.opsEnd ?_
      refine hback (i + 1) _ _ ⟨rfl, rfl, trivial⟩ ⟨by omega, by rw [all_step isV hx, ha]; simpa using hc, hk.trans hk2⟩ (by omega)
  · refine X.opsEnd ?_
    refine X.condF rfl ?_
    refine X.exit rfl ?_
    refine X.seq ?_
    refine X.region ?_
    refine X.opw X.wN rfl (X.move rfl) ?_
    refine X.opw X.wN rfl (X.lenSl Tryz.underlying38 rfl) ?_
    refine X.opw X.wN rfl (X.leq rfl rfl) ?_
    refine X.opw X.wN rfl (X.assign rfl) ?_
    refine X.opsEnd ?_
    refine X.ret1 (v := (.bool _)) Tryz.func107 Tryz.results107 rfl ?_
    refine ⟨?_, hk⟩
    rw [show i = l.length by omega, List.take_length] at ha
    simp [isT, ha, hl]
    omega
end Go.Proofs.YtbljooblpfdbiaaGreatDoor
namespace Go.Proofs.YtbljooblpfdbiaaGreatDoor
open Go Go.Proofs.YtbljooblpfdbiaaGreatDoor.X
def FreshB (w w' : World) (v : Value) (l : List UInt8) : Prop := Mine KB 5 (fun k => w.heap.size ≤ k) 0 0 w' v l ∧ Keep w w'
theorem app_hs {w w' : World} (h : Keep w w') : ∀ k, w'.heap.size ≤ k → w.heap.size ≤ k := fun k hk => Nat.le_trans h.size hk
def numB (x : Nat) : List UInt8 := if x < 128 then [UInt8.ofNat x] else UInt8.ofNat (x % 128 + 128) :: numB (x / 128)
termination_by x
theorem numB_len (n : Nat) : ∀ x, x < 128 ^ (n + 1) → (numB x).length ≤ n + 1 := by
  induction n with
  | zero => intro x h; rw [numB, if_pos (by omega)]; simp
  | succ n ih =>
    intro x h
    rw [numB]
    split
    · simp
    · have := ih (x / 128) (by rw [Nat.pow_succ] at h; omega)
      simp; omega
theorem p128 : (128 : Nat) ^ (9 + 1) = 1180591620717411303424 := by simp
theorem numB_10 (x : Int) (h : x ≤ 18446744073709551615) : (numB x.toNat).length ≤ 10 := by
  have e := numB_len 9 x.toNat
  rw [p128] at e
  have h2 : x.toNat < 1180591620717411303424 := by omega
  have := e h2
  omega
set_option maxRecDepth 20000 in
theorem or_tab : ∀ m : Fin 256, (BitVec.ofNat 8 m.1 ||| 128#8).toNat = m.1 % 128 + 128 := by decide
theorem u8_or (x : Int) (h : 0 ≤ x) : IntKind.u8.wrap ((BitVec.ofInt IntKind.u8.bits (x % 256) ||| BitVec.ofInt IntKind.u8.bits 128).toNat : Int) = ((UInt8.ofNat (x.toNat % 128 + 128)).toNat : Int) := by
  obtain ⟨n, rfl⟩ := Int.eq_ofNat_of_zero_le h
  have h1 : ((n : Int) % 256) = ((n % 256 : Nat) : Int) := by omega
  have h2 := or_tab ⟨n % 256, by omega⟩
  rw [h1]
  show IntKind.u8.wrap (((BitVec.ofInt 8 ((n % 256 : Nat) : Int) ||| 128#8).toNat : Nat) : Int) = _
  rw [BitVec.ofInt_natCast, h2, u8_wrap, UInt8.toNat_ofNat', Int.toNat_natCast]
  simp only []
  omega
theorem u8_add (x : Int) (h : 0 ≤ x) : IntKind.u8.wrap (x.tmod 128 % 256 + 128) = ((UInt8.ofNat (x.toNat % 128 + 128)).toNat : Int) := by
  obtain ⟨n, rfl⟩ := Int.eq_ofNat_of_zero_le h
  rw [u8_wrap, UInt8.toNat_ofNat', Int.toNat_natCast]
  have : (n : Int).tmod 128 = ((n % 128 : Nat) : Int) := rfl
  rw [this]
  omega
theorem u8_of (x : Int) (h : 0 ≤ x) : IntKind.u8.wrap x = ((UInt8.ofNat x.toNat).toNat : Int) := by
  rw [u8_wrap, UInt8.toNat_ofNat']; omega
theorem shr7 (x : Int) : x.fdiv (2 ^ (min (7 : Int).toNat IntKind.u64.bits)) = x / 128 := Int.fdiv_eq_ediv_of_nonneg x (by decide)
theorem quo128 (x : Int) (h : 0 ≤ x ∧ x ≤ 18446744073709551615) : IntKind.u64.wrap (x.tdiv 128) = x / 128 := by
  rw [Int.tdiv_eq_ediv_of_nonneg h.1]; exact w_u64 (by omega)
theorem Num_c (x : Int) (h0 : 0 ≤ x) (h1 : x ≤ 18446744073709551615) (w : World) : Ret Tryz.prog 52 #[.int .u64 x] w fun v w' => FreshB w w' v (numB x.toNat) := by
  refine X.enter Tryz.func52 rfl Tryz.ntmps52 rfl ?_
  refine X.seq ?_
  refine X.region ?_
  refine X.opw X.wN rfl (X.assign rfl) ?_
  refine X.opsEnd ?_
  refine X.seq ?_
  refine X.region ?_
  refine X.opw X.wN rfl (X.assign rfl) ?_
  refine X.opsEnd ?_
  refine X.seq ?_
  refine X.block ?_
  refine X.loopL (σ := Int × Value × List UInt8) (fun s => [(0, .int .u64 s.1), (3, s.2.1)]) (fun s w' => 0 ≤ s.1 ∧ s.1 ≤ x ∧ Mine KB 5 (fun k => w.heap.size ≤ k) 0 0 w' s.2.1 s.2.2 ∧ s.2.2 ++ numB s.1.toNat = numB x.toNat ∧ Keep w w') (fun s => s.1.toNat) (x, .slice none 0 0, []) ⟨rfl, rfl, trivial⟩ ⟨h0, by simp, Mine.nil _ _ _ _ _ _, rfl, Keep.refl w⟩ ?_
  rintro ⟨y, v, l⟩ b w1 ⟨hy0, hy1, hM, hl, hk⟩ hback
  simp only at hy0 hy1 hM hl
  have hlen : l.length ≤ 10 := by
    have e := congrArg List.length hl
    have := numB_10 x h1
    simp at e; omega
  refine X.seq ?_
  refine X.seq ?_
  refine X.region ?_
  refine X.opw X.wN rfl (X.move rfl) ?_
  refine X.opP X.wN rfl rfl (X.geq rfl rfl) (fun h5 => ?_) (fun h5 => ?_)
  · refine X.opsEnd ?_
    refine X.condT rfl ?_
    refine X.skip ?_
    refine X.seq ?_
    refine X.block ?_
    refine X.region ?_
    refine X.opw X.wN rfl (X.move rfl) ?_
    refine X.opw X.wN rfl (X.move rfl) ?_
    refine X.opw X.wN rfl (X.cvI Tryz.underlying119 Tryz.underlying5 rfl (X.u8_wrap _)) ?_
    refine X.opw X.wN rfl (X.or_ rfl rfl (u8_or y hy0)) ?_
    refine X.opE X.wN rfl (X.lit1E (K := KB) (lo := 0) (hi := 0) Tryz.underlying43 Tryz.sizeOf5 Tryz.zeroValue5 rfl rfl (KB_R 0 0 _ _)) ?_
    rintro _ w2 ⟨rfl, hs1, hB1, hk1, hz1⟩
    refine X.opE X.wN rfl (X.appE (K := KB) KB_flat Tryz.underlying43 E5 rfl rfl (hM.keep hk1) (hs1) (by simp; omega) (app_hs (hk.trans hk1))) ?_
    rintro v2 w3 ⟨hM2, hx2⟩
    refine X.opw X.wN rfl (X.assign rfl) ?_
    refine X.opsEnd ?_
    refine X.inBlock ?_
    refine X.region ?_
    refine X.opw X.wN rfl (X.move rfl) ?_
    refine X.opw X.wN rfl (X.shr rfl rfl (by decide) (shr7 y)) ?_
    refine X.opw X.wN rfl (X.assign rfl) ?_
    refine X.opsEnd ?_
    refine hback (y / 128, v2, l ++ [UInt8.ofNat (y.toNat % 128 + 128)]) _ w3 ⟨rfl, rfl, trivial⟩ ⟨by simp only []; omega, by simp only []; omega, hM2, ?_, (hk.trans hk1).step hx2 (fun _ h => h)⟩ (by simp only []; omega)
    rw [← hl, numB.eq_def y.toNat, if_neg (by omega), List.append_assoc, List.singleton_append]
    simp only []
    rw [show (y / 128).toNat = y.toNat / 128 by omega]
  · refine X.opsEnd ?_
    refine X.condF rfl ?_
    refine X.exit rfl ?_
    refine X.seq ?_
    refine X.region ?_
    refine X.opw X.wN rfl (X.move rfl) ?_
    refine X.opw X.wN rfl (X.move rfl) ?_
    refine X.opw X.wN rfl (X.cvI Tryz.underlying119 Tryz.underlying5 rfl (u8_of y hy0)) ?_
    refine X.opE X.wN rfl (X.lit1E (K := KB) (lo := 0) (hi := 0) Tryz.underlying43 Tryz.sizeOf5 Tryz.zeroValue5 rfl rfl (KB_R 0 0 _ _)) ?_
    rintro _ w3 ⟨rfl, hs3, hB3, hk3, hz3⟩
    refine X.opE X.wN rfl (X.appE (K := KB) KB_flat Tryz.underlying43 E5 rfl rfl (hM.keep hk3) (hs3) (by simp; omega) (app_hs (hk.trans hk3))) ?_
    rintro v4 w4 ⟨hM4, hx4⟩
    refine X.opw X.wN rfl (X.assign rfl) ?_
    refine X.opsEnd ?_
    refine X.ret1 Tryz.func52 Tryz.results52 rfl ?_
    refine ⟨?_, (hk.trans hk3).step hx4 (fun _ h => h)⟩
    rw [← hl, numB.eq_def y.toNat, if_pos (by omega)]
    exact hM4
theorem RNum_c (x : Int) (h0 : 0 ≤ x) (h1 : x ≤ 18446744073709551615) (w : World) : Ret Tryz.prog 55 #[.int .u64 x] w fun v w' => FreshB w w' v (numB x.toNat) := by
  refine X.enter Tryz.func55 rfl Tryz.ntmps55 rfl ?_
  refine X.seq ?_
  refine X.region ?_
  refine X.opw X.wN rfl (X.assign rfl) ?_
  refine X.opsEnd ?_
  refine X.seq ?_
  refine X.region ?_
  refine X.opw X.wN rfl (X.assign rfl) ?_
  refine X.opsEnd ?_
  refine X.seq ?_
  refine X.block ?_
  refine X.loopL (σ := Int × Value × List UInt8) (fun s => [(0, .int .u64 s.1), (3, s.2.1)]) (fun s w' => 0 ≤ s.1 ∧ s.1 ≤ x ∧ Mine KB 5 (fun k => w.heap.size ≤ k) 0 0 w' s.2.1 s.2.2 ∧ s.2.2 ++ numB s.1.toNat = numB x.toNat ∧ Keep w w') (fun s => s.1.toNat) (x, .slice none 0 0, []) ⟨rfl, rfl, trivial⟩ ⟨h0, by simp, Mine.nil _ _ _ _ _ _, rfl, Keep.refl w⟩ ?_
  rintro ⟨y, v, l⟩ b w1 ⟨hy0, hy1, hM, hl, hk⟩ hback
  simp only at hy0 hy1 hM hl
  have hlen : l.length ≤ 10 := by
    have e := congrArg List.length hl
    have := numB_10 x h1
    simp at e; omega
  refine X.seq ?_
  refine X.seq ?_
  refine X.region ?_
  refine X.opw X.wN rfl (X.move rfl) ?_
  refine X.opP X.wN rfl rfl (X.geq rfl rfl) (fun h5 => ?_) (fun h5 => ?_)
  · refine X.opsEnd ?_
    refine X.condT rfl ?_
    refine X.skip ?_
    refine X.block ?_
    refine X.seq ?_
    refine X.region ?_
    refine X.opw X.wN rfl (X.move rfl) ?_
    refine X.opw X.wN rfl (X.move rfl) ?_
    refine X.opw X.wN rfl (X.rem rfl rfl (by decide) rfl) ?_
    refine X.opw X.wN rfl (X.cvI Tryz.underlying119 Tryz.underlying5 rfl (X.u8_wrap _)) ?_
    refine X.opw X.wN rfl (X.add rfl rfl (u8_add y hy0)) ?_
    refine X.opE X.wN rfl (X.lit1E (K := KB) (lo := 0) (hi := 0) Tryz.underlying43 Tryz.sizeOf5 Tryz.zeroValue5 rfl rfl (KB_R 0 0 _ _)) ?_
    rintro _ w2 ⟨rfl, hs1, hB1, hk1, hz1⟩
    refine X.opE X.wN rfl (X.appE (K := KB) KB_flat Tryz.underlying43 E5 rfl rfl (hM.keep hk1) (hs1) (by simp; omega) (app_hs (hk.trans hk1))) ?_
    rintro v2 w3 ⟨hM2, hx2⟩
    refine X.opw X.wN rfl (X.assign rfl) ?_
    refine X.opsEnd ?_
    refine X.region ?_
    refine X.opw X.wN rfl (X.move rfl) ?_
    refine X.opw X.wN rfl (X.quo rfl rfl (by decide) (quo128 y ⟨hy0, by omega⟩)) ?_
    refine X.opw X.wN rfl (X.assign rfl) ?_
    refine X.opsEnd ?_
    refine X.inBlock ?_
    refine hback (y / 128, v2, l ++ [UInt8.ofNat (y.toNat % 128 + 128)]) _ w3 ⟨rfl, rfl, trivial⟩ ⟨by simp only []; omega, by simp only []; omega, hM2, ?_, (hk.trans hk1).step hx2 (fun _ h => h)⟩ (by simp only []; omega)
    rw [← hl, numB.eq_def y.toNat, if_neg (by omega), List.append_assoc, List.singleton_append]
    simp only []
    rw [show (y / 128).toNat = y.toNat / 128 by omega]
  · refine X.opsEnd ?_
    refine X.condF rfl ?_
    refine X.exit rfl ?_
    refine X.seq ?_
    refine X.region ?_
    refine X.opw X.wN rfl (X.move rfl) ?_
    refine X.opw X.wN rfl (X.move rfl) ?_
    refine X.opw X.wN rfl (X.cvI Tryz.underlying119 Tryz.underlying5 rfl (u8_of y hy0)) ?_
    refine X.opE X.wN rfl (X.lit1E (K := KB) (lo := 0) (hi := 0) Tryz.underlying43 Tryz.sizeOf5 Tryz.zeroValue5 rfl rfl (KB_R 0 0 _ _)) ?_
    rintro _ w3 ⟨rfl, hs3, hB3, hk3, hz3⟩
    refine X.opE X.wN rfl (X.appE (K := KB) KB_flat Tryz.underlying43 E5 rfl rfl (hM.keep hk3) (hs3) (by simp; omega) (app_hs (hk.trans hk3))) ?_
    rintro v4 w4 ⟨hM4, hx4⟩
    refine X.opw X.wN rfl (X.assign rfl) ?_
    refine X.opsEnd ?_
    refine X.ret1 Tryz.func55 Tryz.results55 rfl ?_
    refine ⟨?_, (hk.trans hk3).step hx4 (fun _ h => h)⟩
    rw [← hl, numB.eq_def y.toNat, if_pos (by omega)]
    exact hM4
def zig (x : Int) : Int := if x < 0 then -(x + 1) * 2 + 1 else x * 2
theorem zig_ok (x : Int) (h : okI x) : 0 ≤ zig x ∧ zig x ≤ 18446744073709551615 := by
  unfold okI at h; unfold zig; split <;> omega
theorem zig_xor (x : Int) (h : okI x) : IntKind.u64.wrap ((BitVec.ofInt IntKind.u64.bits (IntKind.u64.wrap (IntKind.i64.wrap (x * 2 ^ (min (1 : Int).toNat IntKind.i64.bits)))) ^^^ BitVec.ofInt IntKind.u64.bits (IntKind.u64.wrap (x.fdiv (2 ^ (min (63 : Int).toNat IntKind.i64.bits))))).toNat : Int) = zig x := by
  have hi : ∀ y : Int, IntKind.u64.wrap (IntKind.i64.wrap y) = y % 18446744073709551616 := by
    intro y
    rw [u64_wrap]
    simp only [IntKind.wrap, IntKind.bits, IntKind.signed, Bool.true_and]
    split <;> omega
  have hf : x.fdiv (2 ^ (min (63 : Int).toNat IntKind.i64.bits)) = x / 9223372036854775808 := Int.fdiv_eq_ediv_of_nonneg x (by decide)
  rw [hi, hf, u64_wrap, u64_wrap]
  unfold okI at h
  show ((BitVec.ofInt 64 (x * 2 % 18446744073709551616) ^^^ BitVec.ofInt 64 (x / 9223372036854775808 % 18446744073709551616)).toNat : Int) % 18446744073709551616 = _
  by_cases hx : x < 0
  · rw [show x / 9223372036854775808 % 18446744073709551616 = 18446744073709551615 by omega]
    rw [show BitVec.ofInt 64 18446744073709551615 = BitVec.allOnes 64 by decide, BitVec.xor_allOnes, BitVec.toNat_not, BitVec.toNat_ofInt]
    unfold zig
    rw [if_pos hx]
    omega
  · rw [show x / 9223372036854775808 % 18446744073709551616 = 0 by omega]
    rw [show BitVec.ofInt 64 0 = 0#64 by decide, BitVec.xor_zero, BitVec.toNat_ofInt]
    unfold zig
    rw [if_neg hx]
    omega
theorem Int_c (x : Int) (h : okI x) (w : World) : Ret Tryz.prog 171 #[.int .i64 x] w fun v w' => FreshB w w' v (numB (zig x).toNat) := by
  have hz := zig_ok x h
  refine X.enter Tryz.func171 rfl Tryz.ntmps171 rfl ?_
  refine X.seq ?_
  refine X.region ?_
  refine X.opw X.wN rfl (X.assign rfl) ?_
  refine X.opsEnd ?_
  refine X.seq ?_
  refine X.region ?_
  refine X.opw X.wN rfl (X.move rfl) ?_
  refine X.opw X.wN rfl (X.shl rfl rfl (by decide) rfl) ?_
  refine X.opw X.wN rfl (X.cvI Tryz.underlying2 Tryz.underlying119 rfl rfl) ?_
  refine X.opw X.wN rfl (X.move rfl) ?_
  refine X.opw X.wN rfl (X.shr rfl rfl (by decide) rfl) ?_
  refine X.opw X.wN rfl (X.cvI Tryz.underlying2 Tryz.underlying119 rfl rfl) ?_
  refine X.opw X.wN rfl (X.xor_ rfl rfl (zig_xor x h)) ?_
  refine X.opE X.wN rfl (X.callE (Num_c _ hz.1 hz.2 w) Tryz.call52 rfl rfl) ?_
  rintro v w1 hv
  refine X.opw X.wN rfl (X.assign rfl) ?_
  refine X.opsEnd ?_
  refine X.ret1 Tryz.func171 Tryz.results171 rfl ?_
  exact hv
theorem RInt_c (x : Int) (h : okI x) (w : World) : Ret Tryz.prog 148 #[.int .i64 x] w fun v w' => FreshB w w' v (numB (zig x).toNat) := by
  have hz := zig_ok x h
  have hb := h
  unfold okI at hb
  refine X.enter Tryz.func148 rfl Tryz.ntmps148 rfl ?_
  refine X.seq ?_
  refine X.region ?_
  refine X.opw X.wN rfl (X.assign rfl) ?_
  refine X.opsEnd ?_
  refine X.seq ?_
  refine X.seq ?_
  refine X.region ?_
  refine X.opw X.wN rfl (X.move rfl) ?_
  refine X.opP X.wN rfl rfl (X.lss rfl rfl) (fun h4 => ?_) (fun h4 => ?_)
  · refine X.opsEnd ?_
    refine X.condT rfl ?_
    refine X.seq ?_
    refine X.region ?_
    refine X.opw X.wN rfl (X.move rfl) ?_
    refine X.opw X.wN rfl (X.add rfl rfl (X.w_i64 (by omega))) ?_
    refine X.opw X.wN rfl (X.neg rfl (X.w_i64 (by omega))) ?_
    refine X.opw X.wN rfl (X.cvI Tryz.underlying2 Tryz.underlying119 rfl (X.w_u64 (by omega))) ?_
    refine X.opw X.wN rfl (X.mul rfl rfl (X.w_u64 (by omega))) ?_
    refine X.opw X.wN rfl (X.add rfl rfl (X.w_u64 (by omega))) ?_
    refine X.opE X.wN rfl (X.callE (RNum_c _ (by omega) (by omega) w) Tryz.call55 rfl rfl) ?_
    rintro v w1 hv
    refine X.opw X.wN rfl (X.assign rfl) ?_
    refine X.opsEnd ?_
    refine X.ret1 Tryz.func148 Tryz.results148 rfl ?_
    rw [show zig x = (0 - (x + 1)) * 2 + 1 by unfold zig; rw [if_pos h4]; omega]
    exact hv
  · refine X.opsEnd ?_
    refine X.condF rfl ?_
    refine X.skip ?_
    refine X.seq ?_
    refine X.region ?_
    refine X.opw X.wN rfl (X.move rfl) ?_
    refine X.opw X.wN rfl (X.cvI Tryz.underlying2 Tryz.underlying119 rfl (X.w_u64 (by omega))) ?_
    refine X.opw X.wN rfl (X.mul rfl rfl (X.w_u64 (by omega))) ?_
    refine X.opE X.wN rfl (X.callE (RNum_c _ (by omega) (by omega) w) Tryz.call55 rfl rfl) ?_
    rintro v w1 hv
    refine X.opw X.wN rfl (X.assign rfl) ?_
    refine X.opsEnd ?_
    refine X.ret1 Tryz.func148 Tryz.results148 rfl ?_
    rw [show zig x = x * 2 by unfold zig; rw [if_neg h4]]
    exact hv
def textB (l : List UInt8) : List UInt8 := numB l.length ++ l
theorem Text_c {lo hi : Nat} {A : Option Addr} {n c : Nat} {l : List UInt8} (w : World) (hs : Sl KB lo hi w A n l) (hb : n ≤ 1000000) : Ret Tryz.prog 53 #[.slice A n c] w fun v w' => FreshB w w' v (textB l) := by
  have hn := numB_10 (n : Int) (by omega)
  have hl := hs.len
  refine X.enter Tryz.func53 rfl Tryz.ntmps53 rfl ?_
  refine X.seq ?_
  refine X.region ?_
  refine X.opw X.wN rfl (X.assign rfl) ?_
  refine X.opsEnd ?_
  refine X.seq ?_
  refine X.region ?_
  refine X.opw X.wN rfl (X.move rfl) ?_
  refine X.opw X.wN rfl (X.lenSl Tryz.underlying43 rfl) ?_
  refine X.opw X.wN rfl (X.cvI Tryz.underlying3 Tryz.underlying119 rfl (X.w_u64 (by omega))) ?_
  refine X.opE X.wN rfl (X.callE (Num_c _ (by omega) (by omega) w) Tryz.call52 rfl rfl) ?_
  rintro v w1 ⟨hM1, hk1⟩
  refine X.opw X.wN rfl (X.move rfl) ?_
  refine X.opE X.wN rfl (X.appE (K := KB) KB_flat Tryz.underlying43 E5 rfl rfl (hM1) (hs.keep hk1) (by simp only [Int.toNat_natCast] at *; omega) (app_hs hk1)) ?_
  rintro v2 w2 ⟨hM2, hx2⟩
  refine X.opw X.wN rfl (X.assign rfl) ?_
  refine X.opsEnd ?_
  refine X.ret1 Tryz.func53 Tryz.results53 rfl ?_
  exact ⟨by rw [textB, hl]; exact hM2, hk1.step hx2 (fun _ h => h)⟩
theorem RText_c {lo hi : Nat} {A : Option Addr} {n c : Nat} {l : List UInt8} (w : World) (hs : Sl KB lo hi w A n l) (hb : n ≤ 1000000) : Ret Tryz.prog 58 #[.slice A n c] w fun v w' => FreshB w w' v (textB l) := by
  have hn := numB_10 (n : Int) (by omega)
  have hl := hs.len
  refine X.enter Tryz.func58 rfl Tryz.ntmps58 rfl ?_
  refine X.seq ?_
  refine X.region ?_
  refine X.opw X.wN rfl (X.assign rfl) ?_
  refine X.opsEnd ?_
  refine X.seq ?_
  refine X.region ?_
  refine X.opw X.wN rfl (X.move rfl) ?_
  refine X.opw X.wN rfl (X.lenSl Tryz.underlying43 rfl) ?_
  refine X.opw X.wN rfl (X.cvI Tryz.underlying3 Tryz.underlying119 rfl (X.w_u64 (by omega))) ?_
  refine X.opE X.wN rfl (X.callE (RNum_c _ (by omega) (by omega) w) Tryz.call55 rfl rfl) ?_
  rintro v w1 ⟨hM1, hk1⟩
  refine X.opw X.wN rfl (X.move rfl) ?_
  refine X.opE X.wN rfl (X.appE (K := KB) KB_flat Tryz.underlying43 E5 rfl rfl (hM1) (hs.keep hk1) (by simp only [Int.toNat_natCast] at *; omega) (app_hs hk1)) ?_
  rintro v2 w2 ⟨hM2, hx2⟩
  refine X.opw X.wN rfl (X.assign rfl) ?_
  refine X.opsEnd ?_
  refine X.ret1 Tryz.func58 Tryz.results58 rfl ?_
  exact ⟨by rw [textB, hl]; exact hM2, hk1.step hx2 (fun _ h => h)⟩
end Go.Proofs.YtbljooblpfdbiaaGreatDoor
namespace Go.Proofs.YtbljooblpfdbiaaGreatDoor
open Go Go.Proofs.YtbljooblpfdbiaaGreatDoor.X
theorem EV : ElemInfo Tryz.prog 90 3 32 := ElemInfo.of (z := .agg #[.int .i64 0, .int .i64 0, .string ⟨#[]⟩]) (by kernel_rfl) rfl rfl rfl
def valB (v : VAL) : List UInt8 := if v.1 = 1 then 1 :: numB (zig v.2.1).toNat else 2 :: textB v.2.2.data.toList
def tupB (l : List VAL) : List UInt8 := UInt8.ofNat l.length :: l.flatMap valB
theorem sym_len (s : ByteArray) : s.data.toList.length = s.size := by rw [Array.length_toList]; rfl
theorem textB_len {l : List UInt8} (h : l.length ≤ 1000000) : (textB l).length ≤ 1000010 := by
  have := numB_10 (l.length : Int) (by omega)
  simp only [Int.toNat_natCast] at this
  rw [textB, List.length_append]; omega
theorem valB_len {v : VAL} (h : okV v) (hs : v.2.2.size ≤ 1000000) : (valB v).length ≤ 1000100 := by
  unfold valB
  split
  · have := numB_10 _ (zig_ok v.2.1 h.2.1).2
    simp; omega
  · have := textB_len (l := v.2.2.data.toList) (by rw [sym_len]; exact hs)
    simp; omega
theorem isV_size {v : VAL} (h : isV v = true) : v.2.2.size ≤ 256 := by
  simp only [isV, decide_eq_true_eq] at h
  rcases h with ⟨_, h⟩ | ⟨_, _, h⟩
  · rw [h]; decide
  · exact h
theorem one_c (v : VAL) (h : okV v) (hsz : v.2.2.size ≤ 1000000) (w : World) : Ret Tryz.prog 173 #[.agg (encV v).toArray] w fun r w' => FreshB w w' r (valB v) := by
  have hN := h.2.1
  have hz := numB_10 _ (zig_ok v.2.1 h.2.1).2
  have ht := textB_len (l := v.2.2.data.toList) (by rw [sym_len]; exact hsz)
  refine X.enter Tryz.func173 rfl Tryz.ntmps173 rfl ?_
  refine X.seq ?_
  refine X.region ?_
  refine X.opE X.wN rfl (X.boxE rfl rfl) ?_
  rintro _ w1 ⟨rfl, hB1, hk1, hz1⟩
  refine X.opw X.wN rfl (X.assign rfl) ?_
  refine X.opsEnd ?_
  refine X.seq ?_
  refine X.seq ?_
  refine X.region ?_
  refine X.opw X.wN rfl (X.fldB (j := 0) Tryz.underlying90 rfl rfl Tryz.sizeOf88 rfl) ?_
  refine X.opw X.wN rfl (X.load1B Tryz.isAgg88 hB1 rfl rfl) ?_
  refine X.opP X.wN rfl rfl (X.eqI rfl rfl) (fun h5 => ?_) (fun h5 => ?_)
  · refine X.opsEnd ?_
    refine X.condT rfl ?_
    refine X.seq ?_
    refine X.region ?_
    refine X.opE X.wN rfl (X.lit1B (y := 1) Tryz.underlying43 Tryz.sizeOf5 Tryz.zeroValue5 rfl) ?_
    rintro _ w2 ⟨rfl, hs2, hB2, hk2, hz2⟩
    refine X.opw X.wN rfl (X.fldB (j := 1) Tryz.underlying90 rfl rfl Tryz.sizeOf2 rfl) ?_
    refine X.opw X.wN rfl (X.load1B Tryz.isAgg2 (hB1.keep hk2) rfl rfl) ?_
    refine X.opE X.wN rfl (X.callE (RInt_c _ hN _) Tryz.call148 rfl rfl) ?_
    rintro v3 w3 ⟨hM3, hk3⟩
    have hk3' := hk3.size
    obtain ⟨A4, c4, rfl, hc4, hs4⟩ := hM3.slF KB_flat 0 (fun _ _ => Nat.zero_le _)
    refine X.opE X.wN rfl (X.appE (K := KB) (S := fun k => w.heap.size ≤ k) KB_flat Tryz.underlying43 E5 rfl rfl ((Mine.litB hB2 zq26).keep hk3) hs4 zq9 zq26) ?_
    rintro v5 w5 ⟨hM5, hx5⟩
    have hx5' := hx5.size
    refine X.opw X.wN rfl (X.assign rfl) ?_
    refine X.opsEnd ?_
    refine X.ret1 Tryz.func173 Tryz.results173 rfl ?_
    exact ⟨by rw [valB, if_pos h5]; exact hM5, (((hk1.trans hk2).trans hk3).step hx5 zq26)⟩
  · refine X.opsEnd ?_
    refine X.condF rfl ?_
    refine X.skip ?_
    refine X.seq ?_
    refine X.region ?_
    refine X.opE X.wN rfl (X.lit1B (y := 2) Tryz.underlying43 Tryz.sizeOf5 Tryz.zeroValue5 rfl) ?_
    rintro _ w6 ⟨rfl, hs6, hB6, hk6, hz6⟩
    refine X.opw X.wN rfl (X.fldB (j := 2) Tryz.underlying90 rfl rfl Tryz.sizeOf9 rfl) ?_
    refine X.opw X.wN rfl (X.load1B Tryz.isAgg9 (hB1.keep hk6) rfl rfl) ?_
    refine X.opE X.wN rfl (X.bytesE (K := KB) Tryz.underlying9 Tryz.underlying43 Tryz.underlying5 rfl (by omega) rfl KB_R) ?_
    rintro _ w7 ⟨c7, rfl, hc7, hs7, hk7, hz7⟩
    refine X.opE X.wN rfl (X.callE (RText_c _ hs7 (by omega)) Tryz.call58 rfl rfl) ?_
    rintro v8 w8 ⟨hM8, hk8⟩
    have hk8' := hk8.size
    obtain ⟨A9, c9, rfl, hc9, hs9⟩ := hM8.slF KB_flat 0 (fun _ _ => Nat.zero_le _)
    refine X.opE X.wN rfl (X.appE (K := KB) (S := fun k => w.heap.size ≤ k) KB_flat Tryz.underlying43 E5 rfl rfl ((Mine.litB hB6 zq26).keep (hk7.trans hk8)) hs9 zq9 zq26) ?_
    rintro v10 w10 ⟨hM10, hx10⟩
    have hx10' := hx10.size
    refine X.opw X.wN rfl (X.assign rfl) ?_
    refine X.opsEnd ?_
    refine X.ret1 Tryz.func173 Tryz.results173 rfl ?_
    exact ⟨by rw [valB, if_neg h5]; exact hM10, ((((hk1.trans hk6).trans hk7).trans hk8).step hx10 zq26)⟩
theorem flat_step {α β : Type} {l : List α} {i : Nat} {x : α} (f : α → List β) (hx : l[i]? = some x) : (l.take (i + 1)).flatMap f = (l.take i).flatMap f ++ f x := by
  rw [List.take_add_one, hx]; simp
theorem isT_at {l : List VAL} (h : isT l = true) {i : Nat} {x : VAL} (hx : l[i]? = some x) : isV x = true := by
  simp only [isT, Bool.and_eq_true, List.all_eq_true] at h
  exact h.1 x (List.mem_of_getElem? hx)
theorem isT_len {l : List VAL} (h : isT l = true) : l.length ≤ 8 := by
  simp only [isT, Bool.and_eq_true, decide_eq_true_eq] at h
  exact h.2
theorem flat_len {l : List VAL} (hT : isT l = true) (hok : ∀ (i : Nat) (x : VAL), l[i]? = some x → okV x) : ∀ i, i ≤ l.length → ((l.take i).flatMap valB).length ≤ i * 1000100 := by
  intro i
  induction i with
  | zero => intro _; simp
  | succ i ih =>
    intro h
    have hx : l[i]? = some l[i] := List.getElem?_eq_getElem (by omega)
    have h1 := ih (by omega)
    have h2 := valB_len (hok i _ hx) (Nat.le_trans (isV_size (isT_at hT hx)) (by omega))
    rw [flat_step valB hx, List.length_append]
    omega
theorem Tuple_c {lo hi : Nat} {A : Option Addr} {n c : Nat} {l : List VAL} (w : World) (hs : Sl KV lo hi w A n l) (hhi : hi ≤ w.heap.size) : Ret Tryz.prog 170 #[.slice A n c] w fun r w' => ∃ v, r = .tuple #[v, .int .i64 (if isT l then 0 else 20)] ∧ FreshB w w' v (if isT l then tupB l else []) := by
  have hn := hs.bound
  have hl := hs.len
  refine X.enter Tryz.func170 rfl Tryz.ntmps170 rfl ?_
  refine X.seq ?_
  refine X.region ?_
  refine X.opw X.wN rfl (X.assign rfl) ?_
  refine X.opw X.wN rfl (X.assign rfl) ?_
  refine X.opsEnd ?_
  refine X.seq ?_
  refine X.seq ?_
  refine X.region ?_
  refine X.opw X.wN rfl (X.move (v := .slice _ _ _) rfl) ?_
  refine X.opE X.wN rfl (X.callE (may_c _ hs) Tryz.call103 rfl rfl) ?_
  rintro _ w1 ⟨rfl, hk1⟩
  have hk1' := hk1.size
  refine X.opw X.wN rfl (X.not_ rfl) ?_
  refine X.opsEnd ?_
  refine X.condB rfl (fun hc => ?_) (fun hc => ?_)
  · refine X.seq ?_
    refine X.region ?_
    refine X.opw X.wN rfl (X.assign rfl) ?_
    refine X.opw X.wN rfl (X.assign rfl) ?_
    refine X.opsEnd ?_
    refine X.ret2 (v2 := (.int .i64 _)) Tryz.func170 Tryz.results170 rfl rfl ?_
    rw [if_neg (by simpa using hc), if_neg (by simpa using hc)]
    exact ⟨_, rfl, (Mine.nil _ _ _ _ _ _), hk1⟩
  · have hT : isT l = true := by simpa using hc
    refine X.skip ?_
    refine X.seq ?_
    refine X.region ?_
    refine X.opw X.wN rfl (X.move (v := .slice _ _ _) rfl) ?_
    refine X.opw X.wN rfl (X.lenSl Tryz.underlying38 rfl) ?_
    refine X.opw X.wN rfl (X.cvI Tryz.underlying3 Tryz.underlying5 rfl (u8_of _ (by omega))) ?_
    refine X.opE X.wN rfl (X.lit1B Tryz.underlying43 Tryz.sizeOf5 Tryz.zeroValue5 rfl) ?_
    rintro _ w2 ⟨rfl, hs2, hB2, hk2, hz2⟩
    refine X.opw X.wN rfl (X.assign rfl) ?_
    refine X.opsEnd ?_
    refine X.seq ?_
    refine X.seq ?_
    refine X.region ?_
    refine X.opw X.wN rfl (X.move (v := .slice _ _ _) rfl) ?_
    refine X.opw X.wN rfl (X.lenSl Tryz.underlying38 rfl) ?_
    refine X.opw X.wN rfl (X.move rfl) ?_
    refine X.opsEnd ?_
    refine X.block ?_
    refine X.loopL (σ := Nat × Value) (fun s => [(4, s.2), (14, .slice A n c), (15, .int .i64 (n : Int)), (16, .int .i64 (s.1 : Int))]) (fun s w' => s.1 ≤ n ∧ Mine KB 5 (fun k => w.heap.size ≤ k) 0 0 w' s.2 (UInt8.ofNat n :: (l.take s.1).flatMap valB) ∧ Keep w w') (fun s => n - s.1) (0, _) ⟨rfl, rfl, rfl, rfl, trivial⟩ ⟨Nat.zero_le _, (Mine.litB hB2 zq26), (hk1.trans hk2)⟩ ?_
    rintro ⟨i, v⟩ b w1 ⟨hi0, hM, hk⟩ hback
    simp only at hi0 hM
    have hk' := hk.size
    have hlen := flat_len hT (fun i x hx => KV_ok hs i x hx) i (by omega)
    have hn8 := isT_len hT
    refine X.seq ?_
    refine X.region ?_
    refine X.opP X.wN rfl rfl (X.lss rfl rfl) (fun h17 => ?_) (fun h17 => ?_)
    · obtain ⟨x, hx⟩ := getN i hl h17
      have hV := KV_ok hs i x hx
      have hN := hV.2.1
      have hsz := isV_size (isT_at hT hx)
      have hz := numB_10 _ (zig_ok x.2.1 hN).2
      have ht := textB_len (l := x.2.2.data.toList) (by rw [sym_len]; omega)
      have hsl := sym_len x.2.2
      have hvl := valB_len hV (by omega)
      refine X.opsEnd ?_
      refine X.seq ?_
      refine X.condT rfl ?_
      refine X.skip ?_
      refine X.seq ?_
      refine X.block ?_
      refine X.seq ?_
      refine X.region ?_
      refine X.opw X.wN rfl (X.idxS (hs.keep hk) Tryz.underlying38 Tryz.sizeOf90 rfl rfl ⟨by omega, by omega⟩) ?_
      refine X.opw X.wN rfl (X.loadSN Tryz.isAgg90 Tryz.sizeOf90 (hs.keep hk) hx rfl (fun _ h => h.1) rfl) ?_
      refine X.opE X.wN rfl (X.allocE Tryz.zeroValue90 rfl) ?_
      rintro _ w3 ⟨rfl, hB3, hk3, hz3⟩
      refine X.opE X.wN rfl (X.storeNE Tryz.sizeOf90 hB3 rfl rfl rfl rfl (encV_one _)) ?_
      rintro _ w4 ⟨hB4, hx4, hz4⟩
      refine X.opsEnd ?_
      refine X.seq ?_
      refine X.region ?_
      refine X.opw X.wN rfl (X.fldB (j := 0) Tryz.underlying90 rfl rfl Tryz.sizeOf88 rfl) ?_
      refine X.opw X.wN rfl (X.load1B Tryz.isAgg88 hB4 rfl rfl) ?_
      refine X.opsEnd ?_
      refine X.block ?_
      refine X.seq ?_
      refine X.region ?_
      refine X.opP X.wN rfl rfl (X.eqI rfl rfl) (fun h31 => ?_) (fun h31 => ?_)
      · have hM6 := Mine.mono (T := fun k => w.heap.size ≤ k ∧ k ≠ w1.heap.size) hM (fun k h1 h2 => ⟨h2, by omega⟩)
        replace hM6 := (hM6.keep (hk3.step hx4 zq26))
        refine X.opw X.wN rfl (X.assign (v := .bool true) rfl) ?_
        refine X.opsEnd ?_
        refine X.condT rfl ?_
        refine X.regionD (fun k => w.heap.size ≤ k ∧ k ≠ w1.heap.size) 7 (by kernel_rfl) (by kernel_rfl) (fun w5 hk5 hz5 => ?_)
        refine X.dTake 0 rfl (by kernel_rfl) (by kernel_rfl) (by kernel_rfl) (X.dwN rfl) (fun w' hk' => X.move rfl) ?_
        refine X.dTake 3 rfl (by kernel_rfl) (by kernel_rfl) (by kernel_rfl) (X.dwN rfl) (fun w' hk' => X.fldB (j := 1) Tryz.underlying90 rfl rfl Tryz.sizeOf2 rfl) ?_
        refine X.dTake 4 rfl (by kernel_rfl) (by kernel_rfl) (by kernel_rfl) (X.dwN rfl) (fun w' hk' => X.load1B Tryz.isAgg2 ((hB4.keep hk5).ext hk' zq28) rfl rfl) ?_
        refine X.dE (i := 1) (by kernel_rfl) rfl (X.dwN rfl) (X.lit1B (y := 1) Tryz.underlying43 Tryz.sizeOf5 Tryz.zeroValue5 rfl) (by rintro _ w6 ⟨rfl, hs6, hB6, hk6, hz6⟩ _; exact hk6.mono (fun _ _ h => h.elim)) ?_
        rintro _ w6 ⟨rfl, hs6, hB6, hk6, hz6⟩
        refine X.dE (i := 2) (by kernel_rfl) rfl (X.dwN rfl) (X.appE (K := KB) (S := fun k => w.heap.size ≤ k ∧ k ≠ w1.heap.size) KB_flat Tryz.underlying43 E5 rfl rfl (hM6.keep (hk5.trans hk6)) hs6 zq9 zq26) (by rintro v7 w7 ⟨hM7, hx7⟩ _; exact hx7) ?_
        rintro v7 w7 ⟨hM7, hx7⟩
        have hx7' := hx7.size
        refine X.dE (i := 5) (by kernel_rfl) rfl (X.dwN rfl) (X.callE (Int_c _ hN _) Tryz.call171 rfl rfl) (by rintro v8 w8 ⟨hM8, hk8⟩ _; exact hk8.mono (fun _ _ h => h.elim)) ?_
        rintro v8 w8 ⟨hM8, hk8⟩
        have hk8' := hk8.size
        obtain ⟨A9, c9, rfl, hc9, hs9⟩ := hM8.slF KB_flat 0 (fun _ _ => Nat.zero_le _)
        refine X.dE (i := 6) (by kernel_rfl) rfl (X.dwN rfl) (X.appE (K := KB) (S := fun k => w.heap.size ≤ k ∧ k ≠ w1.heap.size) KB_flat Tryz.underlying43 E5 rfl rfl (hM7.keep hk8) hs9 zq9 zq26) (by rintro v10 w10 ⟨hM10, hx10⟩ _; exact hx10) ?_
        rintro v10 w10 ⟨hM10, hx10⟩
        have hx10' := hx10.size
        refine X.dStep (i := 7) (by kernel_rfl) rfl (X.dwN rfl) (X.assign rfl) (fun h => absurd h (by decide)) ?_
        refine X.dEnd (by kernel_rfl) ?_
        refine X.inBlock ?_
        refine X.inBlock ?_
        refine X.region ?_
        refine X.opw X.wN rfl (X.add rfl rfl (X.w_i64 (by omega))) ?_
        refine X.opw X.wN rfl (X.move (v := .int .i64 _) rfl) ?_
        refine X.opsEnd ?_
        refine hback (i + 1, _) _ _ ⟨rfl, rfl, rfl, rfl, trivial⟩ ⟨by simp only []; omega, ?_, (((((((hk.trans hk3).step hx4 zq26).trans hk5).trans hk6).step hx7 zq26).trans hk8).step hx10 zq26)⟩ (by simp only []; omega)
        have e := hM10.mono (T := fun k => w.heap.size ≤ k) (fun k _ h => h.1)
        simp only []
        rw [flat_step valB hx, valB, if_pos h31]
        simpa only [List.cons_append, List.append_assoc, List.singleton_append, List.nil_append, List.append_nil] using e
      · have hM6 := Mine.mono (T := fun k => w.heap.size ≤ k ∧ k ≠ w1.heap.size) hM (fun k h1 h2 => ⟨h2, by omega⟩)
        replace hM6 := (hM6.keep (hk3.step hx4 zq26))
        refine X.opw X.wN rfl (X.assign (v := .bool false) rfl) ?_
        refine X.opsEnd ?_
        refine X.condF rfl ?_
        refine X.regionD (fun k => w.heap.size ≤ k ∧ k ≠ w1.heap.size) 8 (by kernel_rfl) (by kernel_rfl) (fun w11 hk11 hz11 => ?_)
        refine X.dTake 0 rfl (by kernel_rfl) (by kernel_rfl) (by kernel_rfl) (X.dwN rfl) (fun w' hk' => X.move rfl) ?_
        refine X.dTake 3 rfl (by kernel_rfl) (by kernel_rfl) (by kernel_rfl) (X.dwN rfl) (fun w' hk' => X.fldB (j := 2) Tryz.underlying90 rfl rfl Tryz.sizeOf9 rfl) ?_
        refine X.dTake 4 rfl (by kernel_rfl) (by kernel_rfl) (by kernel_rfl) (X.dwN rfl) (fun w' hk' => X.load1B Tryz.isAgg9 ((hB4.keep hk11).ext hk' zq28) rfl rfl) ?_
        refine X.dTwo (i := 1) (j := 5) (by kernel_rfl) ?_ ?_
        · refine X.d1E (i := 1) rfl (X.dwN rfl) (X.lit1B (y := 2) Tryz.underlying43 Tryz.sizeOf5 Tryz.zeroValue5 rfl) (by rintro _ w12 ⟨rfl, hs12, hB12, hk12, hz12⟩ _; exact hk12.mono (fun _ _ h => h.elim)) ?_
          rintro _ w12 ⟨rfl, hs12, hB12, hk12, hz12⟩
          refine X.dTwo (i := 2) (j := 5) (by kernel_rfl) ?_ ?_
          · refine X.d1E (i := 2) rfl (X.dwN rfl) (X.appE (K := KB) (S := fun k => w.heap.size ≤ k ∧ k ≠ w1.heap.size) KB_flat Tryz.underlying43 E5 rfl rfl (hM6.keep (hk11.trans hk12)) hs12 zq9 zq26) (by rintro v13 w13 ⟨hM13, hx13⟩ _; exact hx13) ?_
            rintro v13 w13 ⟨hM13, hx13⟩
            have hx13' := hx13.size
            refine X.dE (i := 5) (by kernel_rfl) rfl (X.dwN rfl) (X.bytesE (K := KB) Tryz.underlying9 Tryz.underlying43 Tryz.underlying5 rfl (by omega) rfl KB_R) (by rintro _ w14 ⟨c14, rfl, hc14, hs14, hk14, hz14⟩ _; exact hk14.mono (fun _ _ h => h.elim)) ?_
            rintro _ w14 ⟨c14, rfl, hc14, hs14, hk14, hz14⟩
            refine X.dE (i := 6) (by kernel_rfl) rfl (X.dwN rfl) (X.callE (Text_c _ hs14 (by omega)) Tryz.call53 rfl rfl) (by rintro v15 w15 ⟨hM15, hk15⟩ _; exact hk15.mono (fun _ _ h => h.elim)) ?_
            rintro v15 w15 ⟨hM15, hk15⟩
            have hk15' := hk15.size
            obtain ⟨A16, c16, rfl, hc16, hs16⟩ := hM15.slF KB_flat 0 (fun _ _ => Nat.zero_le _)
            refine X.dE (i := 7) (by kernel_rfl) rfl (X.dwN rfl) (X.appE (K := KB) (S := fun k => w.heap.size ≤ k ∧ k ≠ w1.heap.size) KB_flat Tryz.underlying43 E5 rfl rfl (hM13.keep (hk14.trans hk15)) hs16 zq9 zq26) (by rintro v17 w17 ⟨hM17, hx17⟩ _; exact hx17) ?_
            rintro v17 w17 ⟨hM17, hx17⟩
            have hx17' := hx17.size
            refine X.dStep (i := 8) (by kernel_rfl) rfl (X.dwN rfl) (X.assign rfl) (fun h => absurd h (by decide)) ?_
            refine X.dEnd (by kernel_rfl) ?_
            refine X.inBlock ?_
            refine X.inBlock ?_
            refine X.region ?_
            refine X.opw X.wN rfl (X.add rfl rfl (X.w_i64 (by omega))) ?_
            refine X.opw X.wN rfl (X.move (v := .int .i64 _) rfl) ?_
            refine X.opsEnd ?_
            refine hback (i + 1, _) _ _ ⟨rfl, rfl, rfl, rfl, trivial⟩ ⟨by simp only []; omega, ?_, ((((((((hk.trans hk3).step hx4 zq26).trans hk11).trans hk12).step hx13 zq26).trans hk14).trans hk15).step hx17 zq26)⟩ (by simp only []; omega)
            have e := hM17.mono (T := fun k => w.heap.size ≤ k) (fun k _ h => h.1)
            simp only []
            rw [flat_step valB hx, valB, if_neg h31]
            simpa only [List.cons_append, List.append_assoc, List.singleton_append, List.nil_append, List.append_nil] using e
          · refine X.d1E (i := 5) rfl (X.dwN rfl) (X.bytesE (K := KB) Tryz.underlying9 Tryz.underlying43 Tryz.underlying5 rfl (by omega) rfl KB_R) (by rintro _ w18 ⟨c18, rfl, hc18, hs18, hk18, hz18⟩ _; exact hk18.mono (fun _ _ h => h.elim)) ?_
            rintro _ w18 ⟨c18, rfl, hc18, hs18, hk18, hz18⟩
            refine X.dE (i := 2) (by kernel_rfl) rfl (X.dwN rfl) (X.appE (K := KB) (S := fun k => w.heap.size ≤ k ∧ k ≠ w1.heap.size ∧ k ≠ w12.heap.size) KB_flat Tryz.underlying43 E5 rfl rfl ((Mine.mono (T := fun k => w.heap.size ≤ k ∧ k ≠ w1.heap.size ∧ k ≠ w12.heap.size) (hM6.keep (hk11.trans hk12)) (fun k h1 h2 => by (try simp only [] at *); omega)).keep hk18) (hs12.keep hk18) zq9 zq26) (by rintro v19 w19 ⟨hM19, hx19⟩ _; exact hx19.mono (fun k _ h => by (try simp only [] at *); omega)) ?_
            rintro v19 w19 ⟨hM19, hx19⟩
            replace hM19 := Mine.mono (T := fun k => w.heap.size ≤ k ∧ k ≠ w1.heap.size) hM19 (fun k _ h => by (try simp only [] at *); omega)
            have hx19' := hx19.size
            refine X.dE (i := 6) (by kernel_rfl) rfl (X.dwN rfl) (X.callE (Text_c _ (hs18.ext hx19 zq28) (by omega)) Tryz.call53 rfl rfl) (by rintro v20 w20 ⟨hM20, hk20⟩ _; exact hk20.mono (fun _ _ h => h.elim)) ?_
            rintro v20 w20 ⟨hM20, hk20⟩
            have hk20' := hk20.size
            obtain ⟨A21, c21, rfl, hc21, hs21⟩ := hM20.slF KB_flat 0 (fun _ _ => Nat.zero_le _)
            refine X.dE (i := 7) (by kernel_rfl) rfl (X.dwN rfl) (X.appE (K := KB) (S := fun k => w.heap.size ≤ k ∧ k ≠ w1.heap.size) KB_flat Tryz.underlying43 E5 rfl rfl (hM19.keep hk20) hs21 zq9 zq26) (by rintro v22 w22 ⟨hM22, hx22⟩ _; exact hx22) ?_
            rintro v22 w22 ⟨hM22, hx22⟩
            have hx22' := hx22.size
            refine X.dStep (i := 8) (by kernel_rfl) rfl (X.dwN rfl) (X.assign rfl) (fun h => absurd h (by decide)) ?_
            refine X.dEnd (by kernel_rfl) ?_
            refine X.inBlock ?_
            refine X.inBlock ?_
            refine X.region ?_
            refine X.opw X.wN rfl (X.add rfl rfl (X.w_i64 (by omega))) ?_
            refine X.opw X.wN rfl (X.move (v := .int .i64 _) rfl) ?_
            refine X.opsEnd ?_
            refine hback (i + 1, _) _ _ ⟨rfl, rfl, rfl, rfl, trivial⟩ ⟨by simp only []; omega, ?_, ((((((((hk.trans hk3).step hx4 zq26).trans hk11).trans hk12).trans hk18).step hx19 zq26).trans hk20).step hx22 zq26)⟩ (by simp only []; omega)
            have e := hM22.mono (T := fun k => w.heap.size ≤ k) (fun k _ h => h.1)
            simp only []
            rw [flat_step valB hx, valB, if_neg h31]
            simpa only [List.cons_append, List.append_assoc, List.singleton_append, List.nil_append, List.append_nil] using e
        · refine X.d1E (i := 5) rfl (X.dwN rfl) (X.bytesE (K := KB) Tryz.underlying9 Tryz.underlying43 Tryz.underlying5 rfl (by omega) rfl KB_R) (by rintro _ w23 ⟨c23, rfl, hc23, hs23, hk23, hz23⟩ _; exact hk23.mono (fun _ _ h => h.elim)) ?_
          rintro _ w23 ⟨c23, rfl, hc23, hs23, hk23, hz23⟩
          refine X.dE (i := 1) (by kernel_rfl) rfl (X.dwN rfl) (X.lit1B (y := 2) Tryz.underlying43 Tryz.sizeOf5 Tryz.zeroValue5 rfl) (by rintro _ w24 ⟨rfl, hs24, hB24, hk24, hz24⟩ _; exact hk24.mono (fun _ _ h => h.elim)) ?_
          rintro _ w24 ⟨rfl, hs24, hB24, hk24, hz24⟩
          refine X.dE (i := 2) (by kernel_rfl) rfl (X.dwN rfl) (X.appE (K := KB) (S := fun k => w.heap.size ≤ k ∧ k ≠ w1.heap.size ∧ k ≠ w11.heap.size) KB_flat Tryz.underlying43 E5 rfl rfl ((Mine.mono (T := fun k => w.heap.size ≤ k ∧ k ≠ w1.heap.size ∧ k ≠ w11.heap.size) (hM6.keep hk11) (fun k h1 h2 => by (try simp only [] at *); omega)).keep (hk23.trans hk24)) hs24 zq9 zq26) (by rintro v25 w25 ⟨hM25, hx25⟩ _; exact hx25.mono (fun k _ h => by (try simp only [] at *); omega)) ?_
          rintro v25 w25 ⟨hM25, hx25⟩
          replace hM25 := Mine.mono (T := fun k => w.heap.size ≤ k ∧ k ≠ w1.heap.size) hM25 (fun k _ h => by (try simp only [] at *); omega)
          have hx25' := hx25.size
          refine X.dE (i := 6) (by kernel_rfl) rfl (X.dwN rfl) (X.callE (Text_c _ ((hs23.keep hk24).ext hx25 zq28) (by omega)) Tryz.call53 rfl rfl) (by rintro v26 w26 ⟨hM26, hk26⟩ _; exact hk26.mono (fun _ _ h => h.elim)) ?_
          rintro v26 w26 ⟨hM26, hk26⟩
          have hk26' := hk26.size
          obtain ⟨A27, c27, rfl, hc27, hs27⟩ := hM26.slF KB_flat 0 (fun _ _ => Nat.zero_le _)
          refine X.dE (i := 7) (by kernel_rfl) rfl (X.dwN rfl) (X.appE (K := KB) (S := fun k => w.heap.size ≤ k ∧ k ≠ w1.heap.size) KB_flat Tryz.underlying43 E5 rfl rfl (hM25.keep hk26) hs27 zq9 zq26) (by rintro v28 w28 ⟨hM28, hx28⟩ _; exact hx28) ?_
          rintro v28 w28 ⟨hM28, hx28⟩
          have hx28' := hx28.size
          refine X.dStep (i := 8) (by kernel_rfl) rfl (X.dwN rfl) (X.assign rfl) (fun h => absurd h (by decide)) ?_
          refine X.dEnd (by kernel_rfl) ?_
          refine X.inBlock ?_
          refine X.inBlock ?_
          refine X.region ?_
          refine X.opw X.wN rfl (X.add rfl rfl (X.w_i64 (by omega))) ?_
          refine X.opw X.wN rfl (X.move (v := .int .i64 _) rfl) ?_
          refine X.opsEnd ?_
          refine hback (i + 1, _) _ _ ⟨rfl, rfl, rfl, rfl, trivial⟩ ⟨by simp only []; omega, ?_, ((((((((hk.trans hk3).step hx4 zq26).trans hk11).trans hk23).trans hk24).step hx25 zq26).trans hk26).step hx28 zq26)⟩ (by simp only []; omega)
          have e := hM28.mono (T := fun k => w.heap.size ≤ k) (fun k _ h => h.1)
          simp only []
          rw [flat_step valB hx, valB, if_neg h31]
          simpa only [List.cons_append, List.append_assoc, List.singleton_append, List.nil_append, List.append_nil] using e
    · refine X.opsEnd ?_
      refine X.seq ?_
      refine X.condF rfl ?_
      refine X.exit rfl ?_
      refine X.seq ?_
      refine X.region ?_
      refine X.opw X.wN rfl (X.move rfl) ?_
      refine X.opw X.wN rfl (X.assign rfl) ?_
      refine X.opw X.wN rfl (X.assign rfl) ?_
      refine X.opsEnd ?_
      refine X.ret2 (v2 := (.int .i64 _)) Tryz.func170 Tryz.results170 rfl rfl ?_
      have e := hM
      rw [show i = l.length by omega, List.take_length] at e
      refine ⟨_, by rw [if_pos hT], ?_, hk⟩
      rw [if_pos hT, tupB, hl]
      exact e
theorem RTuple_c {lo hi : Nat} {A : Option Addr} {n c : Nat} {l : List VAL} (w : World) (hs : Sl KV lo hi w A n l) (hhi : hi ≤ w.heap.size) : Ret Tryz.prog 147 #[.slice A n c] w fun r w' => ∃ v, r = .tuple #[v, .int .i64 (if isT l then 0 else 20)] ∧ FreshB w w' v (if isT l then tupB l else []) := by
  have hn := hs.bound
  have hl := hs.len
  refine X.enter Tryz.func147 rfl Tryz.ntmps147 rfl ?_
  refine X.seq ?_
  refine X.region ?_
  refine X.opw X.wN rfl (X.assign rfl) ?_
  refine X.opw X.wN rfl (X.assign rfl) ?_
  refine X.opsEnd ?_
  refine X.seq ?_
  refine X.seq ?_
  refine X.region ?_
  refine X.opw X.wN rfl (X.move (v := .slice _ _ _) rfl) ?_
  refine X.opE X.wN rfl (X.callE (R03Is_c _ hs) Tryz.call107 rfl rfl) ?_
  rintro _ w1 ⟨rfl, hk1⟩
  have hk1' := hk1.size
  refine X.opw X.wN rfl (X.not_ rfl) ?_
  refine X.opsEnd ?_
  refine X.condB rfl (fun hc => ?_) (fun hc => ?_)
  · refine X.seq ?_
    refine X.region ?_
    refine X.opw X.wN rfl (X.assign rfl) ?_
    refine X.opw X.wN rfl (X.assign rfl) ?_
    refine X.opsEnd ?_
    refine X.ret2 (v2 := (.int .i64 _)) Tryz.func147 Tryz.results147 rfl rfl ?_
    rw [if_neg (by simpa using hc), if_neg (by simpa using hc)]
    exact ⟨_, rfl, (Mine.nil _ _ _ _ _ _), hk1⟩
  · have hT : isT l = true := by simpa using hc
    refine X.skip ?_
    refine X.seq ?_
    refine X.region ?_
    refine X.opw X.wN rfl (X.move (v := .slice _ _ _) rfl) ?_
    refine X.opw X.wN rfl (X.lenSl Tryz.underlying38 rfl) ?_
    refine X.opw X.wN rfl (X.cvI Tryz.underlying3 Tryz.underlying5 rfl (u8_of _ (by omega))) ?_
    refine X.opE X.wN rfl (X.lit1B Tryz.underlying43 Tryz.sizeOf5 Tryz.zeroValue5 rfl) ?_
    rintro _ w2 ⟨rfl, hs2, hB2, hk2, hz2⟩
    refine X.opw X.wN rfl (X.assign rfl) ?_
    refine X.opsEnd ?_
    refine X.seq ?_
    refine X.seq ?_
    refine X.region ?_
    refine X.opw X.wN rfl (X.assign rfl) ?_
    refine X.opsEnd ?_
    refine X.block ?_
    refine X.loopL (σ := Nat × Value) (fun s => [(0, .slice A n c), (4, s.2), (5, .int .i64 (s.1 : Int))]) (fun s w' => s.1 ≤ n ∧ Mine KB 5 (fun k => w.heap.size ≤ k) 0 0 w' s.2 (UInt8.ofNat n :: (l.take s.1).flatMap valB) ∧ Keep w w') (fun s => n - s.1) (0, _) ⟨rfl, rfl, rfl, trivial⟩ ⟨Nat.zero_le _, (Mine.litB hB2 zq26), (hk1.trans hk2)⟩ ?_
    rintro ⟨i, v⟩ b w1 ⟨hi0, hM, hk⟩ hback
    simp only at hi0 hM
    have hk' := hk.size
    have hlen := flat_len hT (fun i x hx => KV_ok hs i x hx) i (by omega)
    have hn8 := isT_len hT
    refine X.seq ?_
    refine X.seq ?_
    refine X.region ?_
    refine X.opw X.wN rfl (X.move (v := .int .i64 _) rfl) ?_
    refine X.opw X.wN rfl (X.move (v := .slice _ _ _) rfl) ?_
    refine X.opw X.wN rfl (X.lenSl Tryz.underlying38 rfl) ?_
    refine X.opP X.wN rfl rfl (X.lss rfl rfl) (fun h16 => ?_) (fun h16 => ?_)
    · obtain ⟨x, hx⟩ := getN i hl h16
      have hV := KV_ok hs i x hx
      have hN := hV.2.1
      have hsz := isV_size (isT_at hT hx)
      have hz := numB_10 _ (zig_ok x.2.1 hN).2
      have ht := textB_len (l := x.2.2.data.toList) (by rw [sym_len]; omega)
      have hsl := sym_len x.2.2
      have hvl := valB_len hV (by omega)
      refine X.opsEnd ?_
      refine X.condT rfl ?_
      refine X.skip ?_
      refine X.seq ?_
      refine X.block ?_
      refine X.region ?_
      refine X.opw X.wN rfl (X.move rfl) ?_
      refine X.opw X.wN rfl (X.move (v := .slice _ _ _) rfl) ?_
      refine X.opw X.wN rfl (X.move (v := .int .i64 _) rfl) ?_
      refine X.opw X.wN rfl (X.idxS (hs.keep hk) Tryz.underlying38 Tryz.sizeOf90 rfl rfl ⟨by omega, by omega⟩) ?_
      refine X.opw X.wN rfl (X.loadSN Tryz.isAgg90 Tryz.sizeOf90 (hs.keep hk) hx rfl (fun _ h => h.1) rfl) ?_
      refine X.opE X.wN rfl (X.callE (one_c x hV (by omega) _) Tryz.call173 rfl rfl) ?_
      rintro v3 w3 ⟨hM3, hk3⟩
      have hk3' := hk3.size
      obtain ⟨A4, c4, rfl, hc4, hs4⟩ := hM3.slF KB_flat 0 (fun _ _ => Nat.zero_le _)
      refine X.opE X.wN rfl (X.appE (K := KB) (S := fun k => w.heap.size ≤ k) KB_flat Tryz.underlying43 E5 rfl rfl (hM.keep hk3) hs4 zq9 zq26) ?_
      rintro v5 w5 ⟨hM5, hx5⟩
      have hx5' := hx5.size
      refine X.opw X.wN rfl (X.assign rfl) ?_
      refine X.opsEnd ?_
      refine X.inBlock ?_
      refine X.region ?_
      refine X.opw X.wN rfl (X.move (v := .int .i64 _) rfl) ?_
      refine X.opw X.wN rfl (X.add rfl rfl (X.w_i64 (by omega))) ?_
      refine X.opw X.wN rfl (X.assign (v := .int .i64 _) rfl) ?_
      refine X.opsEnd ?_
      refine hback (i + 1, _) _ _ ⟨rfl, rfl, rfl, trivial⟩ ⟨by simp only []; omega, ?_, ((hk.trans hk3).step hx5 zq26)⟩ (by simp only []; omega)
      have e := hM5
      simp only []
      rw [flat_step valB hx, ← List.cons_append]
      exact e
    · refine X.opsEnd ?_
      refine X.condF rfl ?_
      refine X.exit rfl ?_
      refine X.seq ?_
      refine X.region ?_
      refine X.opw X.wN rfl (X.move rfl) ?_
      refine X.opw X.wN rfl (X.assign rfl) ?_
      refine X.opw X.wN rfl (X.assign rfl) ?_
      refine X.opsEnd ?_
      refine X.ret2 (v2 := (.int .i64 _)) Tryz.func147 Tryz.results147 rfl rfl ?_
      have e := hM
      rw [show i = l.length by omega, List.take_length] at e
      refine ⟨_, by rw [if_pos hT], ?_, hk⟩
      rw [if_pos hT, tupB, hl]
      exact e
end Go.Proofs.YtbljooblpfdbiaaGreatDoor
namespace Go.Proofs.YtbljooblpfdbiaaGreatDoor
open Go Go.Proofs.YtbljooblpfdbiaaGreatDoor.X
def keyAt (K k : Nat) : UInt8 := UInt8.ofNat (K / 256 ^ (7 - k))
def keyN (x : Int) : Nat := (x + 9223372036854775808).toNat
def escB (c : UInt8) : List UInt8 := if c = 0 then [0, 255] else [c]
def valK (v : VAL) : List UInt8 := if v.1 = 1 then 1 :: (List.range 8).map (keyAt (keyN v.2.1)) else 2 :: (v.2.2.data.toList.flatMap escB ++ [0, 1])
def keyB (l : List VAL) : List UInt8 := l.flatMap valK
theorem keyN_ok {x : Int} (h : okI x) : (keyN x : Int) = x + 9223372036854775808 ∧ keyN x < 18446744073709551616 := by
  unfold okI at h; unfold keyN; omega
theorem esc_len : ∀ l : List UInt8, (l.flatMap escB).length ≤ 2 * l.length := by
  intro l
  induction l with
  | nil => simp
  | cons c l ih =>
    have : (escB c).length ≤ 2 := by unfold escB; split <;> simp
    rw [List.flatMap_cons, List.length_append, List.length_cons]; omega
theorem valK_len {v : VAL} (hs : v.2.2.size ≤ 256) : (valK v).length ≤ 1000 := by
  unfold valK
  split
  · simp
  · have := esc_len v.2.2.data.toList
    rw [sym_len] at this
    simp only [List.length_cons, List.length_append, List.length_nil]; omega
theorem keyL_len {l : List VAL} (hT : isT l = true) : ∀ i, i ≤ l.length → ((l.take i).flatMap valK).length ≤ i * 1000 := by
  intro i
  induction i with
  | zero => intro _; simp
  | succ i ih =>
    intro h
    have hx : l[i]? = some l[i] := List.getElem?_eq_getElem (by omega)
    have h1 := ih (by omega)
    have h2 := valK_len (isV_size (isT_at hT hx))
    rw [flat_step valK hx, List.length_append]
    omega
theorem xor63 (n : Nat) (h : n < 18446744073709551616) : n ^^^ 9223372036854775808 = (n + 9223372036854775808) % 18446744073709551616 := by
  have h1 : (n ^^^ 9223372036854775808) / 2 ^ 63 = n / 2 ^ 63 ^^^ 9223372036854775808 / 2 ^ 63 := Nat.xor_div_two_pow
  have h2 : (n ^^^ 9223372036854775808) % 2 ^ 63 = n % 2 ^ 63 ^^^ 9223372036854775808 % 2 ^ 63 := Nat.xor_mod_two_pow
  rw [show (9223372036854775808 : Nat) / 2 ^ 63 = 1 by decide] at h1
  rw [show (9223372036854775808 : Nat) % 2 ^ 63 = 0 by decide, Nat.xor_zero] at h2
  rw [show (2 : Nat) ^ 63 = 9223372036854775808 by decide] at h1 h2
  have h3 : n / 9223372036854775808 = 0 ∨ n / 9223372036854775808 = 1 := by omega
  rcases h3 with h3 | h3
  · rw [h3, Nat.zero_xor] at h1; omega
  · rw [h3, Nat.xor_self] at h1; omega
theorem kxor (x : Int) (h : okI x) : IntKind.u64.wrap ((BitVec.ofInt IntKind.u64.bits (x % 18446744073709551616) ^^^ BitVec.ofInt IntKind.u64.bits 9223372036854775808).toNat : Int) = ((keyN x : Nat) : Int) := by
  rw [(keyN_ok h).1, u64_wrap]
  unfold okI at h
  show ((BitVec.ofInt 64 (x % 18446744073709551616) ^^^ 9223372036854775808#64).toNat : Int) % 18446744073709551616 = _
  rw [BitVec.toNat_xor, BitVec.toNat_ofInt, BitVec.toNat_ofNat, Nat.mod_eq_of_lt (a := 9223372036854775808) (by decide), xor63 _ (by omega)]
  omega
theorem shrK (K c : Nat) (hc : c ≤ 7) : ((K : Nat) : Int).fdiv (2 ^ (min (8 * (7 - (c : Int))).toNat IntKind.u64.bits)) = ((K / 256 ^ (7 - c) : Nat) : Int) := by
  have e : min (8 * (7 - (c : Int))).toNat IntKind.u64.bits = 8 * (7 - c) := by
    show min _ 64 = _
    omega
  rw [e, Int.fdiv_eq_ediv_of_nonneg _ (by exact Int.le_of_lt (Int.pow_pos (by decide)))]
  rw [show (256 : Nat) ^ (7 - c) = 2 ^ (8 * (7 - c)) by rw [Nat.pow_mul]]
  push_cast
  rfl
theorem keyAt_8 (K c : Nat) : IntKind.u8.wrap ((K / 256 ^ (7 - c) : Nat) : Int) = ((keyAt K c).toNat : Int) := by
  rw [u8_wrap, keyAt, UInt8.toNat_ofNat']; omega
def xK (K c : Nat) : Nat := K * 256 ^ c % 18446744073709551616
theorem kadd (x : Int) (h : okI x) : IntKind.u64.wrap (x % 18446744073709551616 + 9223372036854775808) = ((xK (keyN x) 0 : Nat) : Int) := by
  have := keyN_ok h
  rw [u64_wrap, xK, Nat.pow_zero, Nat.mul_one]
  unfold okI at h
  omega
theorem xK_quo (K c : Nat) : IntKind.u64.wrap (((xK K c : Nat) : Int).tdiv 72057594037927936) = ((xK K c / 72057594037927936 : Nat) : Int) := by
  have : xK K c < 18446744073709551616 := Nat.mod_lt _ (by decide)
  rw [u64_wrap]
  show ((xK K c / 72057594037927936 : Nat) : Int) % _ = _
  omega
theorem xK_8 (K c : Nat) (hK : K < 18446744073709551616) (hc : c ≤ 7) : IntKind.u8.wrap ((xK K c / 72057594037927936 : Nat) : Int) = ((keyAt K c).toNat : Int) := by
  rw [← keyAt_8, u8_wrap, u8_wrap, xK]
  rcases (by omega : c = 0 ∨ c = 1 ∨ c = 2 ∨ c = 3 ∨ c = 4 ∨ c = 5 ∨ c = 6 ∨ c = 7) with rfl | rfl | rfl | rfl | rfl | rfl | rfl | rfl <;> simp only [Nat.reducePow, Nat.reduceSub] <;> omega
theorem xK_mul (K c : Nat) : IntKind.u64.wrap (((xK K c : Nat) : Int) * 256) = ((xK K (c + 1) : Nat) : Int) := by
  rw [u64_wrap, xK, xK, Nat.pow_succ]
  generalize 256 ^ c = p
  rw [← Nat.mul_assoc]
  generalize K * p = q
  omega
theorem range_step (f : Nat → UInt8) (c : Nat) : (List.range (c + 1)).map f = (List.range c).map f ++ [f c] := by
  rw [List.range_succ, List.map_append]; rfl
theorem u8_0 {y : UInt8} (h : ((y.toNat : Nat) : Int) = 0) : y = 0 := UInt8.toNat_inj.1 (by simpa using h)
theorem Key_c {lo hi : Nat} {A : Option Addr} {n c : Nat} {l : List VAL} (w : World) (hs : Sl KV lo hi w A n l) (hhi : hi ≤ w.heap.size) : Ret Tryz.prog 51 #[.slice A n c] w fun r w' => ∃ v, r = .tuple #[v, .int .i64 (if isT l then 0 else 20)] ∧ FreshB w w' v (if isT l then keyB l else []) := by
  have hn := hs.bound
  have hl := hs.len
  refine X.enter Tryz.func51 rfl Tryz.ntmps51 rfl ?_
  refine X.seq ?_
  refine X.region ?_
  refine X.opw X.wN rfl (X.assign rfl) ?_
  refine X.opw X.wN rfl (X.assign rfl) ?_
  refine X.opsEnd ?_
  refine X.seq ?_
  refine X.seq ?_
  refine X.region ?_
  refine X.opw X.wN rfl (X.move (v := .slice _ _ _) rfl) ?_
  refine X.opE X.wN rfl (X.callE (may_c _ hs) Tryz.call103 rfl rfl) ?_
  rintro _ w1 ⟨rfl, hk1⟩
  have hk1' := hk1.size
  refine X.opw X.wN rfl (X.not_ rfl) ?_
  refine X.opsEnd ?_
  refine X.condB rfl (fun hc => ?_) (fun hc => ?_)
  · refine X.seq ?_
    refine X.region ?_
    refine X.opw X.wN rfl (X.assign rfl) ?_
    refine X.opw X.wN rfl (X.assign rfl) ?_
    refine X.opsEnd ?_
    refine X.ret2 (v2 := (.int .i64 _)) Tryz.func51 Tryz.results51 rfl rfl ?_
    rw [if_neg (by simpa using hc), if_neg (by simpa using hc)]
    exact ⟨_, rfl, (Mine.nil _ _ _ _ _ _), hk1⟩
  · have hT : isT l = true := by simpa using hc
    refine X.skip ?_
    refine X.seq ?_
    refine X.region ?_
    refine X.opw X.wN rfl (X.assign rfl) ?_
    refine X.opsEnd ?_
    refine X.seq ?_
    refine X.seq ?_
    refine X.region ?_
    refine X.opw X.wN rfl (X.move (v := .slice _ _ _) rfl) ?_
    refine X.opw X.wN rfl (X.lenSl Tryz.underlying38 rfl) ?_
    refine X.opw X.wN rfl (X.move rfl) ?_
    refine X.opsEnd ?_
    refine X.block ?_
    refine X.loopL (σ := Nat × Value) (fun s => [(4, s.2), (13, .slice A n c), (14, .int .i64 (n : Int)), (15, .int .i64 (s.1 : Int))]) (fun s w' => s.1 ≤ n ∧ Mine KB 5 (fun k => w.heap.size ≤ k) 0 0 w' s.2 ((l.take s.1).flatMap valK) ∧ Keep w w') (fun s => n - s.1) (0, _) ⟨rfl, rfl, rfl, rfl, trivial⟩ ⟨Nat.zero_le _, (Mine.nil _ _ _ _ _ _), hk1⟩ ?_
    rintro ⟨i, v⟩ b w1 ⟨hi0, hM, hk⟩ hback
    simp only at hi0 hM
    have hk' := hk.size
    have hlen := keyL_len hT i (by omega)
    have hn8 := isT_len hT
    refine X.seq ?_
    refine X.region ?_
    refine X.opP X.wN rfl rfl (X.lss rfl rfl) (fun h16 => ?_) (fun h16 => ?_)
    · obtain ⟨x, hx⟩ := getN i hl h16
      have hV := KV_ok hs i x hx
      have hN := hV.2.1
      have hsz := isV_size (isT_at hT hx)
      have hKN := keyN_ok hN
      have hsl := sym_len x.2.2
      refine X.opsEnd ?_
      refine X.seq ?_
      refine X.condT rfl ?_
      refine X.skip ?_
      refine X.seq ?_
      refine X.block ?_
      refine X.seq ?_
      refine X.region ?_
      refine X.opw X.wN rfl (X.idxS (hs.keep hk) Tryz.underlying38 Tryz.sizeOf90 rfl rfl ⟨by omega, by omega⟩) ?_
      refine X.opw X.wN rfl (X.loadSN Tryz.isAgg90 Tryz.sizeOf90 (hs.keep hk) hx rfl (fun _ h => h.1) rfl) ?_
      refine X.opE X.wN rfl (X.allocE Tryz.zeroValue90 rfl) ?_
      rintro _ w2 ⟨rfl, hB2, hk2, hz2⟩
      refine X.opE X.wN rfl (X.storeNE Tryz.sizeOf90 hB2 rfl rfl rfl rfl (encV_one _)) ?_
      rintro _ w3 ⟨hB3, hx3, hz3⟩
      refine X.opsEnd ?_
      refine X.seq ?_
      refine X.seq ?_
      refine X.region ?_
      refine X.opw X.wN rfl (X.fldB (j := 0) Tryz.underlying90 rfl rfl Tryz.sizeOf88 rfl) ?_
      refine X.opw X.wN rfl (X.load1B Tryz.isAgg88 hB3 rfl rfl) ?_
      refine X.opP X.wN rfl rfl (X.eqI rfl rfl) (fun h21 => ?_) (fun h21 => ?_)
      · have hM6 := Mine.mono (T := fun k => w.heap.size ≤ k ∧ k ≠ w1.heap.size) hM (fun k h1 h2 => ⟨h2, by omega⟩)
        replace hM6 := (hM6.keep (hk2.step hx3 zq26))
        refine X.opsEnd ?_
        refine X.condT rfl ?_
        refine X.seq ?_
        refine X.region ?_
        refine X.opw X.wN rfl (X.move rfl) ?_
        refine X.opE X.wN rfl (X.lit1B (y := 1) Tryz.underlying43 Tryz.sizeOf5 Tryz.zeroValue5 rfl) ?_
        rintro _ w4 ⟨rfl, hs4, hB4, hk4, hz4⟩
        refine X.opE X.wN rfl (X.appE (K := KB) (S := fun k => w.heap.size ≤ k ∧ k ≠ w1.heap.size) KB_flat Tryz.underlying43 E5 rfl rfl (hM6.keep hk4) hs4 zq9 zq26) ?_
        rintro v5 w5 ⟨hM5, hx5⟩
        have hx5' := hx5.size
        refine X.opw X.wN rfl (X.assign rfl) ?_
        refine X.opsEnd ?_
        refine X.seq ?_
        refine X.seq ?_
        refine X.region ?_
        refine X.opw X.wN rfl (X.assign rfl) ?_
        refine X.opsEnd ?_
        refine X.block ?_
        refine X.loopL (σ := Nat × Value) (fun s => [(4, s.2), (6, .pointer (some ⟨w1.heap.size, 0, none⟩)), (7, .int .i64 (7 - (s.1 : Int))), (13, .slice A n c), (14, .int .i64 (n : Int)), (15, .int .i64 (i : Int))]) (fun s w' => s.1 ≤ 8 ∧ Mine KB 5 (fun k => w.heap.size ≤ k ∧ k ≠ w1.heap.size) 0 0 w' s.2 ((l.take i).flatMap valK ++ [1] ++ (List.range s.1).map (keyAt (keyN x.2.1))) ∧ Blk w' w1.heap.size (encV x) 90 ∧ Keep w w') (fun s => 8 - s.1) (0, _) ⟨rfl, rfl, rfl, rfl, rfl, rfl, trivial⟩ ⟨by simp only []; omega, by simpa using hM5, ((hB3.keep hk4).ext hx5 zq28), ((((hk.trans hk2).step hx3 zq26).trans hk4).step hx5 zq26)⟩ ?_
        rintro ⟨q, v2⟩ b2 w' ⟨hq, hM2, hB2, hk2⟩ hback2
        simp only at hq hM2 hB2
        have hk2' := hk2.size
        have hB2' := hB2.lt
        refine X.seq ?_
        refine X.seq ?_
        refine X.region ?_
        refine X.opw X.wN rfl (X.move (v := .int .i64 _) rfl) ?_
        refine X.opP X.wN rfl rfl (X.geq rfl rfl) (fun h26 => ?_) (fun h26 => ?_)
        · refine X.opsEnd ?_
          refine X.condT rfl ?_
          refine X.skip ?_
          refine X.seq ?_
          refine X.block ?_
          refine X.region ?_
          refine X.opw X.wN rfl (X.move rfl) ?_
          refine X.opw X.wN rfl (X.fldB (j := 1) Tryz.underlying90 rfl rfl Tryz.sizeOf2 rfl) ?_
          refine X.opw X.wN rfl (X.load1B Tryz.isAgg2 hB2 rfl rfl) ?_
          refine X.opw X.wN rfl (X.cvI Tryz.underlying2 Tryz.underlying119 rfl (X.u64_wrap _)) ?_
          refine X.opw X.wN rfl (X.xor_ rfl rfl (kxor x.2.1 hN)) ?_
          refine X.opw X.wN rfl (X.move (v := .int .i64 _) rfl) ?_
          refine X.opw X.wN rfl (X.mul rfl rfl (X.w_i64 (by omega))) ?_
          refine X.opw X.wN rfl (X.cvI Tryz.underlying3 Tryz.underlying77 rfl (X.w_u64 (by omega))) ?_
          refine X.opw X.wN rfl (X.shr rfl rfl (by omega) (shrK _ q (by omega))) ?_
          refine X.opw X.wN rfl (X.cvI Tryz.underlying119 Tryz.underlying5 rfl (keyAt_8 _ q)) ?_
          refine X.opE X.wN rfl (X.lit1B Tryz.underlying43 Tryz.sizeOf5 Tryz.zeroValue5 rfl) ?_
          rintro _ w6 ⟨rfl, hs6, hB6, hk6, hz6⟩
          refine X.opE X.wN rfl (X.appE (K := KB) (S := fun k => w.heap.size ≤ k ∧ k ≠ w1.heap.size) KB_flat Tryz.underlying43 E5 rfl rfl (hM2.keep hk6) hs6 zq9 zq26) ?_
          rintro v7 w7 ⟨hM7, hx7⟩
          have hx7' := hx7.size
          refine X.opw X.wN rfl (X.assign rfl) ?_
          refine X.opsEnd ?_
          refine X.inBlock ?_
          refine X.region ?_
          refine X.opw X.wN rfl (X.move (v := .int .i64 _) rfl) ?_
          refine X.opw X.wN rfl (X.sub (c := 7 - ((q + 1 : Nat) : Int)) rfl rfl (by rw [X.w_i64 (by omega)]; omega)) ?_
          refine X.opw X.wN rfl (X.assign (v := .int .i64 _) rfl) ?_
          refine X.opsEnd ?_
          refine hback2 (q + 1, _) _ _ ⟨rfl, rfl, rfl, rfl, rfl, rfl, trivial⟩ ⟨by simp only []; omega, ?_, ((hB2.keep hk6).ext hx7 zq28), ((hk2.trans hk6).step hx7 zq26)⟩ (by simp only []; omega)
          have e := hM7
          simp only []
          rw [range_step, ← List.append_assoc]
          exact e
        · refine X.opsEnd ?_
          refine X.condF rfl ?_
          refine X.exit rfl ?_
          refine X.exit rfl ?_
          refine X.region ?_
          refine X.opw X.wN rfl (X.add rfl rfl (X.w_i64 (by omega))) ?_
          refine X.opw X.wN rfl (X.move (v := .int .i64 _) rfl) ?_
          refine X.opsEnd ?_
          refine hback (i + 1, _) _ _ ⟨rfl, rfl, rfl, rfl, trivial⟩ ⟨by simp only []; omega, ?_, hk2⟩ (by simp only []; omega)
          have e := hM2.mono (T := fun k => w.heap.size ≤ k) (fun k _ h => by (try simp only [] at *); omega)
          simp only []
          rw [flat_step valK hx, valK, if_pos h21]
          rw [show q = 8 by omega] at e
          simpa only [List.append_assoc, List.singleton_append] using e
      · have hM6 := Mine.mono (T := fun k => w.heap.size ≤ k ∧ k ≠ w1.heap.size) hM (fun k h1 h2 => ⟨h2, by omega⟩)
        replace hM6 := (hM6.keep (hk2.step hx3 zq26))
        refine X.opsEnd ?_
        refine X.condF rfl ?_
        refine X.skip ?_
        refine X.seq ?_
        refine X.region ?_
        refine X.opw X.wN rfl (X.move rfl) ?_
        refine X.opE X.wN rfl (X.lit1B (y := 2) Tryz.underlying43 Tryz.sizeOf5 Tryz.zeroValue5 rfl) ?_
        rintro _ w8 ⟨rfl, hs8, hB8, hk8, hz8⟩
        refine X.opE X.wN rfl (X.appE (K := KB) (S := fun k => w.heap.size ≤ k ∧ k ≠ w1.heap.size) KB_flat Tryz.underlying43 E5 rfl rfl (hM6.keep hk8) hs8 zq9 zq26) ?_
        rintro v9 w9 ⟨hM9, hx9⟩
        have hx9' := hx9.size
        refine X.opw X.wN rfl (X.assign rfl) ?_
        refine X.opsEnd ?_
        refine X.seq ?_
        refine X.seq ?_
        refine X.region ?_
        refine X.opw X.wN rfl (X.fldB (j := 2) Tryz.underlying90 rfl rfl Tryz.sizeOf9 rfl) ?_
        refine X.opw X.wN rfl (X.load1B Tryz.isAgg9 ((hB3.keep hk8).ext hx9 zq28) rfl rfl) ?_
        refine X.opE X.wN rfl (X.bytesE (K := KB) Tryz.underlying9 Tryz.underlying43 Tryz.underlying5 rfl (by omega) rfl KB_R) ?_
        rintro _ w10 ⟨c10, rfl, hc10, hs10, hk10, hz10⟩
        refine X.opw X.wN rfl (X.lenSl Tryz.underlying43 rfl) ?_
        refine X.opw X.wN rfl (X.move rfl) ?_
        refine X.opsEnd ?_
        refine X.block ?_
        have hM7 := Mine.mono (T := fun k => w.heap.size ≤ k ∧ k ≠ w1.heap.size ∧ k ≠ w9.heap.size) hM9 (fun k h1 h2 => by (try simp only [] at *); omega)
        refine X.loopL (σ := Nat × Value) (fun s => [(4, s.2), (13, .slice A n c), (14, .int .i64 (n : Int)), (15, .int .i64 (i : Int)), (46, .slice (some ⟨w9.heap.size, 0, none⟩) x.2.2.size c10), (47, .int .i64 (x.2.2.size : Int)), (48, .int .i64 (s.1 : Int))]) (fun s w' => s.1 ≤ x.2.2.size ∧ Mine KB 5 (fun k => w.heap.size ≤ k ∧ k ≠ w1.heap.size ∧ k ≠ w9.heap.size) 0 0 w' s.2 ((l.take i).flatMap valK ++ [2] ++ (x.2.2.data.toList.take s.1).flatMap escB) ∧ Sl KB w9.heap.size (w9.heap.size + 1) w' (some ⟨w9.heap.size, 0, none⟩) x.2.2.size x.2.2.data.toList ∧ w9.heap.size < w'.heap.size ∧ w1.heap.size < w'.heap.size ∧ Keep w w') (fun s => x.2.2.size - s.1) (0, _) ⟨rfl, rfl, rfl, rfl, rfl, rfl, rfl, trivial⟩ ⟨by simp only []; omega, by simpa using (hM7.keep hk10), hs10, by omega, by omega, (((((hk.trans hk2).step hx3 zq26).trans hk8).step hx9 zq26).trans hk10)⟩ ?_
        rintro ⟨j, v3⟩ b3 w' ⟨hj, hM3, hs3, hb3, hb4, hk3⟩ hback3
        simp only at hj hM3 hs3
        have hk3' := hk3.size
        have hel := esc_len (x.2.2.data.toList.take j)
        rw [List.length_take] at hel
        refine X.seq ?_
        refine X.region ?_
        refine X.opP X.wN rfl rfl (X.lss rfl rfl) (fun h49 => ?_) (fun h49 => ?_)
        · obtain ⟨y, hy⟩ := getN j hsl h49
          refine X.opsEnd ?_
          refine X.seq ?_
          refine X.condT rfl ?_
          refine X.skip ?_
          refine X.seq ?_
          refine X.block ?_
          refine X.seq ?_
          refine X.region ?_
          refine X.opw X.wN rfl (X.idxS hs3 Tryz.underlying43 Tryz.sizeOf5 rfl rfl ⟨by omega, by omega⟩) ?_
          refine X.opw X.wN rfl (X.loadS Tryz.isAgg5 hs3 hy rfl (fun _ h => by rw [h.1]; rfl)) ?_
          refine X.opw X.wN rfl (X.assign (v := .int .u8 _) rfl) ?_
          refine X.opsEnd ?_
          refine X.seq ?_
          refine X.region ?_
          refine X.opw X.wN rfl (X.move rfl) ?_
          refine X.opw X.wN rfl (X.move (v := .int .u8 _) rfl) ?_
          refine X.opE X.wN rfl (X.lit1B Tryz.underlying43 Tryz.sizeOf5 Tryz.zeroValue5 rfl) ?_
          rintro _ w11 ⟨rfl, hs11, hB11, hk11, hz11⟩
          refine X.opE X.wN rfl (X.appE (K := KB) (S := fun k => w.heap.size ≤ k ∧ k ≠ w1.heap.size ∧ k ≠ w9.heap.size) KB_flat Tryz.underlying43 E5 rfl rfl (hM3.keep hk11) hs11 zq9 zq26) ?_
          rintro v12 w12 ⟨hM12, hx12⟩
          have hx12' := hx12.size
          refine X.opw X.wN rfl (X.assign rfl) ?_
          refine X.opsEnd ?_
          refine X.seq ?_
          refine X.region ?_
          refine X.opw X.wN rfl (X.move (v := .int .u8 _) rfl) ?_
          refine X.opP X.wN rfl rfl (X.eqI rfl rfl) (fun h57 => ?_) (fun h57 => ?_)
          · refine X.opsEnd ?_
            refine X.condT rfl ?_
            refine X.region ?_
            refine X.opw X.wN rfl (X.move rfl) ?_
            refine X.opE X.wN rfl (X.lit1B (y := 255) Tryz.underlying43 Tryz.sizeOf5 Tryz.zeroValue5 rfl) ?_
            rintro _ w13 ⟨rfl, hs13, hB13, hk13, hz13⟩
            refine X.opE X.wN rfl (X.appE (K := KB) (S := fun k => w.heap.size ≤ k ∧ k ≠ w1.heap.size ∧ k ≠ w9.heap.size) KB_flat Tryz.underlying43 E5 rfl rfl (hM12.keep hk13) hs13 zq9 zq26) ?_
            rintro v14 w14 ⟨hM14, hx14⟩
            have hx14' := hx14.size
            refine X.opw X.wN rfl (X.assign rfl) ?_
            refine X.opsEnd ?_
            refine X.inBlock ?_
            refine X.region ?_
            refine X.opw X.wN rfl (X.add rfl rfl (X.w_i64 (by omega))) ?_
            refine X.opw X.wN rfl (X.move (v := .int .i64 _) rfl) ?_
            refine X.opsEnd ?_
            refine hback3 (j + 1, _) _ _ ⟨rfl, rfl, rfl, rfl, rfl, rfl, rfl, trivial⟩ ⟨by simp only []; omega, ?_, ((((hs3.keep hk11).ext hx12 zq28).keep hk13).ext hx14 zq28), by omega, by omega, ((((hk3.trans hk11).step hx12 zq26).trans hk13).step hx14 zq26)⟩ (by simp only []; omega)
            have e := hM14
            simp only []
            rw [flat_step escB hy, ← List.append_assoc, escB, if_pos (u8_0 h57)]
            rw [u8_0 h57] at e
            simpa only [List.append_assoc, List.singleton_append] using e
          · refine X.opsEnd ?_
            refine X.condF rfl ?_
            refine X.skip ?_
            refine X.inBlock ?_
            refine X.region ?_
            refine X.opw X.wN rfl (X.add rfl rfl (X.w_i64 (by omega))) ?_
            refine X.opw X.wN rfl (X.move (v := .int .i64 _) rfl) ?_
            refine X.opsEnd ?_
            refine hback3 (j + 1, _) _ _ ⟨rfl, rfl, rfl, rfl, rfl, rfl, rfl, trivial⟩ ⟨by simp only []; omega, ?_, ((hs3.keep hk11).ext hx12 zq28), by omega, by omega, ((hk3.trans hk11).step hx12 zq26)⟩ (by simp only []; omega)
            have e := hM12
            simp only []
            rw [flat_step escB hy, ← List.append_assoc, escB, if_neg (fun e => h57 (by rw [e]; rfl))]
            exact e
        · refine X.opsEnd ?_
          refine X.seq ?_
          refine X.condF rfl ?_
          refine X.exit rfl ?_
          refine X.region ?_
          refine X.opw X.wN rfl (X.move rfl) ?_
          refine X.opE X.wN rfl (X.lit2B (x := 0) (y := 1) Tryz.underlying43 Tryz.sizeOf5 Tryz.zeroValue5 ⟨rfl, rfl⟩ ⟨rfl, rfl⟩) ?_
          rintro _ w15 ⟨rfl, hs15, hB15, hk15, hz15⟩
          refine X.opE X.wN rfl (X.appE (K := KB) (S := fun k => w.heap.size ≤ k ∧ k ≠ w1.heap.size ∧ k ≠ w9.heap.size) KB_flat Tryz.underlying43 E5 rfl rfl (hM3.keep hk15) hs15 zq9 zq26) ?_
          rintro v16 w16 ⟨hM16, hx16⟩
          have hx16' := hx16.size
          refine X.opw X.wN rfl (X.assign rfl) ?_
          refine X.opsEnd ?_
          refine X.inBlock ?_
          refine X.region ?_
          refine X.opw X.wN rfl (X.add rfl rfl (X.w_i64 (by omega))) ?_
          refine X.opw X.wN rfl (X.move (v := .int .i64 _) rfl) ?_
          refine X.opsEnd ?_
          refine hback (i + 1, _) _ _ ⟨rfl, rfl, rfl, rfl, trivial⟩ ⟨by simp only []; omega, ?_, ((hk3.trans hk15).step hx16 zq26)⟩ (by simp only []; omega)
          have e := hM16.mono (T := fun k => w.heap.size ≤ k) (fun k _ h => by (try simp only [] at *); omega)
          simp only []
          rw [flat_step valK hx, valK, if_neg h21]
          rw [show j = x.2.2.data.toList.length by omega, List.take_length] at e
          simpa only [List.append_assoc, List.singleton_append, List.cons_append, List.nil_append] using e
    · refine X.opsEnd ?_
      refine X.seq ?_
      refine X.condF rfl ?_
      refine X.exit rfl ?_
      refine X.seq ?_
      refine X.region ?_
      refine X.opw X.wN rfl (X.move rfl) ?_
      refine X.opw X.wN rfl (X.assign rfl) ?_
      refine X.opw X.wN rfl (X.assign rfl) ?_
      refine X.opsEnd ?_
      refine X.ret2 (v2 := (.int .i64 _)) Tryz.func51 Tryz.results51 rfl rfl ?_
      have e := hM
      rw [show i = l.length by omega, List.take_length] at e
      refine ⟨_, by rw [if_pos hT], ?_, hk⟩
      rw [if_pos hT]
      exact e
theorem RKey_c {lo hi : Nat} {A : Option Addr} {n c : Nat} {l : List VAL} (w : World) (hs : Sl KV lo hi w A n l) (hhi : hi ≤ w.heap.size) : Ret Tryz.prog 57 #[.slice A n c] w fun r w' => ∃ v, r = .tuple #[v, .int .i64 (if isT l then 0 else 20)] ∧ FreshB w w' v (if isT l then keyB l else []) := by
  have hn := hs.bound
  have hl := hs.len
  refine X.enter Tryz.func57 rfl Tryz.ntmps57 rfl ?_
  refine X.seq ?_
  refine X.region ?_
  refine X.opw X.wN rfl (X.assign rfl) ?_
  refine X.opw X.wN rfl (X.assign rfl) ?_
  refine X.opsEnd ?_
  refine X.seq ?_
  refine X.seq ?_
  refine X.region ?_
  refine X.opw X.wN rfl (X.move (v := .slice _ _ _) rfl) ?_
  refine X.opE X.wN rfl (X.callE (R03Is_c _ hs) Tryz.call107 rfl rfl) ?_
  rintro _ w1 ⟨rfl, hk1⟩
  have hk1' := hk1.size
  refine X.opw X.wN rfl (X.not_ rfl) ?_
  refine X.opsEnd ?_
  refine X.condB rfl (fun hc => ?_) (fun hc => ?_)
  · refine X.seq ?_
    refine X.region ?_
    refine X.opw X.wN rfl (X.assign rfl) ?_
    refine X.opw X.wN rfl (X.assign rfl) ?_
    refine X.opsEnd ?_
    refine X.ret2 (v2 := (.int .i64 _)) Tryz.func57 Tryz.results57 rfl rfl ?_
    rw [if_neg (by simpa using hc), if_neg (by simpa using hc)]
    exact ⟨_, rfl, (Mine.nil _ _ _ _ _ _), hk1⟩
  · have hT : isT l = true := by simpa using hc
    refine X.skip ?_
    refine X.seq ?_
    refine X.region ?_
    refine X.opw X.wN rfl (X.assign rfl) ?_
    refine X.opsEnd ?_
    refine X.seq ?_
    refine X.seq ?_
    refine X.region ?_
    refine X.opw X.wN rfl (X.assign rfl) ?_
    refine X.opsEnd ?_
    refine X.block ?_
    refine X.loopL (σ := Nat × Value) (fun s => [(0, .slice A n c), (4, s.2), (5, .int .i64 (s.1 : Int))]) (fun s w' => s.1 ≤ n ∧ Mine KB 5 (fun k => w.heap.size ≤ k) 0 0 w' s.2 ((l.take s.1).flatMap valK) ∧ Keep w w') (fun s => n - s.1) (0, _) ⟨rfl, rfl, rfl, trivial⟩ ⟨Nat.zero_le _, (Mine.nil _ _ _ _ _ _), hk1⟩ ?_
    rintro ⟨i, v⟩ b w1 ⟨hi0, hM, hk⟩ hback
    simp only at hi0 hM
    have hk' := hk.size
    have hlen := keyL_len hT i (by omega)
    have hn8 := isT_len hT
    refine X.seq ?_
    refine X.seq ?_
    refine X.region ?_
    refine X.opw X.wN rfl (X.move (v := .int .i64 _) rfl) ?_
    refine X.opw X.wN rfl (X.move (v := .slice _ _ _) rfl) ?_
    refine X.opw X.wN rfl (X.lenSl Tryz.underlying38 rfl) ?_
    refine X.opP X.wN rfl rfl (X.lss rfl rfl) (fun h15 => ?_) (fun h15 => ?_)
    · obtain ⟨x, hx⟩ := getN i hl h15
      have hV := KV_ok hs i x hx
      have hN := hV.2.1
      have hsz := isV_size (isT_at hT hx)
      have hKN := keyN_ok hN
      have hsl := sym_len x.2.2
      refine X.opsEnd ?_
      refine X.condT rfl ?_
      refine X.skip ?_
      refine X.seq ?_
      refine X.block ?_
      refine X.seq ?_
      refine X.seq ?_
      refine X.region ?_
      refine X.opw X.wN rfl (X.move (v := .slice _ _ _) rfl) ?_
      refine X.opw X.wN rfl (X.move (v := .int .i64 _) rfl) ?_
      refine X.opw X.wN rfl (X.idxS (hs.keep hk) Tryz.underlying38 Tryz.sizeOf90 rfl rfl ⟨by omega, by omega⟩) ?_
      refine X.opw X.wN rfl (X.fldA Tryz.underlying90 rfl rfl Tryz.sizeOf88) ?_
      refine X.opw X.wN rfl (X.loadSf Tryz.isAgg88 (hs.keep hk) hx rfl (fun _ h => by rw [h.1]; rfl)) ?_
      refine X.opP X.wN rfl rfl (X.eqI rfl rfl) (fun h23 => ?_) (fun h23 => ?_)
      · refine X.opsEnd ?_
        refine X.condT rfl ?_
        refine X.seq ?_
        refine X.region ?_
        refine X.opw X.wN rfl (X.move rfl) ?_
        refine X.opE X.wN rfl (X.lit1B (y := 1) Tryz.underlying43 Tryz.sizeOf5 Tryz.zeroValue5 rfl) ?_
        rintro _ w2 ⟨rfl, hs2, hB2, hk2, hz2⟩
        refine X.opE X.wN rfl (X.appE (K := KB) (S := fun k => w.heap.size ≤ k) KB_flat Tryz.underlying43 E5 rfl rfl (hM.keep hk2) hs2 zq9 zq26) ?_
        rintro v3 w3 ⟨hM3, hx3⟩
        have hx3' := hx3.size
        refine X.opw X.wN rfl (X.assign rfl) ?_
        refine X.opsEnd ?_
        refine X.seq ?_
        refine X.region ?_
        refine X.opw X.wN rfl (X.move (v := .slice _ _ _) rfl) ?_
        refine X.opw X.wN rfl (X.move (v := .int .i64 _) rfl) ?_
        refine X.opw X.wN rfl (X.idxS (hs.keep ((hk.trans hk2).step hx3 zq26)) Tryz.underlying38 Tryz.sizeOf90 rfl rfl ⟨by omega, by omega⟩) ?_
        refine X.opw X.wN rfl (X.fldA Tryz.underlying90 rfl rfl Tryz.sizeOf2) ?_
        refine X.opw X.wN rfl (X.loadSf Tryz.isAgg2 (hs.keep ((hk.trans hk2).step hx3 zq26)) hx rfl (fun _ h => by rw [h.1]; rfl)) ?_
        refine X.opw X.wN rfl (X.cvI Tryz.underlying2 Tryz.underlying119 rfl (X.u64_wrap _)) ?_
        refine X.opw X.wN rfl (X.add rfl rfl (kadd x.2.1 hN)) ?_
        refine X.opw X.wN rfl (X.assign (v := .int .u64 _) rfl) ?_
        refine X.opsEnd ?_
        refine X.seq ?_
        refine X.seq ?_
        refine X.region ?_
        refine X.opw X.wN rfl (X.assign rfl) ?_
        refine X.opsEnd ?_
        refine X.block ?_
        refine X.loopL (σ := Nat × Value) (fun s => [(0, .slice A n c), (4, s.2), (5, .int .i64 (i : Int)), (6, .int .u64 ((xK (keyN x.2.1) s.1 : Nat) : Int)), (7, .int .i64 (s.1 : Int))]) (fun s w' => s.1 ≤ 8 ∧ Mine KB 5 (fun k => w.heap.size ≤ k) 0 0 w' s.2 ((l.take i).flatMap valK ++ [1] ++ (List.range s.1).map (keyAt (keyN x.2.1))) ∧ Keep w w') (fun s => 8 - s.1) (0, _) ⟨rfl, rfl, rfl, rfl, rfl, trivial⟩ ⟨by simp only []; omega, by simpa using hM3, ((hk.trans hk2).step hx3 zq26)⟩ ?_
        rintro ⟨q, v2⟩ b2 w' ⟨hq, hM2, hk2⟩ hback2
        simp only at hq hM2
        have hk2' := hk2.size
        refine X.seq ?_
        refine X.seq ?_
        refine X.region ?_
        refine X.opw X.wN rfl (X.move (v := .int .i64 _) rfl) ?_
        refine X.opP X.wN rfl rfl (X.lss rfl rfl) (fun h35 => ?_) (fun h35 => ?_)
        · refine X.opsEnd ?_
          refine X.condT rfl ?_
          refine X.skip ?_
          refine X.seq ?_
          refine X.block ?_
          refine X.seq ?_
          refine X.region ?_
          refine X.opw X.wN rfl (X.move rfl) ?_
          refine X.opw X.wN rfl (X.move (v := .int .u64 _) rfl) ?_
          refine X.opw X.wN rfl (X.quo rfl rfl (by decide) (xK_quo _ q)) ?_
          refine X.opw X.wN rfl (X.cvI Tryz.underlying119 Tryz.underlying5 rfl (xK_8 _ q hKN.2 (by omega))) ?_
          refine X.opE X.wN rfl (X.lit1B Tryz.underlying43 Tryz.sizeOf5 Tryz.zeroValue5 rfl) ?_
          rintro _ w4 ⟨rfl, hs4, hB4, hk4, hz4⟩
          refine X.opE X.wN rfl (X.appE (K := KB) (S := fun k => w.heap.size ≤ k) KB_flat Tryz.underlying43 E5 rfl rfl (hM2.keep hk4) hs4 zq9 zq26) ?_
          rintro v5 w5 ⟨hM5, hx5⟩
          have hx5' := hx5.size
          refine X.opw X.wN rfl (X.assign rfl) ?_
          refine X.opsEnd ?_
          refine X.region ?_
          refine X.opw X.wN rfl (X.move (v := .int .u64 _) rfl) ?_
          refine X.opw X.wN rfl (X.mul rfl rfl (xK_mul _ q)) ?_
          refine X.opw X.wN rfl (X.assign (v := .int .u64 _) rfl) ?_
          refine X.opsEnd ?_
          refine X.inBlock ?_
          refine X.region ?_
          refine X.opw X.wN rfl (X.move (v := .int .i64 _) rfl) ?_
          refine X.opw X.wN rfl (X.add rfl rfl (X.w_i64 (by omega))) ?_
          refine X.opw X.wN rfl (X.assign (v := .int .i64 _) rfl) ?_
          refine X.opsEnd ?_
          refine hback2 (q + 1, _) _ _ ⟨rfl, rfl, rfl, rfl, rfl, trivial⟩ ⟨by simp only []; omega, ?_, ((hk2.trans hk4).step hx5 zq26)⟩ (by simp only []; omega)
          have e := hM5
          simp only []
          rw [range_step, ← List.append_assoc]
          exact e
        · refine X.opsEnd ?_
          refine X.condF rfl ?_
          refine X.exit rfl ?_
          refine X.exit rfl ?_
          refine X.region ?_
          refine X.opw X.wN rfl (X.move (v := .int .i64 _) rfl) ?_
          refine X.opw X.wN rfl (X.add rfl rfl (X.w_i64 (by omega))) ?_
          refine X.opw X.wN rfl (X.assign (v := .int .i64 _) rfl) ?_
          refine X.opsEnd ?_
          refine hback (i + 1, _) _ _ ⟨rfl, rfl, rfl, trivial⟩ ⟨by simp only []; omega, ?_, hk2⟩ (by simp only []; omega)
          have e := hM2.mono (T := fun k => w.heap.size ≤ k) (fun k _ h => by (try simp only [] at *); omega)
          simp only []
          rw [flat_step valK hx, valK, if_pos h23]
          rw [show q = 8 by omega] at e
          simpa only [List.append_assoc, List.singleton_append] using e
      · refine X.opsEnd ?_
        refine X.condF rfl ?_
        refine X.skip ?_
        refine X.seq ?_
        refine X.region ?_
        refine X.opw X.wN rfl (X.move rfl) ?_
        refine X.opE X.wN rfl (X.lit1B (y := 2) Tryz.underlying43 Tryz.sizeOf5 Tryz.zeroValue5 rfl) ?_
        rintro _ w6 ⟨rfl, hs6, hB6, hk6, hz6⟩
        refine X.opE X.wN rfl (X.appE (K := KB) (S := fun k => w.heap.size ≤ k) KB_flat Tryz.underlying43 E5 rfl rfl (hM.keep hk6) hs6 zq9 zq26) ?_
        rintro v7 w7 ⟨hM7, hx7⟩
        have hx7' := hx7.size
        refine X.opw X.wN rfl (X.assign rfl) ?_
        refine X.opsEnd ?_
        refine X.seq ?_
        refine X.seq ?_
        refine X.region ?_
        refine X.opw X.wN rfl (X.assign rfl) ?_
        refine X.opsEnd ?_
        refine X.block ?_
        refine X.loopL (σ := Nat × Value) (fun s => [(0, .slice A n c), (4, s.2), (5, .int .i64 (i : Int)), (8, .int .i64 (s.1 : Int))]) (fun s w' => s.1 ≤ x.2.2.size ∧ Mine KB 5 (fun k => w.heap.size ≤ k) 0 0 w' s.2 ((l.take i).flatMap valK ++ [2] ++ (x.2.2.data.toList.take s.1).flatMap escB) ∧ Keep w w') (fun s => x.2.2.size - s.1) (0, _) ⟨rfl, rfl, rfl, rfl, trivial⟩ ⟨by simp only []; omega, by simpa using hM7, ((hk.trans hk6).step hx7 zq26)⟩ ?_
        rintro ⟨j, v3⟩ b3 w' ⟨hj, hM3, hk3⟩ hback3
        simp only at hj hM3
        have hk3' := hk3.size
        have hel := esc_len (x.2.2.data.toList.take j)
        rw [List.length_take] at hel
        refine X.seq ?_
        refine X.seq ?_
        refine X.region ?_
        refine X.opw X.wN rfl (X.move (v := .int .i64 _) rfl) ?_
        refine X.opw X.wN rfl (X.move (v := .slice _ _ _) rfl) ?_
        refine X.opw X.wN rfl (X.move (v := .int .i64 _) rfl) ?_
        refine X.opw X.wN rfl (X.idxS (hs.keep hk3) Tryz.underlying38 Tryz.sizeOf90 rfl rfl ⟨by omega, by omega⟩) ?_
        refine X.opw X.wN rfl (X.fldA Tryz.underlying90 rfl rfl Tryz.sizeOf9) ?_
        refine X.opw X.wN rfl (X.loadSf Tryz.isAgg9 (hs.keep hk3) hx rfl (fun _ h => by rw [h.1]; rfl)) ?_
        refine X.opw X.wN rfl (X.lenS Tryz.underlying9 rfl) ?_
        refine X.opP X.wN rfl rfl (X.lss rfl rfl) (fun h56 => ?_) (fun h56 => ?_)
        · obtain ⟨y, hy⟩ := getN j hsl h56
          refine X.opsEnd ?_
          refine X.condT rfl ?_
          refine X.skip ?_
          refine X.seq ?_
          refine X.block ?_
          refine X.seq ?_
          refine X.region ?_
          refine X.opw X.wN rfl (X.move rfl) ?_
          refine X.opw X.wN rfl (X.move (v := .slice _ _ _) rfl) ?_
          refine X.opw X.wN rfl (X.move (v := .int .i64 _) rfl) ?_
          refine X.opw X.wN rfl (X.idxS (hs.keep hk3) Tryz.underlying38 Tryz.sizeOf90 rfl rfl ⟨by omega, by omega⟩) ?_
          refine X.opw X.wN rfl (X.fldA Tryz.underlying90 rfl rfl Tryz.sizeOf9) ?_
          refine X.opw X.wN rfl (X.loadSf Tryz.isAgg9 (hs.keep hk3) hx rfl (fun _ h => by rw [h.1]; rfl)) ?_
          refine X.opw X.wN rfl (X.move (v := .int .i64 _) rfl) ?_
          refine X.opw X.wN rfl (X.idxStr Tryz.underlying9 rfl rfl hy) ?_
          refine X.opE X.wN rfl (X.lit1B Tryz.underlying43 Tryz.sizeOf5 Tryz.zeroValue5 rfl) ?_
          rintro _ w8 ⟨rfl, hs8, hB8, hk8, hz8⟩
          refine X.opE X.wN rfl (X.appE (K := KB) (S := fun k => w.heap.size ≤ k) KB_flat Tryz.underlying43 E5 rfl rfl (hM3.keep hk8) hs8 zq9 zq26) ?_
          rintro v9 w9 ⟨hM9, hx9⟩
          have hx9' := hx9.size
          refine X.opw X.wN rfl (X.assign rfl) ?_
          refine X.opsEnd ?_
          refine X.seq ?_
          refine X.region ?_
          refine X.opw X.wN rfl (X.move (v := .slice _ _ _) rfl) ?_
          refine X.opw X.wN rfl (X.move (v := .int .i64 _) rfl) ?_
          refine X.opw X.wN rfl (X.idxS (hs.keep ((hk3.trans hk8).step hx9 zq26)) Tryz.underlying38 Tryz.sizeOf90 rfl rfl ⟨by omega, by omega⟩) ?_
          refine X.opw X.wN rfl (X.fldA Tryz.underlying90 rfl rfl Tryz.sizeOf9) ?_
          refine X.opw X.wN rfl (X.loadSf Tryz.isAgg9 (hs.keep ((hk3.trans hk8).step hx9 zq26)) hx rfl (fun _ h => by rw [h.1]; rfl)) ?_
          refine X.opw X.wN rfl (X.move (v := .int .i64 _) rfl) ?_
          refine X.opw X.wN rfl (X.idxStr Tryz.underlying9 rfl rfl hy) ?_
          refine X.opP X.wN rfl rfl (X.eqI rfl rfl) (fun h76 => ?_) (fun h76 => ?_)
          · refine X.opsEnd ?_
            refine X.condT rfl ?_
            refine X.region ?_
            refine X.opw X.wN rfl (X.move rfl) ?_
            refine X.opE X.wN rfl (X.lit1B (y := 255) Tryz.underlying43 Tryz.sizeOf5 Tryz.zeroValue5 rfl) ?_
            rintro _ w10 ⟨rfl, hs10, hB10, hk10, hz10⟩
            refine X.opE X.wN rfl (X.appE (K := KB) (S := fun k => w.heap.size ≤ k) KB_flat Tryz.underlying43 E5 rfl rfl (hM9.keep hk10) hs10 zq9 zq26) ?_
            rintro v11 w11 ⟨hM11, hx11⟩
            have hx11' := hx11.size
            refine X.opw X.wN rfl (X.assign rfl) ?_
            refine X.opsEnd ?_
            refine X.inBlock ?_
            refine X.region ?_
            refine X.opw X.wN rfl (X.move (v := .int .i64 _) rfl) ?_
            refine X.opw X.wN rfl (X.add rfl rfl (X.w_i64 (by omega))) ?_
            refine X.opw X.wN rfl (X.assign (v := .int .i64 _) rfl) ?_
            refine X.opsEnd ?_
            refine hback3 (j + 1, _) _ _ ⟨rfl, rfl, rfl, rfl, trivial⟩ ⟨by simp only []; omega, ?_, ((((hk3.trans hk8).step hx9 zq26).trans hk10).step hx11 zq26)⟩ (by simp only []; omega)
            have e := hM11
            simp only []
            rw [flat_step escB hy, ← List.append_assoc, escB, if_pos (u8_0 h76)]
            rw [u8_0 h76] at e
            simpa only [List.append_assoc, List.singleton_append] using e
          · refine X.opsEnd ?_
            refine X.condF rfl ?_
            refine X.skip ?_
            refine X.inBlock ?_
            refine X.region ?_
            refine X.opw X.wN rfl (X.move (v := .int .i64 _) rfl) ?_
            refine X.opw X.wN rfl (X.add rfl rfl (X.w_i64 (by omega))) ?_
            refine X.opw X.wN rfl (X.assign (v := .int .i64 _) rfl) ?_
            refine X.opsEnd ?_
            refine hback3 (j + 1, _) _ _ ⟨rfl, rfl, rfl, rfl, trivial⟩ ⟨by simp only []; omega, ?_, ((hk3.trans hk8).step hx9 zq26)⟩ (by simp only []; omega)
            have e := hM9
            simp only []
            rw [flat_step escB hy, ← List.append_assoc, escB, if_neg (fun e => h76 (by rw [e]; rfl))]
            exact e
        · refine X.opsEnd ?_
          refine X.condF rfl ?_
          refine X.exit rfl ?_
          refine X.region ?_
          refine X.opw X.wN rfl (X.move rfl) ?_
          refine X.opE X.wN rfl (X.lit2B (x := 0) (y := 1) Tryz.underlying43 Tryz.sizeOf5 Tryz.zeroValue5 ⟨rfl, rfl⟩ ⟨rfl, rfl⟩) ?_
          rintro _ w12 ⟨rfl, hs12, hB12, hk12, hz12⟩
          refine X.opE X.wN rfl (X.appE (K := KB) (S := fun k => w.heap.size ≤ k) KB_flat Tryz.underlying43 E5 rfl rfl (hM3.keep hk12) hs12 zq9 zq26) ?_
          rintro v13 w13 ⟨hM13, hx13⟩
          have hx13' := hx13.size
          refine X.opw X.wN rfl (X.assign rfl) ?_
          refine X.opsEnd ?_
          refine X.inBlock ?_
          refine X.region ?_
          refine X.opw X.wN rfl (X.move (v := .int .i64 _) rfl) ?_
          refine X.opw X.wN rfl (X.add rfl rfl (X.w_i64 (by omega))) ?_
          refine X.opw X.wN rfl (X.assign (v := .int .i64 _) rfl) ?_
          refine X.opsEnd ?_
          refine hback (i + 1, _) _ _ ⟨rfl, rfl, rfl, trivial⟩ ⟨by simp only []; omega, ?_, ((hk3.trans hk12).step hx13 zq26)⟩ (by simp only []; omega)
          have e := hM13.mono (T := fun k => w.heap.size ≤ k) (fun k _ h => by (try simp only [] at *); omega)
          simp only []
          rw [flat_step valK hx, valK, if_neg h23]
          rw [show j = x.2.2.data.toList.length by omega, List.take_length] at e
          simpa only [List.append_assoc, List.singleton_append, List.cons_append, List.nil_append] using e
    · refine X.opsEnd ?_
      refine X.condF rfl ?_
      refine X.exit rfl ?_
      refine X.seq ?_
      refine X.region ?_
      refine X.opw X.wN rfl (X.move rfl) ?_
      refine X.opw X.wN rfl (X.assign rfl) ?_
      refine X.opw X.wN rfl (X.assign rfl) ?_
      refine X.opsEnd ?_
      refine X.ret2 (v2 := (.int .i64 _)) Tryz.func57 Tryz.results57 rfl rfl ?_
      have e := hM
      rw [show i = l.length by omega, List.take_length] at e
      refine ⟨_, by rw [if_pos hT], ?_, hk⟩
      rw [if_pos hT]
      exact e
end Go.Proofs.YtbljooblpfdbiaaGreatDoor
namespace Go.Proofs.YtbljooblpfdbiaaGreatDoor
open Go Go.Proofs.YtbljooblpfdbiaaGreatDoor.X
theorem drop_at {α : Type} {l : List α} {i : Nat} {x : α} (hx : l[i]? = some x) : l.drop i = x :: l.drop (i + 1) := by
  obtain ⟨h, rfl⟩ := List.getElem?_eq_some_iff.1 hx
  exact List.drop_eq_getElem_cons h
end Go.Proofs.YtbljooblpfdbiaaGreatDoor
namespace Go.Proofs.YtbljooblpfdbiaaGreatDoor
open Go Go.Proofs.YtbljooblpfdbiaaGreatDoor.X
/-! ### The order of keys -/
def dig : Nat → Nat → List UInt8
  | 0, _ => []
  | n + 1, K => UInt8.ofNat (K / 256 ^ n) :: dig n K
theorem dig_8 (K : Nat) : (List.range 8).map (keyAt K) = dig 8 K := by
  have : List.range 8 = [0, 1, 2, 3, 4, 5, 6, 7] := by decide
  rw [this]
  rfl
theorem isV_cases {v : VAL} (h : isV v = true) : (v.1 = 1 ∧ v.2.2 = ⟨#[]⟩) ∨ (v.1 = 2 ∧ v.2.1 = 0 ∧ v.2.2.size ≤ 256) := by simpa [isV] using h
theorem valK_1 {v : VAL} (h : v.1 = 1) : valK v = 1 :: dig 8 (keyN v.2.1) := by rw [valK, if_pos h, dig_8]
theorem valK_2 {v : VAL} (h : v.1 = 2) : valK v = 2 :: (v.2.2.data.toList.flatMap escB ++ [0, 1]) := by rw [valK, if_neg (by omega)]
end Go.Proofs.YtbljooblpfdbiaaGreatDoor
namespace Go.Proofs.YtbljooblpfdbiaaGreatDoor
open Go Go.Proofs.YtbljooblpfdbiaaGreatDoor.X
theorem isT_all {l : List VAL} (h : isT l = true) : ∀ v ∈ l, isV v = true := by
  simp only [isT, Bool.and_eq_true, List.all_eq_true] at h
  exact h.1
theorem n20 {b : Bool} (h : ¬ (if b = true then (0 : Int) else 20) ≠ 0) : b = true := by cases b <;> simp_all
end Go.Proofs.YtbljooblpfdbiaaGreatDoor
namespace Go.Proofs.YtbljooblpfdbiaaGreatDoor
open Go Go.Proofs.YtbljooblpfdbiaaGreatDoor.X
def cntB (l : List VAL) (N : Int) : List UInt8 := tupB l ++ numB (zig N).toNat
theorem tupB_len {lo hi : Nat} {w : World} {A : Option Addr} {n : Nat} {l : List VAL} (h : Sl KV lo hi w A n l) (hT : isT l = true) : (tupB l).length ≤ 9000000 := by
  have h1 := flat_len hT (fun i x hx => KV_ok h i x hx) l.length (Nat.le_refl _)
  have h2 := isT_len hT
  rw [List.take_length] at h1
  rw [tupB, List.length_cons]; omega
theorem Counted_c {lo hi : Nat} {A : Option Addr} {n c : Nat} {l : List VAL} (N : Int) (hN : okI N) (w : World) (hs : Sl KV lo hi w A n l) (hhi : hi ≤ w.heap.size) : Ret Tryz.prog 141 #[.agg #[.slice A n c, .int .i64 N]] w fun r w' => ∃ v, r = .tuple #[v, .int .i64 (if isT l then 0 else 20)] ∧ FreshB w w' v (if isT l then cntB l N else []) := by
  refine X.enter Tryz.func141 rfl Tryz.ntmps141 rfl ?_
  refine X.seq ?_
  refine X.region ?_
  refine X.opE X.wN rfl (X.boxE rfl rfl) ?_
  rintro _ w1 ⟨rfl, hB1, hk1, hz1⟩
  refine X.opw X.wN rfl (X.assign rfl) ?_
  refine X.opw X.wN rfl (X.assign rfl) ?_
  refine X.opsEnd ?_
  refine X.seq ?_
  refine X.region ?_
  refine X.opw X.wN rfl (X.fldB (j := 0) Tryz.underlying40 rfl rfl Tryz.sizeOf38 rfl) ?_
  refine X.opw X.wN rfl (X.load1B Tryz.isAgg38 hB1 rfl rfl) ?_
  refine X.opE X.wN rfl (X.callE (Tuple_c _ (hs.keep hk1) (by omega)) Tryz.call170 rfl rfl) ?_
  rintro _ w2 ⟨v2, rfl, hM2, hk2⟩
  have hk2' := hk2.size
  refine X.opw X.wN rfl (X.move rfl) ?_
  refine X.opw X.wN rfl (X.extr rfl rfl) ?_
  refine X.opw X.wN rfl (X.extr rfl rfl) ?_
  refine X.opw X.wN rfl (X.assign rfl) ?_
  refine X.opw X.wN rfl (X.assign (v := .int .i64 _) rfl) ?_
  refine X.opsEnd ?_
  refine X.seq ?_
  refine X.seq ?_
  refine X.region ?_
  refine X.opw X.wN rfl (X.move (v := .int .i64 _) rfl) ?_
  refine X.opP X.wN rfl rfl (X.neI rfl rfl) (fun h13 => ?_) (fun h13 => ?_)
  · have hT : ¬ isT l = true := fun e => h13 (if_pos e)
    refine X.opsEnd ?_
    refine X.condT rfl ?_
    refine X.seq ?_
    refine X.region ?_
    refine X.opw X.wN rfl (X.move (v := .int .i64 _) rfl) ?_
    refine X.opw X.wN rfl (X.assign rfl) ?_
    refine X.opw X.wN rfl (X.assign (v := .int .i64 _) rfl) ?_
    refine X.opsEnd ?_
    refine X.ret2 (v2 := (.int .i64 _)) Tryz.func141 Tryz.results141 rfl rfl ?_
    exact ⟨_, by rw [if_neg hT], by rw [if_neg hT]; exact (Mine.nil _ _ _ _ _ _), (hk1.trans hk2)⟩
  · have hT := n20 h13
    rw [if_pos hT] at hM2
    have ht := tupB_len hs hT
    have hz := numB_10 _ (zig_ok N hN).2
    refine X.opsEnd ?_
    refine X.condF rfl ?_
    refine X.skip ?_
    refine X.seq ?_
    refine X.region ?_
    refine X.opw X.wN rfl (X.move rfl) ?_
    refine X.opw X.wN rfl (X.fldB (j := 1) Tryz.underlying40 rfl rfl Tryz.sizeOf2 rfl) ?_
    refine X.opw X.wN rfl (X.load1B Tryz.isAgg2 (hB1.keep hk2) rfl rfl) ?_
    refine X.opE X.wN rfl (X.callE (Int_c _ hN _) Tryz.call171 rfl rfl) ?_
    rintro v3 w3 ⟨hM3, hk3⟩
    have hk3' := hk3.size
    obtain ⟨A4, c4, rfl, hc4, hs4⟩ := hM3.slF KB_flat 0 (fun _ _ => Nat.zero_le _)
    refine X.opE X.wN rfl (X.appE (K := KB) (S := fun k => w.heap.size ≤ k) KB_flat Tryz.underlying43 E5 rfl rfl (Mine.mono (T := fun k => w.heap.size ≤ k) (hM2.keep hk3) (fun k h1 h2 => by (try simp only [] at *); omega)) hs4 zq9 zq26) ?_
    rintro v5 w5 ⟨hM5, hx5⟩
    have hx5' := hx5.size
    refine X.opw X.wN rfl (X.assign rfl) ?_
    refine X.opw X.wN rfl (X.assign rfl) ?_
    refine X.opsEnd ?_
    refine X.ret2 (v2 := (.int .i64 _)) Tryz.func141 Tryz.results141 rfl rfl ?_
    exact ⟨_, by rw [if_pos hT], by rw [if_pos hT]; exact hM5, (((hk1.trans hk2).trans hk3).step hx5 zq26)⟩
theorem RCounted_c {lo hi : Nat} {A : Option Addr} {n c : Nat} {l : List VAL} (N : Int) (hN : okI N) (w : World) (hs : Sl KV lo hi w A n l) (hhi : hi ≤ w.heap.size) : Ret Tryz.prog 111 #[.agg #[.slice A n c, .int .i64 N]] w fun r w' => ∃ v, r = .tuple #[v, .int .i64 (if isT l then 0 else 20)] ∧ FreshB w w' v (if isT l then cntB l N else []) := by
  refine X.enter Tryz.func111 rfl Tryz.ntmps111 rfl ?_
  refine X.seq ?_
  refine X.region ?_
  refine X.opE X.wN rfl (X.boxE rfl rfl) ?_
  rintro _ w1 ⟨rfl, hB1, hk1, hz1⟩
  refine X.opw X.wN rfl (X.assign rfl) ?_
  refine X.opw X.wN rfl (X.assign rfl) ?_
  refine X.opsEnd ?_
  refine X.seq ?_
  refine X.region ?_
  refine X.opw X.wN rfl (X.fldB (j := 0) Tryz.underlying40 rfl rfl Tryz.sizeOf38 rfl) ?_
  refine X.opw X.wN rfl (X.load1B Tryz.isAgg38 hB1 rfl rfl) ?_
  refine X.opE X.wN rfl (X.callE (RTuple_c _ (hs.keep hk1) (by omega)) Tryz.call147 rfl rfl) ?_
  rintro _ w2 ⟨v2, rfl, hM2, hk2⟩
  have hk2' := hk2.size
  refine X.opw X.wN rfl (X.move rfl) ?_
  refine X.opw X.wN rfl (X.extr rfl rfl) ?_
  refine X.opw X.wN rfl (X.extr rfl rfl) ?_
  refine X.opw X.wN rfl (X.assign rfl) ?_
  refine X.opw X.wN rfl (X.assign (v := .int .i64 _) rfl) ?_
  refine X.opsEnd ?_
  refine X.seq ?_
  refine X.seq ?_
  refine X.region ?_
  refine X.opw X.wN rfl (X.move (v := .int .i64 _) rfl) ?_
  refine X.opP X.wN rfl rfl (X.neI rfl rfl) (fun h13 => ?_) (fun h13 => ?_)
  · have hT : ¬ isT l = true := fun e => h13 (if_pos e)
    refine X.opsEnd ?_
    refine X.condT rfl ?_
    refine X.seq ?_
    refine X.region ?_
    refine X.opw X.wN rfl (X.move (v := .int .i64 _) rfl) ?_
    refine X.opw X.wN rfl (X.assign rfl) ?_
    refine X.opw X.wN rfl (X.assign (v := .int .i64 _) rfl) ?_
    refine X.opsEnd ?_
    refine X.ret2 (v2 := (.int .i64 _)) Tryz.func111 Tryz.results111 rfl rfl ?_
    exact ⟨_, by rw [if_neg hT], by rw [if_neg hT]; exact (Mine.nil _ _ _ _ _ _), (hk1.trans hk2)⟩
  · have hT := n20 h13
    rw [if_pos hT] at hM2
    have ht := tupB_len hs hT
    have hz := numB_10 _ (zig_ok N hN).2
    refine X.opsEnd ?_
    refine X.condF rfl ?_
    refine X.skip ?_
    refine X.seq ?_
    refine X.region ?_
    refine X.opw X.wN rfl (X.move rfl) ?_
    refine X.opw X.wN rfl (X.fldB (j := 1) Tryz.underlying40 rfl rfl Tryz.sizeOf2 rfl) ?_
    refine X.opw X.wN rfl (X.load1B Tryz.isAgg2 (hB1.keep hk2) rfl rfl) ?_
    refine X.opE X.wN rfl (X.callE (RInt_c _ hN _) Tryz.call148 rfl rfl) ?_
    rintro v3 w3 ⟨hM3, hk3⟩
    have hk3' := hk3.size
    obtain ⟨A4, c4, rfl, hc4, hs4⟩ := hM3.slF KB_flat 0 (fun _ _ => Nat.zero_le _)
    refine X.opE X.wN rfl (X.appE (K := KB) (S := fun k => w.heap.size ≤ k) KB_flat Tryz.underlying43 E5 rfl rfl (Mine.mono (T := fun k => w.heap.size ≤ k) (hM2.keep hk3) (fun k h1 h2 => by (try simp only [] at *); omega)) hs4 zq9 zq26) ?_
    rintro v5 w5 ⟨hM5, hx5⟩
    have hx5' := hx5.size
    refine X.opw X.wN rfl (X.assign rfl) ?_
    refine X.opw X.wN rfl (X.assign rfl) ?_
    refine X.opsEnd ?_
    refine X.ret2 (v2 := (.int .i64 _)) Tryz.func111 Tryz.results111 rfl rfl ?_
    exact ⟨_, by rw [if_pos hT], by rw [if_pos hT]; exact hM5, (((hk1.trans hk2).trans hk3).step hx5 zq26)⟩
end Go.Proofs.YtbljooblpfdbiaaGreatDoor
namespace Go.Proofs.YtbljooblpfdbiaaGreatDoor
open Go Go.Proofs.YtbljooblpfdbiaaGreatDoor.X
abbrev FAULT : Value := .iface 210 (.agg #[])
def Rd (w : World) (hi rb T : Nat) (xs : List UInt8) : Prop :=
  ∃ A c, xs.length ≤ c ∧ Blk w rb [.slice A xs.length c, .int .i64 ((T : Int) - (xs.length : Int))] 208 ∧ Sl KB 0 hi w A xs.length xs ∧ hi ≤ rb ∧ xs.length ≤ T ∧ T ≤ 1000000
theorem Rd.keep {w w' : World} {hi rb T : Nat} {xs : List UInt8} (h : Rd w hi rb T xs) (x : Keep w w') : Rd w' hi rb T xs := by
  obtain ⟨A, c, h1, h2, h3, h4⟩ := h
  exact ⟨A, c, h1, h2.keep x, h3.keep x, h4⟩
theorem Rd.ext {w w' : World} {hi rb T : Nat} {xs : List UInt8} {U : Nat → Prop} (h : Rd w hi rb T xs) (x : Ext U w w') (hU : ∀ k, k ≤ rb → ¬ U k) : Rd w' hi rb T xs := by
  obtain ⟨A, c, h1, h2, h3, h4, h5⟩ := h
  exact ⟨A, c, h1, h2.ext x (hU rb (Nat.le_refl _)), h3.ext x (fun k _ hk => hU k (by omega)), h4, h5⟩
theorem Rd.lt {w : World} {hi rb T : Nat} {xs : List UInt8} (h : Rd w hi rb T xs) : rb < w.heap.size := by
  obtain ⟨A, c, h1, h2, _⟩ := h
  exact h2.lt
theorem Rd.T {w : World} {hi rb T : Nat} {xs : List UInt8} (h : Rd w hi rb T xs) : hi ≤ rb ∧ xs.length ≤ T ∧ T ≤ 1000000 := by
  obtain ⟨A, c, h1, h2, h3, h4⟩ := h
  exact h4
def PP {α : Type} (f : Nat) (args : Array Value) (w : World) (hi rb T : Nat) (p : Option (α × List UInt8)) (V : α → Value → World → Prop) : Prop :=
  PRet Tryz.prog f args w FAULT p (fun b v w' => V b.1 v w' ∧ Rd w' hi rb T b.2 ∧ Ext (fun k => k = rb) w w') (fun w' => Ext (fun k => k = rb) w w')
set_option maxHeartbeats 4000000 in
set_option maxRecDepth 100000 in
theorem over_c {A : Option Addr} {n c : Nat} {xs : List UInt8} (w : World) (hs : Sl KB 0 w.heap.size w A n xs) (hnc : n ≤ c) (hn : n ≤ 1000000) : Ret Tryz.prog 161 #[.slice A n c] w fun r w' => r = .pointer (some ⟨w.heap.size, 0, none⟩) ∧ Rd w' w.heap.size w.heap.size n xs ∧ Keep w w' ∧ w'.heap.size = w.heap.size + 1 := by
  have hl := hs.len
  subst hl
  refine X.enter Tryz.func161 rfl Tryz.ntmps161 rfl ?_
  refine X.seq ?_
  refine X.region ?_
  refine X.opw X.wN rfl (X.assign rfl) ?_
  refine X.opsEnd ?_
  refine X.seq ?_
  refine X.region ?_
  refine X.opw X.wN rfl (X.move (v := .slice _ _ _) rfl) ?_
  refine X.opw X.wN rfl (X.buildB (cs := #[.slice A xs.length c]) rfl (by kernel_rfl)) ?_
  refine X.opw X.wN rfl (X.buildB (cs := #[.slice A xs.length c, .int .i64 0]) rfl (by kernel_rfl)) ?_
  refine X.opE X.wN rfl (X.boxE rfl rfl) ?_
  rintro _ w1 ⟨rfl, hB1, hk1, hz1⟩
  refine X.opw X.wN rfl (X.assign rfl) ?_
  refine X.opsEnd ?_
  refine X.ret1 Tryz.func161 Tryz.results161 rfl ?_
  exact ⟨rfl, ⟨A, c, hnc, by rw [Int.sub_self]; exact hB1, hs.keep hk1, Nat.le_refl _, Nat.le_refl _, hn⟩, hk1, by omega⟩
set_option maxHeartbeats 4000000 in
set_option maxRecDepth 100000 in
theorem some_c (hi rb T : Nat) (xs : List UInt8) (m : Int) (h0 : 0 ≤ m) (w : World) (hr : Rd w hi rb T xs) :
    PRet Tryz.prog 162 #[.pointer (some ⟨rb, 0, none⟩), .int .i64 m] w FAULT (if m ≤ (xs.length : Int) then some () else none)
      (fun _ v w' => (∃ A c, v = .slice A m.toNat c ∧ m.toNat ≤ c ∧ Sl KB 0 hi w' A m.toNat (xs.take m.toNat)) ∧ Rd w' hi rb T (xs.drop m.toNat) ∧ Ext (fun k => k = rb) w w') (fun w' => Ext (fun k => k = rb) w w') := by
  obtain ⟨A, c, hnc, hB, hs, hhr, hT1, hT2⟩ := hr
  refine X.enter Tryz.func162 rfl Tryz.ntmps162 rfl ?_
  refine X.seq ?_
  refine X.region ?_
  refine X.opw X.wN rfl (X.assign rfl) ?_
  refine X.opsEnd ?_
  refine X.seq ?_
  refine X.seq ?_
  refine X.region ?_
  refine X.opw X.wN rfl (X.move (v := .int .i64 _) rfl) ?_
  refine X.opw X.wN rfl (X.move rfl) ?_
  refine X.opw X.wN rfl (X.nilCk rfl) ?_
  refine X.opw X.wN rfl (X.fldB (j := 0) Tryz.underlying208 rfl rfl Tryz.sizeOf206 rfl) ?_
  refine X.opw X.wN rfl (X.fldB (j := 0) Tryz.underlying206 rfl rfl Tryz.sizeOf43 rfl) ?_
  refine X.opw X.wN rfl (X.load1B Tryz.isAgg43 hB rfl rfl) ?_
  refine X.opw X.wN rfl (X.lenSl Tryz.underlying43 rfl) ?_
  refine X.opP X.wN rfl rfl (X.gtr rfl rfl) (fun h13 => ?_) (fun h13 => ?_)
  · rw [if_neg (by omega)]
    refine X.opsEnd ?_
    refine X.condT rfl ?_
    refine X.region ?_
    refine X.opw X.wN rfl (X.buildB (cs := #[]) rfl (by kernel_rfl)) ?_
    refine X.opw X.wN rfl (X.mkIface Tryz.underlying210 rfl rfl) ?_
    refine X.opPanic X.wN rfl ?_
    refine X.unw_pan Tryz.func162 ?_
    exact ⟨rfl, (Ext.refl (fun k => k = rb) _)⟩
  · have hm : m.toNat ≤ xs.length := by omega
    rw [if_pos (by omega)]
    refine X.opsEnd ?_
    refine X.condF rfl ?_
    refine X.skip ?_
    refine X.seq ?_
    refine X.region ?_
    refine X.opw X.wN rfl (X.move rfl) ?_
    refine X.opw X.wN rfl (X.nilCk rfl) ?_
    refine X.opw X.wN rfl (X.fldB (j := 0) Tryz.underlying208 rfl rfl Tryz.sizeOf206 rfl) ?_
    refine X.opw X.wN rfl (X.fldB (j := 0) Tryz.underlying206 rfl rfl Tryz.sizeOf43 rfl) ?_
    refine X.opw X.wN rfl (X.load1B Tryz.isAgg43 hB rfl rfl) ?_
    refine X.opw X.wN rfl (X.move (v := .int .i64 _) rfl) ?_
    refine X.opw X.wN rfl (X.cutHr Tryz.underlying43 Tryz.sizeOf5 rfl rfl (by omega)) ?_
    refine X.opw X.wN rfl (X.assign (v := .slice _ _ _) rfl) ?_
    refine X.opsEnd ?_
    refine X.seq ?_
    refine X.region ?_
    refine X.opw X.wN rfl (X.move rfl) ?_
    refine X.opw X.wN rfl (X.move rfl) ?_
    refine X.opw X.wN rfl (X.nilCk rfl) ?_
    refine X.opw X.wN rfl (X.fldB (j := 0) Tryz.underlying208 rfl rfl Tryz.sizeOf206 rfl) ?_
    refine X.opw X.wN rfl (X.fldB (j := 0) Tryz.underlying206 rfl rfl Tryz.sizeOf43 rfl) ?_
    refine X.opw X.wN rfl (X.load1B Tryz.isAgg43 hB rfl rfl) ?_
    refine X.opw X.wN rfl (X.move (v := .int .i64 _) rfl) ?_
    refine X.opw X.wN rfl (X.cutL Tryz.underlying43 Tryz.sizeOf5 rfl rfl (by omega)) ?_
    refine X.opw X.wN rfl (X.nilCk rfl) ?_
    refine X.opw X.wN rfl (X.fldB (j := 0) Tryz.underlying208 rfl rfl Tryz.sizeOf206 rfl) ?_
    refine X.opw X.wN rfl (X.fldB (j := 0) Tryz.underlying206 rfl rfl Tryz.sizeOf43 rfl) ?_
    refine X.opE X.wN rfl (X.storeE Tryz.sizeOf43 hB rfl rfl rfl rfl) ?_
    rintro _ w1 ⟨hB1, hx1, hz1⟩
    refine X.opsEnd ?_
    refine X.seq ?_
    refine X.region ?_
    refine X.opw X.wN rfl (X.move rfl) ?_
    refine X.opw X.wN rfl (X.nilCk rfl) ?_
    refine X.opw X.wN rfl (X.fldB (j := 1) Tryz.underlying208 rfl rfl Tryz.sizeOf3 rfl) ?_
    refine X.opw X.wN rfl (X.load1B Tryz.isAgg3 hB1 rfl rfl) ?_
    refine X.opw X.wN rfl (X.move (v := .int .i64 _) rfl) ?_
    refine X.opw X.wN rfl (X.add rfl rfl (X.w_i64 (by omega))) ?_
    refine X.opw X.wN rfl (X.nilCk rfl) ?_
    refine X.opw X.wN rfl (X.fldB (j := 1) Tryz.underlying208 rfl rfl Tryz.sizeOf3 rfl) ?_
    refine X.opE X.wN rfl (X.storeE Tryz.sizeOf3 hB1 rfl rfl rfl rfl) ?_
    rintro _ w2 ⟨hB2, hx2, hz2⟩
    refine X.opsEnd ?_
    refine X.seq ?_
    refine X.region ?_
    refine X.opw X.wN rfl (X.move (v := .slice _ _ _) rfl) ?_
    refine X.opw X.wN rfl (X.assign (v := .slice _ _ _) rfl) ?_
    refine X.opsEnd ?_
    refine X.ret1 Tryz.func162 Tryz.results162 rfl ?_
    refine ⟨_, rfl, ⟨A, c, rfl, by omega, (((hs.take _ (by omega)).ext hx1 zq28).ext hx2 zq28)⟩, ?_, (Ext.andThen (Ext.andThen (Ext.refl (fun k => k = rb) _) hx1 zq23) hx2 zq23)⟩
    have hd : (xs.drop m.toNat).length = xs.length - m.toNat := List.length_drop
    refine ⟨_, _, ?_, by rw [hd]; have e := hB2; rw [show (T : Int) - ((xs.length - m.toNat : Nat) : Int) = (T : Int) - (xs.length : Int) + m by omega]; exact e, by rw [hd]; exact (((hs.ext hx1 zq28).ext hx2 zq28).drop m.toNat c hm hnc), hhr, by omega, hT2⟩
    omega
theorem head_some {l : List UInt8} {x : UInt8} (h : l.head? = some x) : ∃ ys, l = x :: ys := by
  cases l with
  | nil => cases h
  | cons y ys => cases h; exact ⟨ys, rfl⟩
theorem head_none {l : List UInt8} (h : l.head? = none) : l = [] := by
  cases l with
  | nil => rfl
  | cons y ys => cases h
theorem some1_c (hi rb T : Nat) (xs : List UInt8) (w : World) (hr : Rd w hi rb T xs) :
    PRet Tryz.prog 162 #[.pointer (some ⟨rb, 0, none⟩), .int .i64 1] w FAULT xs.head?
      (fun x v w' => (∃ A c, v = .slice A 1 c ∧ 1 ≤ c ∧ Sl KB 0 hi w' A 1 [x]) ∧ Rd w' hi rb T xs.tail ∧ Ext (fun k => k = rb) w w') (fun w' => Ext (fun k => k = rb) w w') := by
  refine (some_c hi rb T xs 1 (by decide) w hr).mono fun o w' h => ?_
  cases xs with
  | nil => exact h
  | cons x ys =>
    rw [if_pos (by simp only [List.length_cons]; omega)] at h
    exact h
def pNum : Nat → Nat → List UInt8 → Option (Nat × List UInt8)
  | _, _, [] => none
  | i, acc, c :: xs => if (i = 9 ∧ 1 < c.toNat) ∨ (0 < i ∧ c.toNat = 0) then none else if c.toNat < 128 then some (acc + c.toNat % 128 * 128 ^ i, xs) else pNum (i + 1) (acc + c.toNat % 128 * 128 ^ i) xs
theorem pow128 (i : Nat) (h : i ≤ 9) : 128 ^ i * 128 = 128 ^ (i + 1) ∧ 0 < 128 ^ i ∧ (i ≤ 8 → 128 ^ (i + 1) ≤ 9223372036854775808) ∧ (i = 9 → 128 ^ i = 9223372036854775808) := by
  refine ⟨(Nat.pow_succ ..).symm, Nat.pow_pos (by decide), fun h8 => ?_, fun h9 => by subst h9; decide⟩
  have : 128 ^ (i + 1) ≤ 128 ^ 9 := Nat.pow_le_pow_right (by decide) (by omega)
  exact Nat.le_trans this (by decide)
theorem num_bound {i acc : Nat} (c : UInt8) (hi : i ≤ 9) (ha : acc < 128 ^ i) (h9 : ¬ (i = 9 ∧ 1 < c.toNat)) : acc + c.toNat % 128 * 128 ^ i < 18446744073709551616 ∧ acc + c.toNat % 128 * 128 ^ i < 128 ^ (i + 1) ∧ (128 ≤ c.toNat → i ≤ 8) := by
  obtain ⟨p1, p2, p3, p4⟩ := pow128 i hi
  have hc : c.toNat % 128 ≤ 127 := by omega
  have hm := Nat.mul_le_mul_right (128 ^ i) hc
  have hm2 : c.toNat ≤ 1 → c.toNat % 128 * 128 ^ i ≤ 1 * 128 ^ i := fun h => Nat.mul_le_mul_right _ (by omega)
  generalize c.toNat % 128 * 128 ^ i = q at *
  refine ⟨?_, by omega, fun h => by omega⟩
  rcases (by omega : i ≤ 8 ∨ i = 9) with h | h
  · have := p3 h; omega
  · have := p4 h
    subst h
    have h1 := hm2 (by omega)
    omega
theorem u8_and (c : UInt8) : IntKind.u8.wrap ((BitVec.ofInt IntKind.u8.bits (c.toNat : Int) &&& BitVec.ofInt IntKind.u8.bits 127).toNat : Int) = ((c.toNat % 128 : Nat) : Int) := by
  have hc := c.toNat_lt
  show IntKind.u8.wrap ((BitVec.ofInt 8 (c.toNat : Int) &&& 127#8).toNat : Int) = _
  rw [BitVec.ofInt_natCast, BitVec.toNat_and, BitVec.toNat_ofNat, BitVec.toNat_ofNat, u8_wrap]
  have : c.toNat % 2 ^ 8 &&& 127 % 2 ^ 8 = c.toNat % 128 := by
    rw [show (127 : Nat) % 2 ^ 8 = 2 ^ 7 - 1 by decide, Nat.and_two_pow_sub_one_eq_mod]
    omega
  rw [this]; omega
theorem pow7 (i : Nat) : (128 : Nat) ^ i = 2 ^ (7 * i) := by rw [Nat.pow_mul]
theorem shl_7 (d i : Nat) (hi : i ≤ 9) (h : d * 128 ^ i < 18446744073709551616) : IntKind.u64.wrap (((d : Nat) : Int) * 2 ^ (min (7 * (i : Int)).toNat IntKind.u64.bits)) = ((d * 128 ^ i : Nat) : Int) := by
  have e : min (7 * (i : Int)).toNat IntKind.u64.bits = 7 * i := by
    show min _ 64 = _
    omega
  rw [e, show ((d : Int) * 2 ^ (7 * i)) = ((d * 128 ^ i : Nat) : Int) by rw [pow7]; push_cast; rfl]
  exact w_u64 (by omega)
theorem or_7 (acc d i : Nat) (ha : acc < 128 ^ i) (h : acc + d * 128 ^ i < 18446744073709551616) : IntKind.u64.wrap ((BitVec.ofInt IntKind.u64.bits ((acc : Nat) : Int) ||| BitVec.ofInt IntKind.u64.bits ((d * 128 ^ i : Nat) : Int)).toNat : Int) = ((acc + d * 128 ^ i : Nat) : Int) := by
  show IntKind.u64.wrap ((BitVec.ofInt 64 ((acc : Nat) : Int) ||| BitVec.ofInt 64 ((d * 128 ^ i : Nat) : Int)).toNat : Int) = _
  have e : acc ||| d * 128 ^ i = acc + d * 128 ^ i := by
    rw [pow7] at ha ⊢
    rw [Nat.or_comm, Nat.mul_comm d, ← Nat.two_pow_add_eq_or_of_lt ha, Nat.add_comm]
  rw [BitVec.ofInt_natCast, BitVec.ofInt_natCast, BitVec.toNat_or, BitVec.toNat_ofNat, BitVec.toNat_ofNat, Nat.mod_eq_of_lt (by omega), Nat.mod_eq_of_lt (by omega), e]
  exact w_u64 (by omega)
set_option maxHeartbeats 4000000 in
set_option maxRecDepth 100000 in
theorem num_c (hi rb T : Nat) (xs : List UInt8) (w : World) (hr : Rd w hi rb T xs) : PP 158 #[.pointer (some ⟨rb, 0, none⟩)] w hi rb T (pNum 0 0 xs) (fun a v _ => v = .int .u64 ((a : Nat) : Int) ∧ a < 18446744073709551616) := by
  have hrl := hr.lt
  refine X.enter Tryz.func158 rfl Tryz.ntmps158 rfl ?_
  refine X.seq ?_
  refine X.region ?_
  refine X.opw X.wN rfl (X.assign rfl) ?_
  refine X.opsEnd ?_
  refine X.seq ?_
  refine X.region ?_
  refine X.opw X.wN rfl (X.assign rfl) ?_
  refine X.opsEnd ?_
  refine X.seq ?_
  refine X.region ?_
  refine X.opw X.wN rfl (X.assign rfl) ?_
  refine X.opsEnd ?_
  refine X.block ?_
  refine X.loopL (σ := Nat × Nat × List UInt8) (fun s => [(0, .pointer (some ⟨rb, 0, none⟩)), (3, .int .u64 ((s.2.1 : Nat) : Int)), (4, .int .u64 ((s.1 : Nat) : Int))]) (fun s w' => s.1 ≤ 9 ∧ s.2.1 < 128 ^ s.1 ∧ Rd w' hi rb T s.2.2 ∧ pNum s.1 s.2.1 s.2.2 = pNum 0 0 xs ∧ Ext (fun k => k = rb) w w') (fun s => s.2.2.length) (0, 0, xs) ⟨rfl, rfl, rfl, trivial⟩ ⟨by simp, by simp, hr, rfl, (Ext.refl (fun k => k = rb) _)⟩ ?_
  rintro ⟨i, acc, l⟩ b wl ⟨hi0, ha, hR, hp, hk⟩ hback
  simp only at hi0 ha hR hp
  have hk' := hk.size
  refine X.seq ?_
  refine X.block ?_
  refine X.seq ?_
  refine X.region ?_
  refine X.opw X.wN rfl (X.move rfl) ?_
  refine X.opPR (some1_c hi rb T _ _ hR) X.wN rfl Tryz.call162 rfl (fun x1 hb1 => ?_) (fun hb1 => ?_)
  · rintro _ w1 ⟨⟨A1, c1, rfl, hcc1, hs1⟩, hR1, hx1⟩
    have hx1' := hx1.size
    obtain ⟨ys1, rfl⟩ := head_some hb1
    simp only [List.tail_cons] at hR1
    refine X.opw X.wN rfl (X.idxS hs1 Tryz.underlying43 Tryz.sizeOf5 rfl rfl ⟨by omega, by omega⟩) ?_
    refine X.opw X.wN rfl (X.loadS Tryz.isAgg5 hs1 (j := 0) rfl rfl (fun _ h => by rw [h.1]; rfl)) ?_
    refine X.opw X.wN rfl (X.assign (v := .int .u8 _) rfl) ?_
    refine X.opsEnd ?_
    refine X.seq ?_
    refine X.seq ?_
    refine X.region ?_
    refine X.opw X.wN rfl (X.move (v := .int .u64 _) rfl) ?_
    refine X.opP X.wN rfl rfl (X.eqI rfl rfl) (fun h13 => ?_) (fun h13 => ?_)
    · refine X.opw X.wN rfl (X.move (v := .bool true) rfl) ?_
      refine X.opw (X.wG rfl rfl rfl) rfl (X.move (v := .int .u8 _) rfl) ?_
      refine X.opP (X.wG rfl rfl rfl) rfl rfl (X.gtr rfl rfl) (fun h16 => ?_) (fun h16 => ?_)
      · refine X.opw X.wN rfl (X.pickT (v := .bool true) rfl rfl) ?_
        refine X.opw X.wN rfl (X.move (v := .bool true) rfl) ?_
        refine X.opS rfl rfl rfl rfl rfl ?_
        refine X.opS rfl rfl rfl rfl rfl ?_
        refine X.opS rfl rfl rfl rfl rfl ?_
        refine X.opU rfl rfl rfl rfl ?_
        refine X.opU rfl rfl rfl rfl ?_
        refine X.opS rfl rfl rfl rfl rfl ?_
        refine X.opw X.wN rfl (X.pickT (v := .bool true) rfl rfl) ?_
        refine X.opsEnd ?_
        refine X.condT rfl ?_
        refine X.region ?_
        refine X.opw X.wN rfl (X.buildB (cs := #[]) rfl (by kernel_rfl)) ?_
        refine X.opw X.wN rfl (X.mkIface Tryz.underlying210 rfl rfl) ?_
        refine X.opPanic X.wN rfl ?_
        refine X.unw_pan Tryz.func158 ?_
        first
        | (rw [← hp, head_none hb1]; exact ⟨rfl, (Ext.andThen (Ext.andThen (Ext.refl (fun k => k = rb) _) hk zq23) hx1 zq23)⟩)
        | (rw [← hp, pNum, if_pos (by omega)]; exact ⟨rfl, (Ext.andThen (Ext.andThen (Ext.refl (fun k => k = rb) _) hk zq23) hx1 zq23)⟩)
      · refine X.opw X.wN rfl (X.pickT (v := .bool false) rfl rfl) ?_
        refine X.opw X.wN rfl (X.move (v := .bool false) rfl) ?_
        refine X.opw (X.wG rfl rfl rfl) rfl (X.move (v := .int .u64 _) rfl) ?_
        refine X.opP (X.wG rfl rfl rfl) rfl rfl (X.gtr rfl rfl) (fun h20 => ?_) (fun h20 => ?_)
        · refine X.opw (X.wG rfl rfl rfl) rfl (X.move (v := .bool true) rfl) ?_
          refine X.opw (X.wG rfl rfl rfl) rfl (X.move (v := .int .u8 _) rfl) ?_
          refine X.opP (X.wG rfl rfl rfl) rfl rfl (X.eqI rfl rfl) (fun h23 => ?_) (fun h23 => ?_)
          · refine X.opw (X.wG rfl rfl rfl) rfl (X.pickT (v := .bool true) rfl rfl) ?_
            refine X.opw X.wN rfl (X.pickF (v := .bool true) rfl rfl) ?_
            refine X.opsEnd ?_
            refine X.condT rfl ?_
            refine X.region ?_
            refine X.opw X.wN rfl (X.buildB (cs := #[]) rfl (by kernel_rfl)) ?_
            refine X.opw X.wN rfl (X.mkIface Tryz.underlying210 rfl rfl) ?_
            refine X.opPanic X.wN rfl ?_
            refine X.unw_pan Tryz.func158 ?_
            first
            | (rw [← hp, head_none hb1]; exact ⟨rfl, (Ext.andThen (Ext.andThen (Ext.refl (fun k => k = rb) _) hk zq23) hx1 zq23)⟩)
            | (rw [← hp, pNum, if_pos (by omega)]; exact ⟨rfl, (Ext.andThen (Ext.andThen (Ext.refl (fun k => k = rb) _) hk zq23) hx1 zq23)⟩)
          · refine X.opw (X.wG rfl rfl rfl) rfl (X.pickT (v := .bool false) rfl rfl) ?_
            refine X.opw X.wN rfl (X.pickF (v := .bool false) rfl rfl) ?_
            refine X.opsEnd ?_
            refine X.condF rfl ?_
            refine X.skip ?_
            refine X.seq ?_
            refine X.region ?_
            refine X.opw X.wN rfl (X.move (v := .int .u64 _) rfl) ?_
            refine X.opw X.wN rfl (X.move (v := .int .u8 _) rfl) ?_
            refine X.opw X.wN rfl (X.and_ rfl rfl (u8_and x1)) ?_
            refine X.opw X.wN rfl (X.cvI Tryz.underlying5 Tryz.underlying119 rfl (X.w_u64 (by omega))) ?_
            refine X.opw X.wN rfl (X.move (v := .int .u64 _) rfl) ?_
            refine X.opw X.wN rfl (X.mul rfl rfl (X.w_u64 (by omega))) ?_
            refine X.opw X.wN rfl (X.shl rfl rfl (by omega) (shl_7 _ i hi0 (Nat.lt_of_le_of_lt (Nat.le_add_left _ acc) (num_bound x1 hi0 ha (by omega)).1))) ?_
            refine X.opw X.wN rfl (X.or_ rfl rfl (or_7 acc _ i ha (num_bound x1 hi0 ha (by omega)).1)) ?_
            refine X.opw X.wN rfl (X.assign (v := .int .u64 _) rfl) ?_
            refine X.opsEnd ?_
            refine X.seq ?_
            refine X.region ?_
            refine X.opw X.wN rfl (X.move (v := .int .u8 _) rfl) ?_
            refine X.opP X.wN rfl rfl (X.lss rfl rfl) (fun h37 => ?_) (fun h37 => ?_)
            · refine X.opsEnd ?_
              refine X.condT rfl ?_
              refine X.seq ?_
              refine X.region ?_
              refine X.opw X.wN rfl (X.move (v := .int .u64 _) rfl) ?_
              refine X.opw X.wN rfl (X.assign (v := .int .u64 _) rfl) ?_
              refine X.opsEnd ?_
              refine X.ret1 (v := (.int .u64 _)) Tryz.func158 Tryz.results158 rfl ?_
              rw [← hp, pNum, if_neg (by omega), if_pos (by omega)]
              exact ⟨_, rfl, ⟨rfl, (num_bound x1 hi0 ha (by omega)).1⟩, hR1, (Ext.andThen (Ext.andThen (Ext.refl (fun k => k = rb) _) hk zq23) hx1 zq23)⟩
            · refine X.opsEnd ?_
              refine X.condF rfl ?_
              refine X.skip ?_
              refine X.inBlock ?_
              refine X.region ?_
              refine X.opw X.wN rfl (X.move (v := .int .u64 _) rfl) ?_
              refine X.opw X.wN rfl (X.add rfl rfl (X.w_u64 (by omega))) ?_
              refine X.opw X.wN rfl (X.assign (v := .int .u64 _) rfl) ?_
              refine X.opsEnd ?_
              refine hback (i + 1, acc + x1.toNat % 128 * 128 ^ i, ys1) _ _ ⟨rfl, rfl, rfl, trivial⟩ ⟨by have := (num_bound x1 hi0 ha (by omega)).2.2; simp only []; omega, (num_bound x1 hi0 ha (by omega)).2.1, hR1, by rw [← hp, pNum, if_neg (by omega), if_neg (by omega)], (Ext.andThen (Ext.andThen (Ext.refl (fun k => k = rb) _) hk zq23) hx1 zq23)⟩ (by simp)
        · refine X.opw (X.wG rfl rfl rfl) rfl (X.move (v := .bool false) rfl) ?_
          refine X.opS rfl rfl rfl rfl rfl ?_
          refine X.opS rfl rfl rfl rfl rfl ?_
          refine X.opw (X.wG rfl rfl rfl) rfl (X.pickF (v := .bool false) rfl rfl) ?_
          refine X.opw X.wN rfl (X.pickF (v := .bool false) rfl rfl) ?_
          refine X.opsEnd ?_
          refine X.condF rfl ?_
          refine X.skip ?_
          refine X.seq ?_
          refine X.region ?_
          refine X.opw X.wN rfl (X.move (v := .int .u64 _) rfl) ?_
          refine X.opw X.wN rfl (X.move (v := .int .u8 _) rfl) ?_
          refine X.opw X.wN rfl (X.and_ rfl rfl (u8_and x1)) ?_
          refine X.opw X.wN rfl (X.cvI Tryz.underlying5 Tryz.underlying119 rfl (X.w_u64 (by omega))) ?_
          refine X.opw X.wN rfl (X.move (v := .int .u64 _) rfl) ?_
          refine X.opw X.wN rfl (X.mul rfl rfl (X.w_u64 (by omega))) ?_
          refine X.opw X.wN rfl (X.shl rfl rfl (by omega) (shl_7 _ i hi0 (Nat.lt_of_le_of_lt (Nat.le_add_left _ acc) (num_bound x1 hi0 ha (by omega)).1))) ?_
          refine X.opw X.wN rfl (X.or_ rfl rfl (or_7 acc _ i ha (num_bound x1 hi0 ha (by omega)).1)) ?_
          refine X.opw X.wN rfl (X.assign (v := .int .u64 _) rfl) ?_
          refine X.opsEnd ?_
          refine X.seq ?_
          refine X.region ?_
          refine X.opw X.wN rfl (X.move (v := .int .u8 _) rfl) ?_
          refine X.opP X.wN rfl rfl (X.lss rfl rfl) (fun h37 => ?_) (fun h37 => ?_)
          · refine X.opsEnd ?_
            refine X.condT rfl ?_
            refine X.seq ?_
            refine X.region ?_
            refine X.opw X.wN rfl (X.move (v := .int .u64 _) rfl) ?_
            refine X.opw X.wN rfl (X.assign (v := .int .u64 _) rfl) ?_
            refine X.opsEnd ?_
            refine X.ret1 (v := (.int .u64 _)) Tryz.func158 Tryz.results158 rfl ?_
            rw [← hp, pNum, if_neg (by omega), if_pos (by omega)]
            exact ⟨_, rfl, ⟨rfl, (num_bound x1 hi0 ha (by omega)).1⟩, hR1, (Ext.andThen (Ext.andThen (Ext.refl (fun k => k = rb) _) hk zq23) hx1 zq23)⟩
          · refine X.opsEnd ?_
            refine X.condF rfl ?_
            refine X.skip ?_
            refine X.inBlock ?_
            refine X.region ?_
            refine X.opw X.wN rfl (X.move (v := .int .u64 _) rfl) ?_
            refine X.opw X.wN rfl (X.add rfl rfl (X.w_u64 (by omega))) ?_
            refine X.opw X.wN rfl (X.assign (v := .int .u64 _) rfl) ?_
            refine X.opsEnd ?_
            refine hback (i + 1, acc + x1.toNat % 128 * 128 ^ i, ys1) _ _ ⟨rfl, rfl, rfl, trivial⟩ ⟨by have := (num_bound x1 hi0 ha (by omega)).2.2; simp only []; omega, (num_bound x1 hi0 ha (by omega)).2.1, hR1, by rw [← hp, pNum, if_neg (by omega), if_neg (by omega)], (Ext.andThen (Ext.andThen (Ext.refl (fun k => k = rb) _) hk zq23) hx1 zq23)⟩ (by simp)
    · refine X.opw X.wN rfl (X.move (v := .bool false) rfl) ?_
      refine X.opS rfl rfl rfl rfl rfl ?_
      refine X.opS rfl rfl rfl rfl rfl ?_
      refine X.opw X.wN rfl (X.pickF (v := .bool false) rfl rfl) ?_
      refine X.opw X.wN rfl (X.move (v := .bool false) rfl) ?_
      refine X.opw (X.wG rfl rfl rfl) rfl (X.move (v := .int .u64 _) rfl) ?_
      refine X.opP (X.wG rfl rfl rfl) rfl rfl (X.gtr rfl rfl) (fun h20 => ?_) (fun h20 => ?_)
      · refine X.opw (X.wG rfl rfl rfl) rfl (X.move (v := .bool true) rfl) ?_
        refine X.opw (X.wG rfl rfl rfl) rfl (X.move (v := .int .u8 _) rfl) ?_
        refine X.opP (X.wG rfl rfl rfl) rfl rfl (X.eqI rfl rfl) (fun h23 => ?_) (fun h23 => ?_)
        · refine X.opw (X.wG rfl rfl rfl) rfl (X.pickT (v := .bool true) rfl rfl) ?_
          refine X.opw X.wN rfl (X.pickF (v := .bool true) rfl rfl) ?_
          refine X.opsEnd ?_
          refine X.condT rfl ?_
          refine X.region ?_
          refine X.opw X.wN rfl (X.buildB (cs := #[]) rfl (by kernel_rfl)) ?_
          refine X.opw X.wN rfl (X.mkIface Tryz.underlying210 rfl rfl) ?_
          refine X.opPanic X.wN rfl ?_
          refine X.unw_pan Tryz.func158 ?_
          first
          | (rw [← hp, head_none hb1]; exact ⟨rfl, (Ext.andThen (Ext.andThen (Ext.refl (fun k => k = rb) _) hk zq23) hx1 zq23)⟩)
          | (rw [← hp, pNum, if_pos (by omega)]; exact ⟨rfl, (Ext.andThen (Ext.andThen (Ext.refl (fun k => k = rb) _) hk zq23) hx1 zq23)⟩)
        · refine X.opw (X.wG rfl rfl rfl) rfl (X.pickT (v := .bool false) rfl rfl) ?_
          refine X.opw X.wN rfl (X.pickF (v := .bool false) rfl rfl) ?_
          refine X.opsEnd ?_
          refine X.condF rfl ?_
          refine X.skip ?_
          refine X.seq ?_
          refine X.region ?_
          refine X.opw X.wN rfl (X.move (v := .int .u64 _) rfl) ?_
          refine X.opw X.wN rfl (X.move (v := .int .u8 _) rfl) ?_
          refine X.opw X.wN rfl (X.and_ rfl rfl (u8_and x1)) ?_
          refine X.opw X.wN rfl (X.cvI Tryz.underlying5 Tryz.underlying119 rfl (X.w_u64 (by omega))) ?_
          refine X.opw X.wN rfl (X.move (v := .int .u64 _) rfl) ?_
          refine X.opw X.wN rfl (X.mul rfl rfl (X.w_u64 (by omega))) ?_
          refine X.opw X.wN rfl (X.shl rfl rfl (by omega) (shl_7 _ i hi0 (Nat.lt_of_le_of_lt (Nat.le_add_left _ acc) (num_bound x1 hi0 ha (by omega)).1))) ?_
          refine X.opw X.wN rfl (X.or_ rfl rfl (or_7 acc _ i ha (num_bound x1 hi0 ha (by omega)).1)) ?_
          refine X.opw X.wN rfl (X.assign (v := .int .u64 _) rfl) ?_
          refine X.opsEnd ?_
          refine X.seq ?_
          refine X.region ?_
          refine X.opw X.wN rfl (X.move (v := .int .u8 _) rfl) ?_
          refine X.opP X.wN rfl rfl (X.lss rfl rfl) (fun h37 => ?_) (fun h37 => ?_)
          · refine X.opsEnd ?_
            refine X.condT rfl ?_
            refine X.seq ?_
            refine X.region ?_
            refine X.opw X.wN rfl (X.move (v := .int .u64 _) rfl) ?_
            refine X.opw X.wN rfl (X.assign (v := .int .u64 _) rfl) ?_
            refine X.opsEnd ?_
            refine X.ret1 (v := (.int .u64 _)) Tryz.func158 Tryz.results158 rfl ?_
            rw [← hp, pNum, if_neg (by omega), if_pos (by omega)]
            exact ⟨_, rfl, ⟨rfl, (num_bound x1 hi0 ha (by omega)).1⟩, hR1, (Ext.andThen (Ext.andThen (Ext.refl (fun k => k = rb) _) hk zq23) hx1 zq23)⟩
          · refine X.opsEnd ?_
            refine X.condF rfl ?_
            refine X.skip ?_
            refine X.inBlock ?_
            refine X.region ?_
            refine X.opw X.wN rfl (X.move (v := .int .u64 _) rfl) ?_
            refine X.opw X.wN rfl (X.add rfl rfl (X.w_u64 (by omega))) ?_
            refine X.opw X.wN rfl (X.assign (v := .int .u64 _) rfl) ?_
            refine X.opsEnd ?_
            refine hback (i + 1, acc + x1.toNat % 128 * 128 ^ i, ys1) _ _ ⟨rfl, rfl, rfl, trivial⟩ ⟨by have := (num_bound x1 hi0 ha (by omega)).2.2; simp only []; omega, (num_bound x1 hi0 ha (by omega)).2.1, hR1, by rw [← hp, pNum, if_neg (by omega), if_neg (by omega)], (Ext.andThen (Ext.andThen (Ext.refl (fun k => k = rb) _) hk zq23) hx1 zq23)⟩ (by simp)
      · refine X.opw (X.wG rfl rfl rfl) rfl (X.move (v := .bool false) rfl) ?_
        refine X.opS rfl rfl rfl rfl rfl ?_
        refine X.opS rfl rfl rfl rfl rfl ?_
        refine X.opw (X.wG rfl rfl rfl) rfl (X.pickF (v := .bool false) rfl rfl) ?_
        refine X.opw X.wN rfl (X.pickF (v := .bool false) rfl rfl) ?_
        refine X.opsEnd ?_
        refine X.condF rfl ?_
        refine X.skip ?_
        refine X.seq ?_
        refine X.region ?_
        refine X.opw X.wN rfl (X.move (v := .int .u64 _) rfl) ?_
        refine X.opw X.wN rfl (X.move (v := .int .u8 _) rfl) ?_
        refine X.opw X.wN rfl (X.and_ rfl rfl (u8_and x1)) ?_
        refine X.opw X.wN rfl (X.cvI Tryz.underlying5 Tryz.underlying119 rfl (X.w_u64 (by omega))) ?_
        refine X.opw X.wN rfl (X.move (v := .int .u64 _) rfl) ?_
        refine X.opw X.wN rfl (X.mul rfl rfl (X.w_u64 (by omega))) ?_
        refine X.opw X.wN rfl (X.shl rfl rfl (by omega) (shl_7 _ i hi0 (Nat.lt_of_le_of_lt (Nat.le_add_left _ acc) (num_bound x1 hi0 ha (by omega)).1))) ?_
        refine X.opw X.wN rfl (X.or_ rfl rfl (or_7 acc _ i ha (num_bound x1 hi0 ha (by omega)).1)) ?_
        refine X.opw X.wN rfl (X.assign (v := .int .u64 _) rfl) ?_
        refine X.opsEnd ?_
        refine X.seq ?_
        refine X.region ?_
        refine X.opw X.wN rfl (X.move (v := .int .u8 _) rfl) ?_
        refine X.opP X.wN rfl rfl (X.lss rfl rfl) (fun h37 => ?_) (fun h37 => ?_)
        · refine X.opsEnd ?_
          refine X.condT rfl ?_
          refine X.seq ?_
          refine X.region ?_
          refine X.opw X.wN rfl (X.move (v := .int .u64 _) rfl) ?_
          refine X.opw X.wN rfl (X.assign (v := .int .u64 _) rfl) ?_
          refine X.opsEnd ?_
          refine X.ret1 (v := (.int .u64 _)) Tryz.func158 Tryz.results158 rfl ?_
          rw [← hp, pNum, if_neg (by omega), if_pos (by omega)]
          exact ⟨_, rfl, ⟨rfl, (num_bound x1 hi0 ha (by omega)).1⟩, hR1, (Ext.andThen (Ext.andThen (Ext.refl (fun k => k = rb) _) hk zq23) hx1 zq23)⟩
        · refine X.opsEnd ?_
          refine X.condF rfl ?_
          refine X.skip ?_
          refine X.inBlock ?_
          refine X.region ?_
          refine X.opw X.wN rfl (X.move (v := .int .u64 _) rfl) ?_
          refine X.opw X.wN rfl (X.add rfl rfl (X.w_u64 (by omega))) ?_
          refine X.opw X.wN rfl (X.assign (v := .int .u64 _) rfl) ?_
          refine X.opsEnd ?_
          refine hback (i + 1, acc + x1.toNat % 128 * 128 ^ i, ys1) _ _ ⟨rfl, rfl, rfl, trivial⟩ ⟨by have := (num_bound x1 hi0 ha (by omega)).2.2; simp only []; omega, (num_bound x1 hi0 ha (by omega)).2.1, hR1, by rw [← hp, pNum, if_neg (by omega), if_neg (by omega)], (Ext.andThen (Ext.andThen (Ext.refl (fun k => k = rb) _) hk zq23) hx1 zq23)⟩ (by simp)
  · rintro w1 hx1
    have hx1' := hx1.size
    refine X.unw_pan Tryz.func158 ?_
    first
    | (rw [← hp, head_none hb1]; exact ⟨rfl, (Ext.andThen (Ext.andThen (Ext.refl (fun k => k = rb) _) hk zq23) hx1 zq23)⟩)
    | (rw [← hp, pNum, if_pos (by omega)]; exact ⟨rfl, (Ext.andThen (Ext.andThen (Ext.refl (fun k => k = rb) _) hk zq23) hx1 zq23)⟩)
end Go.Proofs.YtbljooblpfdbiaaGreatDoor
namespace Go.Proofs.YtbljooblpfdbiaaGreatDoor
open Go Go.Proofs.YtbljooblpfdbiaaGreatDoor.X
def unzig (a : Nat) : Int := if a % 2 = 0 then (a / 2 : Nat) else -((a / 2 : Nat) : Int) - 1
def pInt (xs : List UInt8) : Option (Int × List UInt8) := (pNum 0 0 xs).map fun b => (unzig b.1, b.2)
theorem unzig_ok {a : Nat} (h : a < 18446744073709551616) : okI (unzig a) := by
  unfold unzig okI; split <;> omega
theorem and_1 (a : Nat) (h : a < 18446744073709551616) : IntKind.u64.wrap ((BitVec.ofInt IntKind.u64.bits ((a : Nat) : Int) &&& BitVec.ofInt IntKind.u64.bits 1).toNat : Int) = ((a % 2 : Nat) : Int) := by
  show IntKind.u64.wrap ((BitVec.ofInt 64 ((a : Nat) : Int) &&& 1#64).toNat : Int) = _
  rw [BitVec.ofInt_natCast, BitVec.toNat_and, BitVec.toNat_ofNat, BitVec.toNat_ofNat]
  have : a % 2 ^ 64 &&& 1 % 2 ^ 64 = a % 2 := by
    rw [show (1 : Nat) % 2 ^ 64 = 2 ^ 1 - 1 by decide, Nat.and_two_pow_sub_one_eq_mod]
    omega
  rw [this]; exact w_u64 (by omega)
theorem shr_1 (a : Nat) : ((a : Nat) : Int).fdiv (2 ^ (min (1 : Int).toNat IntKind.u64.bits)) = ((a / 2 : Nat) : Int) := by
  rw [Int.fdiv_eq_ediv_of_nonneg _ (by decide)]
  rfl
theorem unzig_xor (a : Nat) (h : a < 18446744073709551616) : IntKind.i64.wrap ((BitVec.ofInt IntKind.i64.bits ((a / 2 : Nat) : Int) ^^^ BitVec.ofInt IntKind.i64.bits (0 - ((a % 2 : Nat) : Int))).toNat : Int) = unzig a := by
  show IntKind.i64.wrap ((BitVec.ofInt 64 ((a / 2 : Nat) : Int) ^^^ BitVec.ofInt 64 (0 - ((a % 2 : Nat) : Int))).toNat : Int) = _
  unfold unzig
  rcases Nat.mod_two_eq_zero_or_one a with e | e
  · rw [e, if_pos rfl, show (0 : Int) - ((0 : Nat) : Int) = 0 by rfl, show BitVec.ofInt 64 0 = 0#64 by decide, BitVec.xor_zero, BitVec.ofInt_natCast, BitVec.toNat_ofNat, Nat.mod_eq_of_lt (by omega)]
    exact w_i64 (by omega)
  · have key : ∀ y : Nat, y = 18446744073709551615 - a / 2 → IntKind.i64.wrap (y : Int) = -((a / 2 : Nat) : Int) - 1 := by
      intro y hy
      have hs : y + a / 2 = 18446744073709551615 := by rw [hy]; exact Nat.sub_add_cancel (by omega)
      clear hy
      simp only [IntKind.wrap, IntKind.bits, IntKind.signed, Bool.true_and]
      split <;> simp_all <;> omega
    rw [e, if_neg (by decide), show (0 : Int) - ((1 : Nat) : Int) = -1 by rfl, show BitVec.ofInt 64 (-1) = BitVec.allOnes 64 by decide, BitVec.xor_allOnes]
    refine key _ ?_
    rw [BitVec.toNat_not, BitVec.ofInt_natCast, BitVec.toNat_ofNat, Nat.mod_eq_of_lt (by omega)]
set_option maxHeartbeats 4000000 in
set_option maxRecDepth 100000 in
theorem whole_c (hi rb T : Nat) (xs : List UInt8) (w : World) (hr : Rd w hi rb T xs) : PP 136 #[.pointer (some ⟨rb, 0, none⟩)] w hi rb T (pInt xs) (fun a v _ => v = .int .i64 a ∧ okI a) := by
  have hrl := hr.lt
  refine X.enter Tryz.func136 rfl Tryz.ntmps136 rfl ?_
  refine X.seq ?_
  refine X.region ?_
  refine X.opw X.wN rfl (X.assign rfl) ?_
  refine X.opsEnd ?_
  refine X.seq ?_
  refine X.region ?_
  refine X.opw X.wN rfl (X.move rfl) ?_
  refine X.opPR (num_c hi rb T _ _ hr) X.wN rfl Tryz.call158 rfl (fun b1 hb1 => ?_) (fun hb1 => ?_)
  · rintro _ w1 ⟨⟨rfl, hn1⟩, hR1, hx1⟩
    have hx1' := hx1.size
    obtain ⟨a1, ys1⟩ := b1
    simp only at hR1 hn1
    refine X.opw X.wN rfl (X.assign (v := .int .u64 _) rfl) ?_
    refine X.opsEnd ?_
    refine X.seq ?_
    refine X.region ?_
    refine X.opw X.wN rfl (X.move (v := .int .u64 _) rfl) ?_
    refine X.opw X.wN rfl (X.shr rfl rfl (by decide) (shr_1 a1)) ?_
    refine X.opw X.wN rfl (X.cvI Tryz.underlying119 Tryz.underlying2 rfl (X.w_i64 (by omega))) ?_
    refine X.opw X.wN rfl (X.move (v := .int .u64 _) rfl) ?_
    refine X.opw X.wN rfl (X.and_ rfl rfl (and_1 a1 hn1)) ?_
    refine X.opw X.wN rfl (X.cvI Tryz.underlying119 Tryz.underlying2 rfl (X.w_i64 (by omega))) ?_
    refine X.opw X.wN rfl (X.neg rfl (X.w_i64 (by omega))) ?_
    refine X.opw X.wN rfl (X.xor_ rfl rfl (unzig_xor a1 hn1)) ?_
    refine X.opw X.wN rfl (X.assign (v := .int .i64 _) rfl) ?_
    refine X.opsEnd ?_
    refine X.ret1 (v := (.int .i64 _)) Tryz.func136 Tryz.results136 rfl ?_
    rw [pInt, hb1]
    exact ⟨_, rfl, ⟨rfl, unzig_ok hn1⟩, hR1, (Ext.andThen (Ext.refl (fun k => k = rb) _) hx1 zq23)⟩
  · rintro w1 hx1
    have hx1' := hx1.size
    refine X.unw_pan Tryz.func136 ?_
    rw [pInt, hb1]
    exact ⟨rfl, (Ext.andThen (Ext.refl (fun k => k = rb) _) hx1 zq23)⟩
set_option maxHeartbeats 4000000 in
set_option maxRecDepth 100000 in
theorem Clone_c {lo hi : Nat} {A : Option Addr} {n c : Nat} {l : List UInt8} (w : World) (hs : Sl KB lo hi w A n l) (hn : n ≤ 1000000) : Ret Tryz.prog 87 #[.slice A n c] w fun r w' => FreshB w w' r l := by
  have hl := hs.len
  refine X.enter Tryz.func87 rfl Tryz.ntmps87 rfl ?_
  refine X.seq ?_
  refine X.region ?_
  refine X.opw X.wN rfl (X.assign rfl) ?_
  refine X.opsEnd ?_
  refine X.seq ?_
  refine X.seq ?_
  refine X.region ?_
  refine X.opw X.wN rfl (X.move (v := .slice _ _ _) rfl) ?_
  refine X.opB X.wN rfl rfl (X.eqNil Tryz.underlying43 rfl rfl) (fun h4 => ?_) (fun h4 => ?_)
  · refine X.opsEnd ?_
    refine X.condT rfl ?_
    refine X.seq ?_
    refine X.region ?_
    refine X.opw X.wN rfl (X.assign rfl) ?_
    refine X.opsEnd ?_
    refine X.ret1 Tryz.func87 Tryz.results87 rfl ?_
    refine ⟨?_, (Keep.refl _)⟩
    rcases Nat.eq_zero_or_pos n with h | h
    · have hq : l = [] := List.eq_nil_of_length_eq_zero (by omega)
      subst hq; exact (Mine.nil _ _ _ _ _ _)
    · obtain ⟨ad, e, _⟩ := hs.at_ h
      subst e; simp at h4
  · refine X.opsEnd ?_
    refine X.condF rfl ?_
    refine X.skip ?_
    refine X.seq ?_
    refine X.region ?_
    refine X.opE X.wN rfl (X.lit0E (K := KB) (S := fun k => w.heap.size ≤ k) Tryz.underlying43 Tryz.sizeOf5 zq26) ?_
    rintro v1 w1 ⟨hM1, hk1, hz1⟩
    refine X.opw X.wN rfl (X.move (v := .slice _ _ _) rfl) ?_
    refine X.opE X.wN rfl (X.appE (K := KB) (S := fun k => w.heap.size ≤ k) KB_flat Tryz.underlying43 E5 rfl rfl hM1 (hs.keep hk1) zq9 zq26) ?_
    rintro v2 w2 ⟨hM2, hx2⟩
    have hx2' := hx2.size
    refine X.opw X.wN rfl (X.assign rfl) ?_
    refine X.opsEnd ?_
    refine X.ret1 Tryz.func87 Tryz.results87 rfl ?_
    exact ⟨hM2, (hk1.step hx2 zq26)⟩
def pText (most : Int) (xs : List UInt8) : Option (List UInt8 × List UInt8) :=
  match pNum 0 0 xs with
  | none => none
  | some (a, ys) => if most < 0 ∨ most < (a : Int) ∨ 1048576 < a ∨ ys.length < a then none else some (ys.take a, ys.drop a)
set_option maxHeartbeats 4000000 in
set_option maxRecDepth 100000 in
theorem text_c (most : Int) (hmo : okI most) (hi rb T : Nat) (xs : List UInt8) (w : World) (hr : Rd w hi rb T xs) : PP 129 #[.pointer (some ⟨rb, 0, none⟩), .int .i64 most] w hi rb T (pText most xs) (fun a v w' => Mine KB 5 (fun k => w.heap.size ≤ k) 0 0 w' v a) := by
  have hrl := hr.lt
  unfold okI at hmo
  refine X.enter Tryz.func129 rfl Tryz.ntmps129 rfl ?_
  refine X.seq ?_
  refine X.region ?_
  refine X.opw X.wN rfl (X.assign rfl) ?_
  refine X.opsEnd ?_
  refine X.seq ?_
  refine X.region ?_
  refine X.opw X.wN rfl (X.move rfl) ?_
  refine X.opPR (num_c hi rb T _ _ hr) X.wN rfl Tryz.call158 rfl (fun b1 hb1 => ?_) (fun hb1 => ?_)
  · rintro _ w1 ⟨⟨rfl, hn1⟩, hR1, hx1⟩
    have hx1' := hx1.size
    obtain ⟨a1, ys1⟩ := b1
    simp only at hR1 hn1
    refine X.opw X.wN rfl (X.assign (v := .int .u64 _) rfl) ?_
    refine X.opsEnd ?_
    refine X.seq ?_
    refine X.seq ?_
    refine X.region ?_
    refine X.opw X.wN rfl (X.move (v := .int .i64 _) rfl) ?_
    refine X.opP X.wN rfl rfl (X.lss rfl rfl) (fun h9 => ?_) (fun h9 => ?_)
    · refine X.opw X.wN rfl (X.move (v := .bool true) rfl) ?_
      refine X.opS rfl rfl rfl rfl rfl ?_
      refine X.opS rfl rfl rfl rfl rfl ?_
      refine X.opS rfl rfl rfl rfl rfl ?_
      refine X.opS rfl rfl rfl rfl rfl ?_
      refine X.opw X.wN rfl (X.pickT (v := .bool true) rfl rfl) ?_
      refine X.opw X.wN rfl (X.move (v := .bool true) rfl) ?_
      refine X.opS rfl rfl rfl rfl rfl ?_
      refine X.opS rfl rfl rfl rfl rfl ?_
      refine X.opw X.wN rfl (X.pickT (v := .bool true) rfl rfl) ?_
      refine X.opsEnd ?_
      refine X.condT rfl ?_
      refine X.region ?_
      refine X.opw X.wN rfl (X.buildB (cs := #[]) rfl (by kernel_rfl)) ?_
      refine X.opw X.wN rfl (X.mkIface Tryz.underlying210 rfl rfl) ?_
      refine X.opPanic X.wN rfl ?_
      refine X.unw_pan Tryz.func129 ?_
      rw [pText, hb1]
      first
      | exact ⟨rfl, (Ext.andThen (Ext.refl (fun k => k = rb) _) hx1 zq23)⟩
      | (dsimp only; rw [if_pos (by omega)]; exact ⟨rfl, (Ext.andThen (Ext.refl (fun k => k = rb) _) hx1 zq23)⟩)
      | (dsimp only; rw [if_pos]; exact ⟨rfl, (Ext.andThen (Ext.refl (fun k => k = rb) _) hx1 zq23)⟩; by_cases h : (a1 : Int) ≤ (ys1.length : Int); · rw [if_pos h] at hb2; cases hb2
         · omega)
    · refine X.opw X.wN rfl (X.move (v := .bool false) rfl) ?_
      refine X.opw (X.wG rfl rfl rfl) rfl (X.move (v := .int .u64 _) rfl) ?_
      refine X.opw (X.wG rfl rfl rfl) rfl (X.move (v := .int .i64 _) rfl) ?_
      refine X.opw (X.wG rfl rfl rfl) rfl (X.cvI (c := most) Tryz.underlying3 Tryz.underlying119 rfl (X.w_u64 (by omega))) ?_
      refine X.opP (X.wG rfl rfl rfl) rfl rfl (X.gtr rfl rfl) (fun h14 => ?_) (fun h14 => ?_)
      · refine X.opw X.wN rfl (X.pickF (v := .bool true) rfl rfl) ?_
        refine X.opw X.wN rfl (X.move (v := .bool true) rfl) ?_
        refine X.opS rfl rfl rfl rfl rfl ?_
        refine X.opS rfl rfl rfl rfl rfl ?_
        refine X.opw X.wN rfl (X.pickT (v := .bool true) rfl rfl) ?_
        refine X.opsEnd ?_
        refine X.condT rfl ?_
        refine X.region ?_
        refine X.opw X.wN rfl (X.buildB (cs := #[]) rfl (by kernel_rfl)) ?_
        refine X.opw X.wN rfl (X.mkIface Tryz.underlying210 rfl rfl) ?_
        refine X.opPanic X.wN rfl ?_
        refine X.unw_pan Tryz.func129 ?_
        rw [pText, hb1]
        first
        | exact ⟨rfl, (Ext.andThen (Ext.refl (fun k => k = rb) _) hx1 zq23)⟩
        | (dsimp only; rw [if_pos (by omega)]; exact ⟨rfl, (Ext.andThen (Ext.refl (fun k => k = rb) _) hx1 zq23)⟩)
        | (dsimp only; rw [if_pos]; exact ⟨rfl, (Ext.andThen (Ext.refl (fun k => k = rb) _) hx1 zq23)⟩; by_cases h : (a1 : Int) ≤ (ys1.length : Int); · rw [if_pos h] at hb2; cases hb2
           · omega)
      · refine X.opw X.wN rfl (X.pickF (v := .bool false) rfl rfl) ?_
        refine X.opw X.wN rfl (X.move (v := .bool false) rfl) ?_
        refine X.opw (X.wG rfl rfl rfl) rfl (X.move (v := .int .u64 _) rfl) ?_
        refine X.opP (X.wG rfl rfl rfl) rfl rfl (X.gtr rfl rfl) (fun h18 => ?_) (fun h18 => ?_)
        · refine X.opw X.wN rfl (X.pickF (v := .bool true) rfl rfl) ?_
          refine X.opsEnd ?_
          refine X.condT rfl ?_
          refine X.region ?_
          refine X.opw X.wN rfl (X.buildB (cs := #[]) rfl (by kernel_rfl)) ?_
          refine X.opw X.wN rfl (X.mkIface Tryz.underlying210 rfl rfl) ?_
          refine X.opPanic X.wN rfl ?_
          refine X.unw_pan Tryz.func129 ?_
          rw [pText, hb1]
          first
          | exact ⟨rfl, (Ext.andThen (Ext.refl (fun k => k = rb) _) hx1 zq23)⟩
          | (dsimp only; rw [if_pos (by omega)]; exact ⟨rfl, (Ext.andThen (Ext.refl (fun k => k = rb) _) hx1 zq23)⟩)
          | (dsimp only; rw [if_pos]; exact ⟨rfl, (Ext.andThen (Ext.refl (fun k => k = rb) _) hx1 zq23)⟩; by_cases h : (a1 : Int) ≤ (ys1.length : Int); · rw [if_pos h] at hb2; cases hb2
             · omega)
        · refine X.opw X.wN rfl (X.pickF (v := .bool false) rfl rfl) ?_
          refine X.opsEnd ?_
          refine X.condF rfl ?_
          refine X.skip ?_
          refine X.seq ?_
          refine X.region ?_
          refine X.opw X.wN rfl (X.move rfl) ?_
          refine X.opw X.wN rfl (X.move (v := .int .u64 _) rfl) ?_
          refine X.opw X.wN rfl (X.cvI Tryz.underlying119 Tryz.underlying3 rfl (X.w_i64 (by omega))) ?_
          refine X.opPR (some_c hi rb T _ _ (by omega) _ hR1) X.wN rfl Tryz.call162 rfl (fun u2 hb2 => ?_) (fun hb2 => ?_)
          · rintro _ w2 ⟨⟨A2, c2, rfl, hcc2, hs2⟩, hR2, hx2⟩
            have hx2' := hx2.size
            have hle2 : (a1 : Int) ≤ (ys1.length : Int) := by
              by_cases h : (a1 : Int) ≤ (ys1.length : Int)
              · exact h
              · rw [if_neg h] at hb2; cases hb2
            have hrT := hR1.T
            refine X.opE X.wN rfl (X.callE (Clone_c _ hs2 (by omega)) Tryz.call87 rfl rfl) ?_
            rintro v3 w3 ⟨hM3, hk3⟩
            have hk3' := hk3.size
            refine X.opw X.wN rfl (X.assign rfl) ?_
            refine X.opsEnd ?_
            refine X.ret1 Tryz.func129 Tryz.results129 rfl ?_
            rw [pText, hb1]
            dsimp only
            rw [if_neg (by omega)]
            exact ⟨_, rfl, Mine.mono (T := fun k => w.heap.size ≤ k) hM3 (fun k h1 h2 => by (try simp only [] at *); omega), (hR2.keep hk3), (Ext.andThen (Ext.andThen (Ext.andThen (Ext.refl (fun k => k = rb) _) hx1 zq23) hx2 zq23) hk3 zq23)⟩
          · rintro w2 hx2
            have hx2' := hx2.size
            refine X.unw_pan Tryz.func129 ?_
            rw [pText, hb1]
            first
            | exact ⟨rfl, (Ext.andThen (Ext.andThen (Ext.refl (fun k => k = rb) _) hx1 zq23) hx2 zq23)⟩
            | (dsimp only; rw [if_pos (by omega)]; exact ⟨rfl, (Ext.andThen (Ext.andThen (Ext.refl (fun k => k = rb) _) hx1 zq23) hx2 zq23)⟩)
            | (dsimp only; rw [if_pos]; exact ⟨rfl, (Ext.andThen (Ext.andThen (Ext.refl (fun k => k = rb) _) hx1 zq23) hx2 zq23)⟩; by_cases h : (a1 : Int) ≤ (ys1.length : Int); · rw [if_pos h] at hb2; cases hb2
               · omega)
  · rintro w1 hx1
    have hx1' := hx1.size
    refine X.unw_pan Tryz.func129 ?_
    rw [pText, hb1]
    first
    | exact ⟨rfl, (Ext.andThen (Ext.refl (fun k => k = rb) _) hx1 zq23)⟩
    | (dsimp only; rw [if_pos (by omega)]; exact ⟨rfl, (Ext.andThen (Ext.refl (fun k => k = rb) _) hx1 zq23)⟩)
    | (dsimp only; rw [if_pos]; exact ⟨rfl, (Ext.andThen (Ext.refl (fun k => k = rb) _) hx1 zq23)⟩; by_cases h : (a1 : Int) ≤ (ys1.length : Int); · rw [if_pos h] at hb2; cases hb2
       · omega)
end Go.Proofs.YtbljooblpfdbiaaGreatDoor
