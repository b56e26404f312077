/- Texts that the proof of CacheFresh stands on, part 11. -/
import Derived.Test.YtjjhddjllpihaaaProg
import Derived.Test.YtjjhddjllpihaaaBunCacheFresh10

namespace Go.Proofs.Ytjjhddjllpihaaa
open Go Go.Proofs.Ytjjhddjllpihaaa.X
set_option linter.unusedVariables false
set_option linter.unusedSimpArgs false
/-- A value: its kind, its number, its symbol. -/
abbrev VAL := Int × Int × ByteArray
def encV (v : VAL) : List Value := [.int .i64 v.1, .int .i64 v.2.1, .string v.2.2]
def okI (n : Int) : Prop := -9223372036854775808 ≤ n ∧ n ≤ 9223372036854775807
def okV (v : VAL) : Prop := okI v.1 ∧ okI v.2.1 ∧ v.2.2.size ≤ 9223372036854775807
def KV : Kd VAL := Kd.plain 3 encV okV (fun _ => rfl) (fun x u hu => by simp [encV] at hu; rcases hu with rfl | rfl | rfl <;> rfl)
theorem KV_flat : Flat KV := fun h => h
theorem encV_one (x : VAL) : ∀ u, u ∈ encV x → u.oneCell' = true := fun u hu => by simp [encV] at hu; rcases hu with rfl | rfl | rfl <;> rfl
theorem KV_ok {lo hi : Nat} {w : World} {A : Option Addr} {n : Nat} {l : List VAL} (h : Sl KV lo hi w A n l) (i : Nat) (x : VAL) (hx : l[i]? = some x) : okV x := let ⟨_, _, _, hr, _⟩ := h.get i x hx; hr.2
theorem EInt : ElemInfo Try.prog 3 1 8 := ElemInfo.of (z := .int .i64 0) (by kernel_rfl) rfl rfl rfl
theorem EVal : ElemInfo Try.prog 72 3 32 := ElemInfo.of (z := .agg #[.int .i64 0, .int .i64 0, .string ⟨#[]⟩]) (by kernel_rfl) rfl rfl rfl
/-- Values compared, tuples. -/
def cmpV (a b : VAL) : Int := if a = b then 0 else if a.1 < b.1 ∨ a.1 = b.1 ∧ (a.2.1 < b.2.1 ∨ a.2.1 = b.2.1 ∧ Op.bytesLess a.2.2.data.toList b.2.2.data.toList = true) then -1 else 1
def cmpT : List VAL → List VAL → Int
  | [], [] => 0
  | [], _ :: _ => -1
  | _ :: _, [] => 1
  | a :: l, b :: m => if cmpV a b ≠ 0 then cmpV a b else cmpT l m
theorem eqV (a b : VAL) (w : World) : (Op.equalIn 10000 72 (.agg (encV a).toArray) (.agg (encV b).toArray)).run Try.prog w = .ok (decide (a = b)) w := by
  rw [run_equalIn_struct w 9999 _ _ _ (by simp [Program.fieldsOf, Try.underlying72]) (by kernel_rfl)]
  simp only [Program.fieldsOf, Try.underlying72]
  simp [Op.eqFields, part, encV, Try.isAgg70, Try.isAgg2, Try.isAgg9, run_equalIn_int _ 9998 70 .i64 .i64 _ _ Try.underlying70, run_equalIn_int _ 9998 2 .i64 .i64 _ _ Try.underlying2, run_equalIn_string _ 9998 9 _ _ Try.underlying9, str_eq]
  obtain ⟨a1, a2, a3⟩ := a
  obtain ⟨b1, b2, b3⟩ := b
  by_cases h1 : a1 = b1 <;> by_cases h2 : a2 = b2 <;> by_cases h3 : a3 = b3 <;> simp [h1, h2, h3]
theorem eqV_guard : Try.prog.eqGuardType Try.prog.depth 72 = false := by kernel_rfl
-- f60 "pedigree/pedigreeref01.Compare" params [102, 102] results [3] -> [(ResultVar.tmp 4)] nfree 0 ntmps 43 
set_option maxHeartbeats 4000000 in
set_option maxRecDepth 100000 in
theorem R01Compare_c (a b : VAL) (w : World) : Ret Try.prog 40 #[.agg (encV a).toArray, .agg (encV b).toArray] w fun r w' => r = .int .i64 (cmpV a b) ∧ Keep w w' := by
  refine X.enter Try.func40 rfl Try.ntmps40 rfl ?_
  refine X.seq ?_
  refine X.region ?_
  refine X.opE X.wN rfl (X.boxE rfl rfl) ?_
  rintro _ w1 ⟨rfl, hB1, hk1, hz1⟩
  refine X.opE X.wN rfl (X.boxE rfl rfl) ?_
  rintro _ w2 ⟨rfl, hB2, hk2, hz2⟩
  refine X.opw X.wN rfl (X.assign rfl) ?_
  refine X.opsEnd ?_
  refine X.seq ?_
  refine X.block ?_
  refine X.seq ?_
  refine X.region ?_
  refine X.opw X.wN rfl (X.loadNB Try.isAgg72 Try.sizeOf72 (hB1.keep hk2) rfl rfl rfl) ?_
  refine X.opw X.wN rfl (X.loadNB Try.isAgg72 Try.sizeOf72 hB2 rfl rfl rfl) ?_
  refine X.opw X.wN rfl (X.eqA eqV_guard rfl rfl (eqV a b _)) ?_
  refine X.opw X.wN rfl (X.assign (v := .bool _) rfl) ?_
  refine X.opsEnd ?_
  refine X.condB rfl (fun hc => ?_) (fun hc => ?_)
  · refine X.seq ?_
    refine X.region ?_
    refine X.opw X.wN rfl (X.assign rfl) ?_
    refine X.opsEnd ?_
    refine X.ret1 (v := (.int .i64 _)) Try.func40 Try.results40 rfl ?_
    exact ⟨by congr 1; simp_all [cmpV] <;> omega, (hk1.trans hk2)⟩
  · refine X.seq ?_
    refine X.region ?_
    refine X.opw X.wN rfl (X.fldB (j := 0) Try.underlying72 rfl rfl Try.sizeOf70 rfl) ?_
    refine X.opw X.wN rfl (X.load1B Try.isAgg70 (hB1.keep hk2) rfl rfl) ?_
    refine X.opw X.wN rfl (X.fldB (j := 0) Try.underlying72 rfl rfl Try.sizeOf70 rfl) ?_
    refine X.opw X.wN rfl (X.load1B Try.isAgg70 hB2 rfl rfl) ?_
    refine X.opP X.wN rfl rfl (X.lss rfl rfl) (fun h14 => ?_) (fun h14 => ?_)
    · refine X.opw X.wN rfl (X.move (v := .bool true) rfl) ?_
      refine X.opS rfl rfl rfl rfl rfl ?_
      refine X.opS rfl rfl rfl rfl rfl ?_
      refine X.opS rfl rfl rfl rfl rfl ?_
      refine X.opS rfl rfl rfl rfl rfl ?_
      refine X.opS rfl rfl rfl rfl rfl ?_
      refine X.opS rfl rfl rfl rfl rfl ?_
      refine X.opU rfl rfl rfl rfl ?_
      refine X.opU rfl rfl rfl rfl ?_
      refine X.opU rfl rfl rfl rfl ?_
      refine X.opU rfl rfl rfl rfl ?_
      refine X.opU rfl rfl rfl rfl ?_
      refine X.opU rfl rfl rfl rfl ?_
      refine X.opU rfl rfl rfl rfl ?_
      refine X.opU rfl rfl rfl rfl ?_
      refine X.opU rfl rfl rfl rfl ?_
      refine X.opU rfl rfl rfl rfl ?_
      refine X.opU rfl rfl rfl rfl ?_
      refine X.opU rfl rfl rfl rfl ?_
      refine X.opU rfl rfl rfl rfl ?_
      refine X.opU rfl rfl rfl rfl ?_
      refine X.opU rfl rfl rfl rfl ?_
      refine X.opU rfl rfl rfl rfl ?_
      refine X.opU rfl rfl rfl rfl ?_
      refine X.opU rfl rfl rfl rfl ?_
      refine X.opU rfl rfl rfl rfl ?_
      refine X.opS rfl rfl rfl rfl rfl ?_
      refine X.opw X.wN rfl (X.pickT (v := .bool true) rfl rfl) ?_
      refine X.opw X.wN rfl (X.assign (v := .bool true) rfl) ?_
      refine X.opsEnd ?_
      refine X.condT rfl ?_
      refine X.seq ?_
      refine X.region ?_
      refine X.opw X.wN rfl (X.assign rfl) ?_
      refine X.opsEnd ?_
      refine X.ret1 (v := (.int .i64 _)) Try.func40 Try.results40 rfl ?_
      exact ⟨by congr 1; simp_all [cmpV] <;> omega, (hk1.trans hk2)⟩
    · refine X.opw X.wN rfl (X.move (v := .bool false) rfl) ?_
      refine X.opw (X.wG rfl rfl rfl) rfl (X.fldB (j := 0) Try.underlying72 rfl rfl Try.sizeOf70 rfl) ?_
      refine X.opw (X.wG rfl rfl rfl) rfl (X.load1B Try.isAgg70 (hB1.keep hk2) rfl rfl) ?_
      refine X.opw (X.wG rfl rfl rfl) rfl (X.fldB (j := 0) Try.underlying72 rfl rfl Try.sizeOf70 rfl) ?_
      refine X.opw (X.wG rfl rfl rfl) rfl (X.load1B Try.isAgg70 hB2 rfl rfl) ?_
      refine X.opP (X.wG rfl rfl rfl) rfl rfl (X.eqI rfl rfl) (fun h20 => ?_) (fun h20 => ?_)
      · refine X.opw (X.wG rfl rfl rfl) rfl (X.move (v := .bool true) rfl) ?_
        refine X.opw (X.wG rfl rfl rfl) rfl (X.fldB (j := 1) Try.underlying72 rfl rfl Try.sizeOf2 rfl) ?_
        refine X.opw (X.wG rfl rfl rfl) rfl (X.load1B Try.isAgg2 (hB1.keep hk2) rfl rfl) ?_
        refine X.opw (X.wG rfl rfl rfl) rfl (X.fldB (j := 1) Try.underlying72 rfl rfl Try.sizeOf2 rfl) ?_
        refine X.opw (X.wG rfl rfl rfl) rfl (X.load1B Try.isAgg2 hB2 rfl rfl) ?_
        refine X.opP (X.wG rfl rfl rfl) rfl rfl (X.lss rfl rfl) (fun h26 => ?_) (fun h26 => ?_)
        · refine X.opw (X.wG rfl rfl rfl) rfl (X.move (v := .bool true) rfl) ?_
          refine X.opS rfl rfl rfl rfl rfl ?_
          refine X.opS rfl rfl rfl rfl rfl ?_
          refine X.opS rfl rfl rfl rfl rfl ?_
          refine X.opS rfl rfl rfl rfl rfl ?_
          refine X.opS rfl rfl rfl rfl rfl ?_
          refine X.opS rfl rfl rfl rfl rfl ?_
          refine X.opU rfl rfl rfl rfl ?_
          refine X.opU rfl rfl rfl rfl ?_
          refine X.opU rfl rfl rfl rfl ?_
          refine X.opU rfl rfl rfl rfl ?_
          refine X.opU rfl rfl rfl rfl ?_
          refine X.opS rfl rfl rfl rfl rfl ?_
          refine X.opw (X.wG rfl rfl rfl) rfl (X.pickT (v := .bool true) rfl rfl) ?_
          refine X.opw (X.wG rfl rfl rfl) rfl (X.pickT (v := .bool true) rfl rfl) ?_
          refine X.opw X.wN rfl (X.pickF (v := .bool true) rfl rfl) ?_
          refine X.opw X.wN rfl (X.assign (v := .bool true) rfl) ?_
          refine X.opsEnd ?_
          refine X.condT rfl ?_
          refine X.seq ?_
          refine X.region ?_
          refine X.opw X.wN rfl (X.assign rfl) ?_
          refine X.opsEnd ?_
          refine X.ret1 (v := (.int .i64 _)) Try.func40 Try.results40 rfl ?_
          exact ⟨by congr 1; simp_all [cmpV] <;> omega, (hk1.trans hk2)⟩
        · refine X.opw (X.wG rfl rfl rfl) rfl (X.move (v := .bool false) rfl) ?_
          refine X.opw (X.wG rfl rfl rfl) rfl (X.fldB (j := 1) Try.underlying72 rfl rfl Try.sizeOf2 rfl) ?_
          refine X.opw (X.wG rfl rfl rfl) rfl (X.load1B Try.isAgg2 (hB1.keep hk2) rfl rfl) ?_
          refine X.opw (X.wG rfl rfl rfl) rfl (X.fldB (j := 1) Try.underlying72 rfl rfl Try.sizeOf2 rfl) ?_
          refine X.opw (X.wG rfl rfl rfl) rfl (X.load1B Try.isAgg2 hB2 rfl rfl) ?_
          refine X.opP (X.wG rfl rfl rfl) rfl rfl (X.eqI rfl rfl) (fun h32 => ?_) (fun h32 => ?_)
          · refine X.opw (X.wG rfl rfl rfl) rfl (X.move (v := .bool true) rfl) ?_
            refine X.opw (X.wG rfl rfl rfl) rfl (X.fldB (j := 2) Try.underlying72 rfl rfl Try.sizeOf9 rfl) ?_
            refine X.opw (X.wG rfl rfl rfl) rfl (X.load1B Try.isAgg9 (hB1.keep hk2) rfl rfl) ?_
            refine X.opw (X.wG rfl rfl rfl) rfl (X.fldB (j := 2) Try.underlying72 rfl rfl Try.sizeOf9 rfl) ?_
            refine X.opw (X.wG rfl rfl rfl) rfl (X.load1B Try.isAgg9 hB2 rfl rfl) ?_
            refine X.opB (X.wG rfl rfl rfl) rfl rfl (X.ltD rfl rfl) (fun h38 => ?_) (fun h38 => ?_)
            · refine X.opw (X.wG rfl rfl rfl) rfl (X.pickT (v := .bool true) rfl rfl) ?_
              refine X.opw (X.wG rfl rfl rfl) rfl (X.pickF (v := .bool true) rfl rfl) ?_
              refine X.opw (X.wG rfl rfl rfl) rfl (X.pickT (v := .bool true) rfl rfl) ?_
              refine X.opw X.wN rfl (X.pickF (v := .bool true) rfl rfl) ?_
              refine X.opw X.wN rfl (X.assign (v := .bool true) rfl) ?_
              refine X.opsEnd ?_
              refine X.condT rfl ?_
              refine X.seq ?_
              refine X.region ?_
              refine X.opw X.wN rfl (X.assign rfl) ?_
              refine X.opsEnd ?_
              refine X.ret1 (v := (.int .i64 _)) Try.func40 Try.results40 rfl ?_
              exact ⟨by congr 1; simp_all [cmpV] <;> omega, (hk1.trans hk2)⟩
            · refine X.opw (X.wG rfl rfl rfl) rfl (X.pickT (v := .bool false) rfl rfl) ?_
              refine X.opw (X.wG rfl rfl rfl) rfl (X.pickF (v := .bool false) rfl rfl) ?_
              refine X.opw (X.wG rfl rfl rfl) rfl (X.pickT (v := .bool false) rfl rfl) ?_
              refine X.opw X.wN rfl (X.pickF (v := .bool false) rfl rfl) ?_
              refine X.opw X.wN rfl (X.assign (v := .bool false) rfl) ?_
              refine X.opsEnd ?_
              refine X.condF rfl ?_
              refine X.skip ?_
              refine X.inBlock ?_
              refine X.seq ?_
              refine X.region ?_
              refine X.opw X.wN rfl (X.assign rfl) ?_
              refine X.opsEnd ?_
              refine X.ret1 (v := (.int .i64 _)) Try.func40 Try.results40 rfl ?_
              exact ⟨by congr 1; simp_all [cmpV] <;> omega, (hk1.trans hk2)⟩
          · refine X.opw (X.wG rfl rfl rfl) rfl (X.move (v := .bool false) rfl) ?_
            refine X.opS rfl rfl rfl rfl rfl ?_
            refine X.opS rfl rfl rfl rfl rfl ?_
            refine X.opS rfl rfl rfl rfl rfl ?_
            refine X.opS rfl rfl rfl rfl rfl ?_
            refine X.opS rfl rfl rfl rfl rfl ?_
            refine X.opw (X.wG rfl rfl rfl) rfl (X.pickF (v := .bool false) rfl rfl) ?_
            refine X.opw (X.wG rfl rfl rfl) rfl (X.pickF (v := .bool false) rfl rfl) ?_
            refine X.opw (X.wG rfl rfl rfl) rfl (X.pickT (v := .bool false) rfl rfl) ?_
            refine X.opw X.wN rfl (X.pickF (v := .bool false) rfl rfl) ?_
            refine X.opw X.wN rfl (X.assign (v := .bool false) rfl) ?_
            refine X.opsEnd ?_
            refine X.condF rfl ?_
            refine X.skip ?_
            refine X.inBlock ?_
            refine X.seq ?_
            refine X.region ?_
            refine X.opw X.wN rfl (X.assign rfl) ?_
            refine X.opsEnd ?_
            refine X.ret1 (v := (.int .i64 _)) Try.func40 Try.results40 rfl ?_
            exact ⟨by congr 1; simp_all [cmpV] <;> omega, (hk1.trans hk2)⟩
      · refine X.opw (X.wG rfl rfl rfl) rfl (X.move (v := .bool false) rfl) ?_
        refine X.opS rfl rfl rfl rfl rfl ?_
        refine X.opS rfl rfl rfl rfl rfl ?_
        refine X.opS rfl rfl rfl rfl rfl ?_
        refine X.opS rfl rfl rfl rfl rfl ?_
        refine X.opS rfl rfl rfl rfl rfl ?_
        refine X.opS rfl rfl rfl rfl rfl ?_
        refine X.opU rfl rfl rfl rfl ?_
        refine X.opU rfl rfl rfl rfl ?_
        refine X.opU rfl rfl rfl rfl ?_
        refine X.opU rfl rfl rfl rfl ?_
        refine X.opU rfl rfl rfl rfl ?_
        refine X.opU rfl rfl rfl rfl ?_
        refine X.opU rfl rfl rfl rfl ?_
        refine X.opU rfl rfl rfl rfl ?_
        refine X.opU rfl rfl rfl rfl ?_
        refine X.opU rfl rfl rfl rfl ?_
        refine X.opU rfl rfl rfl rfl ?_
        refine X.opU rfl rfl rfl rfl ?_
        refine X.opS rfl rfl rfl rfl rfl ?_
        refine X.opw (X.wG rfl rfl rfl) rfl (X.pickF (v := .bool false) rfl rfl) ?_
        refine X.opw X.wN rfl (X.pickF (v := .bool false) rfl rfl) ?_
        refine X.opw X.wN rfl (X.assign (v := .bool false) rfl) ?_
        refine X.opsEnd ?_
        refine X.condF rfl ?_
        refine X.skip ?_
        refine X.inBlock ?_
        refine X.seq ?_
        refine X.region ?_
        refine X.opw X.wN rfl (X.assign rfl) ?_
        refine X.opsEnd ?_
        refine X.ret1 (v := (.int .i64 _)) Try.func40 Try.results40 rfl ?_
        exact ⟨by congr 1; simp_all [cmpV] <;> omega, (hk1.trans hk2)⟩
theorem cmp_end {l1 l2 : List VAL} {i : Nat} (h1 : i ≤ l1.length) (h2 : i ≤ l2.length) (h : i = l1.length ∨ i = l2.length) : cmpT (l1.drop i) (l2.drop i) = if l1.length < l2.length then -1 else if l2.length < l1.length then 1 else 0 := by
  have e1 : (l1.drop i).length = l1.length - i := List.length_drop
  have e2 : (l2.drop i).length = l2.length - i := List.length_drop
  generalize l1.drop i = x at *
  generalize l2.drop i = y at *
  cases x <;> cases y <;> simp only [List.length_cons, List.length_nil] at e1 e2 <;> unfold cmpT
  · rw [if_neg (by omega), if_neg (by omega)]
  · rw [if_pos (by omega)]
  · rw [if_neg (by omega), if_pos (by omega)]
  · omega
-- f43 "pedigree/pedigreeref02.Compare" params [68, 68] results [3] -> [(ResultVar.tmp 4)] nfree 0 ntmps 43 na
set_option maxHeartbeats 4000000 in
set_option maxRecDepth 100000 in
theorem R02Compare_c {lo1 hi1 lo2 hi2 : Nat} {A1 A2 : Option Addr} {n1 n2 c1 c2 : Nat} {l1 l2 : List VAL} (w : World) (hs1 : Sl KV lo1 hi1 w A1 n1 l1) (hs2 : Sl KV lo2 hi2 w A2 n2 l2) : Ret Try.prog 33 #[.slice A1 n1 c1, .slice A2 n2 c2] w fun r w' => r = .int .i64 (cmpT l1 l2) ∧ Keep w w' := by
  have hn1 := hs1.bound
  have hl1 := hs1.len
  have hn2 := hs2.bound
  have hl2 := hs2.len
  refine X.enter Try.func33 rfl Try.ntmps33 rfl ?_
  refine X.seq ?_
  refine X.region ?_
  refine X.opw X.wN rfl (X.assign rfl) ?_
  refine X.opsEnd ?_
  refine X.seq ?_
  refine X.seq ?_
  refine X.region ?_
  refine X.opw X.wN rfl (X.assign rfl) ?_
  refine X.opsEnd ?_
  refine X.block ?_
  -- LOOP live: 0=a, 1=b, 5=i*
  refine X.loopL (σ := Nat) (fun s => [(0, .slice A1 n1 c1), (1, .slice A2 n2 c2), (5, .int .i64 (s : Int))]) (fun s w' => s ≤ n1 ∧ s ≤ n2 ∧ cmpT (l1.drop s) (l2.drop s) = cmpT l1 l2 ∧ Keep w w') (fun s => n1 - s) 0 ⟨rfl, rfl, rfl, trivial⟩ ⟨Nat.zero_le _, Nat.zero_le _, rfl, (Keep.refl _)⟩ ?_
  rintro i b w1 ⟨hi1, hi2, hcm, hk⟩ hback
  have hk' := hk.size
  refine X.seq ?_
  refine X.seq ?_
  refine X.region ?_
  refine X.opw X.wN rfl (X.move (v := .int .i64 _) rfl) ?_
  refine X.opw X.wN rfl (X.move (v := .slice _ _ _) rfl) ?_
  refine X.opw X.wN rfl (X.lenSl Try.underlying74 rfl) ?_
  refine X.opP X.wN rfl rfl (X.lss rfl rfl) (fun h10 => ?_) (fun h10 => ?_)
  · refine X.opw X.wN rfl (X.move (v := .bool true) rfl) ?_
    refine X.opw (X.wG rfl rfl rfl) rfl (X.move (v := .int .i64 _) rfl) ?_
    refine X.opw (X.wG rfl rfl rfl) rfl (X.move (v := .slice _ _ _) rfl) ?_
    refine X.opw (X.wG rfl rfl rfl) rfl (X.lenSl Try.underlying74 rfl) ?_
    refine X.opP (X.wG rfl rfl rfl) rfl rfl (X.lss rfl rfl) (fun h15 => ?_) (fun h15 => ?_)
    · obtain ⟨x, hx⟩ := getN i hl1 h10
      obtain ⟨y, hy⟩ := getN i hl2 h15
      rw [drop_at hx, drop_at hy, cmpT] at hcm
      refine X.opw X.wN rfl (X.pickT (v := .bool true) rfl rfl) ?_
      refine X.opsEnd ?_
      refine X.condT rfl ?_
      refine X.skip ?_
      refine X.seq ?_
      refine X.block ?_
      refine X.seq ?_
      refine X.regionD (fun _ => False) 9 (by kernel_rfl) (by kernel_rfl) (fun w1 hk1 hz1 => ?_)
      refine X.dTake 0 rfl (by kernel_rfl) (by kernel_rfl) (by kernel_rfl) (X.dwN rfl) (fun w' hk' => X.move (v := .slice _ _ _) rfl) ?_
      refine X.dTake 1 rfl (by kernel_rfl) (by kernel_rfl) (by kernel_rfl) (X.dwN rfl) (fun w' hk' => X.move (v := .int .i64 _) rfl) ?_
      refine X.dTake 2 rfl (by kernel_rfl) (by kernel_rfl) (by kernel_rfl) (X.dwN rfl) (fun w' hk' => X.idxS (hs1.keep ((hk.trans hk1).trans hk')) Try.underlying74 Try.sizeOf72 rfl rfl ⟨by omega, by omega⟩) ?_
      refine X.dTake 3 rfl (by kernel_rfl) (by kernel_rfl) (by kernel_rfl) (X.dwN rfl) (fun w' hk' => X.loadSN Try.isAgg72 Try.sizeOf72 (hs1.keep ((hk.trans hk1).trans hk')) hx rfl (fun _ h => h.1) rfl) ?_
      refine X.dTake 4 rfl (by kernel_rfl) (by kernel_rfl) (by kernel_rfl) (X.dwN rfl) (fun w' hk' => X.move (v := .slice _ _ _) rfl) ?_
      refine X.dTake 5 rfl (by kernel_rfl) (by kernel_rfl) (by kernel_rfl) (X.dwN rfl) (fun w' hk' => X.move (v := .int .i64 _) rfl) ?_
      refine X.dTake 6 rfl (by kernel_rfl) (by kernel_rfl) (by kernel_rfl) (X.dwN rfl) (fun w' hk' => X.idxS (hs2.keep ((hk.trans hk1).trans hk')) Try.underlying74 Try.sizeOf72 rfl rfl ⟨by omega, by omega⟩) ?_
      refine X.dTake 7 rfl (by kernel_rfl) (by kernel_rfl) (by kernel_rfl) (X.dwN rfl) (fun w' hk' => X.loadSN Try.isAgg72 Try.sizeOf72 (hs2.keep ((hk.trans hk1).trans hk')) hy rfl (fun _ h => h.1) rfl) ?_
      refine X.dE (i := 8) (by kernel_rfl) rfl (X.dwN rfl) (X.callE (R01Compare_c x y _) Try.call40 rfl rfl) (by rintro _ w2 ⟨rfl, hk2⟩ _; exact hk2.mono (fun _ _ h => h.elim)) ?_
      rintro _ w2 ⟨rfl, hk2⟩
      have hk2' := hk2.size
      refine X.dStep (i := 9) (by kernel_rfl) rfl (X.dwN rfl) (X.assign (v := .int .i64 _) rfl) (fun h => absurd h (by decide)) ?_
      refine X.dEnd (by kernel_rfl) ?_
      refine X.seq ?_
      refine X.region ?_
      refine X.opw X.wN rfl (X.move (v := .int .i64 _) rfl) ?_
      refine X.opP X.wN rfl rfl (X.neI rfl rfl) (fun h29 => ?_) (fun h29 => ?_)
      · refine X.opsEnd ?_
        refine X.condT rfl ?_
        refine X.seq ?_
        refine X.region ?_
        refine X.opw X.wN rfl (X.move (v := .int .i64 _) rfl) ?_
        refine X.opw X.wN rfl (X.assign (v := .int .i64 _) rfl) ?_
        refine X.opsEnd ?_
        refine X.ret1 (v := (.int .i64 _)) Try.func33 Try.results33 rfl ?_
        exact ⟨by rw [if_pos h29] at hcm; rw [hcm], ((hk.trans hk1).trans hk2)⟩
      · refine X.opsEnd ?_
        refine X.condF rfl ?_
        refine X.skip ?_
        refine X.inBlock ?_
        refine X.region ?_
        refine X.opw X.wN rfl (X.move (v := .int .i64 _) rfl) ?_
        refine X.opw X.wN rfl (X.add rfl rfl (X.w_i64 (by omega))) ?_
        refine X.opw X.wN rfl (X.assign (v := .int .i64 _) rfl) ?_
        refine X.opsEnd ?_
        refine hback (i + 1) _ _ ⟨rfl, rfl, rfl, trivial⟩ ⟨by omega, by omega, by rw [if_neg h29] at hcm; exact hcm, ((hk.trans hk1).trans hk2)⟩ (by omega)
    · refine X.opw X.wN rfl (X.pickT (v := .bool false) rfl rfl) ?_
      refine X.opsEnd ?_
      refine X.condF rfl ?_
      refine X.exit rfl ?_
      refine X.seq ?_
      refine X.block ?_
      refine X.seq ?_
      refine X.region ?_
      refine X.opw X.wN rfl (X.move (v := .slice _ _ _) rfl) ?_
      refine X.opw X.wN rfl (X.lenSl Try.underlying74 rfl) ?_
      refine X.opw X.wN rfl (X.move (v := .slice _ _ _) rfl) ?_
      refine X.opw X.wN rfl (X.lenSl Try.underlying74 rfl) ?_
      refine X.opP X.wN rfl rfl (X.lss rfl rfl) (fun h36 => ?_) (fun h36 => ?_)
      · refine X.opw X.wN rfl (X.assign (v := .bool true) rfl) ?_
        refine X.opsEnd ?_
        refine X.condT rfl ?_
        refine X.seq ?_
        refine X.region ?_
        refine X.opw X.wN rfl (X.assign rfl) ?_
        refine X.opsEnd ?_
        refine X.ret1 (v := (.int .i64 _)) Try.func33 Try.results33 rfl ?_
        exact ⟨by congr 1; rw [← hcm, cmp_end (by omega) (by omega) (by omega)]; (repeat' split) <;> omega, hk⟩
      · refine X.opw X.wN rfl (X.assign (v := .bool false) rfl) ?_
        refine X.opsEnd ?_
        refine X.condF rfl ?_
        refine X.seq ?_
        refine X.region ?_
        refine X.opw X.wN rfl (X.move (v := .slice _ _ _) rfl) ?_
        refine X.opw X.wN rfl (X.lenSl Try.underlying74 rfl) ?_
        refine X.opw X.wN rfl (X.move (v := .slice _ _ _) rfl) ?_
        refine X.opw X.wN rfl (X.lenSl Try.underlying74 rfl) ?_
        refine X.opP X.wN rfl rfl (X.gtr rfl rfl) (fun h42 => ?_) (fun h42 => ?_)
        · refine X.opw X.wN rfl (X.assign (v := .bool true) rfl) ?_
          refine X.opsEnd ?_
          refine X.condT rfl ?_
          refine X.seq ?_
          refine X.region ?_
          refine X.opw X.wN rfl (X.assign rfl) ?_
          refine X.opsEnd ?_
          refine X.ret1 (v := (.int .i64 _)) Try.func33 Try.results33 rfl ?_
          exact ⟨by congr 1; rw [← hcm, cmp_end (by omega) (by omega) (by omega)]; (repeat' split) <;> omega, hk⟩
        · refine X.opw X.wN rfl (X.assign (v := .bool false) rfl) ?_
          refine X.opsEnd ?_
          refine X.condF rfl ?_
          refine X.skip ?_
          refine X.inBlock ?_
          refine X.seq ?_
          refine X.region ?_
          refine X.opw X.wN rfl (X.assign rfl) ?_
          refine X.opsEnd ?_
          refine X.ret1 (v := (.int .i64 _)) Try.func33 Try.results33 rfl ?_
          exact ⟨by congr 1; rw [← hcm, cmp_end (by omega) (by omega) (by omega)]; (repeat' split) <;> omega, hk⟩
  · refine X.opw X.wN rfl (X.move (v := .bool false) rfl) ?_
    refine X.opS rfl rfl rfl rfl rfl ?_
    refine X.opS rfl rfl rfl rfl rfl ?_
    refine X.opS rfl rfl rfl rfl rfl ?_
    refine X.opS rfl rfl rfl rfl rfl ?_
    refine X.opw X.wN rfl (X.pickF (v := .bool false) rfl rfl) ?_
    refine X.opsEnd ?_
    refine X.condF rfl ?_
    refine X.exit rfl ?_
    refine X.seq ?_
    refine X.block ?_
    refine X.seq ?_
    refine X.region ?_
    refine X.opw X.wN rfl (X.move (v := .slice _ _ _) rfl) ?_
    refine X.opw X.wN rfl (X.lenSl Try.underlying74 rfl) ?_
    refine X.opw X.wN rfl (X.move (v := .slice _ _ _) rfl) ?_
    refine X.opw X.wN rfl (X.lenSl Try.underlying74 rfl) ?_
    refine X.opP X.wN rfl rfl (X.lss rfl rfl) (fun h36 => ?_) (fun h36 => ?_)
    · refine X.opw X.wN rfl (X.assign (v := .bool true) rfl) ?_
      refine X.opsEnd ?_
      refine X.condT rfl ?_
      refine X.seq ?_
      refine X.region ?_
      refine X.opw X.wN rfl (X.assign rfl) ?_
      refine X.opsEnd ?_
      refine X.ret1 (v := (.int .i64 _)) Try.func33 Try.results33 rfl ?_
      exact ⟨by congr 1; rw [← hcm, cmp_end (by omega) (by omega) (by omega)]; (repeat' split) <;> omega, hk⟩
    · refine X.opw X.wN rfl (X.assign (v := .bool false) rfl) ?_
      refine X.opsEnd ?_
      refine X.condF rfl ?_
      refine X.seq ?_
      refine X.region ?_
      refine X.opw X.wN rfl (X.move (v := .slice _ _ _) rfl) ?_
      refine X.opw X.wN rfl (X.lenSl Try.underlying74 rfl) ?_
      refine X.opw X.wN rfl (X.move (v := .slice _ _ _) rfl) ?_
      refine X.opw X.wN rfl (X.lenSl Try.underlying74 rfl) ?_
      refine X.opP X.wN rfl rfl (X.gtr rfl rfl) (fun h42 => ?_) (fun h42 => ?_)
      · refine X.opw X.wN rfl (X.assign (v := .bool true) rfl) ?_
        refine X.opsEnd ?_
        refine X.condT rfl ?_
        refine X.seq ?_
        refine X.region ?_
        refine X.opw X.wN rfl (X.assign rfl) ?_
        refine X.opsEnd ?_
        refine X.ret1 (v := (.int .i64 _)) Try.func33 Try.results33 rfl ?_
        exact ⟨by congr 1; rw [← hcm, cmp_end (by omega) (by omega) (by omega)]; (repeat' split) <;> omega, hk⟩
      · refine X.opw X.wN rfl (X.assign (v := .bool false) rfl) ?_
        refine X.opsEnd ?_
        refine X.condF rfl ?_
        refine X.skip ?_
        refine X.inBlock ?_
        refine X.seq ?_
        refine X.region ?_
        refine X.opw X.wN rfl (X.assign rfl) ?_
        refine X.opsEnd ?_
        refine X.ret1 (v := (.int .i64 _)) Try.func33 Try.results33 rfl ?_
        exact ⟨by congr 1; rw [← hcm, cmp_end (by omega) (by omega) (by omega)]; (repeat' split) <;> omega, hk⟩
theorem less_irr : ∀ x : List UInt8, Op.bytesLess x x = false
  | [] => rfl
  | a :: x => by rw [Op.bytesLess, less_irr x]; simp
theorem less_tri : ∀ x y : List UInt8, Op.bytesLess x y = false → Op.bytesLess y x = false → x = y
  | [], [], _, _ => rfl
  | [], b :: y, h, _ => by simp [Op.bytesLess] at h
  | a :: x, [], _, h => by simp [Op.bytesLess] at h
  | a :: x, b :: y, h1, h2 => by
    simp only [Op.bytesLess, Bool.or_eq_false_iff, decide_eq_false_iff_not, Bool.and_eq_false_iff, beq_eq_false_iff_ne] at h1 h2
    have e : a = b := UInt8.le_antisymm (UInt8.not_lt.1 h2.1) (UInt8.not_lt.1 h1.1)
    subst e
    rw [less_tri x y (h1.2.resolve_left (fun h => h rfl)) (h2.2.resolve_left (fun h => h rfl))]
theorem less_asym : ∀ x y : List UInt8, Op.bytesLess x y = true → Op.bytesLess y x = false
  | [], [], h => by simp [Op.bytesLess] at h
  | [], b :: y, _ => by simp [Op.bytesLess]
  | a :: x, [], h => by simp [Op.bytesLess] at h
  | a :: x, b :: y, h => by
    simp only [Op.bytesLess, Bool.or_eq_true, decide_eq_true_eq, Bool.and_eq_true, beq_iff_eq] at h
    simp only [Op.bytesLess, Bool.or_eq_false_iff, decide_eq_false_iff_not, Bool.and_eq_false_iff, beq_eq_false_iff_ne]
    rcases h with h | ⟨rfl, h⟩
    · exact ⟨fun h2 => UInt8.lt_irrefl _ (UInt8.lt_trans h h2), .inl (fun e => by subst e; exact UInt8.lt_irrefl _ h)⟩
    · exact ⟨UInt8.lt_irrefl _, .inr (less_asym x y h)⟩
theorem data_inj {a b : ByteArray} (h : a.data.toList = b.data.toList) : a = b := by
  obtain ⟨⟨a⟩⟩ := a
  obtain ⟨⟨b⟩⟩ := b
  simp at h; subst h; rfl
theorem cmpS_0 {a b : ByteArray} (h1 : ¬ Op.bytesLess a.data.toList b.data.toList = true) (h2 : ¬ Op.bytesLess b.data.toList a.data.toList = true) : a = b :=
  data_inj (less_tri _ _ (by simpa using h1) (by simpa using h2))
end Go.Proofs.Ytjjhddjllpihaaa

namespace Go.Proofs.Ytjjhddjllpihaaa
open Go Go.Proofs.Ytjjhddjllpihaaa.X
set_option linter.unusedVariables false
set_option linter.unusedSimpArgs false
theorem less_trans : ∀ x y z : List UInt8, Op.bytesLess x y = true → Op.bytesLess y z = true → Op.bytesLess x z = true
  | [], [], _, h, _ => by simp [Op.bytesLess] at h
  | _ :: _, [], _, h, _ => by simp [Op.bytesLess] at h
  | _, _ :: _, [], _, h => by simp [Op.bytesLess] at h
  | [], _ :: _, _ :: _, _, _ => by simp [Op.bytesLess]
  | a :: x, b :: y, c :: z, h1, h2 => by
    simp only [Op.bytesLess, Bool.or_eq_true, decide_eq_true_eq, Bool.and_eq_true, beq_iff_eq] at h1 h2 ⊢
    rcases h1 with h1 | ⟨rfl, h1⟩
    · rcases h2 with h2 | ⟨rfl, h2⟩
      · exact .inl (UInt8.lt_trans h1 h2)
      · exact .inl h1
    · rcases h2 with h2 | ⟨rfl, h2⟩
      · exact .inl h2
      · exact .inr ⟨rfl, less_trans x y z h1 h2⟩
theorem cmpV_0 {a b : VAL} : cmpV a b = 0 ↔ a = b := by
  unfold cmpV
  by_cases h : a = b
  · simp [h]
  · rw [if_neg h]
    constructor
    · intro h2; split at h2 <;> cases h2
    · intro h2; exact absurd h2 h
def ltV (a b : VAL) : Prop := a.1 < b.1 ∨ a.1 = b.1 ∧ (a.2.1 < b.2.1 ∨ a.2.1 = b.2.1 ∧ Op.bytesLess a.2.2.data.toList b.2.2.data.toList = true)
instance (a b : VAL) : Decidable (ltV a b) := by unfold ltV; infer_instance
theorem ltV_irr {a : VAL} : ¬ ltV a a := by
  unfold ltV
  have := less_irr a.2.2.data.toList
  rintro (h | ⟨_, h | ⟨_, h⟩⟩)
  · omega
  · omega
  · rw [this] at h; cases h
theorem ltV_trans {a b c : VAL} (h1 : ltV a b) (h2 : ltV b c) : ltV a c := by
  unfold ltV at *
  rcases h1 with h1 | ⟨h1, h1' | ⟨h1', h1''⟩⟩ <;> rcases h2 with h2 | ⟨h2, h2' | ⟨h2', h2''⟩⟩
  · exact .inl (by omega)
  · exact .inl (by omega)
  · exact .inl (by omega)
  · exact .inl (by omega)
  · exact .inr ⟨by omega, .inl (by omega)⟩
  · exact .inr ⟨by omega, .inl (by omega)⟩
  · exact .inl (by omega)
  · exact .inr ⟨by omega, .inl (by omega)⟩
  · exact .inr ⟨by omega, .inr ⟨by omega, less_trans _ _ _ h1'' h2''⟩⟩
theorem ltV_tri {a b : VAL} (h : a ≠ b) : ltV a b ∨ ltV b a := by
  obtain ⟨a1, a2, a3⟩ := a
  obtain ⟨b1, b2, b3⟩ := b
  unfold ltV
  simp only
  by_cases h1 : a1 < b1
  · exact .inl (.inl h1)
  by_cases h2 : b1 < a1
  · exact .inr (.inl h2)
  have e : a1 = b1 := by omega
  subst e
  by_cases h3 : a2 < b2
  · exact .inl (.inr ⟨rfl, .inl h3⟩)
  by_cases h4 : b2 < a2
  · exact .inr (.inr ⟨rfl, .inl h4⟩)
  have e : a2 = b2 := by omega
  subst e
  by_cases h5 : Op.bytesLess a3.data.toList b3.data.toList = true
  · exact .inl (.inr ⟨rfl, .inr ⟨rfl, h5⟩⟩)
  by_cases h6 : Op.bytesLess b3.data.toList a3.data.toList = true
  · exact .inr (.inr ⟨rfl, .inr ⟨rfl, h6⟩⟩)
  exact absurd (by rw [cmpS_0 h5 h6]) h
theorem cmpV_lt {a b : VAL} : cmpV a b < 0 ↔ ltV a b := by
  show (if a = b then (0 : Int) else if ltV a b then -1 else 1) < 0 ↔ _
  by_cases h : a = b
  · subst h; rw [if_pos rfl]; exact ⟨fun h => by omega, fun h => absurd h ltV_irr⟩
  · rw [if_neg h]; by_cases h2 : ltV a b
    · rw [if_pos h2]; exact ⟨fun _ => h2, fun _ => by omega⟩
    · rw [if_neg h2]; exact ⟨fun h => by omega, fun h => absurd h h2⟩
theorem cmpV_gt {a b : VAL} : 0 < cmpV a b ↔ ltV b a := by
  show 0 < (if a = b then (0 : Int) else if ltV a b then -1 else 1) ↔ _
  by_cases h : a = b
  · subst h; rw [if_pos rfl]; exact ⟨fun h => by omega, fun h => absurd h ltV_irr⟩
  · rw [if_neg h]; by_cases h2 : ltV a b
    · rw [if_pos h2]; exact ⟨fun h => by omega, fun h3 => absurd (ltV_trans h2 h3) ltV_irr⟩
    · rw [if_neg h2]; exact ⟨fun _ => (ltV_tri h).resolve_left h2, fun h => by omega⟩
theorem cmpV_range (a b : VAL) : cmpV a b = 0 ∨ cmpV a b = -1 ∨ cmpV a b = 1 := by unfold cmpV; (repeat' split) <;> simp
theorem cmpV_neg (a b : VAL) : cmpV b a = - cmpV a b := by
  have h1 := cmpV_range a b
  have h2 := cmpV_range b a
  have h3 := @cmpV_lt a b
  have h4 := @cmpV_gt b a
  have h5 := @cmpV_gt a b
  have h6 := @cmpV_lt b a
  rcases h1 with h1 | h1 | h1
  · have := cmpV_0.1 h1
    subst this; omega
  · have := h4.2 (h3.1 (by omega)); omega
  · have := h6.2 (h5.1 (by omega)); omega
theorem cmpT_0 : ∀ l m : List VAL, cmpT l m = 0 ↔ l = m
  | [], [] => by simp [cmpT]
  | [], _ :: _ => by simp [cmpT]
  | _ :: _, [] => by simp [cmpT]
  | a :: l, b :: m => by
    rw [cmpT]
    by_cases h : cmpV a b = 0
    · rw [if_neg (by simpa using h), cmpT_0 l m, cmpV_0.1 h]; simp
    · rw [if_pos h]
      constructor
      · intro h2; exact absurd h2 h
      · intro h2; cases h2; exact absurd (cmpV_0.2 rfl) h
theorem cmpT_self (l : List VAL) : cmpT l l = 0 := (cmpT_0 l l).2 rfl
theorem cmpT_neg : ∀ l m : List VAL, cmpT m l = - cmpT l m
  | [], [] => by simp [cmpT]
  | [], _ :: _ => by simp [cmpT]
  | _ :: _, [] => by simp [cmpT]
  | a :: l, b :: m => by
    rw [cmpT, cmpT]
    have := cmpV_neg a b
    by_cases h : cmpV a b = 0
    · rw [if_neg (by omega), if_neg (by omega)]; exact cmpT_neg l m
    · rw [if_pos (by omega), if_pos h]; exact this
theorem cmpT_trans : ∀ l m n : List VAL, cmpT l m < 0 → cmpT m n < 0 → cmpT l n < 0
  | [], [], _, h, _ => by simp [cmpT] at h
  | _ :: _, [], _, h, _ => by simp [cmpT] at h
  | _, _ :: _, [], _, h => by simp [cmpT] at h
  | [], _ :: _, _ :: _, _, _ => by simp [cmpT]
  | a :: l, b :: m, c :: n, h1, h2 => by
    rw [cmpT] at h1 h2 ⊢
    by_cases e1 : cmpV a b = 0
    · rw [if_neg (by simpa using e1)] at h1
      have := cmpV_0.1 e1
      subst this
      by_cases e2 : cmpV a c = 0
      · rw [if_neg (by simpa using e2)] at h2 ⊢
        exact cmpT_trans l m n h1 h2
      · rw [if_pos e2] at h2 ⊢; exact h2
    · rw [if_pos e1] at h1
      by_cases e2 : cmpV b c = 0
      · have := cmpV_0.1 e2
        subst this
        rw [if_pos e1]; exact h1
      · rw [if_pos e2] at h2
        have h3 := cmpV_lt.2 (ltV_trans (cmpV_lt.1 h1) (cmpV_lt.1 h2))
        rw [if_pos (by omega)]; exact h3
/-- Not behind: a whole preorder. -/
theorem cmpT_le {l m n : List VAL} (h1 : cmpT l m ≤ 0) (h2 : cmpT m n ≤ 0) : cmpT l n ≤ 0 := by
  by_cases e1 : cmpT l m = 0
  · rw [(cmpT_0 _ _).1 e1]; exact h2
  by_cases e2 : cmpT m n = 0
  · rw [← (cmpT_0 _ _).1 e2]; exact h1
  have := cmpT_trans l m n (by omega) (by omega)
  omega
end Go.Proofs.Ytjjhddjllpihaaa
