/- Texts that the proof of CacheRuns stands on, part 12. -/
import Derived.Test.YtjjhddjllpihaaaProg
import Derived.Test.YtjjhddjllpihaaaBunCacheRuns11

namespace Go.Proofs.Ytjjhddjllpihaaa
open Go Go.Proofs.Ytjjhddjllpihaaa.X
set_option linter.unusedVariables false
set_option linter.unusedSimpArgs false
/-- A value: its kind, its number, its symbol. -/
abbrev VAL := Int × Int × ByteArray
def encV (v : VAL) : List Value := [.int .i64 v.1, .int .i64 v.2.1, .string v.2.2]
def okI (n : Int) : Prop := -9223372036854775808 ≤ n ∧ n ≤ 9223372036854775807
def okV (v : VAL) : Prop := okI v.1 ∧ okI v.2.1 ∧ v.2.2.size ≤ 9223372036854775807
def KV : Kd VAL := Kd.plain 3 encV okV (fun _ => rfl) (fun x u hu => by simp [encV] at hu; rcases hu with rfl | rfl | rfl <;> rfl)
theorem KV_flat : Flat KV := fun h => h
theorem encV_one (x : VAL) : ∀ u, u ∈ encV x → u.oneCell' = true := fun u hu => by simp [encV] at hu; rcases hu with rfl | rfl | rfl <;> rfl
theorem KV_ok {lo hi : Nat} {w : World} {A : Option Addr} {n : Nat} {l : List VAL} (h : Sl KV lo hi w A n l) (i : Nat) (x : VAL) (hx : l[i]? = some x) : okV x := let ⟨_, _, _, hr, _⟩ := h.get i x hx; hr.2
theorem EInt : ElemInfo Try.prog 3 1 8 := ElemInfo.of (z := .int .i64 0) (by kernel_rfl) rfl rfl rfl
theorem EVal : ElemInfo Try.prog 72 3 32 := ElemInfo.of (z := .agg #[.int .i64 0, .int .i64 0, .string ⟨#[]⟩]) (by kernel_rfl) rfl rfl rfl
/-- Values compared, tuples. -/
def cmpV (a b : VAL) : Int := if a = b then 0 else if a.1 < b.1 ∨ a.1 = b.1 ∧ (a.2.1 < b.2.1 ∨ a.2.1 = b.2.1 ∧ Op.bytesLess a.2.2.data.toList b.2.2.data.toList = true) then -1 else 1
def cmpT : List VAL → List VAL → Int
  | [], [] => 0
  | [], _ :: _ => -1
  | _ :: _, [] => 1
  | a :: l, b :: m => if cmpV a b ≠ 0 then cmpV a b else cmpT l m
theorem eqV (a b : VAL) (w : World) : (Op.equalIn 10000 72 (.agg (encV a).toArray) (.agg (encV b).toArray)).run Try.prog w = .ok (decide (a = b)) w := by
  rw [run_equalIn_struct w 9999 _ _ _ (by simp [Program.fieldsOf, Try.underlying72]) (by kernel_rfl)]
  simp only [Program.fieldsOf, Try.underlying72]
  simp [Op.eqFields, part, encV, Try.isAgg70, Try.isAgg2, Try.isAgg9, run_equalIn_int _ 9998 70 .i64 .i64 _ _ Try.underlying70, run_equalIn_int _ 9998 2 .i64 .i64 _ _ Try.underlying2, run_equalIn_string _ 9998 9 _ _ Try.underlying9, str_eq]
  obtain ⟨a1, a2, a3⟩ := a
  obtain ⟨b1, b2, b3⟩ := b
  by_cases h1 : a1 = b1 <;> by_cases h2 : a2 = b2 <;> by_cases h3 : a3 = b3 <;> simp [h1, h2, h3]
theorem eqV_guard : Try.prog.eqGuardType Try.prog.depth 72 = false := by kernel_rfl
-- f60 "pedigree/pedigreeref01.Compare" params [102, 102] results [3] -> [(ResultVar.tmp 4)] nfree 0 ntmps 43 
set_option maxHeartbeats 4000000 in
set_option maxRecDepth 100000 in
theorem R01Compare_c (a b : VAL) (w : World) : Ret Try.prog 40 #[.agg (encV a).toArray, .agg (encV b).toArray] w fun r w' => r = .int .i64 (cmpV a b) ∧ Keep w w' := by
  refine X.enter Try.func40 rfl Try.ntmps40 rfl ?_
  refine X.seq ?_
  refine X.region ?_
  refine X.opE X.wN rfl (X.boxE rfl rfl) ?_
  rintro _ w1 ⟨rfl, hB1, hk1, hz1⟩
  refine X.opE X.wN rfl (X.boxE rfl rfl) ?_
  rintro _ w2 ⟨rfl, hB2, hk2, hz2⟩
  refine X.opw X.wN rfl (X.assign rfl) ?_
  refine X.opsEnd ?_
  refine X.seq ?_
  refine X.block ?_
  refine X.seq ?_
  refine X.region ?_
  refine X.opw X.wN rfl (X.loadNB Try.isAgg72 Try.sizeOf72 (hB1.keep hk2) rfl rfl rfl) ?_
  refine X.opw X.wN rfl (X.loadNB Try.isAgg72 Try.sizeOf72 hB2 rfl rfl rfl) ?_
  refine X.opw X.wN rfl (X.eqA eqV_guard rfl rfl (eqV a b _)) ?_
  refine X.opw X.wN rfl (X.assign (v := .bool _) rfl) ?_
  refine X.opsEnd ?_
  refine X.condB rfl (fun hc => ?_) (fun hc => ?_)
  · refine X.seq ?_
    refine X.region ?_
    refine X.opw X.wN rfl (X.assign rfl) ?_
    refine X.opsEnd ?_
    refine X.ret1 (v := (.int .i64 _)) Try.func40 Try.results40 rfl ?_
    exact ⟨by congr 1; simp_all [cmpV] <;> omega, (hk1.trans hk2)⟩
  · refine X.seq ?_
    refine X.region ?_
    refine X.opw X.wN rfl (X.fldB (j := 0) Try.underlying72 rfl rfl Try.sizeOf70 rfl) ?_
    refine X.opw X.wN rfl (X.load1B Try.isAgg70 (hB1.keep hk2) rfl rfl) ?_
    refine X.opw X.wN rfl (X.fldB (j := 0) Try.underlying72 rfl rfl Try.sizeOf70 rfl) ?_
    refine X.opw X.wN rfl (X.load1B Try.isAgg70 hB2 rfl rfl) ?_
    refine X.opP X.wN rfl rfl (X.lss rfl rfl) (fun h14 => ?_) (fun h14 => ?_)
    · refine X.opw X.wN rfl (X.move (v := .bool true) rfl) ?_
      refine X.opS rfl rfl rfl rfl rfl ?_
      refine X.opS rfl rfl rfl rfl rfl ?_
      refine X.opS rfl rfl rfl rfl rfl ?_
      refine X.opS rfl rfl rfl rfl rfl ?_
      refine X.opS rfl rfl rfl rfl rfl ?_
      refine X.opS rfl rfl rfl rfl rfl ?_
      refine X.opU rfl rfl rfl rfl ?_
      refine X.opU rfl rfl rfl rfl ?_
      refine X.opU rfl rfl rfl rfl ?_
      refine X.opU rfl rfl rfl rfl ?_
      refine X.opU rfl rfl rfl rfl ?_
      refine X.opU rfl rfl rfl rfl ?_
      refine X.opU rfl rfl rfl rfl ?_
      refine X.opU rfl rfl rfl rfl ?_
      refine X.opU rfl rfl rfl rfl ?_
      refine X.opU rfl rfl rfl rfl ?_
      refine X.opU rfl rfl rfl rfl ?_
      refine X.opU rfl rfl rfl rfl ?_
      refine X.opU rfl rfl rfl rfl ?_
      refine X.opU rfl rfl rfl rfl ?_
      refine X.opU rfl rfl rfl rfl ?_
      refine X.opU rfl rfl rfl rfl ?_
      refine X.opU rfl rfl rfl rfl ?_
      refine X.opU rfl rfl rfl rfl ?_
      refine X.opU rfl rfl rfl rfl ?_
      refine X.opS rfl rfl rfl rfl rfl ?_
      refine X.opw X.wN rfl (X.pickT (v := .bool true) rfl rfl) ?_
      refine X.opw X.wN rfl (X.assign (v := .bool true) rfl) ?_
      refine X.opsEnd ?_
      refine X.condT rfl ?_
      refine X.seq ?_
      refine X.region ?_
      refine X.opw X.wN rfl (X.assign rfl) ?_
      refine X.opsEnd ?_
      refine X.ret1 (v := (.int .i64 _)) Try.func40 Try.results40 rfl ?_
      exact ⟨by congr 1; simp_all [cmpV] <;> omega, (hk1.trans hk2)⟩
    · refine X.opw X.wN rfl (X.move (v := .bool false) rfl) ?_
      refine X.opw (X.wG rfl rfl rfl) rfl (X.fldB (j := 0) Try.underlying72 rfl rfl Try.sizeOf70 rfl) ?_
      refine X.opw (X.wG rfl rfl rfl) rfl (X.load1B Try.isAgg70 (hB1.keep hk2) rfl rfl) ?_
      refine X.opw (X.wG rfl rfl rfl) rfl (X.fldB (j := 0) Try.underlying72 rfl rfl Try.sizeOf70 rfl) ?_
      refine X.opw (X.wG rfl rfl rfl) rfl (X.load1B Try.isAgg70 hB2 rfl rfl) ?_
      refine X.opP (X.wG rfl rfl rfl) rfl rfl (X.eqI rfl rfl) (fun h20 => ?_) (fun h20 => ?_)
      · refine X.opw (X.wG rfl rfl rfl) rfl (X.move (v := .bool true) rfl) ?_
        refine X.opw (X.wG rfl rfl rfl) rfl (X.fldB (j := 1) Try.underlying72 rfl rfl Try.sizeOf2 rfl) ?_
        refine X.opw (X.wG rfl rfl rfl) rfl (X.load1B Try.isAgg2 (hB1.keep hk2) rfl rfl) ?_
        refine X.opw (X.wG rfl rfl rfl) rfl (X.fldB (j := 1) Try.underlying72 rfl rfl Try.sizeOf2 rfl) ?_
        refine X.opw (X.wG rfl rfl rfl) rfl (X.load1B Try.isAgg2 hB2 rfl rfl) ?_
        refine X.opP (X.wG rfl rfl rfl) rfl rfl (X.lss rfl rfl) (fun h26 => ?_) (fun h26 => ?_)
        · refine X.opw (X.wG rfl rfl rfl) rfl (X.move (v := .bool true) rfl) ?_
          refine X.opS rfl rfl rfl rfl rfl ?_
          refine X.opS rfl rfl rfl rfl rfl ?_
          refine X.opS rfl rfl rfl rfl rfl ?_
          refine X.opS rfl rfl rfl rfl rfl ?_
          refine X.opS rfl rfl rfl rfl rfl ?_
          refine X.opS rfl rfl rfl rfl rfl ?_
          refine X.opU rfl rfl rfl rfl ?_
          refine X.opU rfl rfl rfl rfl ?_
          refine X.opU rfl rfl rfl rfl ?_
          refine X.opU rfl rfl rfl rfl ?_
          refine X.opU rfl rfl rfl rfl ?_
          refine X.opS rfl rfl rfl rfl rfl ?_
          refine X.opw (X.wG rfl rfl rfl) rfl (X.pickT (v := .bool true) rfl rfl) ?_
          refine X.opw (X.wG rfl rfl rfl) rfl (X.pickT (v := .bool true) rfl rfl) ?_
          refine X.opw X.wN rfl (X.pickF (v := .bool true) rfl rfl) ?_
          refine X.opw X.wN rfl (X.assign (v := .bool true) rfl) ?_
          refine X.opsEnd ?_
          refine X.condT rfl ?_
          refine X.seq ?_
          refine X.region ?_
          refine X.opw X.wN rfl (X.assign rfl) ?_
          refine X.opsEnd ?_
          refine X.ret1 (v := (.int .i64 _)) Try.func40 Try.results40 rfl ?_
          exact ⟨by congr 1; simp_all [cmpV] <;> omega, (hk1.trans hk2)⟩
        · refine X.opw (X.wG rfl rfl rfl) rfl (X.move (v := .bool false) rfl) ?_
          refine X.opw (X.wG rfl rfl rfl) rfl (X.fldB (j := 1) Try.underlying72 rfl rfl Try.sizeOf2 rfl) ?_
          refine X.opw (X.wG rfl rfl rfl) rfl (X.load1B Try.isAgg2 (hB1.keep hk2) rfl rfl) ?_
          refine X.opw (X.wG rfl rfl rfl) rfl (X.fldB (j := 1) Try.underlying72 rfl rfl Try.sizeOf2 rfl) ?_
          refine X.opw (X.wG rfl rfl rfl) rfl (X.load1B Try.isAgg2 hB2 rfl rfl) ?_
          refine X.opP (X.wG rfl rfl rfl) rfl rfl (X.eqI rfl rfl) (fun h32 => ?_) (fun h32 => ?_)
          · refine X.opw (X.wG rfl rfl rfl) rfl (X.move (v := .bool true) rfl) ?_
            refine X.opw (X.wG rfl rfl rfl) rfl (X.fldB (j := 2) Try.underlying72 rfl rfl Try.sizeOf9 rfl) ?_
            refine X.opw (X.wG rfl rfl rfl) rfl (X.load1B Try.isAgg9 (hB1.keep hk2) rfl rfl) ?_
            refine X.opw (X.wG rfl rfl rfl) rfl (X.fldB (j := 2) Try.underlying72 rfl rfl Try.sizeOf9 rfl) ?_
            refine X.opw (X.wG rfl rfl rfl) rfl (X.load1B Try.isAgg9 hB2 rfl rfl) ?_
            refine X.opB (X.wG rfl rfl rfl) rfl rfl (X.ltD rfl rfl) (fun h38 => ?_) (fun h38 => ?_)
            · refine X.opw (X.wG rfl rfl rfl) rfl (X.pickT (v := .bool true) rfl rfl) ?_
              refine X.opw (X.wG rfl rfl rfl) rfl (X.pickF (v := .bool true) rfl rfl) ?_
              refine X.opw (X.wG rfl rfl rfl) rfl (X.pickT (v := .bool true) rfl rfl) ?_
              refine X.opw X.wN rfl (X.pickF (v := .bool true) rfl rfl) ?_
              refine X.opw X.wN rfl (X.assign (v := .bool true) rfl) ?_
              refine X.opsEnd ?_
              refine X.condT rfl ?_
              refine X.seq ?_
              refine X.region ?_
              refine X.opw X.wN rfl (X.assign rfl) ?_
              refine X.opsEnd ?_
              refine X.ret1 (v := (.int .i64 _)) Try.func40 Try.results40 rfl ?_
              exact ⟨by congr 1; simp_all [cmpV] <;> omega, (hk1.trans hk2)⟩
            · refine X.opw (X.wG rfl rfl rfl) rfl (X.pickT (v := .bool false) rfl rfl) ?_
              refine X.opw (X.wG rfl rfl rfl) rfl (X.pickF (v := .bool false) rfl rfl) ?_
              refine X.opw (X.wG rfl rfl rfl) rfl (X.pickT (v := .bool false) rfl rfl) ?_
              refine X.opw X.wN rfl (X.pickF (v := .bool false) rfl rfl) ?_
              refine X.opw X.wN rfl (X.assign (v := .bool false) rfl) ?_
              refine X.opsEnd ?_
              refine X.condF rfl ?_
              refine X.skip ?_
              refine X.inBlock ?_
              refine X.seq ?_
              refine X.region ?_
              refine X.opw X.wN rfl (X.assign rfl) ?_
              refine X.opsEnd ?_
              refine X.ret1 (v := (.int .i64 _)) Try.func40 Try.results40 rfl ?_
              exact ⟨by congr 1; simp_all [cmpV] <;> omega, (hk1.trans hk2)⟩
          · refine X.opw (X.wG rfl rfl rfl) rfl (X.move (v := .bool false) rfl) ?_
            refine X.opS rfl rfl rfl rfl rfl ?_
            refine X.opS rfl rfl rfl rfl rfl ?_
            refine X.opS rfl rfl rfl rfl rfl ?_
            refine X.opS rfl rfl rfl rfl rfl ?_
            refine X.opS rfl rfl rfl rfl rfl ?_
            refine X.opw (X.wG rfl rfl rfl) rfl (X.pickF (v := .bool false) rfl rfl) ?_
            refine X.opw (X.wG rfl rfl rfl) rfl (X.pickF (v := .bool false) rfl rfl) ?_
            refine X.opw (X.wG rfl rfl rfl) rfl (X.pickT (v := .bool false) rfl rfl) ?_
            refine X.opw X.wN rfl (X.pickF (v := .bool false) rfl rfl) ?_
            refine X.opw X.wN rfl (X.assign (v := .bool false) rfl) ?_
            refine X.opsEnd ?_
            refine X.condF rfl ?_
            refine X.skip ?_
            refine X.inBlock ?_
            refine X.seq ?_
            refine X.region ?_
            refine X.opw X.wN rfl (X.assign rfl) ?_
            refine X.opsEnd ?_
            refine X.ret1 (v := (.int .i64 _)) Try.func40 Try.results40 rfl ?_
            exact ⟨by congr 1; simp_all [cmpV] <;> omega, (hk1.trans hk2)⟩
      · refine X.opw (X.wG rfl rfl rfl) rfl (X.move (v := .bool false) rfl) ?_
        refine X.opS rfl rfl rfl rfl rfl ?_
        refine X.opS rfl rfl rfl rfl rfl ?_
        refine X.opS rfl rfl rfl rfl rfl ?_
        refine X.opS rfl rfl rfl rfl rfl ?_
        refine X.opS rfl rfl rfl rfl rfl ?_
        refine X.opS rfl rfl rfl rfl rfl ?_
        refine X.opU rfl rfl rfl rfl ?_
        refine X.opU rfl rfl rfl rfl ?_
        refine X.opU rfl rfl rfl rfl ?_
        refine X.opU rfl rfl rfl rfl ?_
        refine X.opU rfl rfl rfl rfl ?_
        refine X.opU rfl rfl rfl rfl ?_
        refine X.opU rfl rfl rfl rfl ?_
        refine X.opU rfl rfl rfl rfl ?_
        refine X.opU rfl rfl rfl rfl ?_
        refine X.opU rfl rfl rfl rfl ?_
        refine X.opU rfl rfl rfl rfl ?_
        refine X.opU rfl rfl rfl rfl ?_
        refine X.opS rfl rfl rfl rfl rfl ?_
        refine X.opw (X.wG rfl rfl rfl) rfl (X.pickF (v := .bool false) rfl rfl) ?_
        refine X.opw X.wN rfl (X.pickF (v := .bool false) rfl rfl) ?_
        refine X.opw X.wN rfl (X.assign (v := .bool false) rfl) ?_
        refine X.opsEnd ?_
        refine X.condF rfl ?_
        refine X.skip ?_
        refine X.inBlock ?_
        refine X.seq ?_
        refine X.region ?_
        refine X.opw X.wN rfl (X.assign rfl) ?_
        refine X.opsEnd ?_
        refine X.ret1 (v := (.int .i64 _)) Try.func40 Try.results40 rfl ?_
        exact ⟨by congr 1; simp_all [cmpV] <;> omega, (hk1.trans hk2)⟩
theorem cmp_end {l1 l2 : List VAL} {i : Nat} (h1 : i ≤ l1.length) (h2 : i ≤ l2.length) (h : i = l1.length ∨ i = l2.length) : cmpT (l1.drop i) (l2.drop i) = if l1.length < l2.length then -1 else if l2.length < l1.length then 1 else 0 := by
  have e1 : (l1.drop i).length = l1.length - i := List.length_drop
  have e2 : (l2.drop i).length = l2.length - i := List.length_drop
  generalize l1.drop i = x at *
  generalize l2.drop i = y at *
  cases x <;> cases y <;> simp only [List.length_cons, List.length_nil] at e1 e2 <;> unfold cmpT
  · rw [if_neg (by omega), if_neg (by omega)]
  · rw [if_pos (by omega)]
  · rw [if_neg (by omega), if_pos (by omega)]
  · omega
-- f43 "pedigree/pedigreeref02.Compare" params [68, 68] results [3] -> [(ResultVar.tmp 4)] nfree 0 ntmps 43 na
set_option maxHeartbeats 4000000 in
set_option maxRecDepth 100000 in
theorem R02Compare_c {lo1 hi1 lo2 hi2 : Nat} {A1 A2 : Option Addr} {n1 n2 c1 c2 : Nat} {l1 l2 : List VAL} (w : World) (hs1 : Sl KV lo1 hi1 w A1 n1 l1) (hs2 : Sl KV lo2 hi2 w A2 n2 l2) : Ret Try.prog 33 #[.slice A1 n1 c1, .slice A2 n2 c2] w fun r w' => r = .int .i64 (cmpT l1 l2) ∧ Keep w w' := by
  have hn1 := hs1.bound
  have hl1 := hs1.len
  have hn2 := hs2.bound
  have hl2 := hs2.len
  refine X.enter Try.func33 rfl Try.ntmps33 rfl ?_
  refine X.seq ?_
  refine X.region ?_
  refine X.opw X.wN rfl (X.assign rfl) ?_
  refine X.opsEnd ?_
  refine X.seq ?_
  refine X.seq ?_
  refine X.region ?_
  refine X.opw X.wN rfl (X.assign rfl) ?_
  refine X.opsEnd ?_
  refine X.block ?_
  -- LOOP live: 0=a, 1=b, 5=i*
  refine X.loopL (σ := Nat) (fun s => [(0, .slice A1 n1 c1), (1, .slice A2 n2 c2), (5, .int .i64 (s : Int))]) (fun s w' => s ≤ n1 ∧ s ≤ n2 ∧ cmpT (l1.drop s) (l2.drop s) = cmpT l1 l2 ∧ Keep w w') (fun s => n1 - s) 0 ⟨rfl, rfl, rfl, trivial⟩ ⟨Nat.zero_le _, Nat.zero_le _, rfl, (Keep.refl _)⟩ ?_
  rintro i b w1 ⟨hi1, hi2, hcm, hk⟩ hback
  have hk' := hk.size
  refine X.seq ?_
  refine X.seq ?_
  refine X.region ?_
  refine X.opw X.wN rfl (X.move (v := .int .i64 _) rfl) ?_
  refine X.opw X.wN rfl (X.move (v := .slice _ _ _) rfl) ?_
  refine X.opw X.wN rfl (X.lenSl Try.underlying74 rfl) ?_
  refine X.opP X.wN rfl rfl (X.lss rfl rfl) (fun h10 => ?_) (fun h10 => ?_)
  · refine X.opw X.wN rfl (X.move (v := .bool true) rfl) ?_
    refine X.opw (X.wG rfl rfl rfl) rfl (X.move (v := .int .i64 _) rfl) ?_
    refine X.opw (X.wG rfl rfl rfl) rfl (X.move (v := .slice _ _ _) rfl) ?_
    refine X.opw (X.wG rfl rfl rfl) rfl (X.lenSl Try.underlying74 rfl) ?_
    refine X.opP (X.wG rfl rfl rfl) rfl rfl (X.lss rfl rfl) (fun h15 => ?_) (fun h15 => ?_)
    · obtain ⟨x, hx⟩ := getN i hl1 h10
      obtain ⟨y, hy⟩ := getN i hl2 h15
      rw [drop_at hx, drop_at hy, cmpT] at hcm
      refine X.opw X.wN rfl (X.pickT (v := .bool true) rfl rfl) ?_
      refine X.opsEnd ?_
      refine X.condT rfl ?_
      refine X.skip ?_
      refine X.seq ?_
      refine X.block ?_
      refine X.seq ?_
      refine X.regionD (fun _ => False) 9 (by kernel_rfl) (by kernel_rfl) (fun w1 hk1 hz1 => ?_)
      refine X.dTake 0 rfl (by kernel_rfl) (by kernel_rfl) (by kernel_rfl) (X.dwN rfl) (fun w' hk' => X.move (v := .slice _ _ _) rfl) ?_
      refine X.dTake 1 rfl (by kernel_rfl) (by kernel_rfl) (by kernel_rfl) (X.dwN rfl) (fun w' hk' => X.move (v := .int .i64 _) rfl) ?_
      refine X.dTake 2 rfl (by kernel_rfl) (by kernel_rfl) (by kernel_rfl) (X.dwN rfl) (fun w' hk' => X.idxS (hs1.keep ((hk.trans hk1).trans hk')) Try.underlying74 Try.sizeOf72 rfl rfl ⟨by omega, by omega⟩) ?_
      refine X.dTake 3 rfl (by kernel_rfl) (by kernel_rfl) (by kernel_rfl) (X.dwN rfl) (fun w' hk' => X.loadSN Try.isAgg72 Try.sizeOf72 (hs1.keep ((hk.trans hk1).trans hk')) hx rfl (fun _ h => h.1) rfl) ?_
      refine X.dTake 4 rfl (by kernel_rfl) (by kernel_rfl) (by kernel_rfl) (X.dwN rfl) (fun w' hk' => X.move (v := .slice _ _ _) rfl) ?_
      refine X.dTake 5 rfl (by kernel_rfl) (by kernel_rfl) (by kernel_rfl) (X.dwN rfl) (fun w' hk' => X.move (v := .int .i64 _) rfl) ?_
      refine X.dTake 6 rfl (by kernel_rfl) (by kernel_rfl) (by kernel_rfl) (X.dwN rfl) (fun w' hk' => X.idxS (hs2.keep ((hk.trans hk1).trans hk')) Try.underlying74 Try.sizeOf72 rfl rfl ⟨by omega, by omega⟩) ?_
      refine X.dTake 7 rfl (by kernel_rfl) (by kernel_rfl) (by kernel_rfl) (X.dwN rfl) (fun w' hk' => X.loadSN Try.isAgg72 Try.sizeOf72 (hs2.keep ((hk.trans hk1).trans hk')) hy rfl (fun _ h => h.1) rfl) ?_
      refine X.dE (i := 8) (by kernel_rfl) rfl (X.dwN rfl) (X.callE (R01Compare_c x y _) Try.call40 rfl rfl) (by rintro _ w2 ⟨rfl, hk2⟩ _; exact hk2.mono (fun _ _ h => h.elim)) ?_
      rintro _ w2 ⟨rfl, hk2⟩
      have hk2' := hk2.size
      refine X.dStep (i := 9) (by kernel_rfl) rfl (X.dwN rfl) (X.assign (v := .int .i64 _) rfl) (fun h => absurd h (by decide)) ?_
      refine X.dEnd (by kernel_rfl) ?_
      refine X.seq ?_
      refine X.region ?_
      refine X.opw X.wN rfl (X.move (v := .int .i64 _) rfl) ?_
      refine X.opP X.wN rfl rfl (X.neI rfl rfl) (fun h29 => ?_) (fun h29 => ?_)
      · refine X.opsEnd ?_
        refine X.condT rfl ?_
        refine X.seq ?_
        refine X.region ?_
        refine X.opw X.wN rfl (X.move (v := .int .i64 _) rfl) ?_
        refine X.opw X.wN rfl (X.assign (v := .int .i64 _) rfl) ?_
        refine X.opsEnd ?_
        refine X.ret1 (v := (.int .i64 _)) Try.func33 Try.results33 rfl ?_
        exact ⟨by rw [if_pos h29] at hcm; rw [hcm], ((hk.trans hk1).trans hk2)⟩
      · refine X.opsEnd ?_
        refine X.condF rfl ?_
        refine X.skip ?_
        refine X.inBlock ?_
        refine X.region ?_
        refine X.opw X.wN rfl (X.move (v := .int .i64 _) rfl) ?_
        refine X.opw X.wN rfl (X.add rfl rfl (X.w_i64 (by omega))) ?_
        refine X.opw X.wN rfl (X.assign (v := .int .i64 _) rfl) ?_
        refine X.opsEnd ?_
        refine hback (i + 1) _ _ ⟨rfl, rfl, rfl, trivial⟩ ⟨by omega, by omega, by rw [if_neg h29] at hcm; exact hcm, ((hk.trans hk1).trans hk2)⟩ (by omega)
    · refine X.opw X.wN rfl (X.pickT (v := .bool false) rfl rfl) ?_
      refine X.opsEnd ?_
      refine X.condF rfl ?_
      refine X.exit rfl ?_
      refine X.seq ?_
      refine X.block ?_
      refine X.seq ?_
      refine X.region ?_
      refine X.opw X.wN rfl (X.move (v := .slice _ _ _) rfl) ?_
      refine X.opw X.wN rfl (X.lenSl Try.underlying74 rfl) ?_
      refine X.opw X.wN rfl (X.move (v := .slice _ _ _) rfl) ?_
      refine X.opw X.wN rfl (X.lenSl Try.underlying74 rfl) ?_
      refine X.opP X.wN rfl rfl (X.lss rfl rfl) (fun h36 => ?_) (fun h36 => ?_)
      · refine X.opw X.wN rfl (X.assign (v := .bool true) rfl) ?_
        refine X.opsEnd ?_
        refine X.condT rfl ?_
        refine X.seq ?_
        refine X.region ?_
        refine X.opw X.wN rfl (X.assign rfl) ?_
        refine X.opsEnd ?_
        refine X.ret1 (v := (.int .i64 _)) Try.func33 Try.results33 rfl ?_
        exact ⟨by congr 1; rw [← hcm, cmp_end (by omega) (by omega) (by omega)]; (repeat' split) <;> omega, hk⟩
      · refine X.opw X.wN rfl (X.assign (v := .bool false) rfl) ?_
        refine X.opsEnd ?_
        refine X.condF rfl ?_
        refine X.seq ?_
        refine X.region ?_
        refine X.opw X.wN rfl (X.move (v := .slice _ _ _) rfl) ?_
        refine X.opw X.wN rfl (X.lenSl Try.underlying74 rfl) ?_
        refine X.opw X.wN rfl (X.move (v := .slice _ _ _) rfl) ?_
        refine X.opw X.wN rfl (X.lenSl Try.underlying74 rfl) ?_
        refine X.opP X.wN rfl rfl (X.gtr rfl rfl) (fun h42 => ?_) (fun h42 => ?_)
        · refine X.opw X.wN rfl (X.assign (v := .bool true) rfl) ?_
          refine X.opsEnd ?_
          refine X.condT rfl ?_
          refine X.seq ?_
          refine X.region ?_
          refine X.opw X.wN rfl (X.assign rfl) ?_
          refine X.opsEnd ?_
          refine X.ret1 (v := (.int .i64 _)) Try.func33 Try.results33 rfl ?_
          exact ⟨by congr 1; rw [← hcm, cmp_end (by omega) (by omega) (by omega)]; (repeat' split) <;> omega, hk⟩
        · refine X.opw X.wN rfl (X.assign (v := .bool false) rfl) ?_
          refine X.opsEnd ?_
          refine X.condF rfl ?_
          refine X.skip ?_
          refine X.inBlock ?_
          refine X.seq ?_
          refine X.region ?_
          refine X.opw X.wN rfl (X.assign rfl) ?_
          refine X.opsEnd ?_
          refine X.ret1 (v := (.int .i64 _)) Try.func33 Try.results33 rfl ?_
          exact ⟨by congr 1; rw [← hcm, cmp_end (by omega) (by omega) (by omega)]; (repeat' split) <;> omega, hk⟩
  · refine X.opw X.wN rfl (X.move (v := .bool false) rfl) ?_
    refine X.opS rfl rfl rfl rfl rfl ?_
    refine X.opS rfl rfl rfl rfl rfl ?_
    refine X.opS rfl rfl rfl rfl rfl ?_
    refine X.opS rfl rfl rfl rfl rfl ?_
    refine X.opw X.wN rfl (X.pickF (v := .bool false) rfl rfl) ?_
    refine X.opsEnd ?_
    refine X.condF rfl ?_
    refine X.exit rfl ?_
    refine X.seq ?_
    refine X.block ?_
    refine X.seq ?_
    refine X.region ?_
    refine X.opw X.wN rfl (X.move (v := .slice _ _ _) rfl) ?_
    refine X.opw X.wN rfl (X.lenSl Try.underlying74 rfl) ?_
    refine X.opw X.wN rfl (X.move (v := .slice _ _ _) rfl) ?_
    refine X.opw X.wN rfl (X.lenSl Try.underlying74 rfl) ?_
    refine X.opP X.wN rfl rfl (X.lss rfl rfl) (fun h36 => ?_) (fun h36 => ?_)
    · refine X.opw X.wN rfl (X.assign (v := .bool true) rfl) ?_
      refine X.opsEnd ?_
      refine X.condT rfl ?_
      refine X.seq ?_
      refine X.region ?_
      refine X.opw X.wN rfl (X.assign rfl) ?_
      refine X.opsEnd ?_
      refine X.ret1 (v := (.int .i64 _)) Try.func33 Try.results33 rfl ?_
      exact ⟨by congr 1; rw [← hcm, cmp_end (by omega) (by omega) (by omega)]; (repeat' split) <;> omega, hk⟩
    · refine X.opw X.wN rfl (X.assign (v := .bool false) rfl) ?_
      refine X.opsEnd ?_
      refine X.condF rfl ?_
      refine X.seq ?_
      refine X.region ?_
      refine X.opw X.wN rfl (X.move (v := .slice _ _ _) rfl) ?_
      refine X.opw X.wN rfl (X.lenSl Try.underlying74 rfl) ?_
      refine X.opw X.wN rfl (X.move (v := .slice _ _ _) rfl) ?_
      refine X.opw X.wN rfl (X.lenSl Try.underlying74 rfl) ?_
      refine X.opP X.wN rfl rfl (X.gtr rfl rfl) (fun h42 => ?_) (fun h42 => ?_)
      · refine X.opw X.wN rfl (X.assign (v := .bool true) rfl) ?_
        refine X.opsEnd ?_
        refine X.condT rfl ?_
        refine X.seq ?_
        refine X.region ?_
        refine X.opw X.wN rfl (X.assign rfl) ?_
        refine X.opsEnd ?_
        refine X.ret1 (v := (.int .i64 _)) Try.func33 Try.results33 rfl ?_
        exact ⟨by congr 1; rw [← hcm, cmp_end (by omega) (by omega) (by omega)]; (repeat' split) <;> omega, hk⟩
      · refine X.opw X.wN rfl (X.assign (v := .bool false) rfl) ?_
        refine X.opsEnd ?_
        refine X.condF rfl ?_
        refine X.skip ?_
        refine X.inBlock ?_
        refine X.seq ?_
        refine X.region ?_
        refine X.opw X.wN rfl (X.assign rfl) ?_
        refine X.opsEnd ?_
        refine X.ret1 (v := (.int .i64 _)) Try.func33 Try.results33 rfl ?_
        exact ⟨by congr 1; rw [← hcm, cmp_end (by omega) (by omega) (by omega)]; (repeat' split) <;> omega, hk⟩
theorem less_irr : ∀ x : List UInt8, Op.bytesLess x x = false
  | [] => rfl
  | a :: x => by rw [Op.bytesLess, less_irr x]; simp
theorem less_tri : ∀ x y : List UInt8, Op.bytesLess x y = false → Op.bytesLess y x = false → x = y
  | [], [], _, _ => rfl
  | [], b :: y, h, _ => by simp [Op.bytesLess] at h
  | a :: x, [], _, h => by simp [Op.bytesLess] at h
  | a :: x, b :: y, h1, h2 => by
    simp only [Op.bytesLess, Bool.or_eq_false_iff, decide_eq_false_iff_not, Bool.and_eq_false_iff, beq_eq_false_iff_ne] at h1 h2
    have e : a = b := UInt8.le_antisymm (UInt8.not_lt.1 h2.1) (UInt8.not_lt.1 h1.1)
    subst e
    rw [less_tri x y (h1.2.resolve_left (fun h => h rfl)) (h2.2.resolve_left (fun h => h rfl))]
theorem less_asym : ∀ x y : List UInt8, Op.bytesLess x y = true → Op.bytesLess y x = false
  | [], [], h => by simp [Op.bytesLess] at h
  | [], b :: y, _ => by simp [Op.bytesLess]
  | a :: x, [], h => by simp [Op.bytesLess] at h
  | a :: x, b :: y, h => by
    simp only [Op.bytesLess, Bool.or_eq_true, decide_eq_true_eq, Bool.and_eq_true, beq_iff_eq] at h
    simp only [Op.bytesLess, Bool.or_eq_false_iff, decide_eq_false_iff_not, Bool.and_eq_false_iff, beq_eq_false_iff_ne]
    rcases h with h | ⟨rfl, h⟩
    · exact ⟨fun h2 => UInt8.lt_irrefl _ (UInt8.lt_trans h h2), .inl (fun e => by subst e; exact UInt8.lt_irrefl _ h)⟩
    · exact ⟨UInt8.lt_irrefl _, .inr (less_asym x y h)⟩
theorem data_inj {a b : ByteArray} (h : a.data.toList = b.data.toList) : a = b := by
  obtain ⟨⟨a⟩⟩ := a
  obtain ⟨⟨b⟩⟩ := b
  simp at h; subst h; rfl
theorem cmpS_0 {a b : ByteArray} (h1 : ¬ Op.bytesLess a.data.toList b.data.toList = true) (h2 : ¬ Op.bytesLess b.data.toList a.data.toList = true) : a = b :=
  data_inj (less_tri _ _ (by simpa using h1) (by simpa using h2))
end Go.Proofs.Ytjjhddjllpihaaa

namespace Go.Proofs.Ytjjhddjllpihaaa
open Go Go.Proofs.Ytjjhddjllpihaaa.X
set_option linter.unusedVariables false
set_option linter.unusedSimpArgs false
theorem less_trans : ∀ x y z : List UInt8, Op.bytesLess x y = true → Op.bytesLess y z = true → Op.bytesLess x z = true
  | [], [], _, h, _ => by simp [Op.bytesLess] at h
  | _ :: _, [], _, h, _ => by simp [Op.bytesLess] at h
  | _, _ :: _, [], _, h => by simp [Op.bytesLess] at h
  | [], _ :: _, _ :: _, _, _ => by simp [Op.bytesLess]
  | a :: x, b :: y, c :: z, h1, h2 => by
    simp only [Op.bytesLess, Bool.or_eq_true, decide_eq_true_eq, Bool.and_eq_true, beq_iff_eq] at h1 h2 ⊢
    rcases h1 with h1 | ⟨rfl, h1⟩
    · rcases h2 with h2 | ⟨rfl, h2⟩
      · exact .inl (UInt8.lt_trans h1 h2)
      · exact .inl h1
    · rcases h2 with h2 | ⟨rfl, h2⟩
      · exact .inl h2
      · exact .inr ⟨rfl, less_trans x y z h1 h2⟩
theorem cmpV_0 {a b : VAL} : cmpV a b = 0 ↔ a = b := by
  unfold cmpV
  by_cases h : a = b
  · simp [h]
  · rw [if_neg h]
    constructor
    · intro h2; split at h2 <;> cases h2
    · intro h2; exact absurd h2 h
def ltV (a b : VAL) : Prop := a.1 < b.1 ∨ a.1 = b.1 ∧ (a.2.1 < b.2.1 ∨ a.2.1 = b.2.1 ∧ Op.bytesLess a.2.2.data.toList b.2.2.data.toList = true)
instance (a b : VAL) : Decidable (ltV a b) := by unfold ltV; infer_instance
theorem ltV_irr {a : VAL} : ¬ ltV a a := by
  unfold ltV
  have := less_irr a.2.2.data.toList
  rintro (h | ⟨_, h | ⟨_, h⟩⟩)
  · omega
  · omega
  · rw [this] at h; cases h
theorem ltV_trans {a b c : VAL} (h1 : ltV a b) (h2 : ltV b c) : ltV a c := by
  unfold ltV at *
  rcases h1 with h1 | ⟨h1, h1' | ⟨h1', h1''⟩⟩ <;> rcases h2 with h2 | ⟨h2, h2' | ⟨h2', h2''⟩⟩
  · exact .inl (by omega)
  · exact .inl (by omega)
  · exact .inl (by omega)
  · exact .inl (by omega)
  · exact .inr ⟨by omega, .inl (by omega)⟩
  · exact .inr ⟨by omega, .inl (by omega)⟩
  · exact .inl (by omega)
  · exact .inr ⟨by omega, .inl (by omega)⟩
  · exact .inr ⟨by omega, .inr ⟨by omega, less_trans _ _ _ h1'' h2''⟩⟩
theorem ltV_tri {a b : VAL} (h : a ≠ b) : ltV a b ∨ ltV b a := by
  obtain ⟨a1, a2, a3⟩ := a
  obtain ⟨b1, b2, b3⟩ := b
  unfold ltV
  simp only
  by_cases h1 : a1 < b1
  · exact .inl (.inl h1)
  by_cases h2 : b1 < a1
  · exact .inr (.inl h2)
  have e : a1 = b1 := by omega
  subst e
  by_cases h3 : a2 < b2
  · exact .inl (.inr ⟨rfl, .inl h3⟩)
  by_cases h4 : b2 < a2
  · exact .inr (.inr ⟨rfl, .inl h4⟩)
  have e : a2 = b2 := by omega
  subst e
  by_cases h5 : Op.bytesLess a3.data.toList b3.data.toList = true
  · exact .inl (.inr ⟨rfl, .inr ⟨rfl, h5⟩⟩)
  by_cases h6 : Op.bytesLess b3.data.toList a3.data.toList = true
  · exact .inr (.inr ⟨rfl, .inr ⟨rfl, h6⟩⟩)
  exact absurd (by rw [cmpS_0 h5 h6]) h
theorem cmpV_lt {a b : VAL} : cmpV a b < 0 ↔ ltV a b := by
  show (if a = b then (0 : Int) else if ltV a b then -1 else 1) < 0 ↔ _
  by_cases h : a = b
  · subst h; rw [if_pos rfl]; exact ⟨fun h => by omega, fun h => absurd h ltV_irr⟩
  · rw [if_neg h]; by_cases h2 : ltV a b
    · rw [if_pos h2]; exact ⟨fun _ => h2, fun _ => by omega⟩
    · rw [if_neg h2]; exact ⟨fun h => by omega, fun h => absurd h h2⟩
theorem cmpV_gt {a b : VAL} : 0 < cmpV a b ↔ ltV b a := by
  show 0 < (if a = b then (0 : Int) else if ltV a b then -1 else 1) ↔ _
  by_cases h : a = b
  · subst h; rw [if_pos rfl]; exact ⟨fun h => by omega, fun h => absurd h ltV_irr⟩
  · rw [if_neg h]; by_cases h2 : ltV a b
    · rw [if_pos h2]; exact ⟨fun h => by omega, fun h3 => absurd (ltV_trans h2 h3) ltV_irr⟩
    · rw [if_neg h2]; exact ⟨fun _ => (ltV_tri h).resolve_left h2, fun h => by omega⟩
theorem cmpV_range (a b : VAL) : cmpV a b = 0 ∨ cmpV a b = -1 ∨ cmpV a b = 1 := by unfold cmpV; (repeat' split) <;> simp
theorem cmpV_neg (a b : VAL) : cmpV b a = - cmpV a b := by
  have h1 := cmpV_range a b
  have h2 := cmpV_range b a
  have h3 := @cmpV_lt a b
  have h4 := @cmpV_gt b a
  have h5 := @cmpV_gt a b
  have h6 := @cmpV_lt b a
  rcases h1 with h1 | h1 | h1
  · have := cmpV_0.1 h1
    subst this; omega
  · have := h4.2 (h3.1 (by omega)); omega
  · have := h6.2 (h5.1 (by omega)); omega
theorem cmpT_0 : ∀ l m : List VAL, cmpT l m = 0 ↔ l = m
  | [], [] => by simp [cmpT]
  | [], _ :: _ => by simp [cmpT]
  | _ :: _, [] => by simp [cmpT]
  | a :: l, b :: m => by
    rw [cmpT]
    by_cases h : cmpV a b = 0
    · rw [if_neg (by simpa using h), cmpT_0 l m, cmpV_0.1 h]; simp
    · rw [if_pos h]
      constructor
      · intro h2; exact absurd h2 h
      · intro h2; cases h2; exact absurd (cmpV_0.2 rfl) h
theorem cmpT_self (l : List VAL) : cmpT l l = 0 := (cmpT_0 l l).2 rfl
theorem cmpT_neg : ∀ l m : List VAL, cmpT m l = - cmpT l m
  | [], [] => by simp [cmpT]
  | [], _ :: _ => by simp [cmpT]
  | _ :: _, [] => by simp [cmpT]
  | a :: l, b :: m => by
    rw [cmpT, cmpT]
    have := cmpV_neg a b
    by_cases h : cmpV a b = 0
    · rw [if_neg (by omega), if_neg (by omega)]; exact cmpT_neg l m
    · rw [if_pos (by omega), if_pos h]; exact this
theorem cmpT_trans : ∀ l m n : List VAL, cmpT l m < 0 → cmpT m n < 0 → cmpT l n < 0
  | [], [], _, h, _ => by simp [cmpT] at h
  | _ :: _, [], _, h, _ => by simp [cmpT] at h
  | _, _ :: _, [], _, h => by simp [cmpT] at h
  | [], _ :: _, _ :: _, _, _ => by simp [cmpT]
  | a :: l, b :: m, c :: n, h1, h2 => by
    rw [cmpT] at h1 h2 ⊢
    by_cases e1 : cmpV a b = 0
    · rw [if_neg (by simpa using e1)] at h1
      have := cmpV_0.1 e1
      subst this
      by_cases e2 : cmpV a c = 0
      · rw [if_neg (by simpa using e2)] at h2 ⊢
        exact cmpT_trans l m n h1 h2
      · rw [if_pos e2] at h2 ⊢; exact h2
    · rw [if_pos e1] at h1
      by_cases e2 : cmpV b c = 0
      · have := cmpV_0.1 e2
        subst this
        rw [if_pos e1]; exact h1
      · rw [if_pos e2] at h2
        have h3 := cmpV_lt.2 (ltV_trans (cmpV_lt.1 h1) (cmpV_lt.1 h2))
        rw [if_pos (by omega)]; exact h3
/-- Not behind: a whole preorder. -/
theorem cmpT_le {l m n : List VAL} (h1 : cmpT l m ≤ 0) (h2 : cmpT m n ≤ 0) : cmpT l n ≤ 0 := by
  by_cases e1 : cmpT l m = 0
  · rw [(cmpT_0 _ _).1 e1]; exact h2
  by_cases e2 : cmpT m n = 0
  · rw [← (cmpT_0 _ _).1 e2]; exact h1
  have := cmpT_trans l m n (by omega) (by omega)
  omega
end Go.Proofs.Ytjjhddjllpihaaa

namespace Go.Proofs.Ytjjhddjllpihaaa
open Go Go.Proofs.Ytjjhddjllpihaaa.X
set_option linter.unusedVariables false
set_option linter.unusedSimpArgs false
theorem opens_V {H : Type} {enc : TypeId × Value → H} {W : World} : Opens enc Try.prog W 72 KV := fun fuel cs x h => by
  obtain ⟨y, a, b, e, ⟨ha, oa⟩, p, q, e2, ⟨hb, ob⟩, hq, oq⟩ := opens_struct3 (K := KI) (L := KI) (M := KS) Try.underlying72 (by kernel_rfl) ⟨rfl, by kernel_rfl⟩ ⟨rfl, by kernel_rfl⟩ ⟨rfl, by kernel_rfl⟩ (opens_i64 Try.underlying70) (opens_i64 Try.underlying2) (opens_string Try.underlying9) fuel cs x h
  subst e ha e2 hb hq
  exact ⟨y, rfl, oa, ob, oq⟩
theorem list_choose {α β : Type} : ∀ {l : List α} {Q : Nat → α → β → Prop}, (∀ j x, l[j]? = some x → ∃ y, Q j x y) → ∃ l' : List β, l'.length = l.length ∧ ∀ j x, l[j]? = some x → ∃ y, l'[j]? = some y ∧ Q j x y
  | [], _, _ => ⟨[], rfl, fun j x h => by simp at h⟩
  | a :: l, Q, h => by
    obtain ⟨b, hb⟩ := h 0 a rfl
    obtain ⟨l', h1, h2⟩ := list_choose (l := l) (Q := fun j x y => Q (j + 1) x y) (fun j x hx => h (j + 1) x (by simpa using hx))
    refine ⟨b :: l', by simp [h1], fun j x hx => ?_⟩
    cases j with
    | zero => simp at hx; subst hx; exact ⟨b, rfl, hb⟩
    | succ j => simp at hx; obtain ⟨y, g1, g2⟩ := h2 j x hx; exact ⟨y, by simpa using g1, g2⟩
end Go.Proofs.Ytjjhddjllpihaaa

namespace Go.Proofs.Ytjjhddjllpihaaa
open Go Go.Proofs.Ytjjhddjllpihaaa.X
set_option linter.unusedVariables false
set_option linter.unusedSimpArgs false
abbrev PKEY := ByteArray × Int
abbrev encPK (k : PKEY) : Value := .agg #[.string k.1, .int .i64 k.2]
def KPk : Kd PKEY := Kd.plain 2 (fun k => [.string k.1, .int .i64 k.2]) (fun _ => True) (fun _ => rfl) (fun _ u hu => by simp at hu; rcases hu with rfl | rfl <;> rfl)
theorem KPk_flat : Flat KPk := fun h => h
theorem repsPk {w : World} (x : PKEY) : RepsV KPk w [x] [encPK x] := ⟨⟨_, rfl, rfl, trivial⟩, trivial⟩
theorem EPk : ElemInfo Try.prog 30 2 24 := ElemInfo.of (z := .agg #[.string ⟨#[]⟩, .int .i64 0]) (by kernel_rfl) rfl rfl rfl
theorem EVal1 : ElemInfo Try.prog 72 3 32 := ElemInfo.of (z := .agg #[.int .i64 0, .int .i64 0, .string ⟨#[]⟩]) (by kernel_rfl) rfl rfl rfl
theorem eqPk_guard : Try.prog.eqGuardType Try.prog.depth 30 = false := by kernel_rfl
theorem eqPk (a b : PKEY) (w : World) : (Op.equalIn 10000 30 (.agg #[.string a.1, .int .i64 a.2]) (.agg #[.string b.1, .int .i64 b.2])).run Try.prog w = .ok (decide (a = b)) w := by
  rw [run_equalIn_struct w 9999 _ _ _ (by simp [Program.fieldsOf, Try.underlying30]) (by kernel_rfl)]
  simp only [Program.fieldsOf, Try.underlying30]
  simp [Op.eqFields, part, Try.isAgg3, Try.isAgg9, run_equalIn_int _ 9998 3 .i64 .i64 _ _ Try.underlying3, run_equalIn_string _ 9998 9 _ _ Try.underlying9, str_eq]
  obtain ⟨a1, a2⟩ := a
  obtain ⟨b1, b2⟩ := b
  by_cases h1 : a1 = b1 <;> by_cases h2 : a2 = b2 <;> simp [h1, h2]
theorem getL {α : Type} {l : List α} {n : Nat} (i : Nat) (h : l.length = n) (hi : i < n) : ∃ x, l[i]? = some x := ⟨l[i]'(by omega), List.getElem?_eq_getElem (by omega)⟩
-- f36 "slices.Index[[]pedigree/api.PageKey,pedigree/api.PageKey]" params [28, 30] results [3] -> [(ResultVar.
set_option maxHeartbeats 4000000 in
set_option maxRecDepth 100000 in
theorem Index_c {lo hi : Nat} {A : Option Addr} {n c : Nat} {xs : List PKEY} (k : PKEY) (w : World) (hs : Sl KPk lo hi w A n xs) : Ret Try.prog 36 #[.slice A n c, encPK k] w fun r w' => ∃ i : Int, r = .int .i64 i ∧ ((i = -1 ∧ k ∉ xs) ∨ ∃ j : Nat, i = (j : Int) ∧ j < n ∧ xs[j]? = some k ∧ k ∉ xs.take j) ∧ Keep w w' := by
  have hl := hs.len
  have hb := hs.bound
  refine X.enter Try.func36 rfl Try.ntmps36 rfl ?_
  refine X.seq ?_
  refine X.region ?_
  refine X.opE X.wN rfl (X.boxE rfl rfl) ?_
  rintro _ w1 ⟨rfl, hB1, hk1, hz1⟩
  refine X.opw X.wN rfl (X.assign rfl) ?_
  refine X.opsEnd ?_
  refine X.seq ?_
  refine X.seq ?_
  refine X.region ?_
  refine X.opw X.wN rfl (X.move (v := .slice _ _ _) rfl) ?_
  refine X.opw X.wN rfl (X.lenSl Try.underlying28 rfl) ?_
  refine X.opw X.wN rfl (X.move rfl) ?_
  refine X.opsEnd ?_
  refine X.block ?_
  -- LOOP live: 0=s, 3=v, 7, 8*
  refine X.loopL (σ := Nat) (fun s => [(0, .slice A n c), (3, .pointer (some ⟨w.heap.size, 0, none⟩)), (7, .int .i64 (n : Int)), (8, .int .i64 (s : Int))]) (fun s w' => s ≤ n ∧ k ∉ xs.take s ∧ Blk w' w.heap.size [.string k.1, .int .i64 k.2] 30 ∧ Keep w w') (fun s => n - s) 0 ⟨rfl, rfl, rfl, rfl, trivial⟩ ⟨Nat.zero_le _, by simp, hB1, hk1⟩ ?_
  rintro i b0 wl ⟨hi, hni, hBl, hk⟩ hback
  have hk' := hk.size
  refine X.seq ?_
  refine X.region ?_
  refine X.opP X.wN rfl rfl (X.lss rfl rfl) (fun h9 => ?_) (fun h9 => ?_)
  · obtain ⟨x, hx⟩ := getL i hl (by omega)
    refine X.opsEnd ?_
    refine X.seq ?_
    refine X.condT rfl ?_
    refine X.skip ?_
    refine X.seq ?_
    refine X.block ?_
    refine X.seq ?_
    refine X.region ?_
    refine X.opw X.wN rfl (X.move (v := .int .i64 _) rfl) ?_
    refine X.opw X.wN rfl (X.assign (v := .int .i64 _) rfl) ?_
    refine X.opsEnd ?_
    refine X.seq ?_
    refine X.regionD (fun _ => False) 6 (by kernel_rfl) (by kernel_rfl) (fun w2 hk2 hz2 => ?_)
    refine X.dTake 0 rfl (by kernel_rfl) (by kernel_rfl) (by kernel_rfl) (X.dwN rfl) (fun w' hk' => X.loadNB Try.isAgg30 Try.sizeOf30 (hBl.keep (hk2.trans hk')) rfl rfl rfl) ?_
    refine X.dTake 1 rfl (by kernel_rfl) (by kernel_rfl) (by kernel_rfl) (X.dwN rfl) (fun w' hk' => X.move (v := .slice _ _ _) rfl) ?_
    refine X.dTake 2 rfl (by kernel_rfl) (by kernel_rfl) (by kernel_rfl) (X.dwN rfl) (fun w' hk' => X.move (v := .int .i64 _) rfl) ?_
    refine X.dTake 3 rfl (by kernel_rfl) (by kernel_rfl) (by kernel_rfl) (X.dwN rfl) (fun w' hk' => X.idxS (hs.keep ((hk.trans hk2).trans hk')) Try.underlying28 Try.sizeOf30 rfl rfl ⟨by omega, by omega⟩) ?_
    refine X.dTake 4 rfl (by kernel_rfl) (by kernel_rfl) (by kernel_rfl) (X.dwN rfl) (fun w' hk' => X.loadSN Try.isAgg30 Try.sizeOf30 (hs.keep ((hk.trans hk2).trans hk')) hx rfl (fun _ h => h.1) rfl) ?_
    refine X.dTake 5 rfl (by kernel_rfl) (by kernel_rfl) (by kernel_rfl) (X.dwN rfl) (fun w' hk' => X.eqA eqPk_guard rfl rfl (eqPk k x _)) ?_
    refine X.dEnd (by kernel_rfl) ?_
    refine X.condB rfl (fun hc => ?_) (fun hc => ?_)
    · have hkx : k = x := by simpa using hc
      refine X.seq ?_
      refine X.region ?_
      refine X.opw X.wN rfl (X.move (v := .int .i64 _) rfl) ?_
      refine X.opw X.wN rfl (X.assign (v := .int .i64 _) rfl) ?_
      refine X.opsEnd ?_
      refine X.ret1 (v := (.int .i64 _)) Try.func36 Try.results36 rfl ?_
      exact ⟨_, rfl, .inr ⟨i, rfl, by omega, by rw [hkx]; exact hx, hni⟩, (hk.trans hk2)⟩
    · have hkx : k ≠ x := by simpa using hc
      refine X.skip ?_
      refine X.inBlock ?_
      refine X.region ?_
      refine X.opw X.wN rfl (X.add rfl rfl (X.w_i64 (by omega))) ?_
      refine X.opw X.wN rfl (X.move (v := .int .i64 _) rfl) ?_
      refine X.opsEnd ?_
      refine hback (i + 1) _ _ ⟨rfl, rfl, rfl, rfl, trivial⟩ ⟨by omega, by rw [take_at hx]; simp only [List.mem_append, List.mem_singleton]; exact fun h => h.elim hni hkx, (hBl.keep hk2), (hk.trans hk2)⟩ (by omega)
  · refine X.opsEnd ?_
    refine X.seq ?_
    refine X.condF rfl ?_
    refine X.exit rfl ?_
    refine X.seq ?_
    refine X.region ?_
    refine X.opw X.wN rfl (X.assign rfl) ?_
    refine X.opsEnd ?_
    refine X.ret1 (v := (.int .i64 _)) Try.func36 Try.results36 rfl ?_
    refine ⟨_, rfl, .inl ⟨rfl, ?_⟩, hk⟩
    rw [List.take_of_length_le (by omega)] at hni; exact hni
-- f29 "slices.Clone[[]pedigree/api.PageKey,pedigree/api.PageKey]" params [28] results [28] -> [(ResultVar.tmp
set_option maxHeartbeats 4000000 in
set_option maxRecDepth 100000 in
theorem CloneK_c {lo hi : Nat} {A : Option Addr} {n c : Nat} {l : List PKEY} (w : World) (hs : Sl KPk lo hi w A n l) (hn : n ≤ 1000000) : Ret Try.prog 29 #[.slice A n c] w fun r w' => ∃ A' c', r = .slice A' n c' ∧ n ≤ c' ∧ Mine KPk 30 (fun k => w.heap.size ≤ k ∧ k < w'.heap.size) 0 0 w' (.slice A' n c') l ∧ Keep w w' := by
  have hl := hs.len
  refine X.enter Try.func29 rfl Try.ntmps29 rfl ?_
  refine X.seq ?_
  refine X.region ?_
  refine X.opw X.wN rfl (X.assign rfl) ?_
  refine X.opsEnd ?_
  refine X.seq ?_
  refine X.seq ?_
  refine X.region ?_
  refine X.opw X.wN rfl (X.move (v := .slice _ _ _) rfl) ?_
  refine X.opB X.wN rfl rfl (X.eqNil Try.underlying28 rfl rfl) (fun h4 => ?_) (fun h4 => ?_)
  · refine X.opsEnd ?_
    refine X.condT rfl ?_
    refine X.seq ?_
    refine X.region ?_
    refine X.opw X.wN rfl (X.assign rfl) ?_
    refine X.opsEnd ?_
    refine X.ret1 Try.func29 Try.results29 rfl ?_
    have hq : n = 0 := by
      rcases Nat.eq_zero_or_pos n with h | h
      · exact h
      · obtain ⟨ad, e, _⟩ := hs.at_ h
        subst e; simp at h4
    subst hq
    have hq : l = [] := List.eq_nil_of_length_eq_zero hl
    subst hq
    exact ⟨none, 0, rfl, Nat.le_refl _, Mine.nil _ _ _ _ _ _, (Keep.refl _)⟩
  · refine X.opsEnd ?_
    refine X.condF rfl ?_
    refine X.skip ?_
    refine X.seq ?_
    refine X.region ?_
    refine X.opE X.wN rfl (X.lit0E (K := KPk) (S := fun k => w.heap.size ≤ k) Try.underlying28 Try.sizeOf30 (by intros; (try simp only [] at *); omega)) ?_
    rintro v1 w1 ⟨hM1, hk1, hz1⟩
    refine X.opw X.wN rfl (X.move (v := .slice _ _ _) rfl) ?_
    refine X.opE X.wN rfl (X.appE (K := KPk) (S := fun k => w.heap.size ≤ k) KPk_flat Try.underlying28 EPk rfl rfl hM1 (hs.keep hk1) (by (try simp only [List.length_append, List.length_cons, List.length_nil, List.length_take, List.length_drop, List.length_map, List.length_range]); omega) (by intros; (try simp only [] at *); omega)) ?_
    rintro v2 w2 ⟨hM2, hx2⟩
    have hx2' := hx2.size
    refine X.opw X.wN rfl (X.assign rfl) ?_
    refine X.opsEnd ?_
    refine X.ret1 Try.func29 Try.results29 rfl ?_
    have hMx := hM2
    obtain ⟨A', c', e, hc', _⟩ := hMx.slice
    subst e
    have e2 : ([] ++ l).length = n := by simp [hl]
    rw [e2] at hMx hc'
    exact ⟨A', c', by rw [e2]; rfl, hc', hMx.mono fun k hk h => ⟨h, hk⟩, (hk1.step hx2 (by intros; (try simp only [] at *); omega))⟩
-- f34 "slices.Clone[pedigree/api.Tuple,pedigree/api.Value]" params [74] results [74] -> [(ResultVar.tmp 2)] n
set_option maxHeartbeats 4000000 in
set_option maxRecDepth 100000 in
theorem CloneT_c {lo hi : Nat} {A : Option Addr} {n c : Nat} {l : List VAL} (w : World) (hs : Sl KV lo hi w A n l) (hn : n * 32 ≤ 140737488355328) : Ret Try.prog 34 #[.slice A n c] w fun r w' => ∃ A' c', r = .slice A' n c' ∧ n ≤ c' ∧ Mine KV 72 (fun k => w.heap.size ≤ k ∧ k < w'.heap.size) 0 0 w' (.slice A' n c') l ∧ Keep w w' := by
  have hl := hs.len
  refine X.enter Try.func34 rfl Try.ntmps34 rfl ?_
  refine X.seq ?_
  refine X.region ?_
  refine X.opw X.wN rfl (X.assign rfl) ?_
  refine X.opsEnd ?_
  refine X.seq ?_
  refine X.seq ?_
  refine X.region ?_
  refine X.opw X.wN rfl (X.move (v := .slice _ _ _) rfl) ?_
  refine X.opB X.wN rfl rfl (X.eqNil Try.underlying74 rfl rfl) (fun h4 => ?_) (fun h4 => ?_)
  · refine X.opsEnd ?_
    refine X.condT rfl ?_
    refine X.seq ?_
    refine X.region ?_
    refine X.opw X.wN rfl (X.assign rfl) ?_
    refine X.opsEnd ?_
    refine X.ret1 Try.func34 Try.results34 rfl ?_
    have hq : n = 0 := by
      rcases Nat.eq_zero_or_pos n with h | h
      · exact h
      · obtain ⟨ad, e, _⟩ := hs.at_ h
        subst e; simp at h4
    subst hq
    have hq : l = [] := List.eq_nil_of_length_eq_zero hl
    subst hq
    exact ⟨none, 0, rfl, Nat.le_refl _, Mine.nil _ _ _ _ _ _, (Keep.refl _)⟩
  · refine X.opsEnd ?_
    refine X.condF rfl ?_
    refine X.skip ?_
    refine X.seq ?_
    refine X.region ?_
    refine X.opE X.wN rfl (X.lit0E (K := KV) (S := fun k => w.heap.size ≤ k) Try.underlying74 Try.sizeOf72 (by intros; (try simp only [] at *); omega)) ?_
    rintro v1 w1 ⟨hM1, hk1, hz1⟩
    refine X.opw X.wN rfl (X.move (v := .slice _ _ _) rfl) ?_
    refine X.opE X.wN rfl (X.appE (K := KV) (S := fun k => w.heap.size ≤ k) KV_flat Try.underlying74 EVal1 rfl rfl hM1 (hs.keep hk1) (by (try simp only [List.length_append, List.length_cons, List.length_nil, List.length_take, List.length_drop, List.length_map, List.length_range]); omega) (by intros; (try simp only [] at *); omega)) ?_
    rintro v2 w2 ⟨hM2, hx2⟩
    have hx2' := hx2.size
    refine X.opw X.wN rfl (X.assign rfl) ?_
    refine X.opsEnd ?_
    refine X.ret1 Try.func34 Try.results34 rfl ?_
    have hMx := hM2
    obtain ⟨A', c', e, hc', _⟩ := hMx.slice
    subst e
    have e2 : ([] ++ l).length = n := by simp [hl]
    rw [e2] at hMx hc'
    exact ⟨A', c', by rw [e2]; rfl, hc', hMx.mono fun k hk h => ⟨h, hk⟩, (hk1.step hx2 (by intros; (try simp only [] at *); omega))⟩
end Go.Proofs.Ytjjhddjllpihaaa

namespace Go.Proofs.Ytjjhddjllpihaaa
open Go Go.Proofs.Ytjjhddjllpihaaa.X
set_option linter.unusedVariables false
set_option linter.unusedSimpArgs false
-- f37 "slices.Delete[[]pedigree/api.PageKey,pedigree/api.PageKey]" params [28, 3, 3] results [28] -> [(Result
set_option maxHeartbeats 4000000 in
set_option maxRecDepth 100000 in
theorem DeleteK_c {S : Nat → Prop} {A : Option Addr} {n c : Nat} {xs : List PKEY} (i : Nat) (w : World) (hM : Mine KPk 30 S 0 0 w (.slice A n c) xs) (hi : i < n) (hn : n ≤ 1000000) : Ret Try.prog 37 #[.slice A n c, .int .i64 (i : Int), .int .i64 ((i + 1 : Nat) : Int)] w fun r w' => r = .slice A (n - 1) c ∧ Mine KPk 30 S 0 0 w' (.slice A (n - 1) c) (xs.eraseIdx i) ∧ Ext S w w' := by
  rcases hM.full (show 0 < KPk.sz by decide) with ⟨h0, _⟩ | ⟨b, ch, rfl, hSb, hF⟩
  · omega
  have hs0 : Sl KPk b (b + 1) w (some ⟨b, 0, none⟩) n xs := hF.sl KPk_flat 0 (Nat.zero_le _)
  have hcn := hF.le
  have hcl := hF.len
  have hxl := hF.xlen
  refine X.enter Try.func37 rfl Try.ntmps37 rfl ?_
  refine X.seq ?_
  refine X.region ?_
  refine X.opw X.wN rfl (X.assign rfl) ?_
  refine X.opsEnd ?_
  refine X.seq ?_
  refine X.region ?_
  refine X.opw X.wN rfl (X.move rfl) ?_
  refine X.opw X.wN rfl (X.move (v := .int .i64 _) rfl) ?_
  refine X.opw X.wN rfl (X.move (v := .int .i64 _) rfl) ?_
  refine X.opw X.wN rfl (X.move rfl) ?_
  refine X.opw X.wN rfl (X.lenSl Try.underlying28 rfl) ?_
  refine X.opw X.wN rfl (X.cut3E Try.underlying28 Try.sizeOf30 rfl rfl rfl rfl ⟨by omega, by omega, by omega, by omega⟩) ?_
  refine X.opsEnd ?_
  refine X.seq ?_
  refine X.seq ?_
  refine X.region ?_
  refine X.opw X.wN rfl (X.move (v := .int .i64 _) rfl) ?_
  refine X.opw X.wN rfl (X.move (v := .int .i64 _) rfl) ?_
  refine X.opP X.wN rfl rfl (X.eqI rfl rfl) (fun h16 => ?_) (fun h16 => ?_)
  · exact absurd h16 (by omega)
  · refine X.opsEnd ?_
    refine X.condF rfl ?_
    refine X.skip ?_
    refine X.seq ?_
    refine X.region ?_
    refine X.opw X.wN rfl (X.move rfl) ?_
    refine X.opw X.wN rfl (X.lenSl Try.underlying28 rfl) ?_
    refine X.opw X.wN rfl (X.assign (v := .int .i64 _) rfl) ?_
    refine X.opsEnd ?_
    refine X.seq ?_
    refine X.regionD (fun k => k = b) 7 (by kernel_rfl) (by kernel_rfl) (fun w1 hk1 hz1 => ?_)
    refine X.dTake 0 rfl (by kernel_rfl) (by kernel_rfl) (by kernel_rfl) (X.dwN rfl) (fun w' hk' => X.move rfl) ?_
    refine X.dTake 1 rfl (by kernel_rfl) (by kernel_rfl) (by kernel_rfl) (X.dwN rfl) (fun w' hk' => X.move (v := .int .i64 _) rfl) ?_
    refine X.dTake 2 rfl (by kernel_rfl) (by kernel_rfl) (by kernel_rfl) (X.dwN rfl) (fun w' hk' => X.cutHB Try.underlying28 Try.sizeOf30 rfl rfl (by omega)) ?_
    refine X.dTake 3 rfl (by kernel_rfl) (by kernel_rfl) (by kernel_rfl) (X.dwN rfl) (fun w' hk' => X.move rfl) ?_
    refine X.dTake 4 rfl (by kernel_rfl) (by kernel_rfl) (by kernel_rfl) (X.dwN rfl) (fun w' hk' => X.move (v := .int .i64 _) rfl) ?_
    refine X.dTake 5 rfl (by kernel_rfl) (by kernel_rfl) (by kernel_rfl) (X.dwN rfl) (fun w' hk' => X.cutL Try.underlying28 Try.sizeOf30 rfl rfl ⟨by omega, by omega⟩) ?_
    refine X.dE (i := 6) (by kernel_rfl) rfl (X.dwN rfl) (X.appInE (K := KPk) (i := i) (m := n - (i + 1)) (c := c) KPk_flat Try.underlying28 Try.sizeOf30 rfl rfl (by omega) (hF.ext KPk_flat hk1 (fun h => h)).blk hF.chk hF.len ((hs0.keep hk1).drop (i + 1) c (by omega) (by omega))) (by rintro _ w2 ⟨z2, rfl, hz2, hB2, hC2, hx2, hs2⟩ _; exact hx2) ?_
    rintro _ w2 ⟨z2, rfl, hz2, hB2, hC2, hx2, hs2⟩
    refine X.dStep (i := 7) (by kernel_rfl) rfl (X.dwN rfl) (X.assign rfl) (fun h => absurd h (by decide)) ?_
    refine X.dEnd (by kernel_rfl) ?_
    refine X.seq ?_
    refine X.region ?_
    refine X.opw X.wN rfl (X.move rfl) ?_
    refine X.opw X.wN rfl (X.move rfl) ?_
    have hzl : z2.length = n - (i + 1) := by rw [← hz2.len, List.length_drop, hxl]
    have hlen1 : (ch.take i ++ z2 ++ ch.drop (i + (n - (i + 1)))).length = c := by simp only [List.length_append, List.length_take, List.length_drop, hzl, hcl]; omega
    refine X.opw X.wN rfl (X.lenSl Try.underlying28 rfl) ?_
    refine X.opw X.wN rfl (X.move (v := .int .i64 _) rfl) ?_
    refine X.opw X.wN rfl (X.cutLHB (p := n - 1) (q := n) Try.underlying28 Try.sizeOf30 rfl (by show Value.int .i64 _ = _; congr 1; omega) rfl ⟨by omega, by omega⟩ (by omega)) ?_
    refine X.opE X.wN rfl (X.clearE (K := KPk) (p := n - 1) (n := n - (n - 1)) Try.underlying28 Try.zeroValue30 rfl (by decide) rfl (by rw [hlen1]; omega) hB2 hC2) ?_
    rintro _ w3 ⟨z3, rfl, hzl3, hB3, hC3, hx3, hs3⟩
    refine X.opsEnd ?_
    refine X.seq ?_
    refine X.region ?_
    refine X.opw X.wN rfl (X.move rfl) ?_
    refine X.opw X.wN rfl (X.assign rfl) ?_
    refine X.opsEnd ?_
    refine X.ret1 Try.func37 Try.results37 rfl ?_
    have hn1 : i + (n - (i + 1)) = n - 1 := by omega
    have e1 : (ch.take i ++ z2 ++ ch.drop (i + (n - (i + 1)))).take (n - 1) = ch.take i ++ z2 := by
      have h4 : (ch.take i ++ z2).length = n - 1 := by rw [List.length_append, List.length_take, hzl]; omega
      rw [← h4]; exact List.take_left
    have hrep : RepC KPk 0 0 w3 (xs.eraseIdx i) (ch.take i ++ z2) := by
      rw [List.eraseIdx_eq_take_drop_succ]
      have h5 := hF.rep.takeC i
      rw [List.take_take, Nat.min_eq_left (show i ≤ n by omega)] at h5
      exact (h5.app (hz2.flat KPk_flat)).flat KPk_flat
    rw [hn1]
    refine ⟨rfl, Full.mine (b := b) ⟨hB3, hC3, by simp only [List.length_append, List.length_take, List.length_drop, hzl3, hlen1]; omega, hF.cap, by omega, ?_, by decide⟩ hSb, (Ext.trans (T := fun k => k = b) (U := fun k => k = b) (Ext.trans (hk1) hx2 (fun _ _ h => h.elim) (fun _ _ h => h)) hx3 (fun _ _ h => h) (fun _ _ h => h)).mono (fun k _ h => ?_)⟩
    · rw [List.append_assoc, List.take_append_of_le_length (by rw [List.length_take, hlen1]; omega), List.take_take, Nat.min_self, e1]; exact hrep
    · rw [show k = b from h]; exact hSb
-- f35 "slices.Insert[[]pedigree/api.PageKey,pedigree/api.PageKey]" params [28, 3, 28] results [28] -> [(Resul
set_option maxHeartbeats 4000000 in
set_option maxRecDepth 100000 in
theorem InsertK_c {S : Nat → Prop} {A : Option Addr} {n c bv : Nat} {xs : List PKEY} {y : PKEY} {csv : List Value} {ev : TypeId} (i : Nat) (w : World) (hM : Mine KPk 30 S 0 0 w (.slice A n c) xs) (hi : i ≤ n) (hn : n ≤ 1000000) (hSv : Sl KPk bv (bv + 1) w (some ⟨bv, 0, none⟩) 1 [y]) (hBv : Blk w bv csv ev) (hSbv : ¬ S bv) (hfr : ∀ k, w.heap.size ≤ k → S k) :
    Ret Try.prog 35 #[.slice A n c, .int .i64 (i : Int), .slice (some ⟨bv, 0, none⟩) 1 1] w fun r w' => ∃ A' c', r = .slice A' (n + 1) c' ∧ n + 1 ≤ c' ∧ Mine KPk 30 S 0 0 w' (.slice A' (n + 1) c') (xs.take i ++ y :: xs.drop i) ∧ Ext S w w' := by
  have hxlM := hM.len
  refine X.enter Try.func35 rfl Try.ntmps35 rfl ?_
  refine X.seq ?_
  refine X.region ?_
  refine X.opw X.wN rfl (X.assign rfl) ?_
  refine X.opsEnd ?_
  refine X.seq ?_
  refine X.region ?_
  refine X.opw X.wN rfl (X.move rfl) ?_
  refine X.opw X.wN rfl (X.move (v := .int .i64 _) rfl) ?_
  refine X.opw X.wN rfl (X.cutL Try.underlying28 Try.sizeOf30 rfl rfl ⟨by omega, by omega⟩) ?_
  refine X.opsEnd ?_
  refine X.seq ?_
  refine X.region ?_
  refine X.opw X.wN rfl (X.move rfl) ?_
  refine X.opw X.wN rfl (X.lenSl Try.underlying28 rfl) ?_
  refine X.opw X.wN rfl (X.assign (v := .int .i64 _) rfl) ?_
  refine X.opsEnd ?_
  refine X.seq ?_
  refine X.seq ?_
  refine X.region ?_
  refine X.opw X.wN rfl (X.move (v := .int .i64 _) rfl) ?_
  refine X.opP X.wN rfl rfl (X.eqI rfl rfl) (fun h16 => ?_) (fun h16 => ?_)
  · exact absurd h16 (by omega)
  · refine X.opsEnd ?_
    refine X.condF rfl ?_
    refine X.skip ?_
    refine X.seq ?_
    refine X.region ?_
    refine X.opw X.wN rfl (X.move rfl) ?_
    refine X.opw X.wN rfl (X.lenSl Try.underlying28 rfl) ?_
    refine X.opw X.wN rfl (X.assign (v := .int .i64 _) rfl) ?_
    refine X.opsEnd ?_
    refine X.seq ?_
    refine X.seq ?_
    refine X.region ?_
    refine X.opw X.wN rfl (X.move (v := .int .i64 _) rfl) ?_
    refine X.opw X.wN rfl (X.move (v := .int .i64 _) rfl) ?_
    refine X.opP X.wN rfl rfl (X.eqI rfl rfl) (fun h22 => ?_) (fun h22 => ?_)
    · refine X.opsEnd ?_
      refine X.condT rfl ?_
      refine X.seq ?_
      refine X.region ?_
      refine X.opw X.wN rfl (X.move rfl) ?_
      refine X.opw X.wN rfl (X.move rfl) ?_
      refine X.opE X.wN rfl (X.appE (K := KPk) (S := S) KPk_flat Try.underlying28 EPk rfl rfl (hM) (hSv) (by (try simp only [List.length_cons, List.length_nil]); omega) (fun k hk => hfr k (by omega))) ?_
      rintro v1 w1 ⟨hM1, hx1⟩
      have hx1' := hx1.size
      refine X.opw X.wN rfl (X.assign rfl) ?_
      refine X.opsEnd ?_
      refine X.ret1 Try.func35 Try.results35 rfl ?_
      have hiq : i = n := by omega
      obtain ⟨A', c', e, hc', _⟩ := hM1.slice
      subst e
      have e2 : (xs ++ [y]).length = n + 1 := by rw [List.length_append, hxlM]; rfl
      have e3 : xs.take i ++ y :: xs.drop i = xs ++ [y] := by rw [List.take_of_length_le (by omega), List.drop_of_length_le (by omega)]
      rw [e3]
      rw [e2] at hM1 hc'
      exact ⟨A', c', by rw [e2]; rfl, hc', hM1, (hx1.mono (fun k _ h => h))⟩
    · rcases hM.full (show 0 < KPk.sz by decide) with ⟨h0, _⟩ | ⟨b, ch, rfl, hSb, hF⟩
      · exact absurd h22 (by omega)
      have hcn := hF.le
      have hcl := hF.len
      have hxl := hF.xlen
      have hbl := hF.blk.lt
      have hbv := hBv.lt
      have hne : bv ≠ b := fun e => hSbv (by rw [e]; exact hSb)
      refine X.opsEnd ?_
      refine X.condF rfl ?_
      refine X.skip ?_
      refine X.seq ?_
      refine X.seq ?_
      refine X.region ?_
      refine X.opw X.wN rfl (X.move (v := .int .i64 _) rfl) ?_
      refine X.opw X.wN rfl (X.move (v := .int .i64 _) rfl) ?_
      refine X.opw X.wN rfl (X.add rfl rfl (X.w_i64 (by omega))) ?_
      refine X.opw X.wN rfl (X.move rfl) ?_
      refine X.opw X.wN rfl (X.capSl Try.underlying28 rfl) ?_
      refine X.opP X.wN rfl rfl (X.gtr rfl rfl) (fun h31 => ?_) (fun h31 => ?_)
      · refine X.opsEnd ?_
        refine X.condT rfl ?_
        refine X.seq ?_
        refine X.region ?_
        refine X.opw X.wN rfl (X.move rfl) ?_
        refine X.opw X.wN rfl (X.move (v := .int .i64 _) rfl) ?_
        refine X.opw X.wN rfl (X.cutHB Try.underlying28 Try.sizeOf30 rfl rfl (by omega)) ?_
        refine X.opw X.wN rfl (X.move (v := .int .i64 _) rfl) ?_
        refine X.opw X.wN rfl (X.move (v := .int .i64 _) rfl) ?_
        refine X.opw X.wN rfl (X.add rfl rfl (X.w_i64 (by omega))) ?_
        refine X.opw X.wN rfl (X.move (v := .int .i64 _) rfl) ?_
        refine X.opw X.wN rfl (X.sub rfl rfl (X.w_i64 (by omega))) ?_
        refine X.opE X.wN rfl (X.appMkGrowE (K := KPk) (i := i) (c := c) (m := n + 1 - i) Try.underlying28 Try.underlying3 EPk rfl (by show Value.int .i64 _ = _; congr 1; omega) (by omega) (by omega) (by omega) hF.blk hF.chk hF.len) ?_
        rintro _ w2 ⟨nc, zg, rfl, hnc, hncm, hzg, hBg, hCg, hk2, hsg⟩
        refine X.opw X.wN rfl (X.assign rfl) ?_
        refine X.opsEnd ?_
        refine X.seq ?_
        refine X.region ?_
        refine X.opw X.wN rfl (X.move rfl) ?_
        refine X.opw X.wN rfl (X.move (v := .int .i64 _) rfl) ?_
        refine X.opw X.wN rfl (X.cutLB (p := i) Try.underlying28 Try.sizeOf30 rfl rfl (by omega) (by omega)) ?_
        refine X.opw X.wN rfl (X.move rfl) ?_
        have hXl : (ch.take i ++ zg).length = nc := by rw [List.length_append, List.length_take, hzg]; omega
        refine X.opE X.wN rfl (X.copyE (K := KPk) (p := i) (m := 1) KPk_flat Try.underlying28 Try.sizeOf30 rfl rfl (by (try simp only []); omega) hBg hCg (by rw [hXl]; omega) (hSv.keep hk2)) ?_
        rintro _ w3 ⟨zv, rfl, hzv, hBv1, hCv1, hx3, hsv⟩
        refine X.opsEnd ?_
        refine X.seq ?_
        refine X.regionD (fun k => k = w.heap.size) 9 (by kernel_rfl) (by kernel_rfl) (fun w4 hk4 hz4 => ?_)
        refine X.dTake 0 rfl (by kernel_rfl) (by kernel_rfl) (by kernel_rfl) (X.dwN rfl) (fun w' hk' => X.move rfl) ?_
        refine X.dTake 1 rfl (by kernel_rfl) (by kernel_rfl) (by kernel_rfl) (X.dwN rfl) (fun w' hk' => X.move (v := .int .i64 _) rfl) ?_
        refine X.dTake 2 rfl (by kernel_rfl) (by kernel_rfl) (by kernel_rfl) (X.dwN rfl) (fun w' hk' => X.move (v := .int .i64 _) rfl) ?_
        refine X.dTake 3 rfl (by kernel_rfl) (by kernel_rfl) (by kernel_rfl) (X.dwN rfl) (fun w' hk' => X.add (c := ((i + 1 : Nat) : Int)) rfl rfl (by rw [X.w_i64 (by omega)]; omega)) ?_
        refine X.dTake 4 rfl (by kernel_rfl) (by kernel_rfl) (by kernel_rfl) (X.dwN rfl) (fun w' hk' => X.cutLB (p := i + 1) Try.underlying28 Try.sizeOf30 rfl rfl (by omega) (by omega)) ?_
        refine X.dTake 5 rfl (by kernel_rfl) (by kernel_rfl) (by kernel_rfl) (X.dwN rfl) (fun w' hk' => X.move rfl) ?_
        refine X.dTake 6 rfl (by kernel_rfl) (by kernel_rfl) (by kernel_rfl) (X.dwN rfl) (fun w' hk' => X.move (v := .int .i64 _) rfl) ?_
        refine X.dTake 7 rfl (by kernel_rfl) (by kernel_rfl) (by kernel_rfl) (X.dwN rfl) (fun w' hk' => X.cutLB (p := i) Try.underlying28 Try.sizeOf30 rfl rfl (by omega) (by omega)) ?_
        have hzvl : zv.length = 1 := hzv.len.symm
        have hX1 : ((ch.take i ++ zg).take i ++ zv ++ (ch.take i ++ zg).drop (i + 1)).length = nc := by simp only [List.length_append, List.length_take, List.length_drop, hzg, hzvl]; omega
        have hFg := ((hF.ext KPk_flat hk2 (fun h => h)).ext KPk_flat hx3 (by (try simp only []); omega))
        refine X.dE (i := 8) (by kernel_rfl) rfl (X.dwN rfl) (X.copyE (K := KPk) (p := i + 1) (m := n - i) KPk_flat Try.underlying28 Try.sizeOf30 rfl rfl (by (try simp only []); omega) (hBv1.keep hk4) hCv1 (by rw [hX1]; omega) ((hFg.ext KPk_flat hk4 (fun h => h)).sl KPk_flat i (by omega))) (by rintro _ w5 ⟨z2, rfl, hz2, hB2, hC2, hx5, hs2⟩ _; exact hx5.mono (fun k _ h => by (try simp only [] at *); omega)) ?_
        rintro _ w5 ⟨z2, rfl, hz2, hB2, hC2, hx5, hs2⟩
        refine X.dEnd (by kernel_rfl) ?_
        refine X.seq ?_
        refine X.region ?_
        refine X.opw X.wN rfl (X.move rfl) ?_
        refine X.opw X.wN rfl (X.assign rfl) ?_
        refine X.opsEnd ?_
        refine X.ret1 Try.func35 Try.results35 rfl ?_
        have hz2l : z2.length = n - i := by rw [← hz2.len, List.length_drop, hxl]
        have hgl : (((ch.take i ++ zg).take i ++ zv ++ (ch.take i ++ zg).drop (i + 1)).take (i + 1) ++ z2 ++ ((ch.take i ++ zg).take i ++ zv ++ (ch.take i ++ zg).drop (i + 1)).drop (i + 1 + (n - i))).length = nc := by simp only [List.length_append, List.length_take, List.length_drop, hzg, hzvl, hz2l]; omega
        have hrep : RepC KPk 0 0 w5 (xs.take i ++ y :: xs.drop i) ((ch.take i ++ zg).take i ++ zv ++ z2) := by
          have h5 := hF.rep.takeC i
          rw [List.take_take, Nat.min_eq_left (show i ≤ n by omega)] at h5
          rw [List.take_append_of_le_length (by rw [List.length_take]; omega), List.take_take, Nat.min_self, show xs.take i ++ y :: xs.drop i = xs.take i ++ [y] ++ xs.drop i by simp]
          exact ((h5.app (hzv.flat KPk_flat)).app (hz2.flat KPk_flat)).flat KPk_flat
        have e4 : i + (n + 1 - i) = n + 1 := by omega
        rw [e4]
        refine ⟨_, _, rfl, by omega, Full.mine ⟨hB2, hC2, hgl, hncm, by omega, ?_, by decide⟩ (hfr _ (by omega)), (Ext.trans (Ext.trans (Ext.trans (hk2.mono (fun k _ h => h.elim)) (hx3.mono (fun k _ h => hfr k (by have h : k = _ := h; omega))) (fun _ _ h => h) (fun _ _ h => h)) (hk4.mono (fun k _ h => h.elim)) (fun _ _ h => h) (fun _ _ h => h)) (hx5.mono (fun k _ h => hfr k (by have h : k = _ := h; omega))) (fun _ _ h => h) (fun _ _ h => h))⟩
        rw [ins_grow (by omega) (by omega) hzvl hz2l]; exact hrep
      · refine X.opsEnd ?_
        refine X.condF rfl ?_
        refine X.skip ?_
        refine X.seq ?_
        refine X.region ?_
        refine X.opw X.wN rfl (X.move rfl) ?_
        refine X.opw X.wN rfl (X.move (v := .int .i64 _) rfl) ?_
        refine X.opw X.wN rfl (X.move (v := .int .i64 _) rfl) ?_
        refine X.opw X.wN rfl (X.add (c := ((n + 1 : Nat) : Int)) rfl rfl (by rw [X.w_i64 (by omega)]; omega)) ?_
        refine X.opw X.wN rfl (X.cutHB (q := n + 1) Try.underlying28 Try.sizeOf30 rfl rfl (by omega)) ?_
        refine X.opw X.wN rfl (X.assign rfl) ?_
        refine X.opsEnd ?_
        refine X.seq ?_
        refine X.seq ?_
        refine X.region ?_
        refine X.opw X.wN rfl (X.move rfl) ?_
        refine X.opw X.wN rfl (X.move rfl) ?_
        refine X.opw X.wN rfl (X.move (v := .int .i64 _) rfl) ?_
        refine X.opw X.wN rfl (X.move (v := .int .i64 _) rfl) ?_
        refine X.opw X.wN rfl (X.add (c := ((i + 1 : Nat) : Int)) rfl rfl (by rw [X.w_i64 (by omega)]; omega)) ?_
        refine X.opw X.wN rfl (X.cutLB (p := i + 1) Try.underlying28 Try.sizeOf30 rfl rfl (by omega) (by omega)) ?_
        refine X.opw X.wN rfl (X.externE Try.func41 (by kernel_rfl) rfl rfl rfl rfl rfl (X.run_apart Try.underlying28 Try.sizeOf30 hne (hBv.keep (Keep.refl _)) (hF.blk.keep (Keep.refl _)) (by rw [hF.chk.len, hcl]; exact Nat.mul_pos (by omega) (by decide)))) ?_
        refine X.opw X.wN rfl (X.not_ rfl) ?_
        refine X.opsEnd ?_
        refine X.condT rfl ?_
        refine X.seq ?_
        refine X.regionD (fun k => k = b) 9 (by kernel_rfl) (by kernel_rfl) (fun w7 hk7 hz7 => ?_)
        refine X.dTake 0 rfl (by kernel_rfl) (by kernel_rfl) (by kernel_rfl) (X.dwN rfl) (fun w' hk' => X.move rfl) ?_
        refine X.dTake 1 rfl (by kernel_rfl) (by kernel_rfl) (by kernel_rfl) (X.dwN rfl) (fun w' hk' => X.move (v := .int .i64 _) rfl) ?_
        refine X.dTake 2 rfl (by kernel_rfl) (by kernel_rfl) (by kernel_rfl) (X.dwN rfl) (fun w' hk' => X.move (v := .int .i64 _) rfl) ?_
        refine X.dTake 3 rfl (by kernel_rfl) (by kernel_rfl) (by kernel_rfl) (X.dwN rfl) (fun w' hk' => X.add (c := ((i + 1 : Nat) : Int)) rfl rfl (by rw [X.w_i64 (by omega)]; omega)) ?_
        refine X.dTake 4 rfl (by kernel_rfl) (by kernel_rfl) (by kernel_rfl) (X.dwN rfl) (fun w' hk' => X.cutLB (p := i + 1) Try.underlying28 Try.sizeOf30 rfl rfl (by omega) (by omega)) ?_
        refine X.dTake 5 rfl (by kernel_rfl) (by kernel_rfl) (by kernel_rfl) (X.dwN rfl) (fun w' hk' => X.move rfl) ?_
        refine X.dTake 6 rfl (by kernel_rfl) (by kernel_rfl) (by kernel_rfl) (X.dwN rfl) (fun w' hk' => X.move (v := .int .i64 _) rfl) ?_
        refine X.dTake 7 rfl (by kernel_rfl) (by kernel_rfl) (by kernel_rfl) (X.dwN rfl) (fun w' hk' => X.cutLB (p := i) Try.underlying28 Try.sizeOf30 rfl rfl (by omega) (by omega)) ?_
        have hF7 := hF.ext KPk_flat hk7 (fun h => h)
        refine X.dE (i := 8) (by kernel_rfl) rfl (X.dwN rfl) (X.copyE (K := KPk) (p := i + 1) (m := n - i) KPk_flat Try.underlying28 Try.sizeOf30 rfl rfl (by (try simp only []); omega) hF7.blk hF7.chk (by omega) (hF7.sl KPk_flat i (by omega))) (by rintro _ w8 ⟨z2, rfl, hz2, hB2, hC2, hx8, hs2⟩ _; exact hx8.mono (fun k _ h => by (try simp only [] at *); omega)) ?_
        rintro _ w8 ⟨z2, rfl, hz2, hB2, hC2, hx8, hs2⟩
        refine X.dEnd (by kernel_rfl) ?_
        refine X.seq ?_
        refine X.region ?_
        refine X.opw X.wN rfl (X.move rfl) ?_
        refine X.opw X.wN rfl (X.move (v := .int .i64 _) rfl) ?_
        refine X.opw X.wN rfl (X.cutLB (p := i) Try.underlying28 Try.sizeOf30 rfl rfl (by omega) (by omega)) ?_
        refine X.opw X.wN rfl (X.move rfl) ?_
        have hz2l : z2.length = n - i := by rw [← hz2.len, List.length_drop, hxl]
        have hX2 : (ch.take (i + 1) ++ z2 ++ ch.drop (i + 1 + (n - i))).length = c := by simp only [List.length_append, List.length_take, List.length_drop, hz2l]; omega
        refine X.opE X.wN rfl (X.copyE (K := KPk) (p := i) (m := 1) KPk_flat Try.underlying28 Try.sizeOf30 rfl rfl (by (try simp only []); omega) (hB2) hC2 (by rw [hX2]; omega) ((hSv.keep hk7).ext hx8 (fun k h1 h2 h => by have h : k = b := h; omega))) ?_
        rintro _ w9 ⟨zv, rfl, hzv, hBv1, hCv1, hx9, hsv⟩
        refine X.opsEnd ?_
        refine X.seq ?_
        refine X.region ?_
        refine X.opw X.wN rfl (X.move rfl) ?_
        refine X.opw X.wN rfl (X.assign rfl) ?_
        refine X.opsEnd ?_
        refine X.ret1 Try.func35 Try.results35 rfl ?_
        have hzvl : zv.length = 1 := hzv.len.symm
        have hgl : ((ch.take (i + 1) ++ z2 ++ ch.drop (i + 1 + (n - i))).take i ++ zv ++ (ch.take (i + 1) ++ z2 ++ ch.drop (i + 1 + (n - i))).drop (i + 1)).length = c := by simp only [List.length_append, List.length_take, List.length_drop, hzvl, hz2l]; omega
        have hrep : RepC KPk 0 0 w9 (xs.take i ++ y :: xs.drop i) (ch.take i ++ zv ++ z2) := by
          have h5 := hF.rep.takeC i
          rw [List.take_take, Nat.min_eq_left (show i ≤ n by omega)] at h5
          rw [show xs.take i ++ y :: xs.drop i = xs.take i ++ [y] ++ xs.drop i by simp]
          exact ((h5.app (hzv.flat KPk_flat)).app (hz2.flat KPk_flat)).flat KPk_flat
        refine ⟨_, _, rfl, by omega, Full.mine ⟨hBv1, hCv1, hgl, hF.cap, by omega, ?_, by decide⟩ hSb, (Ext.trans (Ext.trans (hk7.mono (fun k _ h => h.elim)) (hx8.mono (fun k _ h => by rw [show k = b from h]; exact hSb)) (fun _ _ h => h) (fun _ _ h => h)) (hx9.mono (fun k _ h => by rw [show k = b from h]; exact hSb)) (fun _ _ h => h) (fun _ _ h => h))⟩
        rw [ins_room (by omega) (by omega) hzvl hz2l]; exact hrep
end Go.Proofs.Ytjjhddjllpihaaa

namespace Go.Proofs.Ytjjhddjllpihaaa
open Go Go.Proofs.Ytjjhddjllpihaaa.X
set_option linter.unusedVariables false
set_option linter.unusedSimpArgs false
theorem checkPk (em : Bool) (n : Nat) (x : PKEY) (w : World) : (Instr.checkKey em (n + 2) 30 (encPK x)).run Try.prog w = .ok () w := by
  have h1 : ∀ w, (Instr.checkKey em (n + 1) 9 (.string x.1)).run Try.prog w = .ok () w := fun w => by simp [Instr.checkKey, run_underlying Try.underlying9]
  have h2 : ∀ w, (Instr.checkKey em (n + 1) 3 (.int .i64 x.2)).run Try.prog w = .ok () w := fun w => by simp [Instr.checkKey, run_underlying Try.underlying3]
  rw [Instr.checkKey]
  simp [run_underlying Try.underlying30, part, Try.isAgg9, Try.isAgg3, h1, h2]
theorem bitsPk (n : Nat) (x : PKEY) : Instr.sameBits (n + 2) (encPK x) (encPK x) = true := by
  have h1 : Instr.sameBits (n + 1) (.string x.1) (.string x.1) = true := by simp [Instr.sameBits, MapKept.bytes_beq]
  have h2 : Instr.sameBits (n + 1) (.int .i64 x.2) (.int .i64 x.2) = true := by simp [Instr.sameBits]
  rw [Instr.sameBits]
  simp [h1, h2]
theorem keyPk : KeyT Try.prog 30 (fun x : PKEY => encPK x) :=
  keyStruct Try.underlying30 (fun em x w => checkPk em 9998 x w) (fun x y w => eqPk x y w) (fun x => bitsPk 9998 x)
theorem erase_filter {k : PKEY} : ∀ {xs : List PKEY} {j : Nat}, xs.Nodup → xs[j]? = some k → xs.eraseIdx j = xs.filter fun x => decide (x ≠ k)
  | [], j, _, h => by simp at h
  | x :: xs, 0, hn, h => by
    simp at h; subst h
    obtain ⟨h1, h2⟩ := List.nodup_cons.1 hn
    rw [List.eraseIdx_cons_zero, List.filter_cons, if_neg (by simp)]
    symm; rw [List.filter_eq_self]
    intro y hy; simp; exact fun e => h1 (by rw [← e]; exact hy)
  | x :: xs, j + 1, hn, h => by
    obtain ⟨h1, h2⟩ := List.nodup_cons.1 hn
    have h' : xs[j]? = some k := by simpa using h
    have hxk : x ≠ k := fun e => h1 (by rw [e]; exact List.mem_of_getElem? h')
    rw [List.eraseIdx_cons_succ, List.filter_cons, if_pos (by simpa using hxk), erase_filter h2 h']
theorem filter_none {k : PKEY} {xs : List PKEY} (h : k ∉ xs) : xs.filter (fun x => decide (x ≠ k)) = xs := by
  rw [List.filter_eq_self]; intro y hy; simp; exact fun e => h (by rw [← e]; exact hy)
/-- The cells of a cache. -/
abbrev caL (room : Int) (bm : Option Nat) (A : Option Addr) (n c : Nat) (h ms g : Int) : List Value := [.int .i64 room, .map bm, .slice A n c, .int .i64 h, .int .i64 ms, .int .i64 g]
theorem mine_0 {α : Type} {K : Kd α} (hF : Flat K) {e : TypeId} {S : Nat → Prop} {w : World} {A : Option Addr} {n c : Nat} {xs : List α} (h : Mine K e S 0 0 w (.slice A n c) xs) (lo : Nat) (hl : ∀ k, S k → lo ≤ k) : Sl K lo w.heap.size w A n xs := by
  obtain ⟨A', c', e1, _, hs⟩ := h.slF hF lo hl
  injection e1 with e1 e2 e3
  rw [e1, e2]; exact hs
theorem mine_cap {α : Type} {K : Kd α} {e : TypeId} {S : Nat → Prop} {lo hi : Nat} {w : World} {A : Option Addr} {n c : Nat} {xs : List α} (h : Mine K e S lo hi w (.slice A n c) xs) : n ≤ c := by
  obtain ⟨A', c', e1, hc, _⟩ := h.slice
  injection e1 with _ e2 e3
  rw [e2, e3]; exact hc
-- f28 "(*pedigree/cache.fresh[pedigree/api.PageKey]).drop" params [80, 30] results [] -> [] nfree 0 ntmps 24 
set_option maxHeartbeats 4000000 in
set_option maxRecDepth 100000 in
theorem fdrop_c {S : Nat → Prop} {bc : Nat} {room : Int} {bm : Option Nat} {A : Option Addr} {n c : Nat} {h ms g : Int} {xs : List PKEY} {ec : TypeId} (k : PKEY) (w : World) (hB : Blk w bc (caL room bm A n c h ms g) ec) (hM : Mine KPk 30 S 0 0 w (.slice A n c) xs) (hbc : ¬ S bc) (hn : n ≤ 100000) (hnd : xs.Nodup) : Ret Try.prog 28 #[.pointer (some ⟨bc, 2, none⟩), encPK k] w fun r w' => r = .tuple #[] ∧ ∃ A' n' c', Blk w' bc (caL room bm A' n' c' h ms g) ec ∧ Mine KPk 30 S 0 0 w' (.slice A' n' c') (xs.filter fun x => decide (x ≠ k)) ∧ Ext (fun k => k = bc ∨ S k) w w' := by
  have hbl := hB.lt
  refine X.enter Try.func28 rfl Try.ntmps28 rfl ?_
  refine X.seq ?_
  refine X.region ?_
  refine X.opE X.wN rfl (X.boxE rfl rfl) ?_
  rintro _ w1 ⟨rfl, hB1, hk1, hz1⟩
  refine X.opsEnd ?_
  refine X.seq ?_
  refine X.regionD (fun _ => False) 6 (by kernel_rfl) (by kernel_rfl) (fun w2 hk2 hz2 => ?_)
  refine X.dTake 0 rfl (by kernel_rfl) (by kernel_rfl) (by kernel_rfl) (X.dwN rfl) (fun w' hk' => X.move rfl) ?_
  refine X.dTake 1 rfl (by kernel_rfl) (by kernel_rfl) (by kernel_rfl) (X.dwN rfl) (fun w' hk' => X.nilCk rfl) ?_
  refine X.dTake 2 rfl (by kernel_rfl) (by kernel_rfl) (by kernel_rfl) (X.dwN rfl) (fun w' hk' => X.fldB (j := 2) Try.underlying64 rfl rfl Try.sizeOf28 rfl) ?_
  refine X.dTake 3 rfl (by kernel_rfl) (by kernel_rfl) (by kernel_rfl) (X.dwN rfl) (fun w' hk' => X.load1B Try.isAgg28 (hB.keep ((hk1.trans hk2).trans hk')) rfl rfl) ?_
  refine X.dTake 4 rfl (by kernel_rfl) (by kernel_rfl) (by kernel_rfl) (X.dwN rfl) (fun w' hk' => X.loadNB Try.isAgg30 Try.sizeOf30 (hB1.keep (hk2.trans hk')) rfl rfl rfl) ?_
  refine X.dE (i := 5) (by kernel_rfl) rfl (X.dwN rfl) (X.callE (Index_c k _ (mine_0 KPk_flat (hM.keep (hk1.trans hk2)) 0 (fun _ _ => Nat.zero_le _))) Try.call36 rfl rfl) (by rintro _ w3 ⟨ix, rfl, hix, hk3⟩ _; exact hk3.mono (fun _ _ h => h.elim)) ?_
  rintro _ w3 ⟨ix, rfl, hix, hk3⟩
  have hk3' := hk3.size
  refine X.dStep (i := 6) (by kernel_rfl) rfl (X.dwN rfl) (X.assign (v := .int .i64 _) rfl) (fun h => absurd h (by decide)) ?_
  refine X.dEnd (by kernel_rfl) ?_
  refine X.seq ?_
  refine X.region ?_
  refine X.opw X.wN rfl (X.move (v := .int .i64 _) rfl) ?_
  refine X.opP X.wN rfl rfl (X.geq rfl rfl) (fun h12 => ?_) (fun h12 => ?_)
  · obtain ⟨j, rfl, hjn, hjx, hjt⟩ : ∃ j : Nat, ix = (j : Int) ∧ j < n ∧ xs[j]? = some k ∧ k ∉ xs.take j := by
      rcases hix with ⟨e, _⟩ | h
      · omega
      · exact h
    refine X.opsEnd ?_
    refine X.condT rfl ?_
    refine X.region ?_
    refine X.opw X.wN rfl (X.move rfl) ?_
    refine X.opw X.wN rfl (X.move rfl) ?_
    refine X.opw X.wN rfl (X.nilCk rfl) ?_
    refine X.opw X.wN rfl (X.fldB (j := 2) Try.underlying64 rfl rfl Try.sizeOf28 rfl) ?_
    refine X.opw X.wN rfl (X.load1B Try.isAgg28 (hB.keep ((hk1.trans hk2).trans hk3)) rfl rfl) ?_
    refine X.opw X.wN rfl (X.move (v := .int .i64 _) rfl) ?_
    refine X.opw X.wN rfl (X.move (v := .int .i64 _) rfl) ?_
    refine X.opw X.wN rfl (X.add (c := ((j + 1 : Nat) : Int)) rfl rfl (by rw [X.w_i64 (by omega)]; omega)) ?_
    refine X.opE X.wN rfl (X.callE (DeleteK_c j _ (hM.keep ((hk1.trans hk2).trans hk3)) hjn (by omega)) Try.call37 rfl rfl) ?_
    rintro _ w4 ⟨rfl, hMd, hx4⟩
    have hx4' := hx4.size
    refine X.opw X.wN rfl (X.nilCk rfl) ?_
    refine X.opw X.wN rfl (X.fldB (j := 2) Try.underlying64 rfl rfl Try.sizeOf28 rfl) ?_
    refine X.opE X.wN rfl (X.storeE Try.sizeOf28 ((hB.keep ((hk1.trans hk2).trans hk3)).ext hx4 (fun h => hbc h)) rfl rfl rfl rfl) ?_
    rintro _ w5 ⟨hB5, hx5, hz5⟩
    refine X.opsEnd ?_
    refine X.end0 Try.func28 Try.results28 ?_
    rw [erase_filter hnd hjx] at hMd
    exact ⟨rfl, _, _, _, hB5, (hMd.ext hx5 (by intros; omega) (fun k h1 h2 => hbc (by have h2 : k = bc := h2; rw [← h2]; exact h1))), (Ext.andThen (Ext.andThen (Ext.andThen (Ext.andThen (Ext.andThen (Ext.refl (fun k => k = bc ∨ S k) _) hk1 (by intro k h1 h2; first | exact (h2 : False).elim | exact .inl h2 | exact .inr h2 | (exfalso; (try simp only [] at *); omega))) hk2 (by intro k h1 h2; first | exact (h2 : False).elim | exact .inl h2 | exact .inr h2 | (exfalso; (try simp only [] at *); omega))) hk3 (by intro k h1 h2; first | exact (h2 : False).elim | exact .inl h2 | exact .inr h2 | (exfalso; (try simp only [] at *); omega))) hx4 (by intro k h1 h2; first | exact (h2 : False).elim | exact .inl h2 | exact .inr h2 | (exfalso; (try simp only [] at *); omega))) hx5 (by intro k h1 h2; first | exact (h2 : False).elim | exact .inl h2 | exact .inr h2 | (exfalso; (try simp only [] at *); omega)))⟩
  · refine X.opsEnd ?_
    refine X.condF rfl ?_
    refine X.skip ?_
    refine X.end0 Try.func28 Try.results28 ?_
    have hnk : k ∉ xs := by
      rcases hix with ⟨_, h⟩ | ⟨j, e, _⟩
      · exact h
      · omega
    rw [filter_none hnk]
    exact ⟨rfl, _, _, _, (hB.keep ((hk1.trans hk2).trans hk3)), hM.keep ((hk1.trans hk2).trans hk3), (Ext.andThen (Ext.andThen (Ext.andThen (Ext.refl (fun k => k = bc ∨ S k) _) hk1 (by intro k h1 h2; first | exact (h2 : False).elim | exact .inl h2 | exact .inr h2 | (exfalso; (try simp only [] at *); omega))) hk2 (by intro k h1 h2; first | exact (h2 : False).elim | exact .inl h2 | exact .inr h2 | (exfalso; (try simp only [] at *); omega))) hk3 (by intro k h1 h2; first | exact (h2 : False).elim | exact .inl h2 | exact .inr h2 | (exfalso; (try simp only [] at *); omega)))⟩
-- f27 "(*pedigree/cache.fresh[pedigree/api.PageKey]).touch" params [80, 30] results [] -> [] nfree 0 ntmps 17
set_option maxHeartbeats 4000000 in
set_option maxRecDepth 100000 in
theorem touch_c {S : Nat → Prop} {bc : Nat} {room : Int} {bm : Option Nat} {A : Option Addr} {n c : Nat} {h ms g : Int} {xs : List PKEY} {ec : TypeId} (k : PKEY) (w : World) (hB : Blk w bc (caL room bm A n c h ms g) ec) (hM : Mine KPk 30 S 0 0 w (.slice A n c) xs) (hbc : ¬ S bc) (hn : n ≤ 100000) (hnd : xs.Nodup) (hSw : ∀ q, S q → q < w.heap.size) : Ret Try.prog 27 #[.pointer (some ⟨bc, 2, none⟩), encPK k] w fun r w' => r = .tuple #[] ∧ ∃ A' n' c', Blk w' bc (caL room bm A' n' c' h ms g) ec ∧ Mine KPk 30 (fun q => S q ∨ w.heap.size ≤ q) 0 0 w' (.slice A' n' c') (k :: xs.filter fun x => decide (x ≠ k)) ∧ Ext (fun q => q = bc ∨ S q ∨ w.heap.size ≤ q) w w' := by
  have hbl := hB.lt
  refine X.enter Try.func27 rfl Try.ntmps27 rfl ?_
  refine X.seq ?_
  refine X.region ?_
  refine X.opE X.wN rfl (X.boxE rfl rfl) ?_
  rintro _ w1 ⟨rfl, hB1, hk1, hz1⟩
  refine X.opsEnd ?_
  refine X.seq ?_
  refine X.region ?_
  refine X.opw X.wN rfl (X.move rfl) ?_
  refine X.opw X.wN rfl (X.loadNB Try.isAgg30 Try.sizeOf30 hB1 rfl rfl rfl) ?_
  refine X.opE X.wN rfl (X.callE (fdrop_c k _ (hB.keep hk1) (hM.keep hk1) hbc hn hnd) Try.call28 rfl rfl) ?_
  rintro _ w2 ⟨rfl, Aq, nq, cq, hBq, hMq, hx2⟩
  have hx2' := hx2.size
  refine X.opsEnd ?_
  refine X.regionD (fun q => S q ∨ w2.heap.size ≤ q) 8 (by kernel_rfl) (by kernel_rfl) (fun w3 hk3 hz3 => ?_)
  refine X.dTake 0 rfl (by kernel_rfl) (by kernel_rfl) (by kernel_rfl) (X.dwN rfl) (fun w' hk' => X.move rfl) ?_
  refine X.dTake 1 rfl (by kernel_rfl) (by kernel_rfl) (by kernel_rfl) (X.dwN rfl) (fun w' hk' => X.move rfl) ?_
  refine X.dTake 2 rfl (by kernel_rfl) (by kernel_rfl) (by kernel_rfl) (X.dwN rfl) (fun w' hk' => X.nilCk rfl) ?_
  refine X.dTake 3 rfl (by kernel_rfl) (by kernel_rfl) (by kernel_rfl) (X.dwN rfl) (fun w' hk' => X.fldB (j := 2) Try.underlying64 rfl rfl Try.sizeOf28 rfl) ?_
  refine X.dTake 4 rfl (by kernel_rfl) (by kernel_rfl) (by kernel_rfl) (X.dwN rfl) (fun w' hk' => X.load1B Try.isAgg28 ((hBq.keep hk3).ext hk' (by intros; (try simp only []); first | omega | exact fun hq => hq.elim (fun hq => by first | exact hbc hq | (have := hSw _ hq; omega)) (fun hq => by omega))) rfl rfl) ?_
  refine X.dTake 5 rfl (by kernel_rfl) (by kernel_rfl) (by kernel_rfl) (X.dwN rfl) (fun w' hk' => X.loadNB Try.isAgg30 Try.sizeOf30 (((hB1.ext hx2 (by intro h; have h : _ = bc ∨ S _ := h; exact h.elim (fun h => by omega) (fun h => by have := hSw _ h; omega))).keep hk3).ext hk' (by intros; (try simp only []); first | omega | exact fun hq => hq.elim (fun hq => by first | exact hbc hq | (have := hSw _ hq; omega)) (fun hq => by omega))) rfl rfl rfl) ?_
  refine X.dE (i := 6) (by kernel_rfl) rfl (X.dwN rfl) (X.litKF KPk_flat (K := KPk) (xs := [Operand.tmp 12]) (vs := [encPK k]) (ys := [k]) Try.underlying28 Try.sizeOf30 Try.zeroValue30 rfl rfl rfl rfl rfl (repsPk k)) (by rintro _ w4 ⟨rfl, hs4, hB4, hk4, hz4⟩ _; exact hk4.mono (fun _ _ h => h.elim)) ?_
  rintro _ w4 ⟨rfl, hs4, hB4, hk4, hz4⟩
  have hSI : ∃ SI : Nat → Prop, SI = fun k => (S k ∨ w2.heap.size ≤ k) ∧ k ≠ w3.heap.size := ⟨_, rfl⟩
  obtain ⟨SI, hSI⟩ := hSI
  have hMI := ((((hMq.keep hk3).keep hk4)).mono (T := SI) (fun k hk h => by rw [hSI]; exact ⟨.inl h, fun e => by have := hSw k h; omega⟩))
  refine X.dE (i := 7) (by kernel_rfl) rfl (X.dwN rfl) (X.callE (InsertK_c (bv := w3.heap.size) 0 _ hMI (Nat.zero_le _) (by have := hMq.len; have := List.length_filter_le (fun x => decide (x ≠ k)) xs; have := hM.len; omega) (Sl.wide (hs4) (Nat.le_refl _) (by omega)) hB4 (by rw [hSI]; exact fun h => h.2 rfl) (fun q hq => by rw [hSI]; exact ⟨.inr (by omega), by omega⟩)) Try.call35 rfl rfl) (by rintro _ w5 ⟨Ai, ci, rfl, hci, hMi, hx5⟩ _; exact hx5.mono (fun k _ h => by rw [hSI] at h; exact h.1.imp id (fun h5 => by omega))) ?_
  rintro _ w5 ⟨Ai, ci, rfl, hci, hMi, hx5⟩
  have hx5' := hx5.size
  refine X.dStep (i := 8) (by kernel_rfl) rfl (X.dwN rfl) (X.nilCk rfl) (fun h => absurd h (by decide)) ?_
  refine X.dStep (i := 9) (by kernel_rfl) rfl (X.dwN rfl) (X.fldB (j := 2) Try.underlying64 rfl rfl Try.sizeOf28 rfl) (fun h => absurd h (by decide)) ?_
  refine X.dE (i := 10) (by kernel_rfl) rfl (X.dwN rfl) (X.storeE Try.sizeOf28 ((hBq.keep (hk3.trans hk4)).ext hx5 (by rw [hSI]; exact fun h => h.1.elim hbc (fun h => by omega))) rfl rfl rfl rfl) (fun _ _ _ h => absurd h (by decide)) ?_
  rintro _ w6 ⟨hB6, hx6, hz6⟩
  refine X.dEnd (by kernel_rfl) ?_
  refine X.end0 Try.func27 Try.results27 ?_
  exact ⟨rfl, _, _, _, hB6, ((hMi.ext hx6 (by intros; omega) (fun k h1 h2 => by have h2 : k = bc := h2; rw [hSI] at h1; rw [h2] at h1; exact h1.1.elim hbc (fun h => by omega)))).mono (fun q _ h => by rw [hSI] at h; exact h.1.imp id (fun h => by omega)), (Ext.andThen (Ext.andThen (Ext.andThen (Ext.andThen (Ext.andThen (Ext.andThen (Ext.refl (fun q => q = bc ∨ S q ∨ w.heap.size ≤ q) _) hk1 (by intro q h1 h2; first | exact (h2 : False).elim | exact .inl h2 | exact h2.elim .inl (fun h => .inr (.inl h)) | (rw [hSI] at h2; exact .inr (h2.1.imp id (fun h => by omega))) | (exact .inr (.inr (by omega))) | (exfalso; (try simp only [] at *); omega))) hx2 (by intro q h1 h2; first | exact (h2 : False).elim | exact .inl h2 | exact h2.elim .inl (fun h => .inr (.inl h)) | (rw [hSI] at h2; exact .inr (h2.1.imp id (fun h => by omega))) | (exact .inr (.inr (by omega))) | (exfalso; (try simp only [] at *); omega))) hk3 (by intro q h1 h2; first | exact (h2 : False).elim | exact .inl h2 | exact h2.elim .inl (fun h => .inr (.inl h)) | (rw [hSI] at h2; exact .inr (h2.1.imp id (fun h => by omega))) | (exact .inr (.inr (by omega))) | (exfalso; (try simp only [] at *); omega))) hk4 (by intro q h1 h2; first | exact (h2 : False).elim | exact .inl h2 | exact h2.elim .inl (fun h => .inr (.inl h)) | (rw [hSI] at h2; exact .inr (h2.1.imp id (fun h => by omega))) | (exact .inr (.inr (by omega))) | (exfalso; (try simp only [] at *); omega))) hx5 (by intro q h1 h2; first | exact (h2 : False).elim | exact .inl h2 | exact h2.elim .inl (fun h => .inr (.inl h)) | (rw [hSI] at h2; exact .inr (h2.1.imp id (fun h => by omega))) | (exact .inr (.inr (by omega))) | (exfalso; (try simp only [] at *); omega))) hx6 (by intro q h1 h2; first | exact (h2 : False).elim | exact .inl h2 | exact h2.elim .inl (fun h => .inr (.inl h)) | (rw [hSI] at h2; exact .inr (h2.1.imp id (fun h => by omega))) | (exact .inr (.inr (by omega))) | (exfalso; (try simp only [] at *); omega)))⟩
end Go.Proofs.Ytjjhddjllpihaaa

namespace Go.Proofs.Ytjjhddjllpihaaa
open Go Go.Proofs.Ytjjhddjllpihaaa.X
set_option linter.unusedVariables false
set_option linter.unusedSimpArgs false
abbrev HDR := Option Addr × Nat × Nat
abbrev CT := HDR × Int
abbrev evC (x : CT) : Value := .agg #[.slice x.1.1 x.1.2.1 x.1.2.2, .int .i64 x.2]
abbrev zC : CT := ((none, 0, 0), 0)
def KCt : Kd CT := Kd.plain 2 (fun x => [.slice x.1.1 x.1.2.1 x.1.2.2, .int .i64 x.2]) (fun _ => True) (fun _ => rfl) (fun _ u hu => by simp at hu; rcases hu with rfl | rfl <;> rfl)
theorem KCt_flat : Flat KCt := fun h => h
theorem repsC {w : World} (x : CT) : RepsV KCt w [x] [evC x] := ⟨⟨_, rfl, rfl, trivial⟩, trivial⟩
theorem ECt : ElemInfo Try.prog 76 2 32 := ElemInfo.of (z := .agg #[.slice none 0 0, .int .i64 0]) (by kernel_rfl) rfl rfl rfl
abbrev CD := List VAL × Int
abbrev KC : Kd CD := Kd.pair (Kd.slice KV) KI
/-- What the headers of a row point to. -/
def Tups (TB : Nat → Prop) (w : World) : List CT → List CD → Prop
  | [], [] => True
  | x :: l, q :: pg => (x.2 = q.2 ∧ okI q.2 ∧ x.1.2.1 ≤ x.1.2.2 ∧ ∃ lo hi, (∀ k, lo ≤ k → k < hi → TB k) ∧ Sl KV lo hi w x.1.1 x.1.2.1 q.1) ∧ Tups TB w l pg
  | _, _ => False
section
variable {TB : Nat → Prop} {w w' : World}
theorem Tups.len : ∀ {l : List CT} {pg : List CD}, Tups TB w l pg → l.length = pg.length
  | [], [], _ => rfl
  | _ :: _, _ :: _, h => by simp [Tups.len h.2]
  | [], _ :: _, h => h.elim
  | _ :: _, [], h => h.elim
theorem Tups.ext {U : Nat → Prop} (x : Ext U w w') (hU : ∀ k, TB k → ¬ U k) : ∀ {l : List CT} {pg : List CD}, Tups TB w l pg → Tups TB w' l pg
  | [], [], _ => trivial
  | _ :: _, _ :: _, ⟨⟨h1, h2, h3, lo, hi, h4, h5⟩, h6⟩ => ⟨⟨h1, h2, h3, lo, hi, h4, h5.ext x fun k a b => hU k (h4 k a b)⟩, Tups.ext x hU h6⟩
  | [], _ :: _, h => h.elim
  | _ :: _, [], h => h.elim
theorem Tups.keep (x : Keep w w') {l : List CT} {pg : List CD} (h : Tups TB w l pg) : Tups TB w' l pg := Tups.ext x (fun _ _ h => h) h
theorem Tups.mono {TC : Nat → Prop} (hT : ∀ k, TB k → TC k) : ∀ {l : List CT} {pg : List CD}, Tups TB w l pg → Tups TC w l pg
  | [], [], _ => trivial
  | _ :: _, _ :: _, ⟨⟨h1, h2, h3, lo, hi, h4, h5⟩, h6⟩ => ⟨⟨h1, h2, h3, lo, hi, fun k a b => hT k (h4 k a b), h5⟩, Tups.mono hT h6⟩
  | [], _ :: _, h => h.elim
  | _ :: _, [], h => h.elim
theorem Tups.snoc {x : CT} {q : CD} (hx : x.2 = q.2 ∧ okI q.2 ∧ x.1.2.1 ≤ x.1.2.2 ∧ ∃ lo hi, (∀ k, lo ≤ k → k < hi → TB k) ∧ Sl KV lo hi w x.1.1 x.1.2.1 q.1) : ∀ {l : List CT} {pg : List CD}, Tups TB w l pg → Tups TB w (l ++ [x]) (pg ++ [q])
  | [], [], _ => ⟨hx, trivial⟩
  | _ :: _, _ :: _, h => ⟨h.1, Tups.snoc hx h.2⟩
  | [], _ :: _, h => h.elim
  | _ :: _, [], h => h.elim
theorem Tups.get : ∀ {l : List CT} {pg : List CD}, Tups TB w l pg → ∀ {i : Nat} {x : CT}, l[i]? = some x → ∃ q, pg[i]? = some q ∧ x.2 = q.2 ∧ okI q.2 ∧ x.1.2.1 ≤ x.1.2.2 ∧ ∃ lo hi, (∀ k, lo ≤ k → k < hi → TB k) ∧ Sl KV lo hi w x.1.1 x.1.2.1 q.1
  | [], [], _, i, x, h => by simp at h
  | y :: l, q :: pg, h, i, x, hx => by
    cases i with
    | zero => simp at hx; subst hx; exact ⟨q, rfl, h.1⟩
    | succ i => simp at hx; obtain ⟨q', h1, h2⟩ := Tups.get h.2 hx; exact ⟨q', by simpa using h1, h2⟩
  | [], _ :: _, h, _, _, _ => h.elim
  | _ :: _, [], h, _, _, _ => h.elim
theorem Tups.of_all : ∀ {l : List CT} {pg : List CD}, l.length = pg.length → (∀ (i : Nat) x q, l[i]? = some x → pg[i]? = some q → x.2 = q.2 ∧ okI q.2 ∧ x.1.2.1 ≤ x.1.2.2 ∧ ∃ lo hi, (∀ k, lo ≤ k → k < hi → TB k) ∧ Sl KV lo hi w x.1.1 x.1.2.1 q.1) → Tups TB w l pg
  | [], [], _, _ => trivial
  | x :: l, q :: pg, hl, h => ⟨h 0 x q rfl rfl, Tups.of_all (by simpa using hl) fun i x q h1 h2 => h (i + 1) x q (by simpa using h1) (by simpa using h2)⟩
  | [], _ :: _, hl, _ => by simp at hl
  | _ :: _, [], hl, _ => by simp at hl
/-- A row of counted tuples is a row of headers. -/
theorem sl_tups {lo hi : Nat} {A : Option Addr} {n : Nat} {pg : List CD} (h : Sl KC lo hi w A n pg) : ∃ l, Sl KCt lo hi w A n l ∧ Tups (fun k => lo ≤ k ∧ k < hi) w l pg := by
  rcases Nat.eq_zero_or_pos n with hn | hn
  · subst hn
    have : pg = [] := List.eq_nil_of_length_eq_zero h.len
    subst this
    exact ⟨[], Sl.nil _ _ _ _ _, trivial⟩
  obtain ⟨ad, e, h1, h2, hc⟩ := h.at_ hn
  obtain ⟨l', q1, q2⟩ := list_choose (l := pg) (β := CT) (Q := fun j x y => (∀ i u, ([.slice y.1.1 y.1.2.1 y.1.2.2, .int .i64 y.2] : List Value)[i]? = some u → w.cell? (ad.add (j * 2 + i)) = some u) ∧ y.2 = x.2 ∧ okI x.2 ∧ y.1.2.1 ≤ y.1.2.2 ∧ Sl KV lo hi w y.1.1 y.1.2.1 x.1) (fun j x hx => by
    obtain ⟨cs, ⟨a, b, rfl, ⟨A', n', c', rfl, hnc, hs⟩, hb, hi'⟩, hq⟩ := hc j x hx
    subst hb
    exact ⟨((A', n', c'), x.2), fun i u hu => hq i u hu, rfl, hi', hnc, hs⟩)
  refine ⟨l', ⟨by rw [q1]; exact h.len, h.bound, fun _ => ⟨ad, e, h1, h2, fun j y hy => ?_⟩⟩, Tups.of_all q1 fun i x q hx hq => ?_⟩
  · have hj : j < pg.length := by rw [← q1]; exact (List.getElem?_eq_some_iff.1 hy).1
    obtain ⟨y', g1, g2, _⟩ := q2 j _ (List.getElem?_eq_getElem hj)
    rw [hy] at g1; cases g1
    exact ⟨_, ⟨rfl, trivial⟩, g2⟩
  · obtain ⟨y', g1, _, g2, g3, g4, g5⟩ := q2 i q hq
    rw [hx] at g1; cases g1
    exact ⟨g2, g3, g4, lo, hi, fun k a b => ⟨a, b⟩, g5⟩
theorem Tups.sl {lo hi : Nat} {A : Option Addr} {n : Nat} {l : List CT} {pg : List CD} (h : Sl KCt lo hi w A n l) (ht : Tups TB w l pg) (hT : ∀ k, TB k → lo ≤ k ∧ k < hi) : Sl KC lo hi w A n pg := by
  refine ⟨by rw [← ht.len]; exact h.len, h.bound, fun hn => ?_⟩
  obtain ⟨ad, e, h1, h2, hc⟩ := h.at_ hn
  refine ⟨ad, e, h1, h2, fun j q hq => ?_⟩
  obtain ⟨x, hx⟩ : ∃ x, l[j]? = some x := ⟨_, List.getElem?_eq_getElem (by rw [ht.len]; exact (List.getElem?_eq_some_iff.1 hq).1)⟩
  obtain ⟨q', g1, g2, g3, g4, lo', hi', g5, g6⟩ := ht.get hx
  rw [hq] at g1; cases g1
  obtain ⟨cs, ⟨hcs, _⟩, hq2⟩ := hc j x hx
  subst hcs
  refine ⟨[.slice x.1.1 x.1.2.1 x.1.2.2] ++ [.int .i64 x.2], ⟨_, _, rfl, ⟨_, _, _, rfl, g4, ?_⟩, by rw [g2], g3⟩, fun i u hu => by rw [show KC.sz = KCt.sz from rfl]; exact hq2 i u hu⟩
  -- the range of the tuple lies in [lo, hi)
  refine ⟨g6.len, g6.bound, fun hn2 => ?_⟩
  obtain ⟨ad2, e2, a1, a2, a3⟩ := g6.at_ hn2
  have hb := hT _ (g5 _ a1 a2)
  exact ⟨ad2, e2, hb.1, hb.2, fun j y hy => by
    obtain ⟨cs, hr, hcc⟩ := a3 j y hy
    exact ⟨cs, KV_flat hr, hcc⟩⟩
end
/-- Sizes that memory bears. -/
def okPg (pg : List CD) : Prop := pg.length ≤ 1000000 ∧ ∀ q, q ∈ pg → q.1.length * 32 ≤ 140737488355328
end Go.Proofs.Ytjjhddjllpihaaa

namespace Go.Proofs.Ytjjhddjllpihaaa
open Go Go.Proofs.Ytjjhddjllpihaaa.X
set_option linter.unusedVariables false
set_option linter.unusedSimpArgs false
-- f26 "pedigree/cache.own" params [33] results [33] -> [(ResultVar.tmp 2)] nfree 0 ntmps 23 names ["l", "l", 
set_option maxHeartbeats 4000000 in
set_option maxRecDepth 100000 in
theorem own_c {lo hi : Nat} {A : Option Addr} {n c : Nat} {pg : List CD} (w : World) (hs : Sl KC lo hi w A n pg) (hhi : hi ≤ w.heap.size) (hok : okPg pg) : Ret Try.prog 26 #[.slice A n c] w fun r w' => ∃ A' c' l TB, r = .slice A' n c' ∧ n ≤ c' ∧ Mine KCt 76 (fun k => w.heap.size ≤ k ∧ k < w'.heap.size ∧ ¬ TB k) 0 0 w' (.slice A' n c') l ∧ Tups TB w' l pg ∧ (∀ k, TB k → w.heap.size ≤ k ∧ k < w'.heap.size) ∧ Keep w w' := by
  obtain ⟨l0, hs0, ht0⟩ := sl_tups hs
  have hl := hs.len
  have hpl := hok.1
  refine X.enter Try.func26 rfl Try.ntmps26 rfl ?_
  refine X.seq ?_
  refine X.region ?_
  refine X.opw X.wN rfl (X.assign rfl) ?_
  refine X.opsEnd ?_
  refine X.seq ?_
  refine X.region ?_
  refine X.opw X.wN rfl (X.assign rfl) ?_
  refine X.opsEnd ?_
  refine X.seq ?_
  refine X.seq ?_
  refine X.region ?_
  refine X.opw X.wN rfl (X.move (v := .slice _ _ _) rfl) ?_
  refine X.opw X.wN rfl (X.lenSl Try.underlying33 rfl) ?_
  refine X.opw X.wN rfl (X.move rfl) ?_
  refine X.opsEnd ?_
  refine X.block ?_
  -- LOOP live: 3=out*, 6, 7, 8*
  refine X.loopL (σ := Nat × Value × List CT × (Nat → Prop)) (fun s => [(3, s.2.1), (6, .slice A n c), (7, .int .i64 (n : Int)), (8, .int .i64 (s.1 : Int))]) (fun s w' => s.1 ≤ n ∧ s.2.2.1.length = s.1 ∧ Mine KCt 76 (fun k => w.heap.size ≤ k ∧ ¬ s.2.2.2 k) 0 0 w' s.2.1 s.2.2.1 ∧ Tups s.2.2.2 w' s.2.2.1 (pg.take s.1) ∧ (∀ k, s.2.2.2 k → w.heap.size ≤ k ∧ k < w'.heap.size) ∧ Keep w w') (fun s => n - s.1) (0, _, [], fun _ => False) ⟨rfl, rfl, rfl, rfl, trivial⟩ ⟨Nat.zero_le _, rfl, Mine.nil _ _ _ _ _ _, trivial, fun k h => h.elim, (Keep.refl _)⟩ ?_
  rintro ⟨i, v, l, TB⟩ b0 wl ⟨hi, hll, hMo, hTu, hTB, hk⟩ hback
  dsimp only
  simp only at hi hll hMo hTu hTB
  have hk' := hk.size
  refine X.seq ?_
  refine X.region ?_
  refine X.opP X.wN rfl rfl (X.lss rfl rfl) (fun h9 => ?_) (fun h9 => ?_)
  · obtain ⟨x, hx⟩ := getL (l := l0) i hs0.len (by omega)
    obtain ⟨q, hq, hxq, hqI, hxc, lo2, hi2, hlh, hst⟩ := ht0.get hx
    have hqm := hok.2 q (List.mem_of_getElem? hq)
    have hstl := hst.len
    have hlow : ∀ k, lo2 ≤ k → k < hi2 → k < w.heap.size := fun k a b => by have := hlh k a b; omega
    refine X.opsEnd ?_
    refine X.seq ?_
    refine X.condT rfl ?_
    refine X.skip ?_
    refine X.seq ?_
    refine X.block ?_
    refine X.seq ?_
    refine X.region ?_
    refine X.opw X.wN rfl (X.idxS (hs0.keep hk) Try.underlying33 Try.sizeOf76 rfl rfl ⟨by omega, by omega⟩) ?_
    refine X.opw X.wN rfl (X.loadSN Try.isAgg76 Try.sizeOf76 (hs0.keep hk) hx rfl (fun _ h => h.1) rfl) ?_
    refine X.opE X.wN rfl (X.allocE Try.zeroValue76 rfl) ?_
    rintro _ w1 ⟨rfl, hB1, hk1, hz1⟩
    refine X.opE X.wN rfl (X.storeNE Try.sizeOf76 hB1 rfl rfl rfl rfl (fun u hu => by simp at hu; rcases hu with rfl | rfl <;> rfl)) ?_
    rintro _ w2 ⟨hB2, hx2, hz2⟩
    refine X.opsEnd ?_
    refine X.regionD (fun k => w.heap.size ≤ k ∧ k ≠ wl.heap.size) 9 (by kernel_rfl) (by kernel_rfl) (fun w3 hk3 hz3 => ?_)
    refine X.dTake 0 rfl (by kernel_rfl) (by kernel_rfl) (by kernel_rfl) (X.dwN rfl) (fun w' hk' => X.move rfl) ?_
    refine X.dTake 1 rfl (by kernel_rfl) (by kernel_rfl) (by kernel_rfl) (X.dwN rfl) (fun w' hk' => X.fldB (j := 0) Try.underlying76 rfl rfl Try.sizeOf74 rfl) ?_
    refine X.dTake 2 rfl (by kernel_rfl) (by kernel_rfl) (by kernel_rfl) (X.dwN rfl) (fun w' hk' => X.load1B Try.isAgg74 ((hB2.keep hk3).ext hk' (by intros; (try simp only []); first | omega | (intro hq; have := hlow _ ‹_› ‹_›; omega))) rfl rfl) ?_
    refine X.dTake 4 rfl (by kernel_rfl) (by kernel_rfl) (by kernel_rfl) (X.dwN rfl) (fun w' hk' => X.fldB (j := 1) Try.underlying76 rfl rfl Try.sizeOf2 rfl) ?_
    refine X.dTake 5 rfl (by kernel_rfl) (by kernel_rfl) (by kernel_rfl) (X.dwN rfl) (fun w' hk' => X.load1B Try.isAgg2 ((hB2.keep hk3).ext hk' (by intros; (try simp only []); first | omega | (intro hq; have := hlow _ ‹_› ‹_›; omega))) rfl rfl) ?_
    refine X.dE (i := 3) (by kernel_rfl) rfl (X.dwN rfl) (X.callE (CloneT_c _ ((hst.keep (((hk.trans hk1).step hx2 (by intros; (try simp only [] at *); omega)).trans hk3))) (by omega)) Try.call34 rfl rfl) (by rintro _ w4 ⟨At, ct, rfl, hct, hMt, hk4⟩ _; exact hk4.mono (fun _ _ h => h.elim)) ?_
    rintro _ w4 ⟨At, ct, rfl, hct, hMt, hk4⟩
    have hk4' := hk4.size
    refine X.dTake 6 rfl (by kernel_rfl) (by kernel_rfl) (by kernel_rfl) (X.dwN rfl) (fun w' hk' => X.buildB (vs := [(0, .slice At x.1.2.1 ct), (1, .int .i64 x.2)]) (cs := #[.slice At x.1.2.1 ct, .int .i64 x.2]) rfl (by kernel_rfl)) ?_
    refine X.dE (i := 7) (by kernel_rfl) rfl (X.dwN rfl) (X.litKF KCt_flat (K := KCt) (xs := [Operand.tmp 18]) (vs := [evC ((At, x.1.2.1, ct), x.2)]) (ys := [((At, x.1.2.1, ct), x.2)]) Try.underlying33 Try.sizeOf76 Try.zeroValue76 rfl rfl rfl rfl rfl (repsC _)) (by rintro _ w5 ⟨rfl, hs5, hB5, hk5, hz5⟩ _; exact hk5.mono (fun _ _ h => h.elim)) ?_
    rintro _ w5 ⟨rfl, hs5, hB5, hk5, hz5⟩
    have hMo2 := hMo.mono (T := fun k => w.heap.size ≤ k ∧ ¬ (fun k => (TB k ∨ (w3.heap.size ≤ k ∧ k < w4.heap.size))) k ∧ k ≠ wl.heap.size) (fun k hk h => ⟨h.1, fun ht => ht.elim h.2 (fun ht => by omega), by omega⟩)
    refine X.dE (i := 8) (by kernel_rfl) rfl (X.dwN rfl) (X.appE (K := KCt) (S := fun k => w.heap.size ≤ k ∧ ¬ (fun k => (TB k ∨ (w3.heap.size ≤ k ∧ k < w4.heap.size))) k ∧ k ≠ wl.heap.size) KCt_flat Try.underlying33 ECt rfl rfl (hMo2.keep ((((hk1.step hx2 (by intros; (try simp only [] at *); omega)).trans hk3).trans hk4).trans hk5)) hs5 (by (try simp only [List.length_append, List.length_cons, List.length_nil, List.length_take, List.length_drop, List.length_map, List.length_range]); omega) (fun k hk => ⟨by omega, fun ht => ht.elim (fun ht => by have := hTB k ht; omega) (fun ht => by omega), by omega⟩)) (by rintro v6 w6 ⟨hM6, hx6⟩ _; exact hx6.mono (fun k _ h => by (try simp only [] at *); omega)) ?_
    rintro v6 w6 ⟨hM6, hx6⟩
    have hx6' := hx6.size
    refine X.dStep (i := 9) (by kernel_rfl) rfl (X.dwN rfl) (X.assign rfl) (fun h => absurd h (by decide)) ?_
    refine X.dEnd (by kernel_rfl) ?_
    refine X.inBlock ?_
    refine X.region ?_
    refine X.opw X.wN rfl (X.add rfl rfl (X.w_i64 (by omega))) ?_
    refine X.opw X.wN rfl (X.move (v := .int .i64 _) rfl) ?_
    refine X.opsEnd ?_
    have hTu2 : Tups (fun k => (TB k ∨ (w3.heap.size ≤ k ∧ k < w4.heap.size))) w6 (l ++ [((At, x.1.2.1, ct), x.2)]) (pg.take (i + 1)) := by
      rw [take_at hq]
      refine Tups.snoc (x := ((At, x.1.2.1, ct), x.2)) (q := q) ⟨hxq, hqI, hct, _, _, fun k a b => .inr ⟨a, b⟩, (((mine_0 KV_flat hMt w3.heap.size (fun k h => h.1)).keep hk5).ext hx6 (fun k h1 h2 h => h.2.1 (.inr ⟨h1, h2⟩)))⟩ ?_
      exact Tups.mono (TC := fun k => (TB k ∨ (w3.heap.size ≤ k ∧ k < w4.heap.size))) (fun k h => .inl h) (Tups.ext hx6 (fun k h1 h2 => h2.2.1 (.inl h1)) (Tups.keep hk5 (Tups.keep hk4 (Tups.keep hk3 (Tups.ext hx2 (fun k h1 h2 => by have := hTB k h1; (try simp only [] at h2); omega) (Tups.keep hk1 (hTu)))))))
    refine hback (i + 1, _, l ++ [((At, x.1.2.1, ct), x.2)], fun k => (TB k ∨ (w3.heap.size ≤ k ∧ k < w4.heap.size))) _ _ ⟨rfl, rfl, rfl, rfl, trivial⟩ ⟨by dsimp only; omega, by dsimp only; rw [List.length_append, hll]; rfl, (hM6).mono (fun k _ h => ⟨h.1, h.2.1⟩), hTu2, fun k hkk => hkk.elim (fun ht => by have := hTB k ht; (try simp only []); omega) (fun ht => by (try simp only [] at *); omega), ((((((hk.trans hk1).step hx2 (by intros; (try simp only [] at *); omega)).trans hk3).trans hk4).trans hk5).step hx6 (by intros; (try simp only [] at *); omega))⟩ (by dsimp only; omega)
  · refine X.opsEnd ?_
    refine X.seq ?_
    refine X.condF rfl ?_
    refine X.exit rfl ?_
    refine X.seq ?_
    refine X.region ?_
    refine X.opw X.wN rfl (X.move rfl) ?_
    refine X.opw X.wN rfl (X.assign rfl) ?_
    refine X.opsEnd ?_
    refine X.ret1 Try.func26 Try.results26 rfl ?_
    have hMx := hMo
    have hin : i = n := by omega
    rw [hin] at hTu hll
    rw [List.take_of_length_le (by omega)] at hTu
    obtain ⟨A', c', e, hc', _⟩ := hMx.slice
    subst e
    rw [hll] at hMx hc'
    exact ⟨A', c', l, TB, by rw [hll]; rfl, hc', hMx.mono fun k hk h => ⟨h.1, hk, h.2⟩, hTu, hTB, hk⟩
end Go.Proofs.Ytjjhddjllpihaaa

namespace Go.Proofs.Ytjjhddjllpihaaa
open Go Go.Proofs.Ytjjhddjllpihaaa.X
set_option linter.unusedVariables false
set_option linter.unusedSimpArgs false
-- f20 "pedigree/pedigreeref08.Copy" params [33] results [33] -> [(ResultVar.tmp 2)] nfree 0 ntmps 28 names ["
set_option maxHeartbeats 4000000 in
set_option maxRecDepth 100000 in
theorem RCopy_c {lo hi : Nat} {A : Option Addr} {n c : Nat} {pg : List CD} (w : World) (hs : Sl KC lo hi w A n pg) (hhi : hi ≤ w.heap.size) (hok : okPg pg) : Ret Try.prog 20 #[.slice A n c] w fun r w' => ∃ A' c' l TB, r = .slice A' n c' ∧ n ≤ c' ∧ Mine KCt 76 (fun k => w.heap.size ≤ k ∧ k < w'.heap.size ∧ ¬ TB k) 0 0 w' (.slice A' n c') l ∧ Tups TB w' l pg ∧ (∀ k, TB k → w.heap.size ≤ k ∧ k < w'.heap.size) ∧ Keep w w' := by
  obtain ⟨l0, hs0, ht0⟩ := sl_tups hs
  have hl := hs.len
  have hpl := hok.1
  refine X.enter Try.func20 rfl Try.ntmps20 rfl ?_
  refine X.seq ?_
  refine X.region ?_
  refine X.opw X.wN rfl (X.assign rfl) ?_
  refine X.opsEnd ?_
  refine X.seq ?_
  refine X.region ?_
  refine X.opw X.wN rfl (X.assign rfl) ?_
  refine X.opsEnd ?_
  refine X.seq ?_
  refine X.seq ?_
  refine X.region ?_
  refine X.opw X.wN rfl (X.assign rfl) ?_
  refine X.opsEnd ?_
  refine X.block ?_
  -- LOOP live: 0=p, 3=out*, 4=i*
  refine X.loopL (σ := Nat × Value × List CT × (Nat → Prop)) (fun s => [(0, .slice A n c), (3, s.2.1), (4, .int .i64 (s.1 : Int))]) (fun s w' => s.1 ≤ n ∧ s.2.2.1.length = s.1 ∧ Mine KCt 76 (fun k => w.heap.size ≤ k ∧ ¬ s.2.2.2 k) 0 0 w' s.2.1 s.2.2.1 ∧ Tups s.2.2.2 w' s.2.2.1 (pg.take s.1) ∧ (∀ k, s.2.2.2 k → w.heap.size ≤ k ∧ k < w'.heap.size) ∧ Keep w w') (fun s => n - s.1) (0, _, [], fun _ => False) ⟨rfl, rfl, rfl, trivial⟩ ⟨Nat.zero_le _, rfl, Mine.nil _ _ _ _ _ _, trivial, fun k h => h.elim, (Keep.refl _)⟩ ?_
  rintro ⟨i, v, l, TB⟩ b0 wl ⟨hi, hll, hMo, hTu, hTB, hk⟩ hback
  dsimp only
  simp only at hi hll hMo hTu hTB
  have hk' := hk.size
  refine X.seq ?_
  refine X.seq ?_
  refine X.region ?_
  refine X.opw X.wN rfl (X.move (v := .int .i64 _) rfl) ?_
  refine X.opw X.wN rfl (X.move (v := .slice _ _ _) rfl) ?_
  refine X.opw X.wN rfl (X.lenSl Try.underlying33 rfl) ?_
  refine X.opP X.wN rfl rfl (X.lss rfl rfl) (fun h8 => ?_) (fun h8 => ?_)
  · obtain ⟨x, hx⟩ := getL (l := l0) i hs0.len (by omega)
    obtain ⟨q, hq, hxq, hqI, hxc, lo2, hi2, hlh, hst⟩ := ht0.get hx
    have hqm := hok.2 q (List.mem_of_getElem? hq)
    have hstl := hst.len
    have hlow : ∀ k, lo2 ≤ k → k < hi2 → k < w.heap.size := fun k a b => by have := hlh k a b; omega
    refine X.opsEnd ?_
    refine X.condT rfl ?_
    refine X.skip ?_
    refine X.seq ?_
    refine X.block ?_
    refine X.regionD (fun k => w.heap.size ≤ k) 16 (by kernel_rfl) (by kernel_rfl) (fun w1 hk1 hz1 => ?_)
    refine X.dTake 0 rfl (by kernel_rfl) (by kernel_rfl) (by kernel_rfl) (X.dwN rfl) (fun w' hk' => X.move rfl) ?_
    refine X.dTake 2 rfl (by kernel_rfl) (by kernel_rfl) (by kernel_rfl) (X.dwN rfl) (fun w' hk' => X.move (v := .slice _ _ _) rfl) ?_
    refine X.dTake 3 rfl (by kernel_rfl) (by kernel_rfl) (by kernel_rfl) (X.dwN rfl) (fun w' hk' => X.move (v := .int .i64 _) rfl) ?_
    refine X.dTake 4 rfl (by kernel_rfl) (by kernel_rfl) (by kernel_rfl) (X.dwN rfl) (fun w' hk' => X.idxS (hs0.keep ((hk.trans hk1).step hk' (by intros; (try simp only [] at *); omega))) Try.underlying33 Try.sizeOf76 rfl rfl ⟨by omega, by omega⟩) ?_
    refine X.dTake 5 rfl (by kernel_rfl) (by kernel_rfl) (by kernel_rfl) (X.dwN rfl) (fun w' hk' => X.fldA Try.underlying76 rfl rfl Try.sizeOf74) ?_
    refine X.dTake 6 rfl (by kernel_rfl) (by kernel_rfl) (by kernel_rfl) (X.dwN rfl) (fun w' hk' => X.loadSf Try.isAgg74 (hs0.keep ((hk.trans hk1).step hk' (by intros; (try simp only [] at *); omega))) hx rfl (fun _ h => by rw [h.1]; rfl)) ?_
    refine X.dTake 8 rfl (by kernel_rfl) (by kernel_rfl) (by kernel_rfl) (X.dwN rfl) (fun w' hk' => X.move (v := .slice _ _ _) rfl) ?_
    refine X.dTake 9 rfl (by kernel_rfl) (by kernel_rfl) (by kernel_rfl) (X.dwN rfl) (fun w' hk' => X.move (v := .int .i64 _) rfl) ?_
    refine X.dTake 10 rfl (by kernel_rfl) (by kernel_rfl) (by kernel_rfl) (X.dwN rfl) (fun w' hk' => X.idxS (hs0.keep ((hk.trans hk1).step hk' (by intros; (try simp only [] at *); omega))) Try.underlying33 Try.sizeOf76 rfl rfl ⟨by omega, by omega⟩) ?_
    refine X.dTake 11 rfl (by kernel_rfl) (by kernel_rfl) (by kernel_rfl) (X.dwN rfl) (fun w' hk' => X.fldA Try.underlying76 rfl rfl Try.sizeOf2) ?_
    refine X.dTake 12 rfl (by kernel_rfl) (by kernel_rfl) (by kernel_rfl) (X.dwN rfl) (fun w' hk' => X.loadSf Try.isAgg2 (hs0.keep ((hk.trans hk1).step hk' (by intros; (try simp only [] at *); omega))) hx rfl (fun _ h => by rw [h.1]; rfl)) ?_
    refine X.dE (i := 1) (by kernel_rfl) rfl (X.dwN rfl) (X.lit0E (K := KV) (S := fun k => w1.heap.size ≤ k) Try.underlying74 Try.sizeOf72 (by intros; (try simp only [] at *); omega)) (by rintro v2 w2 ⟨hMt, hk2, hz2⟩ _; exact hk2.mono (fun _ _ h => h.elim)) ?_
    rintro v2 w2 ⟨hMt, hk2, hz2⟩
    refine X.dE (i := 7) (by kernel_rfl) rfl (X.dwN rfl) (X.appE (K := KV) (S := fun k => w1.heap.size ≤ k) KV_flat Try.underlying74 EVal1 rfl rfl hMt ((hst.keep ((hk.trans hk1).trans hk2))) (by (try simp only [List.length_append, List.length_cons, List.length_nil, List.length_take, List.length_drop, List.length_map, List.length_range]); omega) (by intros; (try simp only [] at *); omega)) (by rintro v3 w3 ⟨hMu, hx3⟩ _; exact hx3.mono (fun k _ h => by (try simp only [] at *); omega)) ?_
    rintro v3 w3 ⟨hMu, hx3⟩
    have hx3' := hx3.size
    obtain ⟨At, ct, e, hct, _⟩ := hMu.slice
    subst e
    rw [List.nil_append] at hMu hct
    have hMt2 : Mine KV 72 (fun k => w1.heap.size ≤ k ∧ k < w3.heap.size) 0 0 w3 (.slice At q.1.length ct) q.1 := hMu.mono fun k hk h => ⟨h, hk⟩
    refine X.dTake 13 rfl (by kernel_rfl) (by kernel_rfl) (by kernel_rfl) (X.dwN rfl) (fun w' hk' => X.buildB (vs := [(0, .slice At q.1.length ct), (1, .int .i64 x.2)]) (cs := #[.slice At q.1.length ct, .int .i64 x.2]) rfl (by kernel_rfl)) ?_
    refine X.dE (i := 14) (by kernel_rfl) rfl (X.dwN rfl) (X.litKF KCt_flat (K := KCt) (xs := [Operand.tmp 24]) (vs := [evC ((At, q.1.length, ct), x.2)]) (ys := [((At, q.1.length, ct), x.2)]) Try.underlying33 Try.sizeOf76 Try.zeroValue76 rfl rfl rfl rfl rfl (repsC _)) (by rintro _ w4 ⟨rfl, hs4, hB4, hk4, hz4⟩ _; exact hk4.mono (fun _ _ h => h.elim)) ?_
    rintro _ w4 ⟨rfl, hs4, hB4, hk4, hz4⟩
    have hMo2 := hMo.mono (T := fun k => w.heap.size ≤ k ∧ ¬ (fun k => (TB k ∨ (w1.heap.size ≤ k ∧ k < w3.heap.size))) k) (fun k hk h => ⟨h.1, fun ht => ht.elim h.2 (fun ht => by omega)⟩)
    refine X.dE (i := 15) (by kernel_rfl) rfl (X.dwN rfl) (X.appE (K := KCt) (S := fun k => w.heap.size ≤ k ∧ ¬ (fun k => (TB k ∨ (w1.heap.size ≤ k ∧ k < w3.heap.size))) k) KCt_flat Try.underlying33 ECt rfl rfl (hMo2.keep (((hk1.trans hk2).step hx3 (by intros; (try simp only [] at *); omega)).trans hk4)) hs4 (by (try simp only [List.length_append, List.length_cons, List.length_nil, List.length_take, List.length_drop, List.length_map, List.length_range]); omega) (fun k hk => ⟨by omega, fun ht => ht.elim (fun ht => by have := hTB k ht; omega) (fun ht => by omega)⟩)) (by rintro v5 w5 ⟨hM5, hx5⟩ _; exact hx5.mono (fun k _ h => by (try simp only [] at *); omega)) ?_
    rintro v5 w5 ⟨hM5, hx5⟩
    have hx5' := hx5.size
    refine X.dStep (i := 16) (by kernel_rfl) rfl (X.dwN rfl) (X.assign rfl) (fun h => absurd h (by decide)) ?_
    refine X.dEnd (by kernel_rfl) ?_
    refine X.inBlock ?_
    refine X.region ?_
    refine X.opw X.wN rfl (X.move (v := .int .i64 _) rfl) ?_
    refine X.opw X.wN rfl (X.add rfl rfl (X.w_i64 (by omega))) ?_
    refine X.opw X.wN rfl (X.assign (v := .int .i64 _) rfl) ?_
    refine X.opsEnd ?_
    have hTu2 : Tups (fun k => (TB k ∨ (w1.heap.size ≤ k ∧ k < w3.heap.size))) w5 (l ++ [((At, q.1.length, ct), x.2)]) (pg.take (i + 1)) := by
      rw [take_at hq]
      refine Tups.snoc (x := ((At, q.1.length, ct), x.2)) (q := q) ⟨hxq, hqI, hct, _, _, fun k a b => .inr ⟨a, b⟩, (((mine_0 KV_flat hMt2 w1.heap.size (fun k h => h.1)).keep hk4).ext hx5 (fun k h1 h2 h => h.2 (.inr ⟨h1, h2⟩)))⟩ ?_
      exact Tups.mono (TC := fun k => (TB k ∨ (w1.heap.size ≤ k ∧ k < w3.heap.size))) (fun k h => .inl h) (Tups.ext hx5 (fun k h1 h2 => h2.2 (.inl h1)) (Tups.keep hk4 (Tups.ext hx3 (fun k h1 h2 => by have := hTB k h1; (try simp only [] at h2); omega) (Tups.keep hk2 (Tups.keep hk1 (hTu))))))
    refine hback (i + 1, _, l ++ [((At, q.1.length, ct), x.2)], fun k => (TB k ∨ (w1.heap.size ≤ k ∧ k < w3.heap.size))) _ _ ⟨rfl, rfl, rfl, trivial⟩ ⟨by dsimp only; omega, by dsimp only; rw [List.length_append, hll]; rfl, (hM5).mono (fun k _ h => ⟨h.1, h.2⟩), hTu2, fun k hkk => hkk.elim (fun ht => by have := hTB k ht; (try simp only []); omega) (fun ht => by (try simp only [] at *); omega), (((((hk.trans hk1).trans hk2).step hx3 (by intros; (try simp only [] at *); omega)).trans hk4).step hx5 (by intros; (try simp only [] at *); omega))⟩ (by dsimp only; omega)
  · refine X.opsEnd ?_
    refine X.condF rfl ?_
    refine X.exit rfl ?_
    refine X.seq ?_
    refine X.region ?_
    refine X.opw X.wN rfl (X.move rfl) ?_
    refine X.opw X.wN rfl (X.assign rfl) ?_
    refine X.opsEnd ?_
    refine X.ret1 Try.func20 Try.results20 rfl ?_
    have hMx := hMo
    have hin : i = n := by omega
    rw [hin] at hTu hll
    rw [List.take_of_length_le (by omega)] at hTu
    obtain ⟨A', c', e, hc', _⟩ := hMx.slice
    subst e
    rw [hll] at hMx hc'
    exact ⟨A', c', l, TB, by rw [hll]; rfl, hc', hMx.mono fun k hk h => ⟨h.1, hk, h.2⟩, hTu, hTB, hk⟩
end Go.Proofs.Ytjjhddjllpihaaa

namespace Go.Proofs.Ytjjhddjllpihaaa
open Go Go.Proofs.Ytjjhddjllpihaaa.X
set_option linter.unusedVariables false
set_option linter.unusedSimpArgs false
abbrev PGS := List (PKEY × List CD)
structure Ca where
  room : Int
  L : PGS
  h : Int
  m : Int
  g : Int
abbrev ptrV (b : Nat) : Value := .pointer (some ⟨b, 0, none⟩)
abbrev MPK (w : World) (b : Nat) (m : List (PKEY × Value)) : Prop := MpV (fun x : PKEY => encPK x) (fun v : Value => v) w b m
/-- A page, told by its value. -/
def PgV (TD : Nat → Prop) (w : World) (v : Value) (p : List CD) : Prop := ∃ A c lo hi, v = .slice A p.length c ∧ p.length ≤ c ∧ (∀ k, lo ≤ k → k < hi → TD k) ∧ hi ≤ w.heap.size ∧ Sl KC lo hi w A p.length p
theorem PgV.ext {TD U : Nat → Prop} {w w' : World} {v : Value} {p : List CD} (h : PgV TD w v p) (x : Ext U w w') (hU : ∀ k, TD k → ¬ U k) : PgV TD w' v p :=
  let ⟨A, c, lo, hi, h1, h2, h3, h4, h5⟩ := h; ⟨A, c, lo, hi, h1, h2, h3, Nat.le_trans h4 x.size, h5.ext x fun k a b => hU k (h3 k a b)⟩
theorem PgV.mono {TD TE : Nat → Prop} {w : World} {v : Value} {p : List CD} (h : PgV TD w v p) (hT : ∀ k, TD k → TE k) : PgV TE w v p :=
  let ⟨A, c, lo, hi, h1, h2, h3, h4, h5⟩ := h; ⟨A, c, lo, hi, h1, h2, fun k a b => hT k (h3 k a b), h4, h5⟩
/-- What a map of pages says of a row of them. -/
structure Pgs (TD : Nat → Prop) (w : World) (mm : List (PKEY × Value)) (L : PGS) : Prop where
  there : ∀ k p, (k, p) ∈ L → ∃ v, asc k mm = some v ∧ PgV TD w v p
  only : ∀ k v, asc k mm = some v → k ∈ L.map (·.1)
  nd : (L.map (·.1)).Nodup
  ok : ∀ q, q ∈ L → okPg q.2
theorem Pgs.ext {TD U : Nat → Prop} {w w' : World} {mm : List (PKEY × Value)} {L : PGS} (h : Pgs TD w mm L) (x : Ext U w w') (hU : ∀ k, TD k → ¬ U k) : Pgs TD w' mm L :=
  ⟨fun k p hp => let ⟨v, h1, h2⟩ := h.there k p hp; ⟨v, h1, h2.ext x hU⟩, h.only, h.nd, h.ok⟩
theorem Pgs.mono {TD TE : Nat → Prop} {w : World} {mm : List (PKEY × Value)} {L : PGS} (h : Pgs TD w mm L) (hT : ∀ k, TD k → TE k) : Pgs TE w mm L :=
  ⟨fun k p hp => let ⟨v, h1, h2⟩ := h.there k p hp; ⟨v, h1, h2.mono hT⟩, h.only, h.nd, h.ok⟩
/-- The blocks of a cache: its own, the map's, the row's, the pages'. -/
structure Sep (T TR TD : Nat → Prop) (bc bm : Nat) (w : World) : Prop where
  cm : bc ≠ bm
  rc : ¬ TR bc
  rm : ¬ TR bm
  dc : ¬ TD bc
  dm : ¬ TD bm
  rd : ∀ k, TR k → ¬ TD k
  tc : T bc
  tm : T bm
  tr : ∀ k, TR k → T k
  td : ∀ k, TD k → T k
  lt : ∀ k, T k → k < w.heap.size
theorem Sep.up {T TR TD : Nat → Prop} {bc bm : Nat} {w w' : World} (h : Sep T TR TD bc bm w) (x : w.heap.size ≤ w'.heap.size) : Sep T TR TD bc bm w' := { h with lt := fun k hk => Nat.lt_of_lt_of_le (h.lt k hk) x }
/-- The cache in block bc: its blocks T. -/
def CaIn (T : Nat → Prop) (w : World) (bc : Nat) (s : Ca) : Prop := ∃ bm A n c mm TR TD, Blk w bc (caL s.room (some bm) A n c s.h s.m s.g) 66 ∧ Mine KPk 30 TR 0 0 w (.slice A n c) (s.L.map (·.1)) ∧ MPK w bm mm ∧ Pgs TD w mm s.L ∧ Sep T TR TD bc bm w
theorem CaIn.ext {T U : Nat → Prop} {w w' : World} {bc : Nat} {s : Ca} (h : CaIn T w bc s) (x : Ext U w w') (hU : ∀ k, T k → ¬ U k) : CaIn T w' bc s := by
  obtain ⟨bm, A, n, c, mm, TR, TD, h1, h2, h3, h4, h5⟩ := h
  exact ⟨bm, A, n, c, mm, TR, TD, h1.ext x (hU _ h5.tc), h2.ext x (fun k a b => by omega) (fun k a => hU k (h5.tr k a)), h3.ext x (hU _ h5.tm), h4.ext x (fun k a => hU k (h5.td k a)), h5.up x.size⟩
theorem CaIn.keep {T : Nat → Prop} {w w' : World} {bc : Nat} {s : Ca} (h : CaIn T w bc s) (x : Keep w w') : CaIn T w' bc s := h.ext x fun _ _ h => h
theorem CaIn.lt {T : Nat → Prop} {w : World} {bc : Nat} {s : Ca} (h : CaIn T w bc s) : ∀ k, T k → k < w.heap.size := by obtain ⟨bm, A, n, c, mm, TR, TD, h1, h2, h3, h4, h5⟩ := h; exact h5.lt
-- f25 "(*pedigree/cache.Cache).is" params [24] results [4] -> [(ResultVar.tmp 2)] nfree 0 ntmps 12 names ["c"
set_option maxHeartbeats 4000000 in
set_option maxRecDepth 100000 in
theorem is_c {bc bm n c : Nat} {A : Option Addr} {rm h ms g : Int} (w : World) (hB : Blk w bc (caL rm (some bm) A n c h ms g) 66) : Ret Try.prog 25 #[ptrV bc] w fun r w' => r = .bool true ∧ Keep w w' := by
  refine X.enter Try.func25 rfl Try.ntmps25 rfl ?_
  refine X.seq ?_
  refine X.region ?_
  refine X.opw X.wN rfl (X.assign rfl) ?_
  refine X.opsEnd ?_
  refine X.seq ?_
  refine X.region ?_
  refine X.opw X.wN rfl (X.move rfl) ?_
  refine X.opw X.wN rfl (X.nePtrN (A := some _) Try.underlying24 rfl rfl) ?_
  refine X.opw X.wN rfl (X.move (v := .bool true) rfl) ?_
  refine X.opw (X.wG rfl rfl rfl) rfl (X.move rfl) ?_
  refine X.opw (X.wG rfl rfl rfl) rfl (X.nilCk rfl) ?_
  refine X.opw (X.wG rfl rfl rfl) rfl (X.fldB (j := 1) Try.underlying66 rfl rfl Try.sizeOf62 rfl) ?_
  refine X.opw (X.wG rfl rfl rfl) rfl (X.load1B Try.isAgg62 hB rfl rfl) ?_
  refine X.opw (X.wG rfl rfl rfl) rfl (X.neMap1 Try.underlying62 rfl rfl) ?_
  refine X.opw X.wN rfl (X.pickT (v := .bool true) rfl rfl) ?_
  refine X.opw X.wN rfl (X.assign (v := .bool true) rfl) ?_
  refine X.opsEnd ?_
  refine X.ret1 (v := (.bool _)) Try.func25 Try.results25 rfl ?_
  exact ⟨rfl, (Keep.refl _)⟩
-- f25 "(*pedigree/cache.Cache).is" params [24] results [4] -> [(ResultVar.tmp 2)] nfree 0 ntmps 12 names ["c"
set_option maxHeartbeats 4000000 in
set_option maxRecDepth 100000 in
theorem is0_c (w : World) : Ret Try.prog 25 #[.pointer none] w fun r w' => r = .bool false ∧ Keep w w' := by
  refine X.enter Try.func25 rfl Try.ntmps25 rfl ?_
  refine X.seq ?_
  refine X.region ?_
  refine X.opw X.wN rfl (X.assign rfl) ?_
  refine X.opsEnd ?_
  refine X.seq ?_
  refine X.region ?_
  refine X.opw X.wN rfl (X.move rfl) ?_
  refine X.opw X.wN rfl (X.nePtrN (A := none) Try.underlying24 rfl rfl) ?_
  refine X.opw X.wN rfl (X.move (v := .bool false) rfl) ?_
  refine X.opS rfl rfl rfl rfl rfl ?_
  refine X.opS rfl rfl rfl rfl rfl ?_
  refine X.opS rfl rfl rfl rfl rfl ?_
  refine X.opS rfl rfl rfl rfl rfl ?_
  refine X.opS rfl rfl rfl rfl rfl ?_
  refine X.opw X.wN rfl (X.pickF (v := .bool false) rfl rfl) ?_
  refine X.opw X.wN rfl (X.assign (v := .bool false) rfl) ?_
  refine X.opsEnd ?_
  refine X.ret1 (v := (.bool _)) Try.func25 Try.results25 rfl ?_
  exact ⟨rfl, (Keep.refl _)⟩
-- f25 "(*pedigree/cache.Cache).is" params [24] results [4] -> [(ResultVar.tmp 2)] nfree 0 ntmps 12 names ["c"
set_option maxHeartbeats 4000000 in
set_option maxRecDepth 100000 in
theorem isz_c {bc : Nat} (w : World) (hB : Blk w bc (caL 0 none none 0 0 0 0 0) 66) : Ret Try.prog 25 #[ptrV bc] w fun r w' => r = .bool false ∧ Keep w w' := by
  refine X.enter Try.func25 rfl Try.ntmps25 rfl ?_
  refine X.seq ?_
  refine X.region ?_
  refine X.opw X.wN rfl (X.assign rfl) ?_
  refine X.opsEnd ?_
  refine X.seq ?_
  refine X.region ?_
  refine X.opw X.wN rfl (X.move rfl) ?_
  refine X.opw X.wN rfl (X.nePtrN (A := some _) Try.underlying24 rfl rfl) ?_
  refine X.opw X.wN rfl (X.move (v := .bool true) rfl) ?_
  refine X.opw (X.wG rfl rfl rfl) rfl (X.move rfl) ?_
  refine X.opw (X.wG rfl rfl rfl) rfl (X.nilCk rfl) ?_
  refine X.opw (X.wG rfl rfl rfl) rfl (X.fldB (j := 1) Try.underlying66 rfl rfl Try.sizeOf62 rfl) ?_
  refine X.opw (X.wG rfl rfl rfl) rfl (X.load1B Try.isAgg62 hB rfl rfl) ?_
  refine X.opw (X.wG rfl rfl rfl) rfl (X.neMap0 Try.underlying62 rfl rfl) ?_
  refine X.opw X.wN rfl (X.pickT (v := .bool false) rfl rfl) ?_
  refine X.opw X.wN rfl (X.assign (v := .bool false) rfl) ?_
  refine X.opsEnd ?_
  refine X.ret1 (v := (.bool _)) Try.func25 Try.results25 rfl ?_
  exact ⟨rfl, (Keep.refl _)⟩
-- f8 "pedigree/cache.New" params [3] results [24, 25] -> [(ResultVar.tmp 2), (ResultVar.tmp 3)] nfree 0 ntmps
set_option maxHeartbeats 4000000 in
set_option maxRecDepth 100000 in
theorem New_c (rm : Int) (w : World) : Ret Try.prog 8 #[.int .i64 rm] w fun r w' => (rm < 0 ∨ 1024 < rm) ∧ r = .tuple #[.pointer none, .int .i64 80] ∧ Keep w w' ∨ ¬ (rm < 0 ∨ 1024 < rm) ∧ ∃ bc T, r = .tuple #[ptrV bc, .int .i64 0] ∧ CaIn T w' bc ⟨rm, [], 0, 0, 0⟩ ∧ (∀ k, T k → w.heap.size ≤ k) ∧ Keep w w' := by
  refine X.enter Try.func8 rfl Try.ntmps8 rfl ?_
  refine X.seq ?_
  refine X.region ?_
  refine X.opw X.wN rfl (X.assign rfl) ?_
  refine X.opw X.wN rfl (X.assign rfl) ?_
  refine X.opsEnd ?_
  refine X.seq ?_
  refine X.seq ?_
  refine X.region ?_
  refine X.opw X.wN rfl (X.move (v := .int .i64 _) rfl) ?_
  refine X.opP X.wN rfl rfl (X.lss rfl rfl) (fun h5 => ?_) (fun h5 => ?_)
  · refine X.opw X.wN rfl (X.move (v := .bool true) rfl) ?_
    refine X.opS rfl rfl rfl rfl rfl ?_
    refine X.opS rfl rfl rfl rfl rfl ?_
    refine X.opw X.wN rfl (X.pickT (v := .bool true) rfl rfl) ?_
    refine X.opsEnd ?_
    refine X.condT rfl ?_
    refine X.seq ?_
    refine X.region ?_
    refine X.opw X.wN rfl (X.assign rfl) ?_
    refine X.opw X.wN rfl (X.assign rfl) ?_
    refine X.opsEnd ?_
    refine X.ret2 (v2 := (.int .i64 _)) Try.func8 Try.results8 rfl rfl ?_
    exact .inl ⟨by omega, rfl, (Keep.refl _)⟩
  · refine X.opw X.wN rfl (X.move (v := .bool false) rfl) ?_
    refine X.opw (X.wG rfl rfl rfl) rfl (X.move (v := .int .i64 _) rfl) ?_
    refine X.opP (X.wG rfl rfl rfl) rfl rfl (X.gtr rfl rfl) (fun h8 => ?_) (fun h8 => ?_)
    · refine X.opw X.wN rfl (X.pickF (v := .bool true) rfl rfl) ?_
      refine X.opsEnd ?_
      refine X.condT rfl ?_
      refine X.seq ?_
      refine X.region ?_
      refine X.opw X.wN rfl (X.assign rfl) ?_
      refine X.opw X.wN rfl (X.assign rfl) ?_
      refine X.opsEnd ?_
      refine X.ret2 (v2 := (.int .i64 _)) Try.func8 Try.results8 rfl rfl ?_
      exact .inl ⟨by omega, rfl, (Keep.refl _)⟩
    · refine X.opw X.wN rfl (X.pickF (v := .bool false) rfl rfl) ?_
      refine X.opsEnd ?_
      refine X.condF rfl ?_
      refine X.skip ?_
      refine X.seq ?_
      refine X.region ?_
      refine X.opw X.wN rfl (X.move (v := .int .i64 _) rfl) ?_
      refine X.opE X.wN rfl (X.makeMapV (fun x : PKEY => encPK x) (fun v : Value => v)) ?_
      rintro _ w1 ⟨rfl, hG1, hk1, hz1⟩
      refine X.opw X.wN rfl (X.buildB (vs := [(0, .int .i64 rm), (1, .map (some w.heap.size))]) (cs := #[.int .i64 rm, .map (some w.heap.size), .slice none 0 0, .int .i64 0, .int .i64 0, .int .i64 0]) rfl (by kernel_rfl)) ?_
      refine X.opE X.wN rfl (X.boxE rfl rfl) ?_
      rintro _ w2 ⟨rfl, hB2, hk2, hz2⟩
      refine X.opw X.wN rfl (X.assign rfl) ?_
      refine X.opw X.wN rfl (X.assign rfl) ?_
      refine X.opsEnd ?_
      refine X.ret2 (v2 := (.int .i64 _)) Try.func8 Try.results8 rfl rfl ?_
      exact .inr ⟨by omega, w1.heap.size, fun k => k = w1.heap.size ∨ k = w.heap.size, rfl, ⟨w.heap.size, none, 0, 0, [], fun _ => False, fun _ => False, hB2, Mine.nil _ _ _ _ _ _, (hG1.keep hk2), ⟨fun k p h => by simp at h, fun k v h => by simp [asc] at h, by simp, fun q h => by simp at h⟩, ⟨by omega, id, id, id, id, fun k h => h.elim, .inl rfl, .inr rfl, fun k h => h.elim, fun k h => h.elim, fun k h => by omega⟩⟩, fun k h => by omega, (hk1.trans hk2)⟩
-- f19 "(*pedigree/cache.Cache).Room" params [24] results [3] -> [(ResultVar.tmp 2)] nfree 0 ntmps 10 names ["
set_option maxHeartbeats 4000000 in
set_option maxRecDepth 100000 in
theorem Room_c {T : Nat → Prop} {bc : Nat} {s : Ca} (w : World) (hC : CaIn T w bc s) : Ret Try.prog 19 #[ptrV bc] w fun r w' => r = .int .i64 s.room ∧ Keep w w' := by
  obtain ⟨bm, A, n, c, mm, TR, TD, hB, hM, hG, hP, hS⟩ := hC
  have hC0 : CaIn T w bc s := ⟨bm, A, n, c, mm, TR, TD, hB, hM, hG, hP, hS⟩
  refine X.enter Try.func19 rfl Try.ntmps19 rfl ?_
  refine X.seq ?_
  refine X.region ?_
  refine X.opw X.wN rfl (X.assign rfl) ?_
  refine X.opsEnd ?_
  refine X.seq ?_
  refine X.seq ?_
  refine X.region ?_
  refine X.opw X.wN rfl (X.move rfl) ?_
  refine X.opE X.wN rfl (X.callE (is_c _ hB) Try.call25 rfl rfl) ?_
  rintro _ w1 ⟨rfl, hk1⟩
  have hk1' := hk1.size
  refine X.opw X.wN rfl (X.not_ rfl) ?_
  refine X.opsEnd ?_
  refine X.condF rfl ?_
  refine X.skip ?_
  refine X.seq ?_
  refine X.region ?_
  refine X.opw X.wN rfl (X.move rfl) ?_
  refine X.opw X.wN rfl (X.nilCk rfl) ?_
  refine X.opw X.wN rfl (X.fldB (j := 0) Try.underlying66 rfl rfl Try.sizeOf3 rfl) ?_
  refine X.opw X.wN rfl (X.load1B Try.isAgg3 (hB.keep hk1) rfl rfl) ?_
  refine X.opw X.wN rfl (X.assign (v := .int .i64 _) rfl) ?_
  refine X.opsEnd ?_
  refine X.ret1 (v := (.int .i64 _)) Try.func19 Try.results19 rfl ?_
  exact ⟨rfl, hk1⟩
-- f18 "(*pedigree/cache.Cache).Stats" params [24] results [47] -> [(ResultVar.cell 2 47)] nfree 0 ntmps 11 na
set_option maxHeartbeats 4000000 in
set_option maxRecDepth 100000 in
theorem Stats_c {T : Nat → Prop} {bc : Nat} {s : Ca} (w : World) (hC : CaIn T w bc s) : Ret Try.prog 18 #[ptrV bc] w fun r w' => r = .agg #[.int .i64 s.h, .int .i64 s.m, .int .i64 s.g] ∧ Keep w w' := by
  obtain ⟨bm, A, n, c, mm, TR, TD, hB, hM, hG, hP, hS⟩ := hC
  have hC0 : CaIn T w bc s := ⟨bm, A, n, c, mm, TR, TD, hB, hM, hG, hP, hS⟩
  refine X.enter Try.func18 rfl Try.ntmps18 rfl ?_
  refine X.seq ?_
  refine X.region ?_
  refine X.opE X.wN rfl (X.allocE Try.zeroValue47 rfl) ?_
  rintro _ w1 ⟨rfl, hB1, hk1, hz1⟩
  refine X.opsEnd ?_
  refine X.seq ?_
  refine X.seq ?_
  refine X.region ?_
  refine X.opw X.wN rfl (X.move rfl) ?_
  refine X.opE X.wN rfl (X.callE (is_c _ (hB.keep hk1)) Try.call25 rfl rfl) ?_
  rintro _ w2 ⟨rfl, hk2⟩
  have hk2' := hk2.size
  refine X.opw X.wN rfl (X.not_ rfl) ?_
  refine X.opsEnd ?_
  refine X.condF rfl ?_
  refine X.skip ?_
  refine X.seq ?_
  refine X.region ?_
  refine X.opw X.wN rfl (X.move rfl) ?_
  refine X.opw X.wN rfl (X.nilCk rfl) ?_
  refine X.opw X.wN rfl (X.fldB (j := 3) Try.underlying66 rfl rfl Try.sizeOf47 rfl) ?_
  refine X.opw X.wN rfl (X.loadNB Try.isAgg47 Try.sizeOf47 (hB.keep (hk1.trans hk2)) rfl rfl rfl) ?_
  refine X.opE X.wN rfl (X.storeNE Try.sizeOf47 (hB1.keep hk2) rfl rfl rfl rfl (fun u hu => by simp at hu; rcases hu with rfl | rfl | rfl <;> rfl)) ?_
  rintro _ w3 ⟨hB3, hx3, hz3⟩
  refine X.opsEnd ?_
  refine X.ret_unw (X.unwR1 Try.func18 Try.results18 (X.ResOk.cell rfl (X.lvN Try.isAgg47 Try.sizeOf47 hB3 rfl)) ?_)
  exact ⟨rfl, ((hk1.trans hk2).step hx3 (by intros; (try simp only [] at *); omega))⟩
-- f13 "(*pedigree/cache.Cache).Keys" params [24] results [28] -> [(ResultVar.tmp 2)] nfree 0 ntmps 12 names [
set_option maxHeartbeats 4000000 in
set_option maxRecDepth 100000 in
theorem Keys_c {T : Nat → Prop} {bc : Nat} {s : Ca} (w : World) (hC : CaIn T w bc s) (hn0 : s.L.length ≤ 100000) : Ret Try.prog 13 #[ptrV bc] w fun r w' => ∃ A' c', r = .slice A' (s.L.map (·.1)).length c' ∧ (s.L.map (·.1)).length ≤ c' ∧ Mine KPk 30 (fun k => w.heap.size ≤ k ∧ k < w'.heap.size) 0 0 w' (.slice A' (s.L.map (·.1)).length c') (s.L.map (·.1)) ∧ Keep w w' := by
  obtain ⟨bm, A, n, c, mm, TR, TD, hB, hM, hG, hP, hS⟩ := hC
  have hC0 : CaIn T w bc s := ⟨bm, A, n, c, mm, TR, TD, hB, hM, hG, hP, hS⟩
  have hn : n ≤ 1000000 := by have := hM.len; rw [List.length_map] at this; omega
  refine X.enter Try.func13 rfl Try.ntmps13 rfl ?_
  refine X.seq ?_
  refine X.region ?_
  refine X.opw X.wN rfl (X.assign rfl) ?_
  refine X.opsEnd ?_
  refine X.seq ?_
  refine X.seq ?_
  refine X.region ?_
  refine X.opw X.wN rfl (X.move rfl) ?_
  refine X.opE X.wN rfl (X.callE (is_c _ hB) Try.call25 rfl rfl) ?_
  rintro _ w1 ⟨rfl, hk1⟩
  have hk1' := hk1.size
  refine X.opw X.wN rfl (X.not_ rfl) ?_
  refine X.opsEnd ?_
  refine X.condF rfl ?_
  refine X.skip ?_
  refine X.seq ?_
  refine X.region ?_
  refine X.opw X.wN rfl (X.move rfl) ?_
  refine X.opw X.wN rfl (X.nilCk rfl) ?_
  refine X.opw X.wN rfl (X.fldB (j := 2) Try.underlying66 rfl rfl Try.sizeOf64 rfl) ?_
  refine X.opw X.wN rfl (X.fldB (j := 2) Try.underlying64 rfl rfl Try.sizeOf28 rfl) ?_
  refine X.opw X.wN rfl (X.load1B Try.isAgg28 (hB.keep hk1) rfl rfl) ?_
  refine X.opE X.wN rfl (X.callE (CloneK_c _ (mine_0 KPk_flat (hM.keep hk1) 0 (fun _ _ => Nat.zero_le _)) hn) Try.call29 rfl rfl) ?_
  rintro _ w2 ⟨Ak, ck, rfl, hck, hMk, hk2⟩
  have hk2' := hk2.size
  refine X.opw X.wN rfl (X.assign rfl) ?_
  refine X.opsEnd ?_
  refine X.ret1 Try.func13 Try.results13 rfl ?_
  have hl := hM.len
  rw [← hl] at hck hMk
  exact ⟨Ak, ck, by rw [hl]; rfl, hck, hMk.mono fun k hk h => ⟨by omega, hk⟩, (hk1.trans hk2)⟩
end Go.Proofs.Ytjjhddjllpihaaa

namespace Go.Proofs.Ytjjhddjllpihaaa
open Go Go.Proofs.Ytjjhddjllpihaaa.X
set_option linter.unusedVariables false
set_option linter.unusedSimpArgs false
/-- A row of counted tuples that was told: its blocks S. -/
def Told (S : Nat → Prop) (w : World) (v : Value) (p : List CD) : Prop := ∃ A c l TB, v = .slice A p.length c ∧ p.length ≤ c ∧ Mine KCt 76 (fun q => S q ∧ ¬ TB q) 0 0 w (.slice A p.length c) l ∧ Tups TB w l p ∧ ∀ q, TB q → S q
theorem Told.nil (S : Nat → Prop) (w : World) : Told S w (.slice none 0 0) [] := ⟨none, 0, [], fun _ => False, rfl, Nat.le_refl _, Mine.nil _ _ _ _ _ _, trivial, fun _ h => h.elim⟩
theorem Told.ext {S U : Nat → Prop} {w w' : World} {v : Value} {p : List CD} (h : Told S w v p) (x : Ext U w w') (hU : ∀ q, S q → ¬ U q) : Told S w' v p :=
  let ⟨A, c, l, TB, h1, h2, h3, h4, h5⟩ := h; ⟨A, c, l, TB, h1, h2, h3.ext x (fun k a b => by omega) (fun k a => hU k a.1), h4.ext x (fun k a => hU k (h5 k a)), h5⟩
theorem Told.keep {S : Nat → Prop} {w w' : World} {v : Value} {p : List CD} (h : Told S w v p) (x : Keep w w') : Told S w' v p := h.ext x fun _ _ h => h
theorem Told.mono {S S' : Nat → Prop} {w : World} {v : Value} {p : List CD} (h : Told S w v p) (hS : ∀ q, S q → S' q) : Told S' w v p :=
  let ⟨A, c, l, TB, h1, h2, h3, h4, h5⟩ := h; ⟨A, c, l, TB, h1, h2, h3.mono (fun k _ a => ⟨hS k a.1, a.2⟩), h4, fun k a => hS k (h5 k a)⟩
theorem own_t {lo hi : Nat} {A : Option Addr} {n c : Nat} {pg : List CD} (w : World) (hs : Sl KC lo hi w A n pg) (hhi : hi ≤ w.heap.size) (hok : okPg pg) : Ret Try.prog 26 #[.slice A n c] w fun r w' => Told (fun q => w.heap.size ≤ q ∧ q < w'.heap.size) w' r pg ∧ Keep w w' :=
  (own_c w hs hhi hok).mono fun r w' ⟨A', c', l, TB, h1, h2, h3, h4, h5, h6⟩ => by
    have hn := hs.len
    subst hn
    exact ⟨⟨A', c', l, TB, h1, h2, h3.mono (fun k _ h => ⟨⟨h.1, h.2.1⟩, h.2.2⟩), h4, h5⟩, h6⟩
theorem RCopy_t {lo hi : Nat} {A : Option Addr} {n c : Nat} {pg : List CD} (w : World) (hs : Sl KC lo hi w A n pg) (hhi : hi ≤ w.heap.size) (hok : okPg pg) : Ret Try.prog 20 #[.slice A n c] w fun r w' => Told (fun q => w.heap.size ≤ q ∧ q < w'.heap.size) w' r pg ∧ Keep w w' :=
  (RCopy_c w hs hhi hok).mono fun r w' ⟨A', c', l, TB, h1, h2, h3, h4, h5, h6⟩ => by
    have hn := hs.len
    subst hn
    exact ⟨⟨A', c', l, TB, h1, h2, h3.mono (fun k _ h => ⟨⟨h.1, h.2.1⟩, h.2.2⟩), h4, h5⟩, h6⟩
/-- Told, as a page. -/
theorem Told.pg {a b : Nat} {w : World} {v : Value} {p : List CD} (h : Told (fun q => a ≤ q ∧ q < b) w v p) (hb : b ≤ w.heap.size) : PgV (fun q => a ≤ q ∧ q < b) w v p := by
  obtain ⟨A, c, l, TB, h1, h2, h3, h4, h5⟩ := h
  obtain ⟨A', c', e1, _, hs⟩ := (h3.flat KCt_flat (lo' := a) (hi' := b)).sl (fun k _ hk => hk.1)
  injection e1 with e1 e2 e3
  rw [← e1, ← e2] at hs
  exact ⟨A, c, a, b, h1, h2, fun _ x y => ⟨x, y⟩, hb, h4.sl hs h5⟩
def Ca.get (s : Ca) (k : PKEY) : Ca := match asc k s.L with
  | none => { s with m := s.m + 1 }
  | some p => { s with h := s.h + 1, L := (k, p) :: s.L.filter fun q => decide (q.1 ≠ k) }
theorem map_filter_ne (k : PKEY) (L : PGS) : (L.filter fun q => decide (q.1 ≠ k)).map (·.1) = (L.map (·.1)).filter fun x => decide (x ≠ k) := by
  rw [List.filter_map]; rfl
theorem Pgs.front {TD : Nat → Prop} {w : World} {mm : List (PKEY × Value)} {L : PGS} {k : PKEY} {p : List CD} (h : Pgs TD w mm L) (hp : (k, p) ∈ L) : Pgs TD w mm ((k, p) :: L.filter fun q => decide (q.1 ≠ k)) := by
  refine ⟨fun k' p' hp' => ?_, fun k' v hv => ?_, ?_, fun q hq => ?_⟩
  · rcases List.mem_cons.1 hp' with e | hp'
    · cases e; exact h.there k p hp
    · exact h.there k' p' (List.mem_filter.1 hp').1
  · rw [List.map_cons, map_filter_ne]
    by_cases e : k' = k
    · rw [e]; exact List.mem_cons_self
    · exact List.mem_cons_of_mem _ (List.mem_filter.2 ⟨h.only k' v hv, by simpa using e⟩)
  · rw [List.map_cons, map_filter_ne, List.nodup_cons]
    exact ⟨fun h => by have := (List.mem_filter.1 h).2; simp at this, h.nd.filter _⟩
  · rcases List.mem_cons.1 hq with rfl | hq
    · exact h.ok _ hp
    · exact h.ok q (List.mem_filter.1 hq).1
theorem Sep.grow {T TR TD : Nat → Prop} {bc bm a b : Nat} {w w' : World} (h : Sep T TR TD bc bm w) (ha : w.heap.size ≤ a) (hb : b ≤ w'.heap.size) (x : w.heap.size ≤ w'.heap.size) : Sep (fun q => T q ∨ (a ≤ q ∧ q < b)) (fun q => TR q ∨ (a ≤ q ∧ q < b)) TD bc bm w' :=
  ⟨h.cm, fun e => e.elim h.rc (fun e => by have := h.lt _ h.tc; omega), fun e => e.elim h.rm (fun e => by have := h.lt _ h.tm; omega), h.dc, h.dm, fun k e hd => e.elim (fun e => h.rd k e hd) (fun e => by have := h.lt _ (h.td k hd); omega), .inl h.tc, .inl h.tm, fun k e => e.imp (h.tr k) id, fun k e => .inl (h.td k e), fun k e => e.elim (fun e => by have := h.lt k e; omega) (fun e => by omega)⟩
-- f22 "(*pedigree/cache.Cache).Get" params [24, 30] results [33, 4] -> [(ResultVar.tmp 4), (ResultVar.tmp 5)]
set_option maxHeartbeats 4000000 in
set_option maxRecDepth 100000 in
theorem Get_c {T : Nat → Prop} {bc : Nat} {s : Ca} (k : PKEY) (w : World) (hC : CaIn T w bc s) (hLn : s.L.length ≤ 10000) (hh : -1000000 ≤ s.h ∧ s.h ≤ 1000000) (hms : -1000000 ≤ s.m ∧ s.m ≤ 1000000) : Ret Try.prog 22 #[ptrV bc, encPK k] w fun r w' => ∃ a b, w.heap.size ≤ a ∧ a ≤ b ∧ b ≤ w'.heap.size ∧ (∃ v, r = .tuple #[v, .bool (asc k s.L).isSome] ∧ Told (fun q => b ≤ q ∧ q < w'.heap.size) w' v ((asc k s.L).getD [])) ∧ CaIn (fun q => T q ∨ (a ≤ q ∧ q < b)) w' bc (s.get k) ∧ Ext T w w' := by
  obtain ⟨bm, A, n, c, mm, TR, TD, hB, hM, hG, hP, hS⟩ := hC
  have hbcl := hB.lt
  have hbml := hG.lt
  have hnl := hM.len
  rw [List.length_map] at hnl
  have hUd : ∀ q, TD q → ¬ (q = bc ∨ TR q ∨ w.heap.size ≤ q) := fun q h h2 => h2.elim (fun e => hS.dc (by rw [← e]; exact h)) (fun h2 => h2.elim (fun h3 => hS.rd q h3 h) (fun h3 => by have := hS.lt q (hS.td q h); omega))
  have hUm : ¬ (bm = bc ∨ TR bm ∨ w.heap.size ≤ bm) := fun h => h.elim (fun e => hS.cm e.symm) (fun h => h.elim hS.rm (fun h => by omega))
  have hSw : ∀ q, TR q → q < w.heap.size := fun q h => hS.lt q (hS.tr q h)
  have hUT : ∀ q, q < w.heap.size → (q = bc ∨ TR q ∨ w.heap.size ≤ q) → T q := fun q hq h => h.elim (fun e => by rw [e]; exact hS.tc) (fun h => h.elim (hS.tr q) (fun h => by omega))
  refine X.enter Try.func22 rfl Try.ntmps22 rfl ?_
  refine X.seq ?_
  refine X.region ?_
  refine X.opE X.wN rfl (X.boxE rfl rfl) ?_
  rintro _ w1 ⟨rfl, hB1, hk1, hz1⟩
  refine X.opw X.wN rfl (X.assign rfl) ?_
  refine X.opw X.wN rfl (X.assign rfl) ?_
  refine X.opsEnd ?_
  refine X.seq ?_
  refine X.seq ?_
  refine X.region ?_
  refine X.opw X.wN rfl (X.move rfl) ?_
  refine X.opE X.wN rfl (X.callE (is_c _ (hB.keep hk1)) Try.call25 rfl rfl) ?_
  rintro _ w2 ⟨rfl, hk2⟩
  have hk2' := hk2.size
  refine X.opw X.wN rfl (X.not_ rfl) ?_
  refine X.opsEnd ?_
  refine X.condF rfl ?_
  refine X.skip ?_
  refine X.seq ?_
  refine X.regionD (fun _ => False) 10 (by kernel_rfl) (by kernel_rfl) (fun w3 hk3 hz3 => ?_)
  refine X.dTake 0 rfl (by kernel_rfl) (by kernel_rfl) (by kernel_rfl) (X.dwN rfl) (fun w' hk' => X.move rfl) ?_
  refine X.dTake 1 rfl (by kernel_rfl) (by kernel_rfl) (by kernel_rfl) (X.dwN rfl) (fun w' hk' => X.nilCk rfl) ?_
  refine X.dTake 2 rfl (by kernel_rfl) (by kernel_rfl) (by kernel_rfl) (X.dwN rfl) (fun w' hk' => X.fldB (j := 1) Try.underlying66 rfl rfl Try.sizeOf62 rfl) ?_
  refine X.dTake 3 rfl (by kernel_rfl) (by kernel_rfl) (by kernel_rfl) (X.dwN rfl) (fun w' hk' => X.load1B Try.isAgg62 (hB.keep (((hk1.trans hk2).trans hk3).trans hk')) rfl rfl) ?_
  refine X.dTake 4 rfl (by kernel_rfl) (by kernel_rfl) (by kernel_rfl) (X.dwN rfl) (fun w' hk' => X.loadNB Try.isAgg30 Try.sizeOf30 (hB1.keep ((hk2.trans hk3).trans hk')) rfl rfl rfl) ?_
  refine X.dTake 5 rfl (by kernel_rfl) (by kernel_rfl) (by kernel_rfl) (X.dwN rfl) (fun w' hk' => X.lookupOkV (enc := (fun x : PKEY => encPK x)) (venc := (fun v : Value => v)) (z := (Value.slice none 0 0)) Try.underlying62 keyPk Try.zeroValue33 ((hG.ext (Ext.andThen (Ext.andThen (Ext.andThen (Ext.refl (fun q => q = bc ∨ TR q ∨ w.heap.size ≤ q) _) hk1 (by intro q h1 h2; first | exact (h2 : False).elim | exact .inl h2 | exact h2.elim .inl (fun h => .inr (h.imp id (fun h => by omega))) | exact h2.elim .inl (fun h => .inr (.inl h)) | exact .inr (.inr (by omega)) | (exfalso; (try simp only [] at *); omega))) hk2 (by intro q h1 h2; first | exact (h2 : False).elim | exact .inl h2 | exact h2.elim .inl (fun h => .inr (h.imp id (fun h => by omega))) | exact h2.elim .inl (fun h => .inr (.inl h)) | exact .inr (.inr (by omega)) | (exfalso; (try simp only [] at *); omega))) hk3 (by intro q h1 h2; first | exact (h2 : False).elim | exact .inl h2 | exact h2.elim .inl (fun h => .inr (h.imp id (fun h => by omega))) | exact h2.elim .inl (fun h => .inr (.inl h)) | exact .inr (.inr (by omega)) | (exfalso; (try simp only [] at *); omega))) hUm).keep hk') rfl rfl) ?_
  refine X.dTake 6 rfl (by kernel_rfl) (by kernel_rfl) (by kernel_rfl) (X.dwN rfl) (fun w' hk' => X.move rfl) ?_
  refine X.dTake 7 rfl (by kernel_rfl) (by kernel_rfl) (by kernel_rfl) (X.dwN rfl) (fun w' hk' => X.extr rfl rfl) ?_
  refine X.dTake 8 rfl (by kernel_rfl) (by kernel_rfl) (by kernel_rfl) (X.dwN rfl) (fun w' hk' => X.extr rfl rfl) ?_
  refine X.dTake 9 rfl (by kernel_rfl) (by kernel_rfl) (by kernel_rfl) (X.dwN rfl) (fun w' hk' => X.assign rfl) ?_
  refine X.dStep (i := 10) (by kernel_rfl) rfl (X.dwN rfl) (X.assign (v := .bool _) rfl) (fun h => absurd h (by decide)) ?_
  refine X.dEnd (by kernel_rfl) ?_
  refine X.seq ?_
  refine X.seq ?_
  refine X.region ?_
  refine X.opw X.wN rfl (X.move (v := .bool _) rfl) ?_
  refine X.opw X.wN rfl (X.not_ rfl) ?_
  refine X.opsEnd ?_
  refine X.condB rfl (fun hc => ?_) (fun hc => ?_)
  · have haL : asc k s.L = none := by
      rw [asc_none]
      intro q hq e
      obtain ⟨v, hv, _⟩ := hP.there q.1 q.2 hq
      rw [e] at hv
      rw [hv] at hc; simp at hc
    refine X.seq ?_
    refine X.region ?_
    refine X.opw X.wN rfl (X.move rfl) ?_
    refine X.opw X.wN rfl (X.nilCk rfl) ?_
    refine X.opw X.wN rfl (X.fldB (j := 3) Try.underlying66 rfl rfl Try.sizeOf47 rfl) ?_
    refine X.opw X.wN rfl (X.fldB (j := 4) Try.underlying47 rfl rfl Try.sizeOf3 rfl) ?_
    refine X.opw X.wN rfl (X.load1B Try.isAgg3 (hB.keep ((hk1.trans hk2).trans hk3)) rfl rfl) ?_
    refine X.opw X.wN rfl (X.add (c := s.m + 1) rfl rfl (X.w_i64 (by omega))) ?_
    refine X.opw X.wN rfl (X.nilCk rfl) ?_
    refine X.opw X.wN rfl (X.fldB (j := 3) Try.underlying66 rfl rfl Try.sizeOf47 rfl) ?_
    refine X.opw X.wN rfl (X.fldB (j := 4) Try.underlying47 rfl rfl Try.sizeOf3 rfl) ?_
    refine X.opE X.wN rfl (X.storeE Try.sizeOf3 (hB.keep ((hk1.trans hk2).trans hk3)) rfl rfl rfl rfl) ?_
    rintro _ w4 ⟨hB4, hx4, hz4⟩
    refine X.opsEnd ?_
    refine X.seq ?_
    refine X.region ?_
    refine X.opw X.wN rfl (X.assign rfl) ?_
    refine X.opw X.wN rfl (X.assign rfl) ?_
    refine X.opsEnd ?_
    refine X.ret2 (v2 := (.bool _)) Try.func22 Try.results22 rfl rfl ?_
    rw [show Ca.get s k = { s with m := s.m + 1 } by simp [Ca.get, haL], haL]
    have hkx := (Ext.andThen (Ext.andThen (Ext.andThen (Ext.andThen (Ext.refl (fun q => q = bc ∨ TR q ∨ w.heap.size ≤ q) _) hk1 (by intro q h1 h2; first | exact (h2 : False).elim | exact .inl h2 | exact h2.elim .inl (fun h => .inr (h.imp id (fun h => by omega))) | exact h2.elim .inl (fun h => .inr (.inl h)) | exact .inr (.inr (by omega)) | (exfalso; (try simp only [] at *); omega))) hk2 (by intro q h1 h2; first | exact (h2 : False).elim | exact .inl h2 | exact h2.elim .inl (fun h => .inr (h.imp id (fun h => by omega))) | exact h2.elim .inl (fun h => .inr (.inl h)) | exact .inr (.inr (by omega)) | (exfalso; (try simp only [] at *); omega))) hk3 (by intro q h1 h2; first | exact (h2 : False).elim | exact .inl h2 | exact h2.elim .inl (fun h => .inr (h.imp id (fun h => by omega))) | exact h2.elim .inl (fun h => .inr (.inl h)) | exact .inr (.inr (by omega)) | (exfalso; (try simp only [] at *); omega))) hx4 (by intro q h1 h2; first | exact (h2 : False).elim | exact .inl h2 | exact h2.elim .inl (fun h => .inr (h.imp id (fun h => by omega))) | exact h2.elim .inl (fun h => .inr (.inl h)) | exact .inr (.inr (by omega)) | (exfalso; (try simp only [] at *); omega)))
    refine ⟨w.heap.size, w.heap.size, Nat.le_refl _, Nat.le_refl _, hkx.size, ⟨_, rfl, Told.nil _ _⟩, ⟨bm, A, n, c, mm, TR, TD, hB4, ((((hM.keep hk1).keep hk2).keep hk3).ext hx4 (by intros; omega) (fun q h1 h2 => hS.rc (by rw [← (show q = bc from h2)]; exact h1))), hG.ext hkx hUm, hP.ext hkx hUd, ?_⟩, hkx.mono hUT⟩
    exact { hS.up hkx.size with tc := .inl hS.tc, tm := .inl hS.tm, tr := fun q h => .inl (hS.tr q h), td := fun q h => .inl (hS.td q h), lt := fun q h => h.elim (fun h => (hS.up hkx.size).lt q h) (fun h => by omega) }
  · obtain ⟨v0, hv0⟩ : ∃ v0, asc k mm = some v0 := by
      cases ha : asc k mm with
      | none => rw [ha] at hc; simp at hc
      | some v => exact ⟨v, rfl⟩
    obtain ⟨⟨k0, p⟩, hpm, hk0⟩ := List.mem_map.1 (hP.only k v0 hv0)
    simp only at hk0
    subst hk0
    obtain ⟨v1, hv1, A0, c0, lo0, hi0, hve, hc0, hpT, hhi0, hpsl⟩ := hP.there _ _ hpm
    rw [hv0] at hv1
    cases hv1
    subst hve
    rw [hv0]
    have haL := asc_mem hP.nd hpm
    refine X.skip ?_
    refine X.seq ?_
    refine X.region ?_
    refine X.opw X.wN rfl (X.move rfl) ?_
    refine X.opw X.wN rfl (X.nilCk rfl) ?_
    refine X.opw X.wN rfl (X.fldB (j := 3) Try.underlying66 rfl rfl Try.sizeOf47 rfl) ?_
    refine X.opw X.wN rfl (X.fldB (j := 3) Try.underlying47 rfl rfl Try.sizeOf3 rfl) ?_
    refine X.opw X.wN rfl (X.load1B Try.isAgg3 (hB.keep ((hk1.trans hk2).trans hk3)) rfl rfl) ?_
    refine X.opw X.wN rfl (X.add (c := s.h + 1) rfl rfl (X.w_i64 (by omega))) ?_
    refine X.opw X.wN rfl (X.nilCk rfl) ?_
    refine X.opw X.wN rfl (X.fldB (j := 3) Try.underlying66 rfl rfl Try.sizeOf47 rfl) ?_
    refine X.opw X.wN rfl (X.fldB (j := 3) Try.underlying47 rfl rfl Try.sizeOf3 rfl) ?_
    refine X.opE X.wN rfl (X.storeE Try.sizeOf3 (hB.keep ((hk1.trans hk2).trans hk3)) rfl rfl rfl rfl) ?_
    rintro _ w5 ⟨hB5, hx5, hz5⟩
    refine X.opsEnd ?_
    refine X.seq ?_
    refine X.regionD (fun _ => False) 4 (by kernel_rfl) (by kernel_rfl) (fun w6 hk6 hz6 => ?_)
    refine X.dTake 3 rfl (by kernel_rfl) (by kernel_rfl) (by kernel_rfl) (X.dwN rfl) (fun w' hk' => X.loadNB Try.isAgg30 Try.sizeOf30 (((hB1.keep (hk2.trans hk3)).ext hx5 (by intros; (try simp only []); first | omega | (intro hq; have hq2 := hq; (try simp only [] at hq2); omega))).keep (hk6.trans hk')) rfl rfl rfl) ?_
    refine X.dStep (i := 0) (by kernel_rfl) rfl (X.dwN rfl) (X.move rfl) (fun _ => Ext.refl _ _) ?_
    refine X.dStep (i := 1) (by kernel_rfl) rfl (X.dwN rfl) (X.nilCk rfl) (fun _ => Ext.refl _ _) ?_
    refine X.dTake 2 rfl (by kernel_rfl) (by kernel_rfl) (by kernel_rfl) (X.dwN rfl) (fun w' hk' => X.fldB (j := 2) Try.underlying66 rfl rfl Try.sizeOf64 rfl) ?_
    refine X.dE (i := 4) (by kernel_rfl) rfl (X.dwN rfl) (X.callE (touch_c _ _ (show Blk _ bc (caL s.room (some bm) A n c (s.h + 1) s.m s.g) _ from (hB5.keep hk6)) (((((hM.keep hk1).keep hk2).keep hk3).ext hx5 (by intros; omega) (fun q h1 h2 => hS.rc (by rw [← (show q = bc from h2)]; exact h1))).keep hk6) hS.rc (by omega) hP.nd (fun q h => by have := hSw q h; omega)) Try.call27 rfl rfl) (fun _ _ _ h => absurd h (by decide)) ?_
    rintro _ w7 ⟨rfl, Aq, nq, cq, hBq, hMq, hx7⟩
    have hx7' := hx7.size
    refine X.dEnd (by kernel_rfl) ?_
    refine X.seq ?_
    refine X.region ?_
    refine X.opw X.wN rfl (X.move rfl) ?_
    refine X.opE X.wN rfl (X.callE (own_t _ (hpsl.ext (Ext.andThen (Ext.andThen (Ext.andThen (Ext.andThen (Ext.andThen (Ext.andThen (Ext.refl (fun q => q = bc ∨ TR q ∨ w.heap.size ≤ q) _) hk1 (by intro q h1 h2; first | exact (h2 : False).elim | exact .inl h2 | exact h2.elim .inl (fun h => .inr (h.imp id (fun h => by omega))) | exact h2.elim .inl (fun h => .inr (.inl h)) | exact .inr (.inr (by omega)) | (exfalso; (try simp only [] at *); omega))) hk2 (by intro q h1 h2; first | exact (h2 : False).elim | exact .inl h2 | exact h2.elim .inl (fun h => .inr (h.imp id (fun h => by omega))) | exact h2.elim .inl (fun h => .inr (.inl h)) | exact .inr (.inr (by omega)) | (exfalso; (try simp only [] at *); omega))) hk3 (by intro q h1 h2; first | exact (h2 : False).elim | exact .inl h2 | exact h2.elim .inl (fun h => .inr (h.imp id (fun h => by omega))) | exact h2.elim .inl (fun h => .inr (.inl h)) | exact .inr (.inr (by omega)) | (exfalso; (try simp only [] at *); omega))) hx5 (by intro q h1 h2; first | exact (h2 : False).elim | exact .inl h2 | exact h2.elim .inl (fun h => .inr (h.imp id (fun h => by omega))) | exact h2.elim .inl (fun h => .inr (.inl h)) | exact .inr (.inr (by omega)) | (exfalso; (try simp only [] at *); omega))) hk6 (by intro q h1 h2; first | exact (h2 : False).elim | exact .inl h2 | exact h2.elim .inl (fun h => .inr (h.imp id (fun h => by omega))) | exact h2.elim .inl (fun h => .inr (.inl h)) | exact .inr (.inr (by omega)) | (exfalso; (try simp only [] at *); omega))) hx7 (by intro q h1 h2; first | exact (h2 : False).elim | exact .inl h2 | exact h2.elim .inl (fun h => .inr (h.imp id (fun h => by omega))) | exact h2.elim .inl (fun h => .inr (.inl h)) | exact .inr (.inr (by omega)) | (exfalso; (try simp only [] at *); omega))) (fun q a b => hUd q (hpT q a b))) (by omega) (hP.ok _ hpm)) Try.call26 rfl rfl) ?_
    rintro v8 w8 ⟨hTo, hk8⟩
    have hk8' := hk8.size
    refine X.opw X.wN rfl (X.assign rfl) ?_
    refine X.opw X.wN rfl (X.assign rfl) ?_
    refine X.opsEnd ?_
    refine X.ret2 (v2 := (.bool _)) Try.func22 Try.results22 rfl rfl ?_
    have hget : Ca.get s k0 = { s with h := s.h + 1, L := (k0, p) :: s.L.filter fun q => decide (q.1 ≠ k0) } := by simp only [Ca.get, haL]
    rw [hget, haL]
    have hkx := (Ext.andThen (Ext.andThen (Ext.andThen (Ext.andThen (Ext.andThen (Ext.andThen (Ext.andThen (Ext.refl (fun q => q = bc ∨ TR q ∨ w.heap.size ≤ q) _) hk1 (by intro q h1 h2; first | exact (h2 : False).elim | exact .inl h2 | exact h2.elim .inl (fun h => .inr (h.imp id (fun h => by omega))) | exact h2.elim .inl (fun h => .inr (.inl h)) | exact .inr (.inr (by omega)) | (exfalso; (try simp only [] at *); omega))) hk2 (by intro q h1 h2; first | exact (h2 : False).elim | exact .inl h2 | exact h2.elim .inl (fun h => .inr (h.imp id (fun h => by omega))) | exact h2.elim .inl (fun h => .inr (.inl h)) | exact .inr (.inr (by omega)) | (exfalso; (try simp only [] at *); omega))) hk3 (by intro q h1 h2; first | exact (h2 : False).elim | exact .inl h2 | exact h2.elim .inl (fun h => .inr (h.imp id (fun h => by omega))) | exact h2.elim .inl (fun h => .inr (.inl h)) | exact .inr (.inr (by omega)) | (exfalso; (try simp only [] at *); omega))) hx5 (by intro q h1 h2; first | exact (h2 : False).elim | exact .inl h2 | exact h2.elim .inl (fun h => .inr (h.imp id (fun h => by omega))) | exact h2.elim .inl (fun h => .inr (.inl h)) | exact .inr (.inr (by omega)) | (exfalso; (try simp only [] at *); omega))) hk6 (by intro q h1 h2; first | exact (h2 : False).elim | exact .inl h2 | exact h2.elim .inl (fun h => .inr (h.imp id (fun h => by omega))) | exact h2.elim .inl (fun h => .inr (.inl h)) | exact .inr (.inr (by omega)) | (exfalso; (try simp only [] at *); omega))) hx7 (by intro q h1 h2; first | exact (h2 : False).elim | exact .inl h2 | exact h2.elim .inl (fun h => .inr (h.imp id (fun h => by omega))) | exact h2.elim .inl (fun h => .inr (.inl h)) | exact .inr (.inr (by omega)) | (exfalso; (try simp only [] at *); omega))) hk8 (by intro q h1 h2; first | exact (h2 : False).elim | exact .inl h2 | exact h2.elim .inl (fun h => .inr (h.imp id (fun h => by omega))) | exact h2.elim .inl (fun h => .inr (.inl h)) | exact .inr (.inr (by omega)) | (exfalso; (try simp only [] at *); omega)))
    refine ⟨w6.heap.size, w7.heap.size, by omega, by omega, by omega, ⟨_, rfl, hTo.mono fun q h => ⟨by omega, h.2⟩⟩, ⟨bm, Aq, nq, cq, mm, _, TD, (hBq.keep hk8), ?_, hG.ext hkx hUm, (hP.ext hkx hUd).front hpm, hS.grow (by omega) (by omega) hkx.size⟩, hkx.mono hUT⟩
    rw [show (List.map (·.1) ((k0, p) :: s.L.filter fun q => decide (q.1 ≠ k0))) = k0 :: (s.L.map (·.1)).filter fun x => decide (x ≠ k0) by rw [List.map_cons, map_filter_ne]]
    exact ((hMq.mono (T := fun q => TR q ∨ (w6.heap.size ≤ q ∧ q < w7.heap.size)) (fun q hq h => h.imp id (fun h => ⟨h, hq⟩))).keep hk8)
end Go.Proofs.Ytjjhddjllpihaaa

namespace Go.Proofs.Ytjjhddjllpihaaa
open Go Go.Proofs.Ytjjhddjllpihaaa.X
set_option linter.unusedVariables false
set_option linter.unusedSimpArgs false
def Ca.put (s : Ca) (k : PKEY) (p : List CD) : Ca := if s.room = 0 then s else
  if s.room < (((k, p) :: s.L.filter fun q => decide (q.1 ≠ k)).length : Int) then { s with L := ((k, p) :: s.L.filter fun q => decide (q.1 ≠ k)).dropLast, g := s.g + 1 }
  else { s with L := (k, p) :: s.L.filter fun q => decide (q.1 ≠ k) }
def Ca.drop (s : Ca) (nm : ByteArray) : Ca := { s with L := s.L.filter fun q => decide (q.1.1 ≠ nm) }
theorem Pgs.put {TD : Nat → Prop} {w : World} {mm : List (PKEY × Value)} {L : PGS} {k : PKEY} {p : List CD} {v : Value} (h : Pgs TD w mm L) (hv : PgV TD w v p) (hok : okPg p) : Pgs TD w (put k v mm) ((k, p) :: L.filter fun q => decide (q.1 ≠ k)) := by
  refine ⟨fun k' p' hp' => ?_, fun k' u hu => ?_, ?_, fun q hq => ?_⟩
  · rcases List.mem_cons.1 hp' with e | hp'
    · cases e; exact ⟨v, by rw [asc_put, if_pos rfl], hv⟩
    · obtain ⟨h1, h2⟩ := List.mem_filter.1 hp'
      obtain ⟨u, h3, h4⟩ := h.there k' p' h1
      exact ⟨u, by rw [asc_put, if_neg (by simpa using h2)]; exact h3, h4⟩
  · rw [List.map_cons, map_filter_ne]
    rw [asc_put] at hu
    by_cases e : k' = k
    · rw [e]; exact List.mem_cons_self
    · rw [if_neg e] at hu
      exact List.mem_cons_of_mem _ (List.mem_filter.2 ⟨h.only k' u hu, by simpa using e⟩)
  · rw [List.map_cons, map_filter_ne, List.nodup_cons]
    exact ⟨fun h => by have := (List.mem_filter.1 h).2; simp at this, h.nd.filter _⟩
  · rcases List.mem_cons.1 hq with rfl | hq
    · exact hok
    · exact h.ok q (List.mem_filter.1 hq).1
theorem Pgs.del {TD : Nat → Prop} {w : World} {mm : List (PKEY × Value)} {L : PGS} {x : PKEY} (h : Pgs TD w mm L) (hn : (mm.map (·.1)).Nodup) : Pgs TD w (del x mm) (L.filter fun q => decide (q.1 ≠ x)) := by
  refine ⟨fun k' p' hp' => ?_, fun k' u hu => ?_, ?_, fun q hq => h.ok q (List.mem_filter.1 hq).1⟩
  · obtain ⟨h1, h2⟩ := List.mem_filter.1 hp'
    obtain ⟨u, h3, h4⟩ := h.there k' p' h1
    exact ⟨u, by rw [asc_del hn, if_neg (by simpa using h2)]; exact h3, h4⟩
  · rw [asc_del hn] at hu
    split at hu
    · cases hu
    · rename_i e
      rw [map_filter_ne]
      exact List.mem_filter.2 ⟨h.only k' u hu, by simpa using e⟩
  · rw [map_filter_ne]; exact h.nd.filter _
theorem last_filter {L : PGS} {n : Nat} {x : PKEY × List CD} (hn : (L.map (·.1)).Nodup) (hl : L.length = n + 1) (hx : L[n]? = some x) : L.filter (fun q => decide (q.1 ≠ x.1)) = L.dropLast := by
  obtain ⟨M, hM⟩ : ∃ M, L = M ++ [x] := by
    refine ⟨L.take n, ?_⟩
    have := take_at hx
    rwa [List.take_of_length_le (by omega)] at this
  subst hM
  rw [List.dropLast_concat, List.filter_append, List.filter_cons, if_neg (by simp), List.filter_nil, List.append_nil, List.filter_eq_self]
  intro q hq
  rw [List.map_append, List.nodup_append] at hn
  simp only [decide_eq_true_eq]
  exact fun e => hn.2.2 q.1 (List.mem_map.2 ⟨q, hq, rfl⟩) x.1 (by simp) e
theorem mv_fst {κ ν μ : Type} (f : ν → μ) (m : List (κ × ν)) : (mv f m).map (·.1) = m.map (·.1) := by
  rw [mv, List.map_map]; rfl
theorem Mp_nd {w : World} {b : Nat} {mm : List (PKEY × Value)} (h : MPK w b mm) : (mm.map (·.1)).Nodup := by have := h.nodup; rwa [mv_fst] at this
-- f10 "(*pedigree/cache.Cache).Put" params [24, 30, 33] results [] -> [] nfree 0 ntmps 70 names ["c", "k", "p
set_option maxHeartbeats 4000000 in
set_option maxRecDepth 100000 in
theorem Put_c {T : Nat → Prop} {bc : Nat} {s : Ca} (k : PKEY) (w : World) (hC : CaIn T w bc s) {A2 : Option Addr} {n2 c2 lo2 hi2 : Nat} {pg : List CD} (hpg : Sl KC lo2 hi2 w A2 n2 pg) (hhi2 : hi2 ≤ w.heap.size) (hok : okPg pg) (hLn : s.L.length ≤ 10000) (hg : -1000000 ≤ s.g ∧ s.g ≤ 1000000) (hrm : 0 ≤ s.room) : Ret Try.prog 10 #[ptrV bc, encPK k, .slice A2 n2 c2] w fun r w' => r = .tuple #[] ∧ CaIn (fun q => T q ∨ (w.heap.size ≤ q ∧ q < w'.heap.size)) w' bc (s.put k pg) ∧ Ext T w w' := by
  obtain ⟨bm, A, n, c, mm, TR, TD, hB, hM, hG, hP, hS⟩ := hC
  have hbcl := hB.lt
  have hbml := hG.lt
  have hnl := hM.len
  rw [List.length_map] at hnl
  have hUd : ∀ q, TD q → ¬ (q = bc ∨ TR q ∨ w.heap.size ≤ q) := fun q h h2 => h2.elim (fun e => hS.dc (by rw [← e]; exact h)) (fun h2 => h2.elim (fun h3 => hS.rd q h3 h) (fun h3 => by have := hS.lt q (hS.td q h); omega))
  have hUm : ¬ (bm = bc ∨ TR bm ∨ w.heap.size ≤ bm) := fun h => h.elim (fun e => hS.cm e.symm) (fun h => h.elim hS.rm (fun h => by omega))
  have hSw : ∀ q, TR q → q < w.heap.size := fun q h => hS.lt q (hS.tr q h)
  have hUT : ∀ q, q < w.heap.size → (q = bc ∨ TR q ∨ w.heap.size ≤ q) → T q := fun q hq h => h.elim (fun e => by rw [e]; exact hS.tc) (fun h => h.elim (hS.tr q) (fun h => by omega))
  have hPd : ∀ q, TD q → ¬ (q = bc ∨ q = bm ∨ TR q ∨ w.heap.size ≤ q) := fun q h h2 => h2.elim (fun e => hS.dc (by rw [← e]; exact h)) (fun h2 => h2.elim (fun e => hS.dm (by rw [← e]; exact h)) (fun h2 => h2.elim (fun h3 => hS.rd q h3 h) (fun h3 => by have := hS.lt q (hS.td q h); omega)))
  have hPT : ∀ q, q < w.heap.size → (q = bc ∨ q = bm ∨ TR q ∨ w.heap.size ≤ q) → T q := fun q hq h => h.elim (fun e => by rw [e]; exact hS.tc) (fun h => h.elim (fun e => by rw [e]; exact hS.tm) (fun h => h.elim (hS.tr q) (fun h => by omega)))
  have hUm2 : ¬ (bm = bc ∨ TR bm ∨ w.heap.size ≤ bm) := hUm
  have hn2 := hpg.len
  refine X.enter Try.func10 rfl Try.ntmps10 rfl ?_
  refine X.seq ?_
  refine X.region ?_
  refine X.opE X.wN rfl (X.boxE rfl rfl) ?_
  rintro _ w1 ⟨rfl, hB1, hk1, hz1⟩
  refine X.opsEnd ?_
  refine X.seq ?_
  refine X.seq ?_
  refine X.region ?_
  refine X.opw X.wN rfl (X.move rfl) ?_
  refine X.opE X.wN rfl (X.callE (is_c _ (hB.keep hk1)) Try.call25 rfl rfl) ?_
  rintro _ w2 ⟨rfl, hk2⟩
  have hk2' := hk2.size
  refine X.opw X.wN rfl (X.not_ rfl) ?_
  refine X.opw X.wN rfl (X.move (v := .bool false) rfl) ?_
  refine X.opw (X.wG rfl rfl rfl) rfl (X.move rfl) ?_
  refine X.opw (X.wG rfl rfl rfl) rfl (X.nilCk rfl) ?_
  refine X.opw (X.wG rfl rfl rfl) rfl (X.fldB (j := 0) Try.underlying66 rfl rfl Try.sizeOf3 rfl) ?_
  refine X.opw (X.wG rfl rfl rfl) rfl (X.load1B Try.isAgg3 (hB.keep (hk1.trans hk2)) rfl rfl) ?_
  refine X.opP (X.wG rfl rfl rfl) rfl rfl (X.eqI rfl rfl) (fun h16 => ?_) (fun h16 => ?_)
  · refine X.opw X.wN rfl (X.pickF (v := .bool true) rfl rfl) ?_
    refine X.opsEnd ?_
    refine X.condT rfl ?_
    refine X.ret0 Try.func10 Try.results10 ?_
    have h0 : s.room = 0 := by omega
    rw [show s.put k pg = s by rw [Ca.put, if_pos h0]]
    have hkx := (hk1.trans hk2)
    exact ⟨rfl, ⟨bm, A, n, c, mm, TR, TD, (hB.keep (hk1.trans hk2)), hM.keep hkx, hG.keep hkx, hP.ext hkx (fun _ _ h => h), { hS.up hkx.size with tc := .inl hS.tc, tm := .inl hS.tm, tr := fun q h => .inl (hS.tr q h), td := fun q h => .inl (hS.td q h), lt := fun q h => h.elim (fun h => (hS.up hkx.size).lt q h) (fun h => h.2) }⟩, hkx.mono fun _ _ h => h.elim⟩
  · refine X.opw X.wN rfl (X.pickF (v := .bool false) rfl rfl) ?_
    refine X.opsEnd ?_
    refine X.condF rfl ?_
    refine X.skip ?_
    refine X.seq ?_
    refine X.regionD (fun _ => False) 7 (by kernel_rfl) (by kernel_rfl) (fun w3 hk3 hz3 => ?_)
    refine X.dTake 0 rfl (by kernel_rfl) (by kernel_rfl) (by kernel_rfl) (X.dwN rfl) (fun w' hk' => X.move rfl) ?_
    refine X.dTake 1 rfl (by kernel_rfl) (by kernel_rfl) (by kernel_rfl) (X.dwN rfl) (fun w' hk' => X.nilCk rfl) ?_
    refine X.dTake 2 rfl (by kernel_rfl) (by kernel_rfl) (by kernel_rfl) (X.dwN rfl) (fun w' hk' => X.fldB (j := 1) Try.underlying66 rfl rfl Try.sizeOf62 rfl) ?_
    refine X.dTake 3 rfl (by kernel_rfl) (by kernel_rfl) (by kernel_rfl) (X.dwN rfl) (fun w' hk' => X.load1B Try.isAgg62 (hB.keep (((hk1.trans hk2).trans hk3).trans hk')) rfl rfl) ?_
    refine X.dTake 4 rfl (by kernel_rfl) (by kernel_rfl) (by kernel_rfl) (X.dwN rfl) (fun w' hk' => X.loadNB Try.isAgg30 Try.sizeOf30 (hB1.keep ((hk2.trans hk3).trans hk')) rfl rfl rfl) ?_
    refine X.dTake 5 rfl (by kernel_rfl) (by kernel_rfl) (by kernel_rfl) (X.dwN rfl) (fun w' hk' => X.move (v := .slice _ _ _) rfl) ?_
    refine X.dE (i := 6) (by kernel_rfl) rfl (X.dwN rfl) (X.callE (own_t _ ((hpg.keep ((hk1.trans hk2).trans hk3))) (by omega) hok) Try.call26 rfl rfl) (by rintro vo w4 ⟨hTo, hk4⟩ _; exact hk4.mono (fun _ _ h => h.elim)) ?_
    rintro vo w4 ⟨hTo, hk4⟩
    have hk4' := hk4.size
    refine X.dE (i := 7) (by kernel_rfl) rfl (X.dwN rfl) (X.updateV (enc := fun x : PKEY => encPK x) (venc := fun v : Value => v) (v := vo) Try.underlying62 keyPk ((hG.ext (Ext.andThen (Ext.andThen (Ext.andThen (Ext.refl (fun q => q = bc ∨ TR q ∨ w.heap.size ≤ q) _) hk1 (by intro q h1 h2; first | exact (h2 : False).elim | exact .inl h2 | exact h2.elim .inl (fun h => .inr (h.imp id (fun h => by omega))) | exact h2.elim .inl (fun h => .inr (.inl h)) | exact .inr (.inr (by omega)) | (exfalso; (try simp only [] at *); omega))) hk2 (by intro q h1 h2; first | exact (h2 : False).elim | exact .inl h2 | exact h2.elim .inl (fun h => .inr (h.imp id (fun h => by omega))) | exact h2.elim .inl (fun h => .inr (.inl h)) | exact .inr (.inr (by omega)) | (exfalso; (try simp only [] at *); omega))) hk3 (by intro q h1 h2; first | exact (h2 : False).elim | exact .inl h2 | exact h2.elim .inl (fun h => .inr (h.imp id (fun h => by omega))) | exact h2.elim .inl (fun h => .inr (.inl h)) | exact .inr (.inr (by omega)) | (exfalso; (try simp only [] at *); omega))) hUm).keep hk4) rfl rfl rfl) (fun _ _ _ h => absurd h (by decide)) ?_
    rintro _ w5 ⟨hGu, hx5, hz5⟩
    refine X.dEnd (by kernel_rfl) ?_
    refine X.seq ?_
    refine X.regionD (fun _ => False) 4 (by kernel_rfl) (by kernel_rfl) (fun w6 hk6 hz6 => ?_)
    refine X.dTake 3 rfl (by kernel_rfl) (by kernel_rfl) (by kernel_rfl) (X.dwN rfl) (fun w' hk' => X.loadNB Try.isAgg30 Try.sizeOf30 (((hB1.keep ((hk2.trans hk3).trans hk4)).ext hx5 (by intros; (try simp only []); first | omega | (intro hq; have hq2 := hq; (try simp only [] at hq2); omega) | (intro hq; rcases hq with hq | hq | hq <;> first | omega | (have := hSw _ hq; omega) | (have := hRl _ hq; omega)))).keep (hk6.trans hk')) rfl rfl rfl) ?_
    refine X.dStep (i := 0) (by kernel_rfl) rfl (X.dwN rfl) (X.move rfl) (fun _ => Ext.refl _ _) ?_
    refine X.dStep (i := 1) (by kernel_rfl) rfl (X.dwN rfl) (X.nilCk rfl) (fun _ => Ext.refl _ _) ?_
    refine X.dTake 2 rfl (by kernel_rfl) (by kernel_rfl) (by kernel_rfl) (X.dwN rfl) (fun w' hk' => X.fldB (j := 2) Try.underlying66 rfl rfl Try.sizeOf64 rfl) ?_
    refine X.dE (i := 4) (by kernel_rfl) rfl (X.dwN rfl) (X.callE (touch_c k _ ((((((hB.keep hk1).keep hk2).keep hk3).keep hk4).ext hx5 (fun h => hS.cm h)).keep hk6) ((((((hM.keep hk1).keep hk2).keep hk3).keep hk4).ext hx5 (by intros; omega) (fun q h1 h2 => hS.rm (by rw [← (show q = bm from h2)]; exact h1))).keep hk6) hS.rc (by omega) hP.nd (fun q h => by have := hSw q h; omega)) Try.call27 rfl rfl) (fun _ _ _ h => absurd h (by decide)) ?_
    rintro _ w7 ⟨rfl, Aq, nq, cq, hBq, hMq, hx7⟩
    have hx7' := hx7.size
    refine X.dEnd (by kernel_rfl) ?_
    refine X.seq ?_
    refine X.region ?_
    refine X.opw X.wN rfl (X.move rfl) ?_
    refine X.opw X.wN rfl (X.nilCk rfl) ?_
    refine X.opw X.wN rfl (X.fldB (j := 2) Try.underlying66 rfl rfl Try.sizeOf64 rfl) ?_
    refine X.opw X.wN rfl (X.fldB (j := 2) Try.underlying64 rfl rfl Try.sizeOf28 rfl) ?_
    refine X.opw X.wN rfl (X.load1B Try.isAgg28 hBq rfl rfl) ?_
    have hMt := hMq.mono (T := (fun q => TR q ∨ (w6.heap.size ≤ q ∧ q < w7.heap.size))) (fun q hq h => h.imp id (fun h => ⟨h, hq⟩))
    have hnq := hMt.len
    have hL1 : ((k, pg) :: s.L.filter fun q => decide (q.1 ≠ k)).length = nq := by have e := hMq.len; rw [List.length_cons] at e; rw [List.length_cons, ← e, ← map_filter_ne, List.length_map]
    have hnb : nq ≤ 10001 := by have := List.length_filter_le (fun q : PKEY × List CD => decide (q.1 ≠ k)) s.L; rw [List.length_cons] at hL1; omega
    have hpv := (hTo.pg (Nat.le_refl _))
    have hP1 : Pgs (fun q => TD q ∨ (w3.heap.size ≤ q ∧ q < w4.heap.size)) w7 (put k vo mm) ((k, pg) :: s.L.filter fun q => decide (q.1 ≠ k)) := by
      have h0 := hP.ext (Ext.andThen (Ext.andThen (Ext.andThen (Ext.andThen (Ext.andThen (Ext.andThen (Ext.andThen (Ext.refl (fun q => q = bc ∨ q = bm ∨ TR q ∨ w.heap.size ≤ q) _) hk1 (by intro q h1 h2; first | exact (h2 : False).elim | exact .inl h2 | exact .inr (.inl h2) | exact h2.elim .inl (fun h => .inr (.inr (h.imp id (fun h => by omega)))) | exact h2.elim .inl (fun h => .inr (.inr (h.elim (fun h => h.imp id (fun h => by omega)) (fun h => .inr (by omega))))) | exact h2.elim .inl (fun h => .inr (.inr (.inl h))) | exact h2.elim .inl (fun h => .inr (.inr (h.imp id (fun h => by (try simp only [] at h); omega)))) | exact .inr (.inr (.inr (by omega))) | exact h2 | (exfalso; (try simp only [] at *); omega))) hk2 (by intro q h1 h2; first | exact (h2 : False).elim | exact .inl h2 | exact .inr (.inl h2) | exact h2.elim .inl (fun h => .inr (.inr (h.imp id (fun h => by omega)))) | exact h2.elim .inl (fun h => .inr (.inr (h.elim (fun h => h.imp id (fun h => by omega)) (fun h => .inr (by omega))))) | exact h2.elim .inl (fun h => .inr (.inr (.inl h))) | exact h2.elim .inl (fun h => .inr (.inr (h.imp id (fun h => by (try simp only [] at h); omega)))) | exact .inr (.inr (.inr (by omega))) | exact h2 | (exfalso; (try simp only [] at *); omega))) hk3 (by intro q h1 h2; first | exact (h2 : False).elim | exact .inl h2 | exact .inr (.inl h2) | exact h2.elim .inl (fun h => .inr (.inr (h.imp id (fun h => by omega)))) | exact h2.elim .inl (fun h => .inr (.inr (h.elim (fun h => h.imp id (fun h => by omega)) (fun h => .inr (by omega))))) | exact h2.elim .inl (fun h => .inr (.inr (.inl h))) | exact h2.elim .inl (fun h => .inr (.inr (h.imp id (fun h => by (try simp only [] at h); omega)))) | exact .inr (.inr (.inr (by omega))) | exact h2 | (exfalso; (try simp only [] at *); omega))) hk4 (by intro q h1 h2; first | exact (h2 : False).elim | exact .inl h2 | exact .inr (.inl h2) | exact h2.elim .inl (fun h => .inr (.inr (h.imp id (fun h => by omega)))) | exact h2.elim .inl (fun h => .inr (.inr (h.elim (fun h => h.imp id (fun h => by omega)) (fun h => .inr (by omega))))) | exact h2.elim .inl (fun h => .inr (.inr (.inl h))) | exact h2.elim .inl (fun h => .inr (.inr (h.imp id (fun h => by (try simp only [] at h); omega)))) | exact .inr (.inr (.inr (by omega))) | exact h2 | (exfalso; (try simp only [] at *); omega))) hx5 (by intro q h1 h2; first | exact (h2 : False).elim | exact .inl h2 | exact .inr (.inl h2) | exact h2.elim .inl (fun h => .inr (.inr (h.imp id (fun h => by omega)))) | exact h2.elim .inl (fun h => .inr (.inr (h.elim (fun h => h.imp id (fun h => by omega)) (fun h => .inr (by omega))))) | exact h2.elim .inl (fun h => .inr (.inr (.inl h))) | exact h2.elim .inl (fun h => .inr (.inr (h.imp id (fun h => by (try simp only [] at h); omega)))) | exact .inr (.inr (.inr (by omega))) | exact h2 | (exfalso; (try simp only [] at *); omega))) hk6 (by intro q h1 h2; first | exact (h2 : False).elim | exact .inl h2 | exact .inr (.inl h2) | exact h2.elim .inl (fun h => .inr (.inr (h.imp id (fun h => by omega)))) | exact h2.elim .inl (fun h => .inr (.inr (h.elim (fun h => h.imp id (fun h => by omega)) (fun h => .inr (by omega))))) | exact h2.elim .inl (fun h => .inr (.inr (.inl h))) | exact h2.elim .inl (fun h => .inr (.inr (h.imp id (fun h => by (try simp only [] at h); omega)))) | exact .inr (.inr (.inr (by omega))) | exact h2 | (exfalso; (try simp only [] at *); omega))) hx7 (by intro q h1 h2; first | exact (h2 : False).elim | exact .inl h2 | exact .inr (.inl h2) | exact h2.elim .inl (fun h => .inr (.inr (h.imp id (fun h => by omega)))) | exact h2.elim .inl (fun h => .inr (.inr (h.elim (fun h => h.imp id (fun h => by omega)) (fun h => .inr (by omega))))) | exact h2.elim .inl (fun h => .inr (.inr (.inl h))) | exact h2.elim .inl (fun h => .inr (.inr (h.imp id (fun h => by (try simp only [] at h); omega)))) | exact .inr (.inr (.inr (by omega))) | exact h2 | (exfalso; (try simp only [] at *); omega))) hPd
      refine (h0.mono fun q h => .inl h).put ?_ hok
      exact (((((hTo.pg (Nat.le_refl _)).ext hx5 (fun q a b => by have b : q = bm := b; have := a.1; omega)).ext hk6 (fun _ _ h => h)).ext hx7 (fun q a b => b.elim (fun b => by have := a.1; omega) (fun b => b.elim (fun b => by have := hSw q b; have := a.1; omega) (fun b => by have := a.2; omega))))).mono fun q h => .inr h
    have hRm : ∀ q, TR q ∨ (w6.heap.size ≤ q ∧ q < w7.heap.size) → ¬ q = bm := fun q h e => h.elim (fun h => hS.rm (by rw [← e]; exact h)) (fun h => by omega)
    have hRc : ∀ q, TR q ∨ (w6.heap.size ≤ q ∧ q < w7.heap.size) → ¬ q = bc := fun q h e => h.elim (fun h => hS.rc (by rw [← e]; exact h)) (fun h => by omega)
    have hRl : ∀ q, TR q ∨ (w6.heap.size ≤ q ∧ q < w7.heap.size) → q < w7.heap.size := fun q h => h.elim (fun h => by have := hSw q h; omega) (fun h => h.2)
    refine X.opw X.wN rfl (X.lenSl Try.underlying28 rfl) ?_
    refine X.opw X.wN rfl (X.assign (v := .int .i64 _) rfl) ?_
    refine X.opsEnd ?_
    refine X.seq ?_
    refine X.region ?_
    refine X.opw X.wN rfl (X.move (v := .int .i64 _) rfl) ?_
    refine X.opw X.wN rfl (X.move rfl) ?_
    refine X.opw X.wN rfl (X.nilCk rfl) ?_
    refine X.opw X.wN rfl (X.fldB (j := 0) Try.underlying66 rfl rfl Try.sizeOf3 rfl) ?_
    refine X.opw X.wN rfl (X.load1B Try.isAgg3 hBq rfl rfl) ?_
    refine X.opP X.wN rfl rfl (X.gtr rfl rfl) (fun h41 => ?_) (fun h41 => ?_)
    · have hmk : (k :: (s.L.map (·.1)).filter fun x => decide (x ≠ k)) = ((k, pg) :: s.L.filter fun q => decide (q.1 ≠ k)).map (·.1) := by rw [List.map_cons, map_filter_ne]
      obtain ⟨lq, hlq⟩ := getL (l := (k, pg) :: s.L.filter fun q => decide (q.1 ≠ k)) (nq - 1) hL1 (by omega)
      have hlk : (k :: (s.L.map (·.1)).filter fun x => decide (x ≠ k))[nq - 1]? = some lq.1 := by rw [hmk, List.getElem?_map, hlq]; rfl
      refine X.opsEnd ?_
      refine X.condT rfl ?_
      refine X.seq ?_
      refine X.region ?_
      refine X.opw X.wN rfl (X.move rfl) ?_
      refine X.opw X.wN rfl (X.nilCk rfl) ?_
      refine X.opw X.wN rfl (X.fldB (j := 2) Try.underlying66 rfl rfl Try.sizeOf64 rfl) ?_
      refine X.opw X.wN rfl (X.fldB (j := 2) Try.underlying64 rfl rfl Try.sizeOf28 rfl) ?_
      refine X.opw X.wN rfl (X.load1B Try.isAgg28 hBq rfl rfl) ?_
      refine X.opw X.wN rfl (X.move (v := .int .i64 _) rfl) ?_
      refine X.opw X.wN rfl (X.sub (c := ((nq - 1 : Nat) : Int)) rfl rfl (by rw [X.w_i64 (by omega)]; omega)) ?_
      refine X.opw X.wN rfl (X.idxS (mine_0 KPk_flat hMt 0 (fun _ _ => Nat.zero_le _)) Try.underlying28 Try.sizeOf30 rfl rfl ⟨by omega, by omega⟩) ?_
      refine X.opw X.wN rfl (X.loadSN Try.isAgg30 Try.sizeOf30 (mine_0 KPk_flat hMt 0 (fun _ _ => Nat.zero_le _)) hlk rfl (fun _ h => h.1) rfl) ?_
      refine X.opE X.wN rfl (X.allocE Try.zeroValue30 rfl) ?_
      rintro _ w8 ⟨rfl, hB8, hk8, hz8⟩
      refine X.opE X.wN rfl (X.storeNE Try.sizeOf30 hB8 rfl rfl rfl rfl (fun u hu => by simp at hu; rcases hu with rfl | rfl <;> rfl)) ?_
      rintro _ w9 ⟨hB9, hx9, hz9⟩
      refine X.opsEnd ?_
      refine X.seq ?_
      refine X.regionD (fun _ => False) 4 (by kernel_rfl) (by kernel_rfl) (fun w10 hk10 hz10 => ?_)
      refine X.dTake 3 rfl (by kernel_rfl) (by kernel_rfl) (by kernel_rfl) (X.dwN rfl) (fun w' hk' => X.loadNB Try.isAgg30 Try.sizeOf30 (hB9.keep (hk10.trans hk')) rfl rfl rfl) ?_
      refine X.dStep (i := 0) (by kernel_rfl) rfl (X.dwN rfl) (X.move rfl) (fun _ => Ext.refl _ _) ?_
      refine X.dStep (i := 1) (by kernel_rfl) rfl (X.dwN rfl) (X.nilCk rfl) (fun _ => Ext.refl _ _) ?_
      refine X.dTake 2 rfl (by kernel_rfl) (by kernel_rfl) (by kernel_rfl) (X.dwN rfl) (fun w' hk' => X.fldB (j := 2) Try.underlying66 rfl rfl Try.sizeOf64 rfl) ?_
      refine X.dE (i := 4) (by kernel_rfl) rfl (X.dwN rfl) (X.callE (fdrop_c lq.1 _ (hBq.keep ((hk8.step hx9 (by intros; (try simp only [] at *); omega)).trans hk10)) (((hMt.keep hk8).ext hx9 (by intros; omega) (fun q h1 h2 => by have := hRl q h1; have h2 : q = _ := h2; omega)).keep hk10) (fun h => h.elim hS.rc (fun h => by omega)) (by omega) (by rw [hmk]; exact (hP1).nd)) Try.call28 rfl rfl) (fun _ _ _ h => absurd h (by decide)) ?_
      rintro _ w11 ⟨rfl, Ad, nd, cd, hBd, hMd, hx11⟩
      have hx11' := hx11.size
      refine X.dEnd (by kernel_rfl) ?_
      refine X.seq ?_
      refine X.regionD (fun _ => False) 5 (by kernel_rfl) (by kernel_rfl) (fun w12 hk12 hz12 => ?_)
      refine X.dTake 4 rfl (by kernel_rfl) (by kernel_rfl) (by kernel_rfl) (X.dwN rfl) (fun w' hk' => X.loadNB Try.isAgg30 Try.sizeOf30 (((hB9.keep hk10).ext hx11 (by intros; (try simp only []); first | omega | (intro hq; have hq2 := hq; (try simp only [] at hq2); omega) | (intro hq; rcases hq with hq | hq | hq <;> first | omega | (have := hSw _ hq; omega) | (have := hRl _ hq; omega)))).keep (hk12.trans hk')) rfl rfl rfl) ?_
      refine X.dStep (i := 0) (by kernel_rfl) rfl (X.dwN rfl) (X.move rfl) (fun _ => Ext.refl _ _) ?_
      refine X.dStep (i := 1) (by kernel_rfl) rfl (X.dwN rfl) (X.nilCk rfl) (fun _ => Ext.refl _ _) ?_
      refine X.dStep (i := 2) (by kernel_rfl) rfl (X.dwN rfl) (X.fldB (j := 1) Try.underlying66 rfl rfl Try.sizeOf62 rfl) (fun _ => Ext.refl _ _) ?_
      refine X.dTake 3 rfl (by kernel_rfl) (by kernel_rfl) (by kernel_rfl) (X.dwN rfl) (fun w' hk' => X.load1B Try.isAgg62 (hBd.keep (hk12.trans hk')) rfl rfl) ?_
      refine X.dE (i := 5) (by kernel_rfl) rfl (X.dwN rfl) (X.deleteV (enc := fun x : PKEY => encPK x) (venc := fun v : Value => v) (a := lq.1) Try.underlying62 keyPk (((((((hGu.keep hk6).ext hx7 (fun h => h.elim (fun h => hS.cm h.symm) (fun h => h.elim hS.rm (fun h => by omega)))).keep hk8).ext hx9 (by (try simp only []); omega)).keep hk10).ext hx11 (fun h => h.elim (fun h => hS.cm h.symm) (fun h => hRm _ h rfl))).keep hk12) rfl rfl) (fun _ _ _ h => absurd h (by decide)) ?_
      rintro _ w13 ⟨rfl, hGd, hx13, hz13⟩
      refine X.dEnd (by kernel_rfl) ?_
      refine X.region ?_
      refine X.opw X.wN rfl (X.move rfl) ?_
      refine X.opw X.wN rfl (X.nilCk rfl) ?_
      refine X.opw X.wN rfl (X.fldB (j := 3) Try.underlying66 rfl rfl Try.sizeOf47 rfl) ?_
      refine X.opw X.wN rfl (X.fldB (j := 5) Try.underlying47 rfl rfl Try.sizeOf3 rfl) ?_
      refine X.opw X.wN rfl (X.load1B Try.isAgg3 ((hBd.keep hk12).ext hx13 (by intros; (try simp only []); first | omega | (intro hq; have hq2 := hq; (try simp only [] at hq2); omega) | (intro hq; rcases hq with hq | hq | hq <;> first | omega | (have := hSw _ hq; omega) | (have := hRl _ hq; omega)))) rfl rfl) ?_
      refine X.opw X.wN rfl (X.add (c := s.g + 1) rfl rfl (X.w_i64 (by omega))) ?_
      refine X.opw X.wN rfl (X.nilCk rfl) ?_
      refine X.opw X.wN rfl (X.fldB (j := 3) Try.underlying66 rfl rfl Try.sizeOf47 rfl) ?_
      refine X.opw X.wN rfl (X.fldB (j := 5) Try.underlying47 rfl rfl Try.sizeOf3 rfl) ?_
      refine X.opE X.wN rfl (X.storeE Try.sizeOf3 ((hBd.keep hk12).ext hx13 (by intros; (try simp only []); first | omega | (intro hq; have hq2 := hq; (try simp only [] at hq2); omega) | (intro hq; rcases hq with hq | hq | hq <;> first | omega | (have := hSw _ hq; omega) | (have := hRl _ hq; omega)))) rfl rfl rfl rfl) ?_
      rintro _ w14 ⟨hB14, hx14, hz14⟩
      refine X.opsEnd ?_
      refine X.end0 Try.func10 Try.results10 ?_
      have hput : s.put k pg = { s with L := ((k, pg) :: s.L.filter fun q => decide (q.1 ≠ k)).dropLast, g := s.g + 1 } := by rw [Ca.put, if_neg (by omega), if_pos (by rw [hL1]; omega)]
      have hlf := last_filter hP1.nd (show _ = (nq - 1) + 1 by rw [hL1]; omega) hlq
      rw [hput, ← hlf]
      have hkx := (Ext.andThen (Ext.andThen (Ext.andThen (Ext.andThen (Ext.andThen (Ext.andThen (Ext.andThen (Ext.andThen (Ext.andThen (Ext.andThen (Ext.andThen (Ext.andThen (Ext.andThen (Ext.andThen (Ext.refl (fun q => q = bc ∨ q = bm ∨ TR q ∨ w.heap.size ≤ q) _) hk1 (by intro q h1 h2; first | exact (h2 : False).elim | exact .inl h2 | exact .inr (.inl h2) | exact h2.elim .inl (fun h => .inr (.inr (h.imp id (fun h => by omega)))) | exact h2.elim .inl (fun h => .inr (.inr (h.elim (fun h => h.imp id (fun h => by omega)) (fun h => .inr (by omega))))) | exact h2.elim .inl (fun h => .inr (.inr (.inl h))) | exact h2.elim .inl (fun h => .inr (.inr (h.imp id (fun h => by (try simp only [] at h); omega)))) | exact .inr (.inr (.inr (by omega))) | exact h2 | (exfalso; (try simp only [] at *); omega))) hk2 (by intro q h1 h2; first | exact (h2 : False).elim | exact .inl h2 | exact .inr (.inl h2) | exact h2.elim .inl (fun h => .inr (.inr (h.imp id (fun h => by omega)))) | exact h2.elim .inl (fun h => .inr (.inr (h.elim (fun h => h.imp id (fun h => by omega)) (fun h => .inr (by omega))))) | exact h2.elim .inl (fun h => .inr (.inr (.inl h))) | exact h2.elim .inl (fun h => .inr (.inr (h.imp id (fun h => by (try simp only [] at h); omega)))) | exact .inr (.inr (.inr (by omega))) | exact h2 | (exfalso; (try simp only [] at *); omega))) hk3 (by intro q h1 h2; first | exact (h2 : False).elim | exact .inl h2 | exact .inr (.inl h2) | exact h2.elim .inl (fun h => .inr (.inr (h.imp id (fun h => by omega)))) | exact h2.elim .inl (fun h => .inr (.inr (h.elim (fun h => h.imp id (fun h => by omega)) (fun h => .inr (by omega))))) | exact h2.elim .inl (fun h => .inr (.inr (.inl h))) | exact h2.elim .inl (fun h => .inr (.inr (h.imp id (fun h => by (try simp only [] at h); omega)))) | exact .inr (.inr (.inr (by omega))) | exact h2 | (exfalso; (try simp only [] at *); omega))) hk4 (by intro q h1 h2; first | exact (h2 : False).elim | exact .inl h2 | exact .inr (.inl h2) | exact h2.elim .inl (fun h => .inr (.inr (h.imp id (fun h => by omega)))) | exact h2.elim .inl (fun h => .inr (.inr (h.elim (fun h => h.imp id (fun h => by omega)) (fun h => .inr (by omega))))) | exact h2.elim .inl (fun h => .inr (.inr (.inl h))) | exact h2.elim .inl (fun h => .inr (.inr (h.imp id (fun h => by (try simp only [] at h); omega)))) | exact .inr (.inr (.inr (by omega))) | exact h2 | (exfalso; (try simp only [] at *); omega))) hx5 (by intro q h1 h2; first | exact (h2 : False).elim | exact .inl h2 | exact .inr (.inl h2) | exact h2.elim .inl (fun h => .inr (.inr (h.imp id (fun h => by omega)))) | exact h2.elim .inl (fun h => .inr (.inr (h.elim (fun h => h.imp id (fun h => by omega)) (fun h => .inr (by omega))))) | exact h2.elim .inl (fun h => .inr (.inr (.inl h))) | exact h2.elim .inl (fun h => .inr (.inr (h.imp id (fun h => by (try simp only [] at h); omega)))) | exact .inr (.inr (.inr (by omega))) | exact h2 | (exfalso; (try simp only [] at *); omega))) hk6 (by intro q h1 h2; first | exact (h2 : False).elim | exact .inl h2 | exact .inr (.inl h2) | exact h2.elim .inl (fun h => .inr (.inr (h.imp id (fun h => by omega)))) | exact h2.elim .inl (fun h => .inr (.inr (h.elim (fun h => h.imp id (fun h => by omega)) (fun h => .inr (by omega))))) | exact h2.elim .inl (fun h => .inr (.inr (.inl h))) | exact h2.elim .inl (fun h => .inr (.inr (h.imp id (fun h => by (try simp only [] at h); omega)))) | exact .inr (.inr (.inr (by omega))) | exact h2 | (exfalso; (try simp only [] at *); omega))) hx7 (by intro q h1 h2; first | exact (h2 : False).elim | exact .inl h2 | exact .inr (.inl h2) | exact h2.elim .inl (fun h => .inr (.inr (h.imp id (fun h => by omega)))) | exact h2.elim .inl (fun h => .inr (.inr (h.elim (fun h => h.imp id (fun h => by omega)) (fun h => .inr (by omega))))) | exact h2.elim .inl (fun h => .inr (.inr (.inl h))) | exact h2.elim .inl (fun h => .inr (.inr (h.imp id (fun h => by (try simp only [] at h); omega)))) | exact .inr (.inr (.inr (by omega))) | exact h2 | (exfalso; (try simp only [] at *); omega))) hk8 (by intro q h1 h2; first | exact (h2 : False).elim | exact .inl h2 | exact .inr (.inl h2) | exact h2.elim .inl (fun h => .inr (.inr (h.imp id (fun h => by omega)))) | exact h2.elim .inl (fun h => .inr (.inr (h.elim (fun h => h.imp id (fun h => by omega)) (fun h => .inr (by omega))))) | exact h2.elim .inl (fun h => .inr (.inr (.inl h))) | exact h2.elim .inl (fun h => .inr (.inr (h.imp id (fun h => by (try simp only [] at h); omega)))) | exact .inr (.inr (.inr (by omega))) | exact h2 | (exfalso; (try simp only [] at *); omega))) hx9 (by intro q h1 h2; first | exact (h2 : False).elim | exact .inl h2 | exact .inr (.inl h2) | exact h2.elim .inl (fun h => .inr (.inr (h.imp id (fun h => by omega)))) | exact h2.elim .inl (fun h => .inr (.inr (h.elim (fun h => h.imp id (fun h => by omega)) (fun h => .inr (by omega))))) | exact h2.elim .inl (fun h => .inr (.inr (.inl h))) | exact h2.elim .inl (fun h => .inr (.inr (h.imp id (fun h => by (try simp only [] at h); omega)))) | exact .inr (.inr (.inr (by omega))) | exact h2 | (exfalso; (try simp only [] at *); omega))) hk10 (by intro q h1 h2; first | exact (h2 : False).elim | exact .inl h2 | exact .inr (.inl h2) | exact h2.elim .inl (fun h => .inr (.inr (h.imp id (fun h => by omega)))) | exact h2.elim .inl (fun h => .inr (.inr (h.elim (fun h => h.imp id (fun h => by omega)) (fun h => .inr (by omega))))) | exact h2.elim .inl (fun h => .inr (.inr (.inl h))) | exact h2.elim .inl (fun h => .inr (.inr (h.imp id (fun h => by (try simp only [] at h); omega)))) | exact .inr (.inr (.inr (by omega))) | exact h2 | (exfalso; (try simp only [] at *); omega))) hx11 (by intro q h1 h2; first | exact (h2 : False).elim | exact .inl h2 | exact .inr (.inl h2) | exact h2.elim .inl (fun h => .inr (.inr (h.imp id (fun h => by omega)))) | exact h2.elim .inl (fun h => .inr (.inr (h.elim (fun h => h.imp id (fun h => by omega)) (fun h => .inr (by omega))))) | exact h2.elim .inl (fun h => .inr (.inr (.inl h))) | exact h2.elim .inl (fun h => .inr (.inr (h.imp id (fun h => by (try simp only [] at h); omega)))) | exact .inr (.inr (.inr (by omega))) | exact h2 | (exfalso; (try simp only [] at *); omega))) hk12 (by intro q h1 h2; first | exact (h2 : False).elim | exact .inl h2 | exact .inr (.inl h2) | exact h2.elim .inl (fun h => .inr (.inr (h.imp id (fun h => by omega)))) | exact h2.elim .inl (fun h => .inr (.inr (h.elim (fun h => h.imp id (fun h => by omega)) (fun h => .inr (by omega))))) | exact h2.elim .inl (fun h => .inr (.inr (.inl h))) | exact h2.elim .inl (fun h => .inr (.inr (h.imp id (fun h => by (try simp only [] at h); omega)))) | exact .inr (.inr (.inr (by omega))) | exact h2 | (exfalso; (try simp only [] at *); omega))) hx13 (by intro q h1 h2; first | exact (h2 : False).elim | exact .inl h2 | exact .inr (.inl h2) | exact h2.elim .inl (fun h => .inr (.inr (h.imp id (fun h => by omega)))) | exact h2.elim .inl (fun h => .inr (.inr (h.elim (fun h => h.imp id (fun h => by omega)) (fun h => .inr (by omega))))) | exact h2.elim .inl (fun h => .inr (.inr (.inl h))) | exact h2.elim .inl (fun h => .inr (.inr (h.imp id (fun h => by (try simp only [] at h); omega)))) | exact .inr (.inr (.inr (by omega))) | exact h2 | (exfalso; (try simp only [] at *); omega))) hx14 (by intro q h1 h2; first | exact (h2 : False).elim | exact .inl h2 | exact .inr (.inl h2) | exact h2.elim .inl (fun h => .inr (.inr (h.imp id (fun h => by omega)))) | exact h2.elim .inl (fun h => .inr (.inr (h.elim (fun h => h.imp id (fun h => by omega)) (fun h => .inr (by omega))))) | exact h2.elim .inl (fun h => .inr (.inr (.inl h))) | exact h2.elim .inl (fun h => .inr (.inr (h.imp id (fun h => by (try simp only [] at h); omega)))) | exact .inr (.inr (.inr (by omega))) | exact h2 | (exfalso; (try simp only [] at *); omega)))
      refine ⟨rfl, ⟨bm, _, _, _, _, (fun q => TR q ∨ (w6.heap.size ≤ q ∧ q < w7.heap.size)), (fun q => TD q ∨ (w3.heap.size ≤ q ∧ q < w4.heap.size)), hB14, ?_, (hGd.ext hx14 (fun h => hS.cm h.symm)), ?_, ⟨hS.cm, fun e => hRc _ e rfl, fun e => hRm _ e rfl, fun e => e.elim hS.dc (fun e => by omega), fun e => e.elim hS.dm (fun e => by omega), fun q e hd => e.elim (fun e => hd.elim (hS.rd q e) (fun hd => by have := hSw q e; omega)) (fun e => hd.elim (fun hd => by have := hS.lt q (hS.td q hd); omega) (fun hd => by omega)), .inl hS.tc, .inl hS.tm, fun q e => e.imp (hS.tr q) (fun e => by omega), fun q e => e.imp (hS.td q) (fun e => by omega), fun q e => e.elim (fun e => by have := hS.lt q e; have := hkx.size; omega) (fun e => e.2)⟩⟩, hkx.mono hPT⟩
      · dsimp only
        rw [map_filter_ne, ← hmk]
        exact (((hMd.keep hk12).ext hx13 (by intros; omega) (fun q h1 h2 => hRm q h1 h2)).ext hx14 (by intros; omega) (fun q h1 h2 => hRc q h1 h2))
      · refine Pgs.ext ?_ (show Ext (fun q => q = bc ∨ q = bm ∨ (fun q => TR q ∨ (w6.heap.size ≤ q ∧ q < w7.heap.size)) q ∨ w7.heap.size ≤ q) w7 w14 from (Ext.andThen (Ext.andThen (Ext.andThen (Ext.andThen (Ext.andThen (Ext.andThen (Ext.andThen (Ext.refl _ _) hk8 (by intro q h1 h2; first | exact (h2 : False).elim | exact .inl h2 | exact .inr (.inl h2) | exact h2.elim .inl (fun h => .inr (.inr (.inl h))) | exact .inr (.inr (.inr (by omega))) | exact .inr (.inr (.inr (by (try simp only [] at h2); omega))))) hx9 (by intro q h1 h2; first | exact (h2 : False).elim | exact .inl h2 | exact .inr (.inl h2) | exact h2.elim .inl (fun h => .inr (.inr (.inl h))) | exact .inr (.inr (.inr (by omega))) | exact .inr (.inr (.inr (by (try simp only [] at h2); omega))))) hk10 (by intro q h1 h2; first | exact (h2 : False).elim | exact .inl h2 | exact .inr (.inl h2) | exact h2.elim .inl (fun h => .inr (.inr (.inl h))) | exact .inr (.inr (.inr (by omega))) | exact .inr (.inr (.inr (by (try simp only [] at h2); omega))))) hx11 (by intro q h1 h2; first | exact (h2 : False).elim | exact .inl h2 | exact .inr (.inl h2) | exact h2.elim .inl (fun h => .inr (.inr (.inl h))) | exact .inr (.inr (.inr (by omega))) | exact .inr (.inr (.inr (by (try simp only [] at h2); omega))))) hk12 (by intro q h1 h2; first | exact (h2 : False).elim | exact .inl h2 | exact .inr (.inl h2) | exact h2.elim .inl (fun h => .inr (.inr (.inl h))) | exact .inr (.inr (.inr (by omega))) | exact .inr (.inr (.inr (by (try simp only [] at h2); omega))))) hx13 (by intro q h1 h2; first | exact (h2 : False).elim | exact .inl h2 | exact .inr (.inl h2) | exact h2.elim .inl (fun h => .inr (.inr (.inl h))) | exact .inr (.inr (.inr (by omega))) | exact .inr (.inr (.inr (by (try simp only [] at h2); omega))))) hx14 (by intro q h1 h2; first | exact (h2 : False).elim | exact .inl h2 | exact .inr (.inl h2) | exact h2.elim .inl (fun h => .inr (.inr (.inl h))) | exact .inr (.inr (.inr (by omega))) | exact .inr (.inr (.inr (by (try simp only [] at h2); omega)))))) (fun q h h2 => ?_)
        · exact hP1.del (Mp_nd hGu)
        · exact h2.elim (fun e => h.elim (fun h => hS.dc (by rw [← e]; exact h)) (fun h => by omega)) (fun h2 => h2.elim (fun e => h.elim (fun h => hS.dm (by rw [← e]; exact h)) (fun h => by omega)) (fun h2 => h2.elim (fun h2 => h2.elim (fun h2 => h.elim (hS.rd q h2) (fun h => by have := hSw q h2; omega)) (fun h2 => h.elim (fun h => by have := hS.lt q (hS.td q h); omega) (fun h => by omega))) (fun h2 => h.elim (fun h => by have := hS.lt q (hS.td q h); omega) (fun h => by omega))))
    · refine X.opsEnd ?_
      refine X.condF rfl ?_
      refine X.skip ?_
      refine X.end0 Try.func10 Try.results10 ?_
      have hput : s.put k pg = { s with L := (k, pg) :: s.L.filter fun q => decide (q.1 ≠ k) } := by rw [Ca.put, if_neg (by omega), if_neg (by rw [hL1]; omega)]
      rw [hput]
      have hkx := (Ext.andThen (Ext.andThen (Ext.andThen (Ext.andThen (Ext.andThen (Ext.andThen (Ext.andThen (Ext.refl (fun q => q = bc ∨ q = bm ∨ TR q ∨ w.heap.size ≤ q) _) hk1 (by intro q h1 h2; first | exact (h2 : False).elim | exact .inl h2 | exact .inr (.inl h2) | exact h2.elim .inl (fun h => .inr (.inr (h.imp id (fun h => by omega)))) | exact h2.elim .inl (fun h => .inr (.inr (h.elim (fun h => h.imp id (fun h => by omega)) (fun h => .inr (by omega))))) | exact h2.elim .inl (fun h => .inr (.inr (.inl h))) | exact h2.elim .inl (fun h => .inr (.inr (h.imp id (fun h => by (try simp only [] at h); omega)))) | exact .inr (.inr (.inr (by omega))) | exact h2 | (exfalso; (try simp only [] at *); omega))) hk2 (by intro q h1 h2; first | exact (h2 : False).elim | exact .inl h2 | exact .inr (.inl h2) | exact h2.elim .inl (fun h => .inr (.inr (h.imp id (fun h => by omega)))) | exact h2.elim .inl (fun h => .inr (.inr (h.elim (fun h => h.imp id (fun h => by omega)) (fun h => .inr (by omega))))) | exact h2.elim .inl (fun h => .inr (.inr (.inl h))) | exact h2.elim .inl (fun h => .inr (.inr (h.imp id (fun h => by (try simp only [] at h); omega)))) | exact .inr (.inr (.inr (by omega))) | exact h2 | (exfalso; (try simp only [] at *); omega))) hk3 (by intro q h1 h2; first | exact (h2 : False).elim | exact .inl h2 | exact .inr (.inl h2) | exact h2.elim .inl (fun h => .inr (.inr (h.imp id (fun h => by omega)))) | exact h2.elim .inl (fun h => .inr (.inr (h.elim (fun h => h.imp id (fun h => by omega)) (fun h => .inr (by omega))))) | exact h2.elim .inl (fun h => .inr (.inr (.inl h))) | exact h2.elim .inl (fun h => .inr (.inr (h.imp id (fun h => by (try simp only [] at h); omega)))) | exact .inr (.inr (.inr (by omega))) | exact h2 | (exfalso; (try simp only [] at *); omega))) hk4 (by intro q h1 h2; first | exact (h2 : False).elim | exact .inl h2 | exact .inr (.inl h2) | exact h2.elim .inl (fun h => .inr (.inr (h.imp id (fun h => by omega)))) | exact h2.elim .inl (fun h => .inr (.inr (h.elim (fun h => h.imp id (fun h => by omega)) (fun h => .inr (by omega))))) | exact h2.elim .inl (fun h => .inr (.inr (.inl h))) | exact h2.elim .inl (fun h => .inr (.inr (h.imp id (fun h => by (try simp only [] at h); omega)))) | exact .inr (.inr (.inr (by omega))) | exact h2 | (exfalso; (try simp only [] at *); omega))) hx5 (by intro q h1 h2; first | exact (h2 : False).elim | exact .inl h2 | exact .inr (.inl h2) | exact h2.elim .inl (fun h => .inr (.inr (h.imp id (fun h => by omega)))) | exact h2.elim .inl (fun h => .inr (.inr (h.elim (fun h => h.imp id (fun h => by omega)) (fun h => .inr (by omega))))) | exact h2.elim .inl (fun h => .inr (.inr (.inl h))) | exact h2.elim .inl (fun h => .inr (.inr (h.imp id (fun h => by (try simp only [] at h); omega)))) | exact .inr (.inr (.inr (by omega))) | exact h2 | (exfalso; (try simp only [] at *); omega))) hk6 (by intro q h1 h2; first | exact (h2 : False).elim | exact .inl h2 | exact .inr (.inl h2) | exact h2.elim .inl (fun h => .inr (.inr (h.imp id (fun h => by omega)))) | exact h2.elim .inl (fun h => .inr (.inr (h.elim (fun h => h.imp id (fun h => by omega)) (fun h => .inr (by omega))))) | exact h2.elim .inl (fun h => .inr (.inr (.inl h))) | exact h2.elim .inl (fun h => .inr (.inr (h.imp id (fun h => by (try simp only [] at h); omega)))) | exact .inr (.inr (.inr (by omega))) | exact h2 | (exfalso; (try simp only [] at *); omega))) hx7 (by intro q h1 h2; first | exact (h2 : False).elim | exact .inl h2 | exact .inr (.inl h2) | exact h2.elim .inl (fun h => .inr (.inr (h.imp id (fun h => by omega)))) | exact h2.elim .inl (fun h => .inr (.inr (h.elim (fun h => h.imp id (fun h => by omega)) (fun h => .inr (by omega))))) | exact h2.elim .inl (fun h => .inr (.inr (.inl h))) | exact h2.elim .inl (fun h => .inr (.inr (h.imp id (fun h => by (try simp only [] at h); omega)))) | exact .inr (.inr (.inr (by omega))) | exact h2 | (exfalso; (try simp only [] at *); omega)))
      refine ⟨rfl, ⟨bm, _, _, _, _, (fun q => TR q ∨ (w6.heap.size ≤ q ∧ q < w7.heap.size)), (fun q => TD q ∨ (w3.heap.size ≤ q ∧ q < w4.heap.size)), hBq, ?_, ((hGu.keep hk6).ext hx7 (fun h => h.elim (fun h => hS.cm h.symm) (fun h => h.elim hS.rm (fun h => by omega)))), hP1, ⟨hS.cm, fun e => hRc _ e rfl, fun e => hRm _ e rfl, fun e => e.elim hS.dc (fun e => by omega), fun e => e.elim hS.dm (fun e => by omega), fun q e hd => e.elim (fun e => hd.elim (hS.rd q e) (fun hd => by have := hSw q e; omega)) (fun e => hd.elim (fun hd => by have := hS.lt q (hS.td q hd); omega) (fun hd => by omega)), .inl hS.tc, .inl hS.tm, fun q e => e.imp (hS.tr q) (fun e => by omega), fun q e => e.imp (hS.td q) (fun e => by omega), fun q e => e.elim (fun e => by have := hS.lt q e; have := hkx.size; omega) (fun e => e.2)⟩⟩, hkx.mono hPT⟩
      dsimp only
      rw [List.map_cons, map_filter_ne]
      exact hMt
end Go.Proofs.Ytjjhddjllpihaaa

namespace Go.Proofs.Ytjjhddjllpihaaa
open Go Go.Proofs.Ytjjhddjllpihaaa.X
set_option linter.unusedVariables false
set_option linter.unusedSimpArgs false
abbrev keyP (n : Int) : PKEY := (⟨#[97]⟩, n)
abbrev pageP (n : Int) : List CD := [([(1, n, ⟨#[]⟩)], 1)]
theorem pageP_ok (n : Int) : okPg (pageP n) := ⟨by simp, fun q hq => by simp at hq; rw [hq]; simp⟩
theorem litVI {w : World} {x : VAL} (h : okV x) : RepsV KV w [x] [.agg (encV x).toArray] := ⟨⟨encV x, rfl, rfl, h⟩, trivial⟩
theorem cd_step {p q : List CD} {i : Nat} {x y : CD} (h1 : p[i]? = some x) (h2 : q[i]? = some y) (ht : p.take i = q.take i) (h : x = y) : p.take (i + 1) = q.take (i + 1) := by rw [take_at h1, take_at h2, ht, h]
-- f9 "pedigree/pedigreelaw08.key" params [3] results [30] -> [(ResultVar.cell 2 30)] nfree 0 ntmps 5 names ["
set_option maxHeartbeats 4000000 in
set_option maxRecDepth 100000 in
theorem key_c (n : Int) (w : World) : Ret Try.prog 9 #[.int .i64 n] w fun r w' => r = encPK (keyP n) ∧ Keep w w' := by
  refine X.enter Try.func9 rfl Try.ntmps9 rfl ?_
  refine X.seq ?_
  refine X.region ?_
  refine X.opE X.wN rfl (X.allocE Try.zeroValue30 rfl) ?_
  rintro _ w1 ⟨rfl, hB1, hk1, hz1⟩
  refine X.opsEnd ?_
  refine X.seq ?_
  refine X.region ?_
  refine X.opw X.wN rfl (X.move (v := .int .i64 _) rfl) ?_
  refine X.opw X.wN rfl (X.buildB (vs := [(0, .string ⟨#[97]⟩), (1, .int .i64 n)]) (cs := #[.string ⟨#[97]⟩, .int .i64 n]) rfl (by kernel_rfl)) ?_
  refine X.opE X.wN rfl (X.storeNE Try.sizeOf30 hB1 rfl rfl rfl rfl (fun u hu => by simp at hu; rcases hu with rfl | rfl <;> rfl)) ?_
  rintro _ w2 ⟨hB2, hx2, hz2⟩
  refine X.opsEnd ?_
  refine X.ret_unw (X.unwR1 Try.func9 Try.results9 (X.ResOk.cell rfl (X.lvN Try.isAgg30 Try.sizeOf30 hB2 rfl)) ?_)
  exact ⟨rfl, (hk1.step hx2 (by intros; (try simp only [] at *); omega))⟩
-- f11 "pedigree/pedigreelaw08.page" params [2] results [33] -> [(ResultVar.tmp 2)] nfree 0 ntmps 8 names ["n"
set_option maxHeartbeats 4000000 in
set_option maxRecDepth 100000 in
theorem page_c (n : Int) (hn : okI n) (w : World) : Ret Try.prog 11 #[.int .i64 n] w fun r w' => ∃ A c, r = .slice A 1 c ∧ 1 ≤ c ∧ Sl KC w.heap.size w'.heap.size w' A 1 (pageP n) ∧ Keep w w' := by
  have h1 : okI 1 := by constructor <;> decide
  have h0 : ByteArray.size ⟨#[]⟩ ≤ 9223372036854775807 := by decide
  refine X.enter Try.func11 rfl Try.ntmps11 rfl ?_
  refine X.seq ?_
  refine X.region ?_
  refine X.opw X.wN rfl (X.assign rfl) ?_
  refine X.opsEnd ?_
  refine X.seq ?_
  refine X.region ?_
  refine X.opw X.wN rfl (X.move (v := .int .i64 _) rfl) ?_
  refine X.opw X.wN rfl (X.buildB (vs := [(0, .int .i64 1), (1, .int .i64 n)]) (cs := #[.int .i64 1, .int .i64 n, .string ⟨#[]⟩]) rfl (by kernel_rfl)) ?_
  refine X.opE X.wN rfl (X.litKF KV_flat (K := KV) (xs := [Operand.tmp 4]) (vs := [.agg (encV (1, n, ⟨#[]⟩)).toArray]) (ys := [(1, n, ⟨#[]⟩)]) Try.underlying74 Try.sizeOf72 Try.zeroValue72 rfl rfl rfl rfl rfl (litVI ⟨h1, hn, h0⟩)) ?_
  rintro _ w1 ⟨rfl, hs1, hB1, hk1, hz1⟩
  refine X.opw X.wN rfl (X.buildB (vs := [(0, .slice (some ⟨w.heap.size, 0, none⟩) 1 1), (1, .int .i64 1)]) (cs := #[.slice (some ⟨w.heap.size, 0, none⟩) 1 1, .int .i64 1]) rfl (by kernel_rfl)) ?_
  refine X.opE X.wN rfl (X.litKF KCt_flat (K := KCt) (xs := [Operand.tmp 6]) (vs := [evC ((some ⟨w.heap.size, 0, none⟩, 1, 1), 1)]) (ys := [((some ⟨w.heap.size, 0, none⟩, 1, 1), 1)]) Try.underlying33 Try.sizeOf76 Try.zeroValue76 rfl rfl rfl rfl rfl (repsC _)) ?_
  rintro _ w2 ⟨rfl, hs2, hB2, hk2, hz2⟩
  refine X.opw X.wN rfl (X.assign rfl) ?_
  refine X.opsEnd ?_
  refine X.ret1 Try.func11 Try.results11 rfl ?_
  have ht : Tups (fun k => w.heap.size ≤ k ∧ k < w2.heap.size) w2 [((some ⟨w.heap.size, 0, none⟩, 1, 1), 1)] (pageP n) := ⟨⟨rfl, h1, Nat.le_refl _, _, _, fun k a b => ⟨by omega, by omega⟩, (hs1.keep hk2)⟩, trivial⟩
  exact ⟨_, _, rfl, Nat.le_refl _, ht.sl (hs2.wide (by omega) (by omega)) (fun k h => h), (hk1.trans hk2)⟩
-- f24 "pedigree/pedigreeref07.Same" params [33, 33] results [4] -> [(ResultVar.tmp 4)] nfree 0 ntmps 42 names
set_option maxHeartbeats 4000000 in
set_option maxRecDepth 100000 in
theorem Same_c {lo1 hi1 lo2 hi2 : Nat} {A1 A2 : Option Addr} {n1 n2 c1 c2 : Nat} {p q : List CD} (w : World) (hp1 : Sl KC lo1 hi1 w A1 n1 p) (hp2 : Sl KC lo2 hi2 w A2 n2 q) : Ret Try.prog 24 #[.slice A1 n1 c1, .slice A2 n2 c2] w fun r w' => r = .bool (decide (p = q)) ∧ Keep w w' := by
  have hl1 := hp1.len
  have hl2 := hp2.len
  have hbd := hp1.bound
  obtain ⟨l1, hs1, ht1⟩ := sl_tups hp1
  obtain ⟨l2, hs2, ht2⟩ := sl_tups hp2
  refine X.enter Try.func24 rfl Try.ntmps24 rfl ?_
  refine X.seq ?_
  refine X.region ?_
  refine X.opw X.wN rfl (X.assign rfl) ?_
  refine X.opsEnd ?_
  refine X.seq ?_
  refine X.seq ?_
  refine X.region ?_
  refine X.opw X.wN rfl (X.move (v := .slice _ _ _) rfl) ?_
  refine X.opw X.wN rfl (X.lenSl Try.underlying33 rfl) ?_
  refine X.opw X.wN rfl (X.move (v := .slice _ _ _) rfl) ?_
  refine X.opw X.wN rfl (X.lenSl Try.underlying33 rfl) ?_
  refine X.opP X.wN rfl rfl (X.neI rfl rfl) (fun h10 => ?_) (fun h10 => ?_)
  · refine X.opsEnd ?_
    refine X.condT rfl ?_
    refine X.seq ?_
    refine X.region ?_
    refine X.opw X.wN rfl (X.assign rfl) ?_
    refine X.opsEnd ?_
    refine X.ret1 (v := (.bool _)) Try.func24 Try.results24 rfl ?_
    exact ⟨by congr 1; exact (decide_eq_false (fun e => h10 (by have := congrArg List.length e; omega))).symm, (Keep.refl _)⟩
  · refine X.opsEnd ?_
    refine X.condF rfl ?_
    refine X.skip ?_
    refine X.seq ?_
    refine X.seq ?_
    refine X.region ?_
    refine X.opw X.wN rfl (X.assign rfl) ?_
    refine X.opsEnd ?_
    refine X.block ?_
    -- LOOP live: 0=a, 1=b, 5=i*
    refine X.loopL (σ := Nat) (fun s => [(0, .slice A1 n1 c1), (1, .slice A2 n2 c2), (5, .int .i64 (s : Int))]) (fun s w' => s ≤ n1 ∧ s ≤ n2 ∧ p.take s = q.take s ∧ Keep w w') (fun s => n1 - s) 0 ⟨rfl, rfl, rfl, trivial⟩ ⟨Nat.zero_le _, Nat.zero_le _, rfl, (Keep.refl _)⟩ ?_
    rintro i b w1 ⟨hi1, hi2, ht, hk⟩ hback
    have hk' := hk.size
    refine X.seq ?_
    refine X.seq ?_
    refine X.region ?_
    refine X.opw X.wN rfl (X.move (v := .int .i64 _) rfl) ?_
    refine X.opw X.wN rfl (X.move (v := .slice _ _ _) rfl) ?_
    refine X.opw X.wN rfl (X.lenSl Try.underlying33 rfl) ?_
    refine X.opP X.wN rfl rfl (X.lss rfl rfl) (fun h14 => ?_) (fun h14 => ?_)
    · obtain ⟨x1, hx1⟩ := getL i hs1.len (by omega)
      obtain ⟨x2, hx2⟩ := getL i hs2.len (by omega)
      obtain ⟨q1, hq1, e1, _, _, la, ha, _, hst1⟩ := ht1.get hx1
      obtain ⟨q2, hq2, e2, _, _, lb, hb, _, hst2⟩ := ht2.get hx2
      refine X.opsEnd ?_
      refine X.condT rfl ?_
      refine X.skip ?_
      refine X.seq ?_
      refine X.block ?_
      refine X.seq ?_
      refine X.regionD (fun _ => False) 25 (by kernel_rfl) (by kernel_rfl) (fun w1 hk1 hz1 => ?_)
      refine X.dTake 0 rfl (by kernel_rfl) (by kernel_rfl) (by kernel_rfl) (X.dwN rfl) (fun w' hk' => X.move (v := .slice _ _ _) rfl) ?_
      refine X.dTake 1 rfl (by kernel_rfl) (by kernel_rfl) (by kernel_rfl) (X.dwN rfl) (fun w' hk' => X.move (v := .int .i64 _) rfl) ?_
      refine X.dTake 2 rfl (by kernel_rfl) (by kernel_rfl) (by kernel_rfl) (X.dwN rfl) (fun w' hk' => X.idxS (hs1.keep ((hk.trans hk1).trans hk')) Try.underlying33 Try.sizeOf76 rfl rfl ⟨by omega, by omega⟩) ?_
      refine X.dTake 3 rfl (by kernel_rfl) (by kernel_rfl) (by kernel_rfl) (X.dwN rfl) (fun w' hk' => X.fldA Try.underlying76 rfl rfl Try.sizeOf2) ?_
      refine X.dTake 4 rfl (by kernel_rfl) (by kernel_rfl) (by kernel_rfl) (X.dwN rfl) (fun w' hk' => X.loadSf Try.isAgg2 (hs1.keep ((hk.trans hk1).trans hk')) hx1 rfl (fun _ h => by rw [h.1]; rfl)) ?_
      refine X.dTake 5 rfl (by kernel_rfl) (by kernel_rfl) (by kernel_rfl) (X.dwN rfl) (fun w' hk' => X.move (v := .slice _ _ _) rfl) ?_
      refine X.dTake 6 rfl (by kernel_rfl) (by kernel_rfl) (by kernel_rfl) (X.dwN rfl) (fun w' hk' => X.move (v := .int .i64 _) rfl) ?_
      refine X.dTake 7 rfl (by kernel_rfl) (by kernel_rfl) (by kernel_rfl) (X.dwN rfl) (fun w' hk' => X.idxS (hs2.keep ((hk.trans hk1).trans hk')) Try.underlying33 Try.sizeOf76 rfl rfl ⟨by omega, by omega⟩) ?_
      refine X.dTake 8 rfl (by kernel_rfl) (by kernel_rfl) (by kernel_rfl) (X.dwN rfl) (fun w' hk' => X.fldA Try.underlying76 rfl rfl Try.sizeOf2) ?_
      refine X.dTake 9 rfl (by kernel_rfl) (by kernel_rfl) (by kernel_rfl) (X.dwN rfl) (fun w' hk' => X.loadSf Try.isAgg2 (hs2.keep ((hk.trans hk1).trans hk')) hx2 rfl (fun _ h => by rw [h.1]; rfl)) ?_
      refine X.dTake 10 rfl (by kernel_rfl) (by kernel_rfl) (by kernel_rfl) (X.dwN rfl) (fun w' hk' => X.neI rfl rfl) ?_
      refine X.dTake 11 rfl (by kernel_rfl) (by kernel_rfl) (by kernel_rfl) (X.dwN rfl) (fun w' hk' => X.move (v := .bool _) rfl) ?_
      refine X.dFork 28 rfl (fun h28 => ?_) (fun h28 => ?_)
      · refine X.dTakeS 12 rfl (by kernel_rfl) (by kernel_rfl) (by kernel_rfl) rfl rfl rfl rfl ?_
        refine X.dTakeS 13 rfl (by kernel_rfl) (by kernel_rfl) (by kernel_rfl) rfl rfl rfl rfl ?_
        refine X.dTakeS 14 rfl (by kernel_rfl) (by kernel_rfl) (by kernel_rfl) rfl rfl rfl rfl ?_
        refine X.dTakeS 15 rfl (by kernel_rfl) (by kernel_rfl) (by kernel_rfl) rfl rfl rfl rfl ?_
        refine X.dTakeS 16 rfl (by kernel_rfl) (by kernel_rfl) (by kernel_rfl) rfl rfl rfl rfl ?_
        refine X.dTakeS 17 rfl (by kernel_rfl) (by kernel_rfl) (by kernel_rfl) rfl rfl rfl rfl ?_
        refine X.dSkip (i := 18) (by kernel_rfl) rfl rfl rfl rfl rfl ?_
        refine X.dSkip (i := 19) (by kernel_rfl) rfl rfl rfl rfl rfl ?_
        refine X.dSkip (i := 20) (by kernel_rfl) rfl rfl rfl rfl rfl ?_
        refine X.dSkip (i := 21) (by kernel_rfl) rfl rfl rfl rfl rfl ?_
        refine X.dSkip (i := 22) (by kernel_rfl) rfl rfl rfl rfl rfl ?_
        refine X.dSkip (i := 23) (by kernel_rfl) rfl rfl rfl rfl rfl ?_
        refine X.dTake 24 rfl (by kernel_rfl) (by kernel_rfl) (by kernel_rfl) (X.dwN rfl) (fun w' hk' => X.pickT (v := .bool true) rfl rfl) ?_
        refine X.dEnd (by kernel_rfl) ?_
        refine X.condT rfl ?_
        refine X.seq ?_
        refine X.region ?_
        refine X.opw X.wN rfl (X.assign rfl) ?_
        refine X.opsEnd ?_
        refine X.ret1 (v := (.bool _)) Try.func24 Try.results24 rfl ?_
        refine ⟨by congr 1; refine (decide_eq_false (fun e => ?_)).symm; rw [e, hq2] at hq1; cases hq1; exact absurd (e1.trans e2.symm) (by simpa using h28), (hk.trans hk1)⟩
      · refine X.dTake 12 rfl (by kernel_rfl) (by kernel_rfl) (by kernel_rfl) (X.dwG rfl rfl rfl) (fun w' hk' => X.move (v := .slice _ _ _) rfl) ?_
        refine X.dTake 13 rfl (by kernel_rfl) (by kernel_rfl) (by kernel_rfl) (X.dwG rfl rfl rfl) (fun w' hk' => X.move (v := .int .i64 _) rfl) ?_
        refine X.dTake 14 rfl (by kernel_rfl) (by kernel_rfl) (by kernel_rfl) (X.dwG rfl rfl rfl) (fun w' hk' => X.idxS (hs1.keep ((hk.trans hk1).trans hk')) Try.underlying33 Try.sizeOf76 rfl rfl ⟨by omega, by omega⟩) ?_
        refine X.dTake 15 rfl (by kernel_rfl) (by kernel_rfl) (by kernel_rfl) (X.dwG rfl rfl rfl) (fun w' hk' => X.fldA Try.underlying76 rfl rfl Try.sizeOf74) ?_
        refine X.dTake 16 rfl (by kernel_rfl) (by kernel_rfl) (by kernel_rfl) (X.dwG rfl rfl rfl) (fun w' hk' => X.loadSf Try.isAgg74 (hs1.keep ((hk.trans hk1).trans hk')) hx1 rfl (fun _ h => by rw [h.1]; rfl)) ?_
        refine X.dTake 17 rfl (by kernel_rfl) (by kernel_rfl) (by kernel_rfl) (X.dwG rfl rfl rfl) (fun w' hk' => X.move (v := .slice _ _ _) rfl) ?_
        refine X.dTake 18 rfl (by kernel_rfl) (by kernel_rfl) (by kernel_rfl) (X.dwG rfl rfl rfl) (fun w' hk' => X.move (v := .int .i64 _) rfl) ?_
        refine X.dTake 19 rfl (by kernel_rfl) (by kernel_rfl) (by kernel_rfl) (X.dwG rfl rfl rfl) (fun w' hk' => X.idxS (hs2.keep ((hk.trans hk1).trans hk')) Try.underlying33 Try.sizeOf76 rfl rfl ⟨by omega, by omega⟩) ?_
        refine X.dTake 20 rfl (by kernel_rfl) (by kernel_rfl) (by kernel_rfl) (X.dwG rfl rfl rfl) (fun w' hk' => X.fldA Try.underlying76 rfl rfl Try.sizeOf74) ?_
        refine X.dTake 21 rfl (by kernel_rfl) (by kernel_rfl) (by kernel_rfl) (X.dwG rfl rfl rfl) (fun w' hk' => X.loadSf Try.isAgg74 (hs2.keep ((hk.trans hk1).trans hk')) hx2 rfl (fun _ h => by rw [h.1]; rfl)) ?_
        refine X.dE (i := 22) (by kernel_rfl) rfl (X.dwG rfl rfl rfl) (X.callE (R02Compare_c _ (hst1.keep (hk.trans hk1)) (hst2.keep (hk.trans hk1))) Try.call33 rfl rfl) (by rintro _ w2 ⟨rfl, hk2⟩ _; exact hk2.mono (fun _ _ h => h.elim)) ?_
        rintro _ w2 ⟨rfl, hk2⟩
        have hk2' := hk2.size
        refine X.dTake 23 rfl (by kernel_rfl) (by kernel_rfl) (by kernel_rfl) (X.dwG rfl rfl rfl) (fun w' hk' => X.neI rfl rfl) ?_
        refine X.dTake 24 rfl (by kernel_rfl) (by kernel_rfl) (by kernel_rfl) (X.dwN rfl) (fun w' hk' => X.pickF (v := .bool _) rfl rfl) ?_
        refine X.dEnd (by kernel_rfl) ?_
        refine X.condB rfl (fun hc => ?_) (fun hc => ?_)
        · refine X.seq ?_
          refine X.region ?_
          refine X.opw X.wN rfl (X.assign rfl) ?_
          refine X.opsEnd ?_
          refine X.ret1 (v := (.bool _)) Try.func24 Try.results24 rfl ?_
          refine ⟨by congr 1; refine (decide_eq_false (fun e => ?_)).symm; rw [e, hq2] at hq1; cases hq1; rw [cmpT_self] at hc; simp at hc, ((hk.trans hk1).trans hk2)⟩
        · refine X.skip ?_
          refine X.inBlock ?_
          refine X.region ?_
          refine X.opw X.wN rfl (X.move (v := .int .i64 _) rfl) ?_
          refine X.opw X.wN rfl (X.add rfl rfl (X.w_i64 (by omega))) ?_
          refine X.opw X.wN rfl (X.assign (v := .int .i64 _) rfl) ?_
          refine X.opsEnd ?_
          have hrd : q1 = q2 := by
            have e3 : x1.2 = x2.2 := by simpa using h28
            have e4 : q1.1 = q2.1 := (cmpT_0 _ _).1 (by simpa using hc)
            exact Prod.ext e4 (by rw [← e1, e3, e2])
          refine hback (i + 1) _ _ ⟨rfl, rfl, rfl, trivial⟩ ⟨by omega, by omega, cd_step hq1 hq2 ht hrd, ((hk.trans hk1).trans hk2)⟩ (by omega)
    · refine X.opsEnd ?_
      refine X.condF rfl ?_
      refine X.exit rfl ?_
      refine X.seq ?_
      refine X.region ?_
      refine X.opw X.wN rfl (X.assign rfl) ?_
      refine X.opsEnd ?_
      refine X.ret1 (v := (.bool _)) Try.func24 Try.results24 rfl ?_
      refine ⟨by congr 1; refine (decide_eq_true ?_).symm; rw [List.take_of_length_le (by omega), List.take_of_length_le (by omega)] at ht; exact ht, hk⟩
end Go.Proofs.Ytjjhddjllpihaaa

namespace Go.Proofs.Ytjjhddjllpihaaa
open Go Go.Proofs.Ytjjhddjllpihaaa.X
set_option linter.unusedVariables false
set_option linter.unusedSimpArgs false
theorem CaIn.mono {T T2 : Nat → Prop} {w : World} {bc : Nat} {s : Ca} (h : CaIn T w bc s) (hT : ∀ k, T k → T2 k) (hl : ∀ k, T2 k → k < w.heap.size) : CaIn T2 w bc s := by
  obtain ⟨bm, A, n, c, mm, TR, TD, h1, h2, h3, h4, h5⟩ := h
  exact ⟨bm, A, n, c, mm, TR, TD, h1, h2, h3, h4, { h5 with tc := hT _ h5.tc, tm := hT _ h5.tm, tr := fun k h => hT k (h5.tr k h), td := fun k h => hT k (h5.td k h), lt := hl }⟩
theorem New_e (rm : Int) (h : ¬ (rm < 0 ∨ 1024 < rm)) (w : World) : Ret Try.prog 8 #[.int .i64 rm] w fun r w' => ∃ bc, r = .tuple #[ptrV bc, .int .i64 0] ∧ CaIn (fun k => w.heap.size ≤ k ∧ k < w'.heap.size) w' bc ⟨rm, [], 0, 0, 0⟩ ∧ Keep w w' :=
  (New_c rm w).mono fun r w' q => by
    rcases q with ⟨q, _⟩ | ⟨_, bc, TT, e, hC, hT, hk⟩
    · exact absurd q h
    · exact ⟨bc, e, hC.mono (fun k hk => ⟨hT k hk, hC.lt k hk⟩) (fun k hk => hk.2), hk⟩
theorem Put_e {T : Nat → Prop} {bc : Nat} {s s' : Ca} (k : PKEY) (w : World) (hC : CaIn T w bc s) {A2 : Option Addr} {n2 c2 lo2 hi2 : Nat} {pg : List CD} (hpg : Sl KC lo2 hi2 w A2 n2 pg) (hhi2 : hi2 ≤ w.heap.size) (hok : okPg pg) (hLn : s.L.length ≤ 10000) (hg : -1000000 ≤ s.g ∧ s.g ≤ 1000000) (hrm : 0 ≤ s.room) (e : s.put k pg = s') : Ret Try.prog 10 #[ptrV bc, encPK k, .slice A2 n2 c2] w fun r w' => r = .tuple #[] ∧ CaIn (fun q => T q ∨ (w.heap.size ≤ q ∧ q < w'.heap.size)) w' bc s' ∧ Ext T w w' := e ▸ Put_c k w hC hpg hhi2 hok hLn hg hrm
theorem Told.sl {a b : Nat} {w : World} {v : Value} {p : List CD} (h : Told (fun q => a ≤ q ∧ q < b) w v p) : ∃ A c, v = .slice A p.length c ∧ p.length ≤ c ∧ Sl KC a b w A p.length p := by
  obtain ⟨A, c, l, TB, h1, h2, h3, h4, h5⟩ := h
  obtain ⟨A', c', e1, _, hs⟩ := (h3.flat KCt_flat (lo' := a) (hi' := b)).sl (fun k _ hk => hk.1)
  injection e1 with e1 e2 e3
  rw [← e1, ← e2] at hs
  exact ⟨A, c, h1, h2, h4.sl hs h5⟩
theorem Get_e {T : Nat → Prop} {bc : Nat} {s s' : Ca} {p : List CD} (k : PKEY) (w : World) (hC : CaIn T w bc s) (hLn : s.L.length ≤ 10000) (hh : -1000000 ≤ s.h ∧ s.h ≤ 1000000) (hms : -1000000 ≤ s.m ∧ s.m ≤ 1000000) (hk : asc k s.L = some p) (e : s.get k = s') : Ret Try.prog 22 #[ptrV bc, encPK k] w fun r w' => ∃ a b A c, w.heap.size ≤ a ∧ a ≤ b ∧ b ≤ w'.heap.size ∧ r = .tuple #[.slice A p.length c, .bool true] ∧ Sl KC b w'.heap.size w' A p.length p ∧ CaIn (fun q => T q ∨ (a ≤ q ∧ q < b)) w' bc s' ∧ Ext T w w' :=
  (Get_c k w hC hLn hh hms).mono fun r w' ⟨a, b, h1, h2, h3, ⟨v, h4, h5⟩, h6, h7⟩ => by
    rw [hk] at h4 h5
    obtain ⟨A, c, e1, _, hs⟩ := h5.sl
    subst e1
    exact ⟨a, b, A, c, h1, h2, h3, h4, hs, e ▸ h6, h7⟩
theorem eqPkT (a : PKEY) (w : World) : (Op.equalIn 10000 30 (.agg #[.string a.1, .int .i64 a.2]) (.agg #[.string a.1, .int .i64 a.2])).run Try.prog w = .ok true w := by have := eqPk a a w; simpa using this
theorem eqSt_guard : Try.prog.eqGuardType Try.prog.depth 47 = false := by kernel_rfl
theorem eqSt (a b : Int × Int × Int) (w : World) : (Op.equalIn 10000 47 (.agg #[.int .i64 a.1, .int .i64 a.2.1, .int .i64 a.2.2]) (.agg #[.int .i64 b.1, .int .i64 b.2.1, .int .i64 b.2.2])).run Try.prog w = .ok (decide (a = b)) w := by
  rw [run_equalIn_struct w 9999 _ _ _ (by simp [Program.fieldsOf, Try.underlying47]) (by kernel_rfl)]
  simp only [Program.fieldsOf, Try.underlying47]
  simp [Op.eqFields, part, Try.isAgg3, run_equalIn_int _ 9998 3 .i64 .i64 _ _ Try.underlying3]
  obtain ⟨a1, a2, a3⟩ := a
  obtain ⟨b1, b2, b3⟩ := b
  by_cases h1 : a1 = b1 <;> by_cases h2 : a2 = b2 <;> by_cases h3 : a3 = b3 <;> simp [h1, h2, h3]
theorem Same_e {lo1 hi1 lo2 hi2 : Nat} {A1 A2 : Option Addr} {n1 n2 c1 c2 : Nat} {p : List CD} (w : World) (hp1 : Sl KC lo1 hi1 w A1 n1 p) (hp2 : Sl KC lo2 hi2 w A2 n2 p) : Ret Try.prog 24 #[.slice A1 n1 c1, .slice A2 n2 c2] w fun r w' => r = .bool true ∧ Keep w w' :=
  (Same_c w hp1 hp2).mono fun r w' ⟨h1, h2⟩ => ⟨by rw [h1]; simp, h2⟩
abbrev awA : Ca := ⟨2, [], 0, 0, 0⟩
abbrev awB : Ca := ⟨2, [(keyP 1, pageP 1)], 0, 0, 0⟩
abbrev awC : Ca := ⟨2, [(keyP 2, pageP 2), (keyP 1, pageP 1)], 0, 0, 0⟩
abbrev awD : Ca := ⟨2, [(keyP 1, pageP 1), (keyP 2, pageP 2)], 1, 0, 0⟩
abbrev awE : Ca := ⟨2, [(keyP 3, pageP 3), (keyP 1, pageP 1)], 1, 0, 1⟩
theorem awAB : awA.put (keyP 1) (pageP 1) = awB := by simp [Ca.put, keyP]
theorem awBC : awB.put (keyP 2) (pageP 2) = awC := by simp [Ca.put, keyP]
theorem awCD : awC.get (keyP 1) = awD := by simp [Ca.get, asc, keyP]
theorem awCa : asc (keyP 1) awC.L = some (pageP 1) := by simp [asc, keyP]
theorem awDE : awD.put (keyP 3) (pageP 3) = awE := by simp [Ca.put, keyP]
theorem okS {n : Int} (h : -100 ≤ n ∧ n ≤ 100) : okI n := by constructor <;> omega
-- f7 "pedigree/pedigreelaw08.awake" params [] results [4] -> [(ResultVar.tmp 0)] nfree 0 ntmps 72 names ["", 
set_option maxHeartbeats 4000000 in
set_option maxRecDepth 100000 in
theorem awake_c (w : World) : Ret Try.prog 7 #[] w fun r w' => r = .bool true ∧ Keep w w' := by
  refine X.enter Try.func7 rfl Try.ntmps7 rfl ?_
  refine X.seq ?_
  refine X.region ?_
  refine X.opw X.wN rfl (X.assign rfl) ?_
  refine X.opsEnd ?_
  refine X.seq ?_
  refine X.region ?_
  refine X.opE X.wN rfl (X.callE (New_e _ (by omega) _) Try.call8 rfl rfl) ?_
  rintro _ w1 ⟨bc, rfl, hC1, hk1⟩
  have hk1' := hk1.size
  refine X.opw X.wN rfl (X.move rfl) ?_
  refine X.opw X.wN rfl (X.extr rfl rfl) ?_
  refine X.opw X.wN rfl (X.extr rfl rfl) ?_
  refine X.opw X.wN rfl (X.assign rfl) ?_
  refine X.opw X.wN rfl (X.assign (v := .int .i64 _) rfl) ?_
  refine X.opsEnd ?_
  refine X.seq ?_
  refine X.seq ?_
  refine X.region ?_
  refine X.opw X.wN rfl (X.move (v := .int .i64 _) rfl) ?_
  refine X.opw X.wN rfl (X.neI rfl rfl) ?_
  refine X.opw X.wN rfl (X.move (v := .bool false) rfl) ?_
  refine X.opw (X.wG rfl rfl rfl) rfl (X.move rfl) ?_
  refine X.opw (X.wG rfl rfl rfl) rfl (X.eqPtrN (A := some _) Try.underlying24 rfl rfl) ?_
  refine X.opw X.wN rfl (X.pickF (v := .bool false) rfl rfl) ?_
  refine X.opsEnd ?_
  refine X.condF rfl ?_
  refine X.skip ?_
  refine X.seq ?_
  refine X.region ?_
  refine X.opw X.wN rfl (X.move rfl) ?_
  refine X.opE X.wN rfl (X.callE (key_c _ _) Try.call9 rfl rfl) ?_
  rintro _ w2 ⟨rfl, hk2⟩
  have hk2' := hk2.size
  refine X.opE X.wN rfl (X.callE (page_c _ (okS (by omega)) _) Try.call11 rfl rfl) ?_
  rintro _ w3 ⟨A3, c3, rfl, hc3, hs3, hk3⟩
  have hk3' := hk3.size
  refine X.opE X.wN rfl (X.callE (Put_e (keyP 1) _ (hC1.keep (hk2.trans hk3)) hs3 (by omega) (pageP_ok 1) (by decide) (by decide) (by decide) awAB) Try.call10 rfl rfl) ?_
  rintro _ w4 ⟨rfl, hC4, hx4⟩
  have hx4' := hx4.size
  refine X.opsEnd ?_
  refine X.seq ?_
  refine X.region ?_
  refine X.opw X.wN rfl (X.move rfl) ?_
  refine X.opE X.wN rfl (X.callE (key_c _ _) Try.call9 rfl rfl) ?_
  rintro _ w5 ⟨rfl, hk5⟩
  have hk5' := hk5.size
  refine X.opE X.wN rfl (X.callE (page_c _ (okS (by omega)) _) Try.call11 rfl rfl) ?_
  rintro _ w6 ⟨A6, c6, rfl, hc6, hs6, hk6⟩
  have hk6' := hk6.size
  refine X.opE X.wN rfl (X.callE (Put_e (keyP 2) _ (hC4.keep (hk5.trans hk6)) hs6 (by omega) (pageP_ok 2) (by decide) (by decide) (by decide) awBC) Try.call10 rfl rfl) ?_
  rintro _ w7 ⟨rfl, hC7, hx7⟩
  have hx7' := hx7.size
  refine X.opsEnd ?_
  refine X.seq ?_
  refine X.region ?_
  refine X.opw X.wN rfl (X.move rfl) ?_
  refine X.opE X.wN rfl (X.callE (key_c _ _) Try.call9 rfl rfl) ?_
  rintro _ w8 ⟨rfl, hk8⟩
  have hk8' := hk8.size
  refine X.opE X.wN rfl (X.callE (Get_e (keyP 1) _ (hC7.keep hk8) (by decide) (by decide) (by decide) awCa awCD) Try.call22 rfl rfl) ?_
  rintro _ w9 ⟨ga, gb, gA, gc, hga, hgb, hgw, rfl, hgs, hC9, hx9⟩
  have hx9' := hx9.size
  refine X.opw X.wN rfl (X.move rfl) ?_
  refine X.opw X.wN rfl (X.extr rfl rfl) ?_
  refine X.opw X.wN rfl (X.extr rfl rfl) ?_
  refine X.opw X.wN rfl (X.assign (v := .slice _ _ _) rfl) ?_
  refine X.opw X.wN rfl (X.assign (v := .bool true) rfl) ?_
  refine X.opsEnd ?_
  refine X.seq ?_
  refine X.region ?_
  refine X.opw X.wN rfl (X.move rfl) ?_
  refine X.opE X.wN rfl (X.callE (key_c _ _) Try.call9 rfl rfl) ?_
  rintro _ w10 ⟨rfl, hk10⟩
  have hk10' := hk10.size
  refine X.opE X.wN rfl (X.callE (page_c _ (okS (by omega)) _) Try.call11 rfl rfl) ?_
  rintro _ w11 ⟨A11, c11, rfl, hc11, hs11, hk11⟩
  have hk11' := hk11.size
  refine X.opE X.wN rfl (X.callE (Put_e (keyP 3) _ (hC9.keep (hk10.trans hk11)) hs11 (by omega) (pageP_ok 3) (by decide) (by decide) (by decide) awDE) Try.call10 rfl rfl) ?_
  rintro _ w12 ⟨rfl, hC12, hx12⟩
  have hx12' := hx12.size
  refine X.opsEnd ?_
  refine X.seq ?_
  refine X.region ?_
  refine X.opw X.wN rfl (X.move rfl) ?_
  refine X.opE X.wN rfl (X.callE (Keys_c _ hC12 (by decide)) Try.call13 rfl rfl) ?_
  rintro _ w13 ⟨kA, kc, rfl, hkc, hkM, hk13⟩
  have hk13' := hk13.size
  refine X.opw X.wN rfl (X.assign (v := .slice _ _ _) rfl) ?_
  refine X.opsEnd ?_
  refine X.seq ?_
  refine X.regionD (fun _ => False) 36 (by kernel_rfl) (by kernel_rfl) (fun w14 hk14 hz14 => ?_)
  refine X.dTake 0 rfl (by kernel_rfl) (by kernel_rfl) (by kernel_rfl) (X.dwN rfl) (fun w' hk' => X.move (v := .bool true) rfl) ?_
  refine X.dTake 1 rfl (by kernel_rfl) (by kernel_rfl) (by kernel_rfl) (X.dwN rfl) (fun w' hk' => X.move (v := .bool true) rfl) ?_
  refine X.dTake 2 rfl (by kernel_rfl) (by kernel_rfl) (by kernel_rfl) (X.dwG rfl rfl rfl) (fun w' hk' => X.move (v := .slice _ _ _) rfl) ?_
  refine X.dE (i := 3) (by kernel_rfl) rfl (X.dwG rfl rfl rfl) (X.callE (page_c _ (okS (by omega)) _) Try.call11 rfl rfl) (by rintro _ w15 ⟨A15, c15, rfl, hc15, hs15, hk15⟩ _; exact hk15.mono (fun _ _ h => h.elim)) ?_
  rintro _ w15 ⟨A15, c15, rfl, hc15, hs15, hk15⟩
  have hk15' := hk15.size
  refine X.dE (i := 4) (by kernel_rfl) rfl (X.dwG rfl rfl rfl) (X.callE (Same_e _ (((hgs.keep (hk10.trans hk11)).ext hx12 (by intros; (try simp only []); first | omega | (intro hq; have hq2 := hq; (try simp only [] at hq2); omega))).keep ((hk13.trans hk14).trans hk15)) hs15) Try.call24 rfl rfl) (by rintro _ w16 ⟨rfl, hk16⟩ _; exact hk16.mono (fun _ _ h => h.elim)) ?_
  rintro _ w16 ⟨rfl, hk16⟩
  have hk16' := hk16.size
  refine X.dTake 5 rfl (by kernel_rfl) (by kernel_rfl) (by kernel_rfl) (X.dwN rfl) (fun w' hk' => X.pickT (v := .bool true) rfl rfl) ?_
  refine X.dTake 6 rfl (by kernel_rfl) (by kernel_rfl) (by kernel_rfl) (X.dwN rfl) (fun w' hk' => X.move (v := .bool true) rfl) ?_
  refine X.dTake 7 rfl (by kernel_rfl) (by kernel_rfl) (by kernel_rfl) (X.dwG rfl rfl rfl) (fun w' hk' => X.move (v := .slice _ _ _) rfl) ?_
  refine X.dTake 8 rfl (by kernel_rfl) (by kernel_rfl) (by kernel_rfl) (X.dwG rfl rfl rfl) (fun w' hk' => X.lenSl Try.underlying28 rfl) ?_
  refine X.dTake 9 rfl (by kernel_rfl) (by kernel_rfl) (by kernel_rfl) (X.dwG rfl rfl rfl) (fun w' hk' => X.eqI rfl rfl) ?_
  refine X.dTake 10 rfl (by kernel_rfl) (by kernel_rfl) (by kernel_rfl) (X.dwN rfl) (fun w' hk' => X.pickT (v := .bool true) rfl rfl) ?_
  refine X.dTake 11 rfl (by kernel_rfl) (by kernel_rfl) (by kernel_rfl) (X.dwN rfl) (fun w' hk' => X.move (v := .bool true) rfl) ?_
  refine X.dTake 12 rfl (by kernel_rfl) (by kernel_rfl) (by kernel_rfl) (X.dwG rfl rfl rfl) (fun w' hk' => X.move (v := .slice _ _ _) rfl) ?_
  refine X.dTake 13 rfl (by kernel_rfl) (by kernel_rfl) (by kernel_rfl) (X.dwG rfl rfl rfl) (fun w' hk' => X.idxS ((mine_0 KPk_flat hkM 0 (fun _ _ => Nat.zero_le _)).keep (((hk14.trans hk15).trans hk16).trans hk')) Try.underlying28 Try.sizeOf30 rfl rfl ⟨by first | omega | decide, by first | omega | decide⟩) ?_
  refine X.dTake 14 rfl (by kernel_rfl) (by kernel_rfl) (by kernel_rfl) (X.dwG rfl rfl rfl) (fun w' hk' => X.loadSN Try.isAgg30 Try.sizeOf30 ((mine_0 KPk_flat hkM 0 (fun _ _ => Nat.zero_le _)).keep (((hk14.trans hk15).trans hk16).trans hk')) (rfl : [keyP 3, keyP 1][0]? = some (keyP 3)) rfl (fun _ h => h.1) rfl) ?_
  refine X.dE (i := 15) (by kernel_rfl) rfl (X.dwG rfl rfl rfl) (X.callE (key_c _ _) Try.call9 rfl rfl) (by rintro _ w17 ⟨rfl, hk17⟩ _; exact hk17.mono (fun _ _ h => h.elim)) ?_
  rintro _ w17 ⟨rfl, hk17⟩
  have hk17' := hk17.size
  refine X.dTake 16 rfl (by kernel_rfl) (by kernel_rfl) (by kernel_rfl) (X.dwG rfl rfl rfl) (fun w' hk' => X.eqA eqPk_guard rfl rfl (eqPkT (keyP 3) _)) ?_
  refine X.dTake 17 rfl (by kernel_rfl) (by kernel_rfl) (by kernel_rfl) (X.dwN rfl) (fun w' hk' => X.pickT (v := .bool true) rfl rfl) ?_
  refine X.dTake 18 rfl (by kernel_rfl) (by kernel_rfl) (by kernel_rfl) (X.dwN rfl) (fun w' hk' => X.move (v := .bool true) rfl) ?_
  refine X.dTake 19 rfl (by kernel_rfl) (by kernel_rfl) (by kernel_rfl) (X.dwG rfl rfl rfl) (fun w' hk' => X.move (v := .slice _ _ _) rfl) ?_
  refine X.dTake 20 rfl (by kernel_rfl) (by kernel_rfl) (by kernel_rfl) (X.dwG rfl rfl rfl) (fun w' hk' => X.idxS ((mine_0 KPk_flat hkM 0 (fun _ _ => Nat.zero_le _)).keep ((((hk14.trans hk15).trans hk16).trans hk17).trans hk')) Try.underlying28 Try.sizeOf30 rfl rfl ⟨by first | omega | decide, by first | omega | decide⟩) ?_
  refine X.dTake 21 rfl (by kernel_rfl) (by kernel_rfl) (by kernel_rfl) (X.dwG rfl rfl rfl) (fun w' hk' => X.loadSN Try.isAgg30 Try.sizeOf30 ((mine_0 KPk_flat hkM 0 (fun _ _ => Nat.zero_le _)).keep ((((hk14.trans hk15).trans hk16).trans hk17).trans hk')) (rfl : [keyP 3, keyP 1][1]? = some (keyP 1)) rfl (fun _ h => h.1) rfl) ?_
  refine X.dE (i := 22) (by kernel_rfl) rfl (X.dwG rfl rfl rfl) (X.callE (key_c _ _) Try.call9 rfl rfl) (by rintro _ w18 ⟨rfl, hk18⟩ _; exact hk18.mono (fun _ _ h => h.elim)) ?_
  rintro _ w18 ⟨rfl, hk18⟩
  have hk18' := hk18.size
  refine X.dTake 23 rfl (by kernel_rfl) (by kernel_rfl) (by kernel_rfl) (X.dwG rfl rfl rfl) (fun w' hk' => X.eqA eqPk_guard rfl rfl (eqPkT (keyP 1) _)) ?_
  refine X.dTake 24 rfl (by kernel_rfl) (by kernel_rfl) (by kernel_rfl) (X.dwN rfl) (fun w' hk' => X.pickT (v := .bool true) rfl rfl) ?_
  refine X.dTake 25 rfl (by kernel_rfl) (by kernel_rfl) (by kernel_rfl) (X.dwN rfl) (fun w' hk' => X.move (v := .bool true) rfl) ?_
  refine X.dTake 26 rfl (by kernel_rfl) (by kernel_rfl) (by kernel_rfl) (X.dwG rfl rfl rfl) (fun w' hk' => X.move rfl) ?_
  refine X.dTake 28 rfl (by kernel_rfl) (by kernel_rfl) (by kernel_rfl) (X.dwG rfl rfl rfl) (fun w' hk' => X.buildB (vs := [(0, .int .i64 1), (2, .int .i64 1)]) (cs := #[.int .i64 1, .int .i64 0, .int .i64 1]) rfl (by kernel_rfl)) ?_
  refine X.dE (i := 27) (by kernel_rfl) rfl (X.dwG rfl rfl rfl) (X.callE (Stats_c _ (hC12.keep (((((hk13.trans hk14).trans hk15).trans hk16).trans hk17).trans hk18))) Try.call18 rfl rfl) (by rintro _ w19 ⟨rfl, hk19⟩ _; exact hk19.mono (fun _ _ h => h.elim)) ?_
  rintro _ w19 ⟨rfl, hk19⟩
  have hk19' := hk19.size
  refine X.dTake 29 rfl (by kernel_rfl) (by kernel_rfl) (by kernel_rfl) (X.dwG rfl rfl rfl) (fun w' hk' => X.eqA (b := true) eqSt_guard rfl rfl (eqSt (1, 0, 1) (1, 0, 1) _)) ?_
  refine X.dTake 30 rfl (by kernel_rfl) (by kernel_rfl) (by kernel_rfl) (X.dwN rfl) (fun w' hk' => X.pickT (v := .bool true) rfl rfl) ?_
  refine X.dTake 31 rfl (by kernel_rfl) (by kernel_rfl) (by kernel_rfl) (X.dwN rfl) (fun w' hk' => X.move (v := .bool true) rfl) ?_
  refine X.dTake 32 rfl (by kernel_rfl) (by kernel_rfl) (by kernel_rfl) (X.dwG rfl rfl rfl) (fun w' hk' => X.move rfl) ?_
  refine X.dE (i := 33) (by kernel_rfl) rfl (X.dwG rfl rfl rfl) (X.callE (Room_c _ (hC12.keep ((((((hk13.trans hk14).trans hk15).trans hk16).trans hk17).trans hk18).trans hk19))) Try.call19 rfl rfl) (by rintro _ w20 ⟨rfl, hk20⟩ _; exact hk20.mono (fun _ _ h => h.elim)) ?_
  rintro _ w20 ⟨rfl, hk20⟩
  have hk20' := hk20.size
  refine X.dTake 34 rfl (by kernel_rfl) (by kernel_rfl) (by kernel_rfl) (X.dwG rfl rfl rfl) (fun w' hk' => X.eqI rfl rfl) ?_
  refine X.dTake 35 rfl (by kernel_rfl) (by kernel_rfl) (by kernel_rfl) (X.dwN rfl) (fun w' hk' => X.pickT (v := .bool true) rfl rfl) ?_
  refine X.dStep (i := 36) (by kernel_rfl) rfl (X.dwN rfl) (X.assign (v := .bool true) rfl) (fun h => absurd h (by decide)) ?_
  refine X.dEnd (by kernel_rfl) ?_
  refine X.ret1 (v := (.bool _)) Try.func7 Try.results7 rfl ?_
  exact ⟨rfl, (((((((((((((((((((hk1.trans hk2).trans hk3).step hx4 (by intros; (try simp only [] at *); omega)).trans hk5).trans hk6).step hx7 (by intros; (try simp only [] at *); omega)).trans hk8).step hx9 (by intros; (try simp only [] at *); omega)).trans hk10).trans hk11).step hx12 (by intros; (try simp only [] at *); omega)).trans hk13).trans hk14).trans hk15).trans hk16).trans hk17).trans hk18).trans hk19).trans hk20)⟩
end Go.Proofs.Ytjjhddjllpihaaa

namespace Go.Proofs.Ytjjhddjllpihaaa
open Go Go.Proofs.Ytjjhddjllpihaaa.X
set_option linter.unusedVariables false
set_option linter.unusedSimpArgs false
/-- No cache, or an empty struct of one. -/
def Nob (w : World) (p : Option Addr) : Prop := p = none ∨ ∃ b, p = some ⟨b, 0, none⟩ ∧ Blk w b (caL 0 none none 0 0 0 0 0) 66
theorem Nob.keep {w w' : World} {p : Option Addr} (h : Nob w p) (k : Keep w w') : Nob w' p := h.imp id fun ⟨b, e, h⟩ => ⟨b, e, h.keep k⟩
theorem is_n (p : Option Addr) (w : World) (h : Nob w p) : Ret Try.prog 25 #[.pointer p] w fun r w' => r = .bool false ∧ Keep w w' := by
  rcases h with rfl | ⟨b, rfl, hB⟩
  · exact is0_c w
  · exact isz_c w hB
abbrev KOp : Kd (Int × PKEY × List CD) := Kd.pair KI (Kd.pair (Kd.pair KS KI) (Kd.slice KC))
theorem op_open {w : World} {cs : Array Value} {y : Int × PKEY × List CD} (g : KOp.R 0 w.heap.size w y cs.toList) : ∃ A n c, cs = #[.int .i64 y.1, .string y.2.1.1, .int .i64 y.2.1.2, .slice A n c] ∧ n ≤ c ∧ okI y.1 ∧ okI y.2.1.2 ∧ Sl KC 0 w.heap.size w A n y.2.2 := by
  obtain ⟨ca, cb, e, ⟨ea, h1⟩, cc, cd, rfl, ⟨ce, cf, rfl, ⟨ee, h2⟩, ⟨ef, h3⟩⟩, A, n, c, eg, h4, h5⟩ := g
  subst ea ee ef eg
  exact ⟨A, n, c, Array.toList_inj.1 e, h4, h1, h3, h5⟩
def KPt : Kd (Option Addr) := Kd.plain 1 (fun p => [.pointer p]) (fun _ => True) (fun _ => rfl) (fun _ u hu => by simp at hu; subst hu; rfl)
theorem KPt_flat : Flat KPt := fun h => h
theorem repsP2 {w : World} (p q : Option Addr) : RepsV KPt w [p, q] [.pointer p, .pointer q] := ⟨⟨_, rfl, rfl, trivial⟩, ⟨_, rfl, rfl, trivial⟩, trivial⟩
-- f10 "(*pedigree/cache.Cache).Put" params [24, 30, 33] results [] -> [] nfree 0 ntmps 70 names ["c", "k", "p
set_option maxHeartbeats 4000000 in
set_option maxRecDepth 100000 in
theorem Put_n (k : PKEY) (v : Value) (p : Option Addr) (w : World) (h : Nob w p) : Ret Try.prog 10 #[.pointer p, encPK k, v] w fun r w' => r = .tuple #[] ∧ Keep w w' := by
  refine X.enter Try.func10 rfl Try.ntmps10 rfl ?_
  refine X.seq ?_
  refine X.region ?_
  refine X.opE X.wN rfl (X.boxE rfl rfl) ?_
  rintro _ w1 ⟨rfl, hB1, hk1, hz1⟩
  refine X.opsEnd ?_
  refine X.seq ?_
  refine X.seq ?_
  refine X.region ?_
  refine X.opw X.wN rfl (X.move rfl) ?_
  refine X.opE X.wN rfl (X.callE (is_n p _ (h.keep hk1)) Try.call25 rfl rfl) ?_
  rintro _ w2 ⟨rfl, hk2⟩
  have hk2' := hk2.size
  refine X.opw X.wN rfl (X.not_ rfl) ?_
  refine X.opw X.wN rfl (X.move (v := .bool true) rfl) ?_
  refine X.opS rfl rfl rfl rfl rfl ?_
  refine X.opS rfl rfl rfl rfl rfl ?_
  refine X.opS rfl rfl rfl rfl rfl ?_
  refine X.opS rfl rfl rfl rfl rfl ?_
  refine X.opS rfl rfl rfl rfl rfl ?_
  refine X.opw X.wN rfl (X.pickT (v := .bool true) rfl rfl) ?_
  refine X.opsEnd ?_
  refine X.condT rfl ?_
  refine X.ret0 Try.func10 Try.results10 ?_
  exact ⟨rfl, (hk1.trans hk2)⟩
-- f22 "(*pedigree/cache.Cache).Get" params [24, 30] results [33, 4] -> [(ResultVar.tmp 4), (ResultVar.tmp 5)]
set_option maxHeartbeats 4000000 in
set_option maxRecDepth 100000 in
theorem Get_n (k : PKEY) (p : Option Addr) (w : World) (h : Nob w p) : Ret Try.prog 22 #[.pointer p, encPK k] w fun r w' => r = .tuple #[.slice none 0 0, .bool false] ∧ Keep w w' := by
  refine X.enter Try.func22 rfl Try.ntmps22 rfl ?_
  refine X.seq ?_
  refine X.region ?_
  refine X.opE X.wN rfl (X.boxE rfl rfl) ?_
  rintro _ w1 ⟨rfl, hB1, hk1, hz1⟩
  refine X.opw X.wN rfl (X.assign rfl) ?_
  refine X.opw X.wN rfl (X.assign rfl) ?_
  refine X.opsEnd ?_
  refine X.seq ?_
  refine X.seq ?_
  refine X.region ?_
  refine X.opw X.wN rfl (X.move rfl) ?_
  refine X.opE X.wN rfl (X.callE (is_n p _ (h.keep hk1)) Try.call25 rfl rfl) ?_
  rintro _ w2 ⟨rfl, hk2⟩
  have hk2' := hk2.size
  refine X.opw X.wN rfl (X.not_ rfl) ?_
  refine X.opsEnd ?_
  refine X.condT rfl ?_
  refine X.seq ?_
  refine X.region ?_
  refine X.opw X.wN rfl (X.assign rfl) ?_
  refine X.opw X.wN rfl (X.assign rfl) ?_
  refine X.opsEnd ?_
  refine X.ret2 (v2 := (.bool _)) Try.func22 Try.results22 rfl rfl ?_
  exact ⟨rfl, (hk1.trans hk2)⟩
-- f21 "(*pedigree/cache.Cache).Drop" params [24, 9] results [3] -> [(ResultVar.tmp 4)] nfree 0 ntmps 36 names
set_option maxHeartbeats 4000000 in
set_option maxRecDepth 100000 in
theorem Drop_n (nm : ByteArray) (p : Option Addr) (w : World) (h : Nob w p) : Ret Try.prog 21 #[.pointer p, .string nm] w fun r w' => r = .int .i64 0 ∧ Keep w w' := by
  refine X.enter Try.func21 rfl Try.ntmps21 rfl ?_
  refine X.seq ?_
  refine X.region ?_
  refine X.opw X.wN rfl (X.assign rfl) ?_
  refine X.opsEnd ?_
  refine X.seq ?_
  refine X.seq ?_
  refine X.region ?_
  refine X.opw X.wN rfl (X.move rfl) ?_
  refine X.opE X.wN rfl (X.callE (is_n p _ h) Try.call25 rfl rfl) ?_
  rintro _ w1 ⟨rfl, hk1⟩
  have hk1' := hk1.size
  refine X.opw X.wN rfl (X.not_ rfl) ?_
  refine X.opsEnd ?_
  refine X.condT rfl ?_
  refine X.seq ?_
  refine X.region ?_
  refine X.opw X.wN rfl (X.assign rfl) ?_
  refine X.opsEnd ?_
  refine X.ret1 (v := (.int .i64 _)) Try.func21 Try.results21 rfl ?_
  exact ⟨rfl, hk1⟩
-- f13 "(*pedigree/cache.Cache).Keys" params [24] results [28] -> [(ResultVar.tmp 2)] nfree 0 ntmps 12 names [
set_option maxHeartbeats 4000000 in
set_option maxRecDepth 100000 in
theorem Keys_n  (p : Option Addr) (w : World) (h : Nob w p) : Ret Try.prog 13 #[.pointer p] w fun r w' => r = .slice none 0 0 ∧ Keep w w' := by
  refine X.enter Try.func13 rfl Try.ntmps13 rfl ?_
  refine X.seq ?_
  refine X.region ?_
  refine X.opw X.wN rfl (X.assign rfl) ?_
  refine X.opsEnd ?_
  refine X.seq ?_
  refine X.seq ?_
  refine X.region ?_
  refine X.opw X.wN rfl (X.move rfl) ?_
  refine X.opE X.wN rfl (X.callE (is_n p _ h) Try.call25 rfl rfl) ?_
  rintro _ w1 ⟨rfl, hk1⟩
  have hk1' := hk1.size
  refine X.opw X.wN rfl (X.not_ rfl) ?_
  refine X.opsEnd ?_
  refine X.condT rfl ?_
  refine X.seq ?_
  refine X.region ?_
  refine X.opw X.wN rfl (X.assign rfl) ?_
  refine X.opsEnd ?_
  refine X.ret1 Try.func13 Try.results13 rfl ?_
  exact ⟨rfl, hk1⟩
-- f19 "(*pedigree/cache.Cache).Room" params [24] results [3] -> [(ResultVar.tmp 2)] nfree 0 ntmps 10 names ["
set_option maxHeartbeats 4000000 in
set_option maxRecDepth 100000 in
theorem Room_n  (p : Option Addr) (w : World) (h : Nob w p) : Ret Try.prog 19 #[.pointer p] w fun r w' => r = .int .i64 0 ∧ Keep w w' := by
  refine X.enter Try.func19 rfl Try.ntmps19 rfl ?_
  refine X.seq ?_
  refine X.region ?_
  refine X.opw X.wN rfl (X.assign rfl) ?_
  refine X.opsEnd ?_
  refine X.seq ?_
  refine X.seq ?_
  refine X.region ?_
  refine X.opw X.wN rfl (X.move rfl) ?_
  refine X.opE X.wN rfl (X.callE (is_n p _ h) Try.call25 rfl rfl) ?_
  rintro _ w1 ⟨rfl, hk1⟩
  have hk1' := hk1.size
  refine X.opw X.wN rfl (X.not_ rfl) ?_
  refine X.opsEnd ?_
  refine X.condT rfl ?_
  refine X.seq ?_
  refine X.region ?_
  refine X.opw X.wN rfl (X.assign rfl) ?_
  refine X.opsEnd ?_
  refine X.ret1 (v := (.int .i64 _)) Try.func19 Try.results19 rfl ?_
  exact ⟨rfl, hk1⟩
-- f18 "(*pedigree/cache.Cache).Stats" params [24] results [47] -> [(ResultVar.cell 2 47)] nfree 0 ntmps 11 na
set_option maxHeartbeats 4000000 in
set_option maxRecDepth 100000 in
theorem Stats_n  (p : Option Addr) (w : World) (h : Nob w p) : Ret Try.prog 18 #[.pointer p] w fun r w' => r = .agg #[.int .i64 0, .int .i64 0, .int .i64 0] ∧ Keep w w' := by
  refine X.enter Try.func18 rfl Try.ntmps18 rfl ?_
  refine X.seq ?_
  refine X.region ?_
  refine X.opE X.wN rfl (X.allocE Try.zeroValue47 rfl) ?_
  rintro _ w1 ⟨rfl, hB1, hk1, hz1⟩
  refine X.opsEnd ?_
  refine X.seq ?_
  refine X.seq ?_
  refine X.region ?_
  refine X.opw X.wN rfl (X.move rfl) ?_
  refine X.opE X.wN rfl (X.callE (is_n p _ (h.keep hk1)) Try.call25 rfl rfl) ?_
  rintro _ w2 ⟨rfl, hk2⟩
  have hk2' := hk2.size
  refine X.opw X.wN rfl (X.not_ rfl) ?_
  refine X.opsEnd ?_
  refine X.condT rfl ?_
  refine X.seq ?_
  refine X.region ?_
  refine X.opw X.wN rfl (X.buildB (vs := []) (cs := #[.int .i64 0, .int .i64 0, .int .i64 0]) rfl (by kernel_rfl)) ?_
  refine X.opE X.wN rfl (X.storeNE Try.sizeOf47 (hB1.keep hk2) rfl rfl rfl rfl (fun u hu => by simp at hu; rcases hu with rfl | rfl | rfl <;> rfl)) ?_
  rintro _ w3 ⟨hB3, hx3, hz3⟩
  refine X.opsEnd ?_
  refine X.ret_unw (X.unwR1 Try.func18 Try.results18 (X.ResOk.cell rfl (X.lvN Try.isAgg47 Try.sizeOf47 hB3 rfl)) ?_)
  exact ⟨rfl, ((hk1.trans hk2).step hx3 (by intros; (try simp only [] at *); omega))⟩
-- f6 "pedigree/pedigreelaw08.CacheNobody" params [44] results [4] -> [(ResultVar.tmp 2)] nfree 0 ntmps 63 nam
set_option maxHeartbeats 4000000 in
set_option maxRecDepth 100000 in
theorem CacheNobody_c (w : World) (cs : Array Value) (y : Int × PKEY × List CD) (g : KOp.R 0 w.heap.size w y cs.toList) : Ret Try.prog 6 #[.agg cs] w fun r w' => r = .bool true ∧ Keep w w' := by
  obtain ⟨A, n, c, rfl, hnc, ho1, ho2, hs⟩ := op_open g
  refine X.enter Try.func6 rfl Try.ntmps6 rfl ?_
  refine X.seq ?_
  refine X.region ?_
  refine X.opE X.wN rfl (X.boxE rfl rfl) ?_
  rintro _ w1 ⟨rfl, hB1, hk1, hz1⟩
  refine X.opw X.wN rfl (X.assign rfl) ?_
  refine X.opsEnd ?_
  refine X.seq ?_
  refine X.region ?_
  refine X.opw X.wN rfl (X.assign rfl) ?_
  refine X.opsEnd ?_
  refine X.seq ?_
  refine X.seq ?_
  refine X.region ?_
  refine X.opw X.wN rfl (X.move rfl) ?_
  refine X.opw X.wN rfl (X.buildB (vs := []) (cs := #[.int .i64 0, .map none, .slice none 0 0, .int .i64 0, .int .i64 0, .int .i64 0]) rfl (by kernel_rfl)) ?_
  refine X.opE X.wN rfl (X.boxE rfl rfl) ?_
  rintro _ w2 ⟨rfl, hB2, hk2, hz2⟩
  refine X.opE X.wN rfl (X.litKF KPt_flat (K := KPt) (xs := [Operand.tmp 8, Operand.tmp 10]) (vs := [.pointer none, .pointer (some ⟨w1.heap.size, 0, none⟩)]) (ys := [none, some ⟨w1.heap.size, 0, none⟩]) Try.underlying67 Try.sizeOf24 Try.zeroValue24 rfl rfl rfl rfl rfl (repsP2 _ _)) ?_
  rintro _ w3 ⟨rfl, hs3, hB3, hk3, hz3⟩
  refine X.opw X.wN rfl (X.lenSl Try.underlying67 rfl) ?_
  refine X.opw X.wN rfl (X.move rfl) ?_
  refine X.opsEnd ?_
  refine X.block ?_
  -- LOOP live: 1=o, 11, 12, 13*
  refine X.loopL (σ := Nat) (fun s => [(1, .pointer (some ⟨w.heap.size, 0, none⟩)), (11, .slice (some ⟨w2.heap.size, 0, none⟩) 2 2), (12, .int .i64 2), (13, .int .i64 (s : Int))]) (fun s w' => s ≤ 2 ∧ Blk w' (w.heap.size) [.int .i64 y.1, .string y.2.1.1, .int .i64 y.2.1.2, .slice A n c] 44 ∧ Blk w' (w1.heap.size) (caL 0 none none 0 0 0 0 0) 66 ∧ Sl KPt 0 w'.heap.size w' (some ⟨w2.heap.size, 0, none⟩) 2 [none, some ⟨w1.heap.size, 0, none⟩] ∧ Keep w w') (fun s => 2 - s) 0 ⟨rfl, rfl, rfl, rfl, trivial⟩ ⟨by omega, (hB1.keep (hk2.trans hk3)), (hB2.keep hk3), (hs3).wide (by omega) (by omega), ((hk1.trans hk2).trans hk3)⟩ ?_
  rintro i b0 wl ⟨hi, hBo, hBz, hsl, hk⟩ hback
  have hk' := hk.size
  refine X.seq ?_
  refine X.region ?_
  refine X.opP X.wN rfl rfl (X.lss rfl rfl) (fun h14 => ?_) (fun h14 => ?_)
  · obtain ⟨x, hx⟩ := getL (l := [none, some _]) i (n := 2) rfl (by omega)
    have hN : Nob wl x := by
      have h01 : i = 0 ∨ i = 1 := by omega
      rcases h01 with rfl | rfl
      · simp at hx; exact .inl hx.symm
      · simp at hx; exact .inr ⟨_, hx.symm, hBz⟩
    refine X.opsEnd ?_
    refine X.seq ?_
    refine X.condT rfl ?_
    refine X.skip ?_
    refine X.seq ?_
    refine X.block ?_
    refine X.seq ?_
    refine X.region ?_
    refine X.opw X.wN rfl (X.idxS hsl Try.underlying67 Try.sizeOf24 rfl rfl ⟨by omega, by omega⟩) ?_
    refine X.opw X.wN rfl (X.loadS Try.isAgg24 hsl hx rfl (fun _ h => by rw [h.1]; rfl)) ?_
    refine X.opw X.wN rfl (X.assign rfl) ?_
    refine X.opsEnd ?_
    refine X.seq ?_
    refine X.region ?_
    refine X.opw X.wN rfl (X.move rfl) ?_
    refine X.opw X.wN rfl (X.fldB (j := 1) Try.underlying44 rfl rfl Try.sizeOf30 rfl) ?_
    refine X.opw X.wN rfl (X.loadNB Try.isAgg30 Try.sizeOf30 hBo rfl rfl rfl) ?_
    refine X.opw X.wN rfl (X.fldB (j := 3) Try.underlying44 rfl rfl Try.sizeOf33 rfl) ?_
    refine X.opw X.wN rfl (X.load1B Try.isAgg33 hBo rfl rfl) ?_
    refine X.opE X.wN rfl (X.callE (Put_n (y.2.1.1, y.2.1.2) _ x _ hN) Try.call10 rfl rfl) ?_
    rintro _ w4 ⟨rfl, hk4⟩
    have hk4' := hk4.size
    refine X.opsEnd ?_
    refine X.seq ?_
    refine X.region ?_
    refine X.opw X.wN rfl (X.move rfl) ?_
    refine X.opw X.wN rfl (X.fldB (j := 1) Try.underlying44 rfl rfl Try.sizeOf30 rfl) ?_
    refine X.opw X.wN rfl (X.loadNB Try.isAgg30 Try.sizeOf30 (hBo.keep hk4) rfl rfl rfl) ?_
    refine X.opE X.wN rfl (X.callE (Get_n (y.2.1.1, y.2.1.2) x _ (hN.keep hk4)) Try.call22 rfl rfl) ?_
    rintro _ w5 ⟨rfl, hk5⟩
    have hk5' := hk5.size
    refine X.opw X.wN rfl (X.move rfl) ?_
    refine X.opw X.wN rfl (X.extr rfl rfl) ?_
    refine X.opw X.wN rfl (X.extr rfl rfl) ?_
    refine X.opw X.wN rfl (X.assign rfl) ?_
    refine X.opw X.wN rfl (X.assign (v := .bool false) rfl) ?_
    refine X.opsEnd ?_
    refine X.seq ?_
    refine X.region ?_
    refine X.opw X.wN rfl (X.move (v := .bool false) rfl) ?_
    refine X.opw X.wN rfl (X.move (v := .bool false) rfl) ?_
    refine X.opw (X.wG rfl rfl rfl) rfl (X.move rfl) ?_
    refine X.opw (X.wG rfl rfl rfl) rfl (X.lenSl Try.underlying33 rfl) ?_
    refine X.opw (X.wG rfl rfl rfl) rfl (X.neI rfl rfl) ?_
    refine X.opw X.wN rfl (X.pickF (v := .bool false) rfl rfl) ?_
    refine X.opw X.wN rfl (X.move (v := .bool false) rfl) ?_
    refine X.opw (X.wG rfl rfl rfl) rfl (X.move rfl) ?_
    refine X.opw (X.wG rfl rfl rfl) rfl (X.fldB (j := 1) Try.underlying44 rfl rfl Try.sizeOf30 rfl) ?_
    refine X.opw (X.wG rfl rfl rfl) rfl (X.fldB (j := 1) Try.underlying30 rfl rfl Try.sizeOf9 rfl) ?_
    refine X.opw (X.wG rfl rfl rfl) rfl (X.load1B Try.isAgg9 (hBo.keep (hk4.trans hk5)) rfl rfl) ?_
    refine X.opE (X.wG rfl rfl rfl) rfl (X.callE (Drop_n y.2.1.1 x _ (hN.keep (hk4.trans hk5))) Try.call21 rfl rfl) ?_
    rintro _ w6 ⟨rfl, hk6⟩
    have hk6' := hk6.size
    refine X.opw (X.wG rfl rfl rfl) rfl (X.neI rfl rfl) ?_
    refine X.opw X.wN rfl (X.pickF (v := .bool false) rfl rfl) ?_
    refine X.opw X.wN rfl (X.move (v := .bool false) rfl) ?_
    refine X.opw (X.wG rfl rfl rfl) rfl (X.move rfl) ?_
    refine X.opE (X.wG rfl rfl rfl) rfl (X.callE (Keys_n x _ (hN.keep ((hk4.trans hk5).trans hk6))) Try.call13 rfl rfl) ?_
    rintro _ w7 ⟨rfl, hk7⟩
    have hk7' := hk7.size
    refine X.opw (X.wG rfl rfl rfl) rfl (X.lenSl Try.underlying28 rfl) ?_
    refine X.opw (X.wG rfl rfl rfl) rfl (X.neI rfl rfl) ?_
    refine X.opw X.wN rfl (X.pickF (v := .bool false) rfl rfl) ?_
    refine X.opw X.wN rfl (X.move (v := .bool false) rfl) ?_
    refine X.opw (X.wG rfl rfl rfl) rfl (X.move rfl) ?_
    refine X.opE (X.wG rfl rfl rfl) rfl (X.callE (Stats_n x _ (hN.keep (((hk4.trans hk5).trans hk6).trans hk7))) Try.call18 rfl rfl) ?_
    rintro _ w8 ⟨rfl, hk8⟩
    have hk8' := hk8.size
    refine X.opw (X.wG rfl rfl rfl) rfl (X.buildB (vs := []) (cs := #[.int .i64 0, .int .i64 0, .int .i64 0]) rfl (by kernel_rfl)) ?_
    refine X.opw (X.wG rfl rfl rfl) rfl (X.neA (b := true) eqSt_guard rfl rfl (eqSt (0, 0, 0) (0, 0, 0) _)) ?_
    refine X.opw X.wN rfl (X.pickF (v := .bool false) rfl rfl) ?_
    refine X.opw X.wN rfl (X.move (v := .bool false) rfl) ?_
    refine X.opw (X.wG rfl rfl rfl) rfl (X.move rfl) ?_
    refine X.opE (X.wG rfl rfl rfl) rfl (X.callE (Room_n x _ (hN.keep ((((hk4.trans hk5).trans hk6).trans hk7).trans hk8))) Try.call19 rfl rfl) ?_
    rintro _ w9 ⟨rfl, hk9⟩
    have hk9' := hk9.size
    refine X.opw (X.wG rfl rfl rfl) rfl (X.neI rfl rfl) ?_
    refine X.opw X.wN rfl (X.pickF (v := .bool false) rfl rfl) ?_
    refine X.opsEnd ?_
    refine X.condF rfl ?_
    refine X.skip ?_
    refine X.inBlock ?_
    refine X.region ?_
    refine X.opw X.wN rfl (X.add rfl rfl (X.w_i64 (by omega))) ?_
    refine X.opw X.wN rfl (X.move (v := .int .i64 _) rfl) ?_
    refine X.opsEnd ?_
    refine hback (i + 1) _ _ ⟨rfl, rfl, rfl, rfl, trivial⟩ ⟨by omega, (hBo.keep (((((hk4.trans hk5).trans hk6).trans hk7).trans hk8).trans hk9)), hBz.keep (((((hk4.trans hk5).trans hk6).trans hk7).trans hk8).trans hk9), ((hsl.keep (((((hk4.trans hk5).trans hk6).trans hk7).trans hk8).trans hk9))).wide (Nat.le_refl _) (by omega), ((((((hk.trans hk4).trans hk5).trans hk6).trans hk7).trans hk8).trans hk9)⟩ (by omega)
  · refine X.opsEnd ?_
    refine X.seq ?_
    refine X.condF rfl ?_
    refine X.exit rfl ?_
    refine X.seq ?_
    refine X.region ?_
    refine X.opE X.wN rfl (X.callE (awake_c _) Try.call7 rfl rfl) ?_
    rintro _ w10 ⟨rfl, hk10⟩
    have hk10' := hk10.size
    refine X.opw X.wN rfl (X.assign (v := .bool _) rfl) ?_
    refine X.opsEnd ?_
    refine X.ret1 (v := (.bool _)) Try.func6 Try.results6 rfl ?_
    exact ⟨rfl, (hk.trans hk10)⟩
end Go.Proofs.Ytjjhddjllpihaaa
