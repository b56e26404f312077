/- Contracts of package pack's reference and laws: tuples compared, arguments cut. -/
import Derived.Test.YtaclpphhidlgpaaPackE
namespace Go.Proofs.Ytaclpphhidlgpaa
open Go Go.Proofs.Ytaclpphhidlgpaa.X
set_option linter.unusedVariables false
set_option linter.unusedSimpArgs false

/-- Values compared, tuples. -/
def cmpV (a b : VAL) : Int := if a = b then 0 else if a.1 < b.1 ∨ a.1 = b.1 ∧ (a.2.1 < b.2.1 ∨ a.2.1 = b.2.1 ∧ Op.bytesLess a.2.2.data.toList b.2.2.data.toList = true) then -1 else 1
def cmpT : List VAL → List VAL → Int
  | [], [] => 0
  | [], _ :: _ => -1
  | _ :: _, [] => 1
  | a :: l, b :: m => if cmpV a b ≠ 0 then cmpV a b else cmpT l m
theorem eqV (a b : VAL) (w : World) : (Op.equalIn 10000 75 (.agg (encV a).toArray) (.agg (encV b).toArray)).run Try.prog w = .ok (decide (a = b)) w := by
  rw [run_equalIn_struct w 9999 _ _ _ (by simp [Program.fieldsOf, Try.underlying75]) (by kernel_rfl)]
  simp only [Program.fieldsOf, Try.underlying75]
  simp [Op.eqFields, part, encV, Try.isAgg73, Try.isAgg2, Try.isAgg9, run_equalIn_int _ 9998 73 .i64 .i64 _ _ Try.underlying73, run_equalIn_int _ 9998 2 .i64 .i64 _ _ Try.underlying2, run_equalIn_string _ 9998 9 _ _ Try.underlying9, str_eq]
  obtain ⟨a1, a2, a3⟩ := a
  obtain ⟨b1, b2, b3⟩ := b
  by_cases h1 : a1 = b1 <;> by_cases h2 : a2 = b2 <;> by_cases h3 : a3 = b3 <;> simp [h1, h2, h3]
theorem eqV_guard : Try.prog.eqGuardType Try.prog.depth 75 = false := by kernel_rfl
-- f43 "pedigree/pedigreeref01.Compare" params [75, 75] results [3] -> [(ResultVar.tmp 4)] nfree 0 ntmps 43 na
theorem R01Compare_c (a b : VAL) (w : World) : Ret Try.prog 43 #[.agg (encV a).toArray, .agg (encV b).toArray] w fun r w' => r = .int .i64 (cmpV a b) ∧ Keep w w' := by
  refine X.enter Try.func43 rfl Try.ntmps43 rfl ?_
  refine X.seq ?_
  refine X.region ?_
  refine X.opE X.wN rfl (X.boxE rfl rfl) ?_
  rintro _ w1 ⟨rfl, hB1, hk1, hz1⟩
  refine X.opE X.wN rfl (X.boxE rfl rfl) ?_
  rintro _ w2 ⟨rfl, hB2, hk2, hz2⟩
  refine X.opw X.wN rfl (X.assign rfl) ?_
  refine X.opsEnd ?_
  refine X.seq ?_
  refine X.block ?_
  refine X.seq ?_
  refine X.region ?_
  refine X.opw X.wN rfl (X.loadNB Try.isAgg75 Try.sizeOf75 (hB1.keep hk2) rfl rfl rfl) ?_
  refine X.opw X.wN rfl (X.loadNB Try.isAgg75 Try.sizeOf75 hB2 rfl rfl rfl) ?_
  refine X.opw X.wN rfl (X.eqA eqV_guard rfl rfl (eqV a b _)) ?_
  refine X.opw X.wN rfl (X.assign (v := .bool _) rfl) ?_
  refine X.opsEnd ?_
  refine X.condB rfl (fun hc => ?_) (fun hc => ?_)
  · refine X.seq ?_
    refine X.region ?_
    refine X.opw X.wN rfl (X.assign rfl) ?_
    refine X.opsEnd ?_
    refine X.ret1 (v := (.int .i64 _)) Try.func43 Try.results43 rfl ?_
    exact ⟨by congr 1; simp_all [cmpV] <;> omega, (hk1.trans hk2)⟩
  · refine X.seq ?_
    refine X.region ?_
    refine X.opw X.wN rfl (X.fldB (j := 0) Try.underlying75 rfl rfl Try.sizeOf73 rfl) ?_
    refine X.opw X.wN rfl (X.load1B Try.isAgg73 (hB1.keep hk2) rfl rfl) ?_
    refine X.opw X.wN rfl (X.fldB (j := 0) Try.underlying75 rfl rfl Try.sizeOf73 rfl) ?_
    refine X.opw X.wN rfl (X.load1B Try.isAgg73 hB2 rfl rfl) ?_
    refine X.opP X.wN rfl rfl (X.lss rfl rfl) (fun h14 => ?_) (fun h14 => ?_)
    · refine X.opw X.wN rfl (X.move (v := .bool true) rfl) ?_
      refine X.opS rfl rfl rfl rfl rfl ?_
      refine X.opS rfl rfl rfl rfl rfl ?_
      refine X.opS rfl rfl rfl rfl rfl ?_
      refine X.opS rfl rfl rfl rfl rfl ?_
      refine X.opS rfl rfl rfl rfl rfl ?_
      refine X.opS rfl rfl rfl rfl rfl ?_
      refine X.opU rfl rfl rfl rfl ?_
      refine X.opU rfl rfl rfl rfl ?_
      refine X.opU rfl rfl rfl rfl ?_
      refine X.opU rfl rfl rfl rfl ?_
      refine X.opU rfl rfl rfl rfl ?_
      refine X.opU rfl rfl rfl rfl ?_
      refine X.opU rfl rfl rfl rfl ?_
      refine X.opU rfl rfl rfl rfl ?_
      refine X.opU rfl rfl rfl rfl ?_
      refine X.opU rfl rfl rfl rfl ?_
      refine X.opU rfl rfl rfl rfl ?_
      refine X.opU rfl rfl rfl rfl ?_
      refine X.opU rfl rfl rfl rfl ?_
      refine X.opU rfl rfl rfl rfl ?_
      refine X.opU rfl rfl rfl rfl ?_
      refine X.opU rfl rfl rfl rfl ?_
      refine X.opU rfl rfl rfl rfl ?_
      refine X.opU rfl rfl rfl rfl ?_
      refine X.opU rfl rfl rfl rfl ?_
      refine X.opS rfl rfl rfl rfl rfl ?_
      refine X.opw X.wN rfl (X.pickT (v := .bool true) rfl rfl) ?_
      refine X.opw X.wN rfl (X.assign (v := .bool true) rfl) ?_
      refine X.opsEnd ?_
      refine X.condT rfl ?_
      refine X.seq ?_
      refine X.region ?_
      refine X.opw X.wN rfl (X.assign rfl) ?_
      refine X.opsEnd ?_
      refine X.ret1 (v := (.int .i64 _)) Try.func43 Try.results43 rfl ?_
      exact ⟨by congr 1; simp_all [cmpV] <;> omega, (hk1.trans hk2)⟩
    · refine X.opw X.wN rfl (X.move (v := .bool false) rfl) ?_
      refine X.opw (X.wG rfl rfl rfl) rfl (X.fldB (j := 0) Try.underlying75 rfl rfl Try.sizeOf73 rfl) ?_
      refine X.opw (X.wG rfl rfl rfl) rfl (X.load1B Try.isAgg73 (hB1.keep hk2) rfl rfl) ?_
      refine X.opw (X.wG rfl rfl rfl) rfl (X.fldB (j := 0) Try.underlying75 rfl rfl Try.sizeOf73 rfl) ?_
      refine X.opw (X.wG rfl rfl rfl) rfl (X.load1B Try.isAgg73 hB2 rfl rfl) ?_
      refine X.opP (X.wG rfl rfl rfl) rfl rfl (X.eqI rfl rfl) (fun h20 => ?_) (fun h20 => ?_)
      · refine X.opw (X.wG rfl rfl rfl) rfl (X.move (v := .bool true) rfl) ?_
        refine X.opw (X.wG rfl rfl rfl) rfl (X.fldB (j := 1) Try.underlying75 rfl rfl Try.sizeOf2 rfl) ?_
        refine X.opw (X.wG rfl rfl rfl) rfl (X.load1B Try.isAgg2 (hB1.keep hk2) rfl rfl) ?_
        refine X.opw (X.wG rfl rfl rfl) rfl (X.fldB (j := 1) Try.underlying75 rfl rfl Try.sizeOf2 rfl) ?_
        refine X.opw (X.wG rfl rfl rfl) rfl (X.load1B Try.isAgg2 hB2 rfl rfl) ?_
        refine X.opP (X.wG rfl rfl rfl) rfl rfl (X.lss rfl rfl) (fun h26 => ?_) (fun h26 => ?_)
        · refine X.opw (X.wG rfl rfl rfl) rfl (X.move (v := .bool true) rfl) ?_
          refine X.opS rfl rfl rfl rfl rfl ?_
          refine X.opS rfl rfl rfl rfl rfl ?_
          refine X.opS rfl rfl rfl rfl rfl ?_
          refine X.opS rfl rfl rfl rfl rfl ?_
          refine X.opS rfl rfl rfl rfl rfl ?_
          refine X.opS rfl rfl rfl rfl rfl ?_
          refine X.opU rfl rfl rfl rfl ?_
          refine X.opU rfl rfl rfl rfl ?_
          refine X.opU rfl rfl rfl rfl ?_
          refine X.opU rfl rfl rfl rfl ?_
          refine X.opU rfl rfl rfl rfl ?_
          refine X.opS rfl rfl rfl rfl rfl ?_
          refine X.opw (X.wG rfl rfl rfl) rfl (X.pickT (v := .bool true) rfl rfl) ?_
          refine X.opw (X.wG rfl rfl rfl) rfl (X.pickT (v := .bool true) rfl rfl) ?_
          refine X.opw X.wN rfl (X.pickF (v := .bool true) rfl rfl) ?_
          refine X.opw X.wN rfl (X.assign (v := .bool true) rfl) ?_
          refine X.opsEnd ?_
          refine X.condT rfl ?_
          refine X.seq ?_
          refine X.region ?_
          refine X.opw X.wN rfl (X.assign rfl) ?_
          refine X.opsEnd ?_
          refine X.ret1 (v := (.int .i64 _)) Try.func43 Try.results43 rfl ?_
          exact ⟨by congr 1; simp_all [cmpV] <;> omega, (hk1.trans hk2)⟩
        · refine X.opw (X.wG rfl rfl rfl) rfl (X.move (v := .bool false) rfl) ?_
          refine X.opw (X.wG rfl rfl rfl) rfl (X.fldB (j := 1) Try.underlying75 rfl rfl Try.sizeOf2 rfl) ?_
          refine X.opw (X.wG rfl rfl rfl) rfl (X.load1B Try.isAgg2 (hB1.keep hk2) rfl rfl) ?_
          refine X.opw (X.wG rfl rfl rfl) rfl (X.fldB (j := 1) Try.underlying75 rfl rfl Try.sizeOf2 rfl) ?_
          refine X.opw (X.wG rfl rfl rfl) rfl (X.load1B Try.isAgg2 hB2 rfl rfl) ?_
          refine X.opP (X.wG rfl rfl rfl) rfl rfl (X.eqI rfl rfl) (fun h32 => ?_) (fun h32 => ?_)
          · refine X.opw (X.wG rfl rfl rfl) rfl (X.move (v := .bool true) rfl) ?_
            refine X.opw (X.wG rfl rfl rfl) rfl (X.fldB (j := 2) Try.underlying75 rfl rfl Try.sizeOf9 rfl) ?_
            refine X.opw (X.wG rfl rfl rfl) rfl (X.load1B Try.isAgg9 (hB1.keep hk2) rfl rfl) ?_
            refine X.opw (X.wG rfl rfl rfl) rfl (X.fldB (j := 2) Try.underlying75 rfl rfl Try.sizeOf9 rfl) ?_
            refine X.opw (X.wG rfl rfl rfl) rfl (X.load1B Try.isAgg9 hB2 rfl rfl) ?_
            refine X.opB (X.wG rfl rfl rfl) rfl rfl (X.ltD rfl rfl) (fun h38 => ?_) (fun h38 => ?_)
            · refine X.opw (X.wG rfl rfl rfl) rfl (X.pickT (v := .bool true) rfl rfl) ?_
              refine X.opw (X.wG rfl rfl rfl) rfl (X.pickF (v := .bool true) rfl rfl) ?_
              refine X.opw (X.wG rfl rfl rfl) rfl (X.pickT (v := .bool true) rfl rfl) ?_
              refine X.opw X.wN rfl (X.pickF (v := .bool true) rfl rfl) ?_
              refine X.opw X.wN rfl (X.assign (v := .bool true) rfl) ?_
              refine X.opsEnd ?_
              refine X.condT rfl ?_
              refine X.seq ?_
              refine X.region ?_
              refine X.opw X.wN rfl (X.assign rfl) ?_
              refine X.opsEnd ?_
              refine X.ret1 (v := (.int .i64 _)) Try.func43 Try.results43 rfl ?_
              exact ⟨by congr 1; simp_all [cmpV] <;> omega, (hk1.trans hk2)⟩
            · refine X.opw (X.wG rfl rfl rfl) rfl (X.pickT (v := .bool false) rfl rfl) ?_
              refine X.opw (X.wG rfl rfl rfl) rfl (X.pickF (v := .bool false) rfl rfl) ?_
              refine X.opw (X.wG rfl rfl rfl) rfl (X.pickT (v := .bool false) rfl rfl) ?_
              refine X.opw X.wN rfl (X.pickF (v := .bool false) rfl rfl) ?_
              refine X.opw X.wN rfl (X.assign (v := .bool false) rfl) ?_
              refine X.opsEnd ?_
              refine X.condF rfl ?_
              refine X.skip ?_
              refine X.inBlock ?_
              refine X.seq ?_
              refine X.region ?_
              refine X.opw X.wN rfl (X.assign rfl) ?_
              refine X.opsEnd ?_
              refine X.ret1 (v := (.int .i64 _)) Try.func43 Try.results43 rfl ?_
              exact ⟨by congr 1; simp_all [cmpV] <;> omega, (hk1.trans hk2)⟩
          · refine X.opw (X.wG rfl rfl rfl) rfl (X.move (v := .bool false) rfl) ?_
            refine X.opS rfl rfl rfl rfl rfl ?_
            refine X.opS rfl rfl rfl rfl rfl ?_
            refine X.opS rfl rfl rfl rfl rfl ?_
            refine X.opS rfl rfl rfl rfl rfl ?_
            refine X.opS rfl rfl rfl rfl rfl ?_
            refine X.opw (X.wG rfl rfl rfl) rfl (X.pickF (v := .bool false) rfl rfl) ?_
            refine X.opw (X.wG rfl rfl rfl) rfl (X.pickF (v := .bool false) rfl rfl) ?_
            refine X.opw (X.wG rfl rfl rfl) rfl (X.pickT (v := .bool false) rfl rfl) ?_
            refine X.opw X.wN rfl (X.pickF (v := .bool false) rfl rfl) ?_
            refine X.opw X.wN rfl (X.assign (v := .bool false) rfl) ?_
            refine X.opsEnd ?_
            refine X.condF rfl ?_
            refine X.skip ?_
            refine X.inBlock ?_
            refine X.seq ?_
            refine X.region ?_
            refine X.opw X.wN rfl (X.assign rfl) ?_
            refine X.opsEnd ?_
            refine X.ret1 (v := (.int .i64 _)) Try.func43 Try.results43 rfl ?_
            exact ⟨by congr 1; simp_all [cmpV] <;> omega, (hk1.trans hk2)⟩
      · refine X.opw (X.wG rfl rfl rfl) rfl (X.move (v := .bool false) rfl) ?_
        refine X.opS rfl rfl rfl rfl rfl ?_
        refine X.opS rfl rfl rfl rfl rfl ?_
        refine X.opS rfl rfl rfl rfl rfl ?_
        refine X.opS rfl rfl rfl rfl rfl ?_
        refine X.opS rfl rfl rfl rfl rfl ?_
        refine X.opS rfl rfl rfl rfl rfl ?_
        refine X.opU rfl rfl rfl rfl ?_
        refine X.opU rfl rfl rfl rfl ?_
        refine X.opU rfl rfl rfl rfl ?_
        refine X.opU rfl rfl rfl rfl ?_
        refine X.opU rfl rfl rfl rfl ?_
        refine X.opU rfl rfl rfl rfl ?_
        refine X.opU rfl rfl rfl rfl ?_
        refine X.opU rfl rfl rfl rfl ?_
        refine X.opU rfl rfl rfl rfl ?_
        refine X.opU rfl rfl rfl rfl ?_
        refine X.opU rfl rfl rfl rfl ?_
        refine X.opU rfl rfl rfl rfl ?_
        refine X.opS rfl rfl rfl rfl rfl ?_
        refine X.opw (X.wG rfl rfl rfl) rfl (X.pickF (v := .bool false) rfl rfl) ?_
        refine X.opw X.wN rfl (X.pickF (v := .bool false) rfl rfl) ?_
        refine X.opw X.wN rfl (X.assign (v := .bool false) rfl) ?_
        refine X.opsEnd ?_
        refine X.condF rfl ?_
        refine X.skip ?_
        refine X.inBlock ?_
        refine X.seq ?_
        refine X.region ?_
        refine X.opw X.wN rfl (X.assign rfl) ?_
        refine X.opsEnd ?_
        refine X.ret1 (v := (.int .i64 _)) Try.func43 Try.results43 rfl ?_
        exact ⟨by congr 1; simp_all [cmpV] <;> omega, (hk1.trans hk2)⟩
theorem cmp_end {l1 l2 : List VAL} {i : Nat} (h1 : i ≤ l1.length) (h2 : i ≤ l2.length) (h : i = l1.length ∨ i = l2.length) : cmpT (l1.drop i) (l2.drop i) = if l1.length < l2.length then -1 else if l2.length < l1.length then 1 else 0 := by
  have e1 : (l1.drop i).length = l1.length - i := List.length_drop
  have e2 : (l2.drop i).length = l2.length - i := List.length_drop
  generalize l1.drop i = x at *
  generalize l2.drop i = y at *
  cases x <;> cases y <;> simp only [List.length_cons, List.length_nil] at e1 e2 <;> unfold cmpT
  · rw [if_neg (by omega), if_neg (by omega)]
  · rw [if_pos (by omega)]
  · rw [if_neg (by omega), if_pos (by omega)]
  · omega
theorem drop_at {α : Type} {l : List α} {i : Nat} {x : α} (hx : l[i]? = some x) : l.drop i = x :: l.drop (i + 1) := by
  obtain ⟨h, rfl⟩ := List.getElem?_eq_some_iff.1 hx
  exact List.drop_eq_getElem_cons h
-- f14 "pedigree/pedigreeref03.Compare" params [23, 23] results [3] -> [(ResultVar.tmp 4)] nfree 0 ntmps 43 na
theorem R03Compare_c {lo1 hi1 lo2 hi2 : Nat} {A1 A2 : Option Addr} {n1 n2 c1 c2 : Nat} {l1 l2 : List VAL} (w : World) (hs1 : Sl KV lo1 hi1 w A1 n1 l1) (hs2 : Sl KV lo2 hi2 w A2 n2 l2) (hh1 : hi1 ≤ w.heap.size) (hh2 : hi2 ≤ w.heap.size) : Ret Try.prog 14 #[.slice A1 n1 c1, .slice A2 n2 c2] w fun r w' => r = .int .i64 (cmpT l1 l2) ∧ Keep w w' := by
  have hn1 := hs1.bound
  have hl1 := hs1.len
  have hn2 := hs2.bound
  have hl2 := hs2.len
  refine X.enter Try.func14 rfl Try.ntmps14 rfl ?_
  refine X.seq ?_
  refine X.region ?_
  refine X.opw X.wN rfl (X.assign rfl) ?_
  refine X.opsEnd ?_
  refine X.seq ?_
  refine X.seq ?_
  refine X.region ?_
  refine X.opw X.wN rfl (X.assign rfl) ?_
  refine X.opsEnd ?_
  refine X.block ?_
  -- LOOP live: 0=a, 1=b, 5=i*
  refine X.loopL (σ := Nat) (fun s => [(0, .slice A1 n1 c1), (1, .slice A2 n2 c2), (5, .int .i64 (s : Int))]) (fun s w' => s ≤ n1 ∧ s ≤ n2 ∧ cmpT (l1.drop s) (l2.drop s) = cmpT l1 l2 ∧ Keep w w') (fun s => n1 - s) 0 ⟨rfl, rfl, rfl, trivial⟩ ⟨Nat.zero_le _, Nat.zero_le _, rfl, (Keep.refl _)⟩ ?_
  rintro i b w1 ⟨hi1, hi2, hcm, hk⟩ hback
  have hk' := hk.size
  refine X.seq ?_
  refine X.seq ?_
  refine X.region ?_
  refine X.opw X.wN rfl (X.move (v := .int .i64 _) rfl) ?_
  refine X.opw X.wN rfl (X.move (v := .slice _ _ _) rfl) ?_
  refine X.opw X.wN rfl (X.lenSl Try.underlying23 rfl) ?_
  refine X.opP X.wN rfl rfl (X.lss rfl rfl) (fun h10 => ?_) (fun h10 => ?_)
  · refine X.opw X.wN rfl (X.move (v := .bool true) rfl) ?_
    refine X.opw (X.wG rfl rfl rfl) rfl (X.move (v := .int .i64 _) rfl) ?_
    refine X.opw (X.wG rfl rfl rfl) rfl (X.move (v := .slice _ _ _) rfl) ?_
    refine X.opw (X.wG rfl rfl rfl) rfl (X.lenSl Try.underlying23 rfl) ?_
    refine X.opP (X.wG rfl rfl rfl) rfl rfl (X.lss rfl rfl) (fun h15 => ?_) (fun h15 => ?_)
    · obtain ⟨x, hx⟩ := getN i hl1 h10
      obtain ⟨y, hy⟩ := getN i hl2 h15
      rw [drop_at hx, drop_at hy, cmpT] at hcm
      refine X.opw X.wN rfl (X.pickT (v := .bool true) rfl rfl) ?_
      refine X.opsEnd ?_
      refine X.condT rfl ?_
      refine X.skip ?_
      refine X.seq ?_
      refine X.block ?_
      refine X.seq ?_
      refine X.regionD (fun k => w.heap.size ≤ k) 9 (by kernel_rfl) (by kernel_rfl) (fun w1 hk1 hz1 => ?_)
      refine X.dTake 0 rfl (by kernel_rfl) (by kernel_rfl) (by kernel_rfl) (X.dwN rfl) (fun w' hk' => X.move (v := .slice _ _ _) rfl) ?_
      refine X.dTake 1 rfl (by kernel_rfl) (by kernel_rfl) (by kernel_rfl) (X.dwN rfl) (fun w' hk' => X.move (v := .int .i64 _) rfl) ?_
      refine X.dTake 2 rfl (by kernel_rfl) (by kernel_rfl) (by kernel_rfl) (X.dwN rfl) (fun w' hk' => X.idxS (hs1.keep ((hk.trans hk1).step hk' (by intros; (try simp only [] at *); omega))) Try.underlying23 Try.sizeOf75 rfl rfl ⟨by omega, by omega⟩) ?_
      refine X.dTake 3 rfl (by kernel_rfl) (by kernel_rfl) (by kernel_rfl) (X.dwN rfl) (fun w' hk' => X.loadSN Try.isAgg75 Try.sizeOf75 (hs1.keep ((hk.trans hk1).step hk' (by intros; (try simp only [] at *); omega))) hx rfl (fun _ h => h.1) rfl) ?_
      refine X.dTake 4 rfl (by kernel_rfl) (by kernel_rfl) (by kernel_rfl) (X.dwN rfl) (fun w' hk' => X.move (v := .slice _ _ _) rfl) ?_
      refine X.dTake 5 rfl (by kernel_rfl) (by kernel_rfl) (by kernel_rfl) (X.dwN rfl) (fun w' hk' => X.move (v := .int .i64 _) rfl) ?_
      refine X.dTake 6 rfl (by kernel_rfl) (by kernel_rfl) (by kernel_rfl) (X.dwN rfl) (fun w' hk' => X.idxS (hs2.keep ((hk.trans hk1).step hk' (by intros; (try simp only [] at *); omega))) Try.underlying23 Try.sizeOf75 rfl rfl ⟨by omega, by omega⟩) ?_
      refine X.dTake 7 rfl (by kernel_rfl) (by kernel_rfl) (by kernel_rfl) (X.dwN rfl) (fun w' hk' => X.loadSN Try.isAgg75 Try.sizeOf75 (hs2.keep ((hk.trans hk1).step hk' (by intros; (try simp only [] at *); omega))) hy rfl (fun _ h => h.1) rfl) ?_
      refine X.dE (i := 8) (by kernel_rfl) rfl (X.dwN rfl) (X.callE (R01Compare_c x y _) Try.call43 rfl rfl) (by rintro _ w2 ⟨rfl, hk2⟩ _; exact hk2.mono (fun _ _ h => h.elim)) ?_
      rintro _ w2 ⟨rfl, hk2⟩
      have hk2' := hk2.size
      refine X.dStep (i := 9) (by kernel_rfl) rfl (X.dwN rfl) (X.assign (v := .int .i64 _) rfl) (fun h => absurd h (by decide)) ?_
      refine X.dEnd (by kernel_rfl) ?_
      refine X.seq ?_
      refine X.region ?_
      refine X.opw X.wN rfl (X.move (v := .int .i64 _) rfl) ?_
      refine X.opP X.wN rfl rfl (X.neI rfl rfl) (fun h29 => ?_) (fun h29 => ?_)
      · refine X.opsEnd ?_
        refine X.condT rfl ?_
        refine X.seq ?_
        refine X.region ?_
        refine X.opw X.wN rfl (X.move (v := .int .i64 _) rfl) ?_
        refine X.opw X.wN rfl (X.assign (v := .int .i64 _) rfl) ?_
        refine X.opsEnd ?_
        refine X.ret1 (v := (.int .i64 _)) Try.func14 Try.results14 rfl ?_
        exact ⟨by rw [if_pos h29] at hcm; rw [hcm], ((hk.trans hk1).trans hk2)⟩
      · refine X.opsEnd ?_
        refine X.condF rfl ?_
        refine X.skip ?_
        refine X.inBlock ?_
        refine X.region ?_
        refine X.opw X.wN rfl (X.move (v := .int .i64 _) rfl) ?_
        refine X.opw X.wN rfl (X.add rfl rfl (X.w_i64 (by omega))) ?_
        refine X.opw X.wN rfl (X.assign (v := .int .i64 _) rfl) ?_
        refine X.opsEnd ?_
        refine hback (i + 1) _ _ ⟨rfl, rfl, rfl, trivial⟩ ⟨by omega, by omega, by rw [if_neg h29] at hcm; exact hcm, ((hk.trans hk1).trans hk2)⟩ (by omega)
    · refine X.opw X.wN rfl (X.pickT (v := .bool false) rfl rfl) ?_
      refine X.opsEnd ?_
      refine X.condF rfl ?_
      refine X.exit rfl ?_
      refine X.seq ?_
      refine X.block ?_
      refine X.seq ?_
      refine X.region ?_
      refine X.opw X.wN rfl (X.move (v := .slice _ _ _) rfl) ?_
      refine X.opw X.wN rfl (X.lenSl Try.underlying23 rfl) ?_
      refine X.opw X.wN rfl (X.move (v := .slice _ _ _) rfl) ?_
      refine X.opw X.wN rfl (X.lenSl Try.underlying23 rfl) ?_
      refine X.opP X.wN rfl rfl (X.lss rfl rfl) (fun h36 => ?_) (fun h36 => ?_)
      · refine X.opw X.wN rfl (X.assign (v := .bool true) rfl) ?_
        refine X.opsEnd ?_
        refine X.condT rfl ?_
        refine X.seq ?_
        refine X.region ?_
        refine X.opw X.wN rfl (X.assign rfl) ?_
        refine X.opsEnd ?_
        refine X.ret1 (v := (.int .i64 _)) Try.func14 Try.results14 rfl ?_
        exact ⟨by congr 1; rw [← hcm, cmp_end (by omega) (by omega) (by omega)]; (repeat' split) <;> omega, hk⟩
      · refine X.opw X.wN rfl (X.assign (v := .bool false) rfl) ?_
        refine X.opsEnd ?_
        refine X.condF rfl ?_
        refine X.seq ?_
        refine X.region ?_
        refine X.opw X.wN rfl (X.move (v := .slice _ _ _) rfl) ?_
        refine X.opw X.wN rfl (X.lenSl Try.underlying23 rfl) ?_
        refine X.opw X.wN rfl (X.move (v := .slice _ _ _) rfl) ?_
        refine X.opw X.wN rfl (X.lenSl Try.underlying23 rfl) ?_
        refine X.opP X.wN rfl rfl (X.gtr rfl rfl) (fun h42 => ?_) (fun h42 => ?_)
        · refine X.opw X.wN rfl (X.assign (v := .bool true) rfl) ?_
          refine X.opsEnd ?_
          refine X.condT rfl ?_
          refine X.seq ?_
          refine X.region ?_
          refine X.opw X.wN rfl (X.assign rfl) ?_
          refine X.opsEnd ?_
          refine X.ret1 (v := (.int .i64 _)) Try.func14 Try.results14 rfl ?_
          exact ⟨by congr 1; rw [← hcm, cmp_end (by omega) (by omega) (by omega)]; (repeat' split) <;> omega, hk⟩
        · refine X.opw X.wN rfl (X.assign (v := .bool false) rfl) ?_
          refine X.opsEnd ?_
          refine X.condF rfl ?_
          refine X.skip ?_
          refine X.inBlock ?_
          refine X.seq ?_
          refine X.region ?_
          refine X.opw X.wN rfl (X.assign rfl) ?_
          refine X.opsEnd ?_
          refine X.ret1 (v := (.int .i64 _)) Try.func14 Try.results14 rfl ?_
          exact ⟨by congr 1; rw [← hcm, cmp_end (by omega) (by omega) (by omega)]; (repeat' split) <;> omega, hk⟩
  · refine X.opw X.wN rfl (X.move (v := .bool false) rfl) ?_
    refine X.opS rfl rfl rfl rfl rfl ?_
    refine X.opS rfl rfl rfl rfl rfl ?_
    refine X.opS rfl rfl rfl rfl rfl ?_
    refine X.opS rfl rfl rfl rfl rfl ?_
    refine X.opw X.wN rfl (X.pickF (v := .bool false) rfl rfl) ?_
    refine X.opsEnd ?_
    refine X.condF rfl ?_
    refine X.exit rfl ?_
    refine X.seq ?_
    refine X.block ?_
    refine X.seq ?_
    refine X.region ?_
    refine X.opw X.wN rfl (X.move (v := .slice _ _ _) rfl) ?_
    refine X.opw X.wN rfl (X.lenSl Try.underlying23 rfl) ?_
    refine X.opw X.wN rfl (X.move (v := .slice _ _ _) rfl) ?_
    refine X.opw X.wN rfl (X.lenSl Try.underlying23 rfl) ?_
    refine X.opP X.wN rfl rfl (X.lss rfl rfl) (fun h36 => ?_) (fun h36 => ?_)
    · refine X.opw X.wN rfl (X.assign (v := .bool true) rfl) ?_
      refine X.opsEnd ?_
      refine X.condT rfl ?_
      refine X.seq ?_
      refine X.region ?_
      refine X.opw X.wN rfl (X.assign rfl) ?_
      refine X.opsEnd ?_
      refine X.ret1 (v := (.int .i64 _)) Try.func14 Try.results14 rfl ?_
      exact ⟨by congr 1; rw [← hcm, cmp_end (by omega) (by omega) (by omega)]; (repeat' split) <;> omega, hk⟩
    · refine X.opw X.wN rfl (X.assign (v := .bool false) rfl) ?_
      refine X.opsEnd ?_
      refine X.condF rfl ?_
      refine X.seq ?_
      refine X.region ?_
      refine X.opw X.wN rfl (X.move (v := .slice _ _ _) rfl) ?_
      refine X.opw X.wN rfl (X.lenSl Try.underlying23 rfl) ?_
      refine X.opw X.wN rfl (X.move (v := .slice _ _ _) rfl) ?_
      refine X.opw X.wN rfl (X.lenSl Try.underlying23 rfl) ?_
      refine X.opP X.wN rfl rfl (X.gtr rfl rfl) (fun h42 => ?_) (fun h42 => ?_)
      · refine X.opw X.wN rfl (X.assign (v := .bool true) rfl) ?_
        refine X.opsEnd ?_
        refine X.condT rfl ?_
        refine X.seq ?_
        refine X.region ?_
        refine X.opw X.wN rfl (X.assign rfl) ?_
        refine X.opsEnd ?_
        refine X.ret1 (v := (.int .i64 _)) Try.func14 Try.results14 rfl ?_
        exact ⟨by congr 1; rw [← hcm, cmp_end (by omega) (by omega) (by omega)]; (repeat' split) <;> omega, hk⟩
      · refine X.opw X.wN rfl (X.assign (v := .bool false) rfl) ?_
        refine X.opsEnd ?_
        refine X.condF rfl ?_
        refine X.skip ?_
        refine X.inBlock ?_
        refine X.seq ?_
        refine X.region ?_
        refine X.opw X.wN rfl (X.assign rfl) ?_
        refine X.opsEnd ?_
        refine X.ret1 (v := (.int .i64 _)) Try.func14 Try.results14 rfl ?_
        exact ⟨by congr 1; rw [← hcm, cmp_end (by omega) (by omega) (by omega)]; (repeat' split) <;> omega, hk⟩
-- f20 "pedigree/pedigreeref03.Same" params [23, 23] results [4] -> [(ResultVar.tmp 4)] nfree 0 ntmps 9 names 
theorem Same_c {lo1 hi1 lo2 hi2 : Nat} {A1 A2 : Option Addr} {n1 n2 c1 c2 : Nat} {l1 l2 : List VAL} (w : World) (hs1 : Sl KV lo1 hi1 w A1 n1 l1) (hs2 : Sl KV lo2 hi2 w A2 n2 l2) (hh1 : hi1 ≤ w.heap.size) (hh2 : hi2 ≤ w.heap.size) : Ret Try.prog 20 #[.slice A1 n1 c1, .slice A2 n2 c2] w fun r w' => r = .bool (decide (cmpT l1 l2 = 0)) ∧ Keep w w' := by
  refine X.enter Try.func20 rfl Try.ntmps20 rfl ?_
  refine X.seq ?_
  refine X.region ?_
  refine X.opw X.wN rfl (X.assign rfl) ?_
  refine X.opsEnd ?_
  refine X.seq ?_
  refine X.region ?_
  refine X.opw X.wN rfl (X.move (v := .slice _ _ _) rfl) ?_
  refine X.opw X.wN rfl (X.move (v := .slice _ _ _) rfl) ?_
  refine X.opE X.wN rfl (X.callE (R03Compare_c _ hs1 hs2 hh1 hh2) Try.call14 rfl rfl) ?_
  rintro _ w1 ⟨rfl, hk1⟩
  have hk1' := hk1.size
  refine X.opw X.wN rfl (X.eqI rfl rfl) ?_
  refine X.opw X.wN rfl (X.assign (v := .bool _) rfl) ?_
  refine X.opsEnd ?_
  refine X.ret1 (v := (.bool _)) Try.func20 Try.results20 rfl ?_
  exact ⟨rfl, hk1⟩
/-- The laws' own cuts. -/
def cutV (v : VAL) : VAL := if 300 < v.2.2.size then (v.1, v.2.1, v.2.2.extract 0 300) else v
def cutT (l : List VAL) : List VAL := (l.take 9).map cutV
theorem cutV_ok {v : VAL} (h : okV v) : okV (cutV v) ∧ (cutV v).2.2.size ≤ 300 := by
  unfold cutV
  split
  · refine ⟨⟨h.1, h.2.1, ?_⟩, ?_⟩ <;> simp [ByteArray.size_extract] <;> omega
  · exact ⟨h, by omega⟩
theorem map_step {α β : Type} {l : List α} {i : Nat} {x : α} (f : α → β) (hx : l[i]? = some x) : (l.take (i + 1)).map f = (l.take i).map f ++ [f x] := by
  rw [List.take_add_one, hx]; simp
theorem encV_cut (a b : Int) (s : ByteArray) : (encV (a, b, s)).toArray = #[.int .i64 a, .int .i64 b, .string s] := rfl
-- f10 "pedigree/pedigreelaw03.cut" params [23] results [23] -> [(ResultVar.tmp 2)] nfree 0 ntmps 35 names ["t
theorem cut_c {lo hi : Nat} {A : Option Addr} {n c : Nat} {l : List VAL} (w : World) (hs : Sl KV lo hi w A n l) (hhi : hi ≤ w.heap.size) (hnc : n ≤ c) : Ret Try.prog 10 #[.slice A n c] w fun r w' => Mine KV 75 (fun k => w.heap.size ≤ k) 0 0 w' r (cutT l) ∧ Keep w w' := by
  have hn := hs.bound
  have hl := hs.len
  refine X.enter Try.func10 rfl Try.ntmps10 rfl ?_
  refine X.seq ?_
  refine X.region ?_
  refine X.opw X.wN rfl (X.assign rfl) ?_
  refine X.opsEnd ?_
  refine X.seq ?_
  refine X.seq ?_
  refine X.region ?_
  refine X.opw X.wN rfl (X.move (v := .slice _ _ _) rfl) ?_
  refine X.opw X.wN rfl (X.lenSl Try.underlying23 rfl) ?_
  refine X.opP X.wN rfl rfl (X.gtr rfl rfl) (fun h8 => ?_) (fun h8 => ?_)
  · refine X.opsEnd ?_
    refine X.condT rfl ?_
    refine X.region ?_
    refine X.opw X.wN rfl (X.move (v := .slice _ _ _) rfl) ?_
    refine X.opw X.wN rfl (X.cutHr Try.underlying23 Try.sizeOf75 rfl rfl (by omega)) ?_
    refine X.opw X.wN rfl (X.assign (v := .slice _ _ _) rfl) ?_
    refine X.opsEnd ?_
    refine X.seq ?_
    refine X.region ?_
    refine X.opE X.wN rfl (X.lit0E (K := KV) (S := fun k => w.heap.size ≤ k) Try.underlying23 Try.sizeOf75 (by intros; (try simp only [] at *); omega)) ?_
    rintro v1 w1 ⟨hM1, hk1, hz1⟩
    refine X.opw X.wN rfl (X.assign rfl) ?_
    refine X.opsEnd ?_
    refine X.seq ?_
    refine X.seq ?_
    refine X.region ?_
    refine X.opw X.wN rfl (X.assign rfl) ?_
    refine X.opsEnd ?_
    refine X.block ?_
    -- LOOP live: 0=t, 3=out*, 4=i*
    refine X.loopL (σ := Nat × Value) (fun s => [(0, .slice A 9 c), (3, s.2), (4, .int .i64 (s.1 : Int))]) (fun s w' => s.1 ≤ 9 ∧ Mine KV 75 (fun k => w.heap.size ≤ k) 0 0 w' s.2 (((l.take 9).take s.1).map cutV) ∧ Keep w w') (fun s => 9 - s.1) (0, _) ⟨rfl, rfl, rfl, trivial⟩ ⟨Nat.zero_le _, hM1, hk1⟩ ?_
    rintro ⟨i, v⟩ b w1 ⟨hi0, hM, hk⟩ hback
    simp only at hi0 hM
    have hk' := hk.size
    have hs' := hs.take 9 (by omega)
    refine X.seq ?_
    refine X.seq ?_
    refine X.region ?_
    refine X.opw X.wN rfl (X.move (v := .int .i64 _) rfl) ?_
    refine X.opw X.wN rfl (X.move (v := .slice _ _ _) rfl) ?_
    refine X.opw X.wN rfl (X.lenSl Try.underlying23 rfl) ?_
    refine X.opP X.wN rfl rfl (X.lss rfl rfl) (fun h15 => ?_) (fun h15 => ?_)
    · have hl' := hs'.len
      obtain ⟨x, hx⟩ := getN i hl' h15
      have hV := KV_ok hs' i x hx
      have hC := cutV_ok hV
      refine X.opsEnd ?_
      refine X.condT rfl ?_
      refine X.skip ?_
      refine X.seq ?_
      refine X.block ?_
      refine X.seq ?_
      refine X.region ?_
      refine X.opw X.wN rfl (X.move (v := .slice _ _ _) rfl) ?_
      refine X.opw X.wN rfl (X.move (v := .int .i64 _) rfl) ?_
      refine X.opw X.wN rfl (X.idxS ((hs.take 9 (by omega)).keep hk) Try.underlying23 Try.sizeOf75 rfl rfl ⟨by omega, by omega⟩) ?_
      refine X.opw X.wN rfl (X.loadSN Try.isAgg75 Try.sizeOf75 ((hs.take 9 (by omega)).keep hk) hx rfl (fun _ h => h.1) rfl) ?_
      refine X.opE X.wN rfl (X.allocE Try.zeroValue75 rfl) ?_
      rintro _ w2 ⟨rfl, hB2, hk2, hz2⟩
      refine X.opE X.wN rfl (X.storeNE Try.sizeOf75 hB2 rfl rfl rfl rfl (encV_one _)) ?_
      rintro _ w3 ⟨hB3, hx3, hz3⟩
      refine X.opsEnd ?_
      refine X.seq ?_
      refine X.seq ?_
      refine X.region ?_
      refine X.opw X.wN rfl (X.fldB (j := 2) Try.underlying75 rfl rfl Try.sizeOf9 rfl) ?_
      refine X.opw X.wN rfl (X.load1B Try.isAgg9 hB3 rfl rfl) ?_
      refine X.opw X.wN rfl (X.lenS Try.underlying9 rfl) ?_
      refine X.opP X.wN rfl rfl (X.gtr rfl rfl) (fun h25 => ?_) (fun h25 => ?_)
      · refine X.opsEnd ?_
        refine X.condT rfl ?_
        refine X.region ?_
        refine X.opw X.wN rfl (X.fldB (j := 2) Try.underlying75 rfl rfl Try.sizeOf9 rfl) ?_
        refine X.opw X.wN rfl (X.load1B Try.isAgg9 hB3 rfl rfl) ?_
        refine X.opw X.wN rfl (X.cutSH Try.underlying9 rfl rfl ⟨by omega, by omega⟩) ?_
        refine X.opw X.wN rfl (X.fldB (j := 2) Try.underlying75 rfl rfl Try.sizeOf9 rfl) ?_
        refine X.opE X.wN rfl (X.storeE Try.sizeOf9 hB3 rfl rfl rfl rfl) ?_
        rintro _ w4 ⟨hB4, hx4, hz4⟩
        refine X.opsEnd ?_
        refine X.region ?_
        refine X.opw X.wN rfl (X.move rfl) ?_
        refine X.opw X.wN rfl (X.loadNB Try.isAgg75 Try.sizeOf75 hB4 rfl rfl rfl) ?_
        refine X.opE X.wN rfl (X.litKE (K := KV) (xs := [Operand.tmp 31]) (vs := [.agg (encV (x.1, x.2.1, x.2.2.extract 0 300)).toArray]) (ys := [cutV x]) Try.underlying23 Try.sizeOf75 Try.zeroValue75 rfl rfl rfl rfl rfl ⟨⟨encV (cutV x), by rw [cutV, if_pos (by omega)]; rfl, rfl, hC.1⟩, trivial⟩) ?_
        rintro _ w5 ⟨rfl, hs5, hB5, hk5, hz5⟩
        refine X.opE X.wN rfl (X.appE (K := KV) (S := fun k => w.heap.size ≤ k) KV_flat Try.underlying23 EV rfl rfl (hM.keep (((hk2.step hx3 (by intros; (try simp only [] at *); omega)).step hx4 (by intros; (try simp only [] at *); omega)).trans hk5)) hs5 (by (try simp only [List.length_append, List.length_cons, List.length_nil, List.length_take, List.length_drop, List.length_map, List.length_range]); omega) (by intros; (try simp only [] at *); omega)) ?_
        rintro v6 w6 ⟨hM6, hx6⟩
        have hx6' := hx6.size
        refine X.opw X.wN rfl (X.assign rfl) ?_
        refine X.opsEnd ?_
        refine X.inBlock ?_
        refine X.region ?_
        refine X.opw X.wN rfl (X.move (v := .int .i64 _) rfl) ?_
        refine X.opw X.wN rfl (X.add rfl rfl (X.w_i64 (by omega))) ?_
        refine X.opw X.wN rfl (X.assign (v := .int .i64 _) rfl) ?_
        refine X.opsEnd ?_
        refine hback (i + 1, _) _ _ ⟨rfl, rfl, rfl, trivial⟩ ⟨by simp only []; omega, ?_, (((((hk.trans hk2).step hx3 (by intros; (try simp only [] at *); omega)).step hx4 (by intros; (try simp only [] at *); omega)).trans hk5).step hx6 (by intros; (try simp only [] at *); omega))⟩ (by simp only []; omega)
        have e := hM6
        simp only []
        rw [map_step cutV hx]
        exact e
      · refine X.opsEnd ?_
        refine X.condF rfl ?_
        refine X.skip ?_
        refine X.region ?_
        refine X.opw X.wN rfl (X.move rfl) ?_
        refine X.opw X.wN rfl (X.loadNB Try.isAgg75 Try.sizeOf75 hB3 rfl rfl rfl) ?_
        refine X.opE X.wN rfl (X.litKE (K := KV) (xs := [Operand.tmp 31]) (vs := [.agg (encV x).toArray]) (ys := [cutV x]) Try.underlying23 Try.sizeOf75 Try.zeroValue75 rfl rfl rfl rfl rfl ⟨⟨encV (cutV x), by rw [cutV, if_neg (by omega)]; rfl, rfl, hC.1⟩, trivial⟩) ?_
        rintro _ w7 ⟨rfl, hs7, hB7, hk7, hz7⟩
        refine X.opE X.wN rfl (X.appE (K := KV) (S := fun k => w.heap.size ≤ k) KV_flat Try.underlying23 EV rfl rfl (hM.keep ((hk2.step hx3 (by intros; (try simp only [] at *); omega)).trans hk7)) hs7 (by (try simp only [List.length_append, List.length_cons, List.length_nil, List.length_take, List.length_drop, List.length_map, List.length_range]); omega) (by intros; (try simp only [] at *); omega)) ?_
        rintro v8 w8 ⟨hM8, hx8⟩
        have hx8' := hx8.size
        refine X.opw X.wN rfl (X.assign rfl) ?_
        refine X.opsEnd ?_
        refine X.inBlock ?_
        refine X.region ?_
        refine X.opw X.wN rfl (X.move (v := .int .i64 _) rfl) ?_
        refine X.opw X.wN rfl (X.add rfl rfl (X.w_i64 (by omega))) ?_
        refine X.opw X.wN rfl (X.assign (v := .int .i64 _) rfl) ?_
        refine X.opsEnd ?_
        refine hback (i + 1, _) _ _ ⟨rfl, rfl, rfl, trivial⟩ ⟨by simp only []; omega, ?_, ((((hk.trans hk2).step hx3 (by intros; (try simp only [] at *); omega)).trans hk7).step hx8 (by intros; (try simp only [] at *); omega))⟩ (by simp only []; omega)
        have e := hM8
        simp only []
        rw [map_step cutV hx]
        exact e
    · refine X.opsEnd ?_
      refine X.condF rfl ?_
      refine X.exit rfl ?_
      refine X.seq ?_
      refine X.region ?_
      refine X.opw X.wN rfl (X.move rfl) ?_
      refine X.opw X.wN rfl (X.assign rfl) ?_
      refine X.opsEnd ?_
      refine X.ret1 Try.func10 Try.results10 rfl ?_
      have e := hM
      rw [show i = 9 by omega, List.take_take] at e
      exact ⟨e, hk⟩
  · refine X.opsEnd ?_
    refine X.condF rfl ?_
    refine X.skip ?_
    refine X.seq ?_
    refine X.region ?_
    refine X.opE X.wN rfl (X.lit0E (K := KV) (S := fun k => w.heap.size ≤ k) Try.underlying23 Try.sizeOf75 (by intros; (try simp only [] at *); omega)) ?_
    rintro v9 w9 ⟨hM9, hk9, hz9⟩
    refine X.opw X.wN rfl (X.assign rfl) ?_
    refine X.opsEnd ?_
    refine X.seq ?_
    refine X.seq ?_
    refine X.region ?_
    refine X.opw X.wN rfl (X.assign rfl) ?_
    refine X.opsEnd ?_
    refine X.block ?_
    -- LOOP live: 0=t, 3=out*, 4=i*
    refine X.loopL (σ := Nat × Value) (fun s => [(0, .slice A n c), (3, s.2), (4, .int .i64 (s.1 : Int))]) (fun s w' => s.1 ≤ n ∧ Mine KV 75 (fun k => w.heap.size ≤ k) 0 0 w' s.2 ((l.take s.1).map cutV) ∧ Keep w w') (fun s => n - s.1) (0, _) ⟨rfl, rfl, rfl, trivial⟩ ⟨Nat.zero_le _, hM9, hk9⟩ ?_
    rintro ⟨i, v⟩ b w1 ⟨hi0, hM, hk⟩ hback
    simp only at hi0 hM
    have hk' := hk.size
    have hs' := hs
    refine X.seq ?_
    refine X.seq ?_
    refine X.region ?_
    refine X.opw X.wN rfl (X.move (v := .int .i64 _) rfl) ?_
    refine X.opw X.wN rfl (X.move (v := .slice _ _ _) rfl) ?_
    refine X.opw X.wN rfl (X.lenSl Try.underlying23 rfl) ?_
    refine X.opP X.wN rfl rfl (X.lss rfl rfl) (fun h15 => ?_) (fun h15 => ?_)
    · have hl' := hs'.len
      obtain ⟨x, hx⟩ := getN i hl' h15
      have hV := KV_ok hs' i x hx
      have hC := cutV_ok hV
      refine X.opsEnd ?_
      refine X.condT rfl ?_
      refine X.skip ?_
      refine X.seq ?_
      refine X.block ?_
      refine X.seq ?_
      refine X.region ?_
      refine X.opw X.wN rfl (X.move (v := .slice _ _ _) rfl) ?_
      refine X.opw X.wN rfl (X.move (v := .int .i64 _) rfl) ?_
      refine X.opw X.wN rfl (X.idxS (hs.keep hk) Try.underlying23 Try.sizeOf75 rfl rfl ⟨by omega, by omega⟩) ?_
      refine X.opw X.wN rfl (X.loadSN Try.isAgg75 Try.sizeOf75 (hs.keep hk) hx rfl (fun _ h => h.1) rfl) ?_
      refine X.opE X.wN rfl (X.allocE Try.zeroValue75 rfl) ?_
      rintro _ w10 ⟨rfl, hB10, hk10, hz10⟩
      refine X.opE X.wN rfl (X.storeNE Try.sizeOf75 hB10 rfl rfl rfl rfl (encV_one _)) ?_
      rintro _ w11 ⟨hB11, hx11, hz11⟩
      refine X.opsEnd ?_
      refine X.seq ?_
      refine X.seq ?_
      refine X.region ?_
      refine X.opw X.wN rfl (X.fldB (j := 2) Try.underlying75 rfl rfl Try.sizeOf9 rfl) ?_
      refine X.opw X.wN rfl (X.load1B Try.isAgg9 hB11 rfl rfl) ?_
      refine X.opw X.wN rfl (X.lenS Try.underlying9 rfl) ?_
      refine X.opP X.wN rfl rfl (X.gtr rfl rfl) (fun h25 => ?_) (fun h25 => ?_)
      · refine X.opsEnd ?_
        refine X.condT rfl ?_
        refine X.region ?_
        refine X.opw X.wN rfl (X.fldB (j := 2) Try.underlying75 rfl rfl Try.sizeOf9 rfl) ?_
        refine X.opw X.wN rfl (X.load1B Try.isAgg9 hB11 rfl rfl) ?_
        refine X.opw X.wN rfl (X.cutSH Try.underlying9 rfl rfl ⟨by omega, by omega⟩) ?_
        refine X.opw X.wN rfl (X.fldB (j := 2) Try.underlying75 rfl rfl Try.sizeOf9 rfl) ?_
        refine X.opE X.wN rfl (X.storeE Try.sizeOf9 hB11 rfl rfl rfl rfl) ?_
        rintro _ w12 ⟨hB12, hx12, hz12⟩
        refine X.opsEnd ?_
        refine X.region ?_
        refine X.opw X.wN rfl (X.move rfl) ?_
        refine X.opw X.wN rfl (X.loadNB Try.isAgg75 Try.sizeOf75 hB12 rfl rfl rfl) ?_
        refine X.opE X.wN rfl (X.litKE (K := KV) (xs := [Operand.tmp 31]) (vs := [.agg (encV (x.1, x.2.1, x.2.2.extract 0 300)).toArray]) (ys := [cutV x]) Try.underlying23 Try.sizeOf75 Try.zeroValue75 rfl rfl rfl rfl rfl ⟨⟨encV (cutV x), by rw [cutV, if_pos (by omega)]; rfl, rfl, hC.1⟩, trivial⟩) ?_
        rintro _ w13 ⟨rfl, hs13, hB13, hk13, hz13⟩
        refine X.opE X.wN rfl (X.appE (K := KV) (S := fun k => w.heap.size ≤ k) KV_flat Try.underlying23 EV rfl rfl (hM.keep (((hk10.step hx11 (by intros; (try simp only [] at *); omega)).step hx12 (by intros; (try simp only [] at *); omega)).trans hk13)) hs13 (by (try simp only [List.length_append, List.length_cons, List.length_nil, List.length_take, List.length_drop, List.length_map, List.length_range]); omega) (by intros; (try simp only [] at *); omega)) ?_
        rintro v14 w14 ⟨hM14, hx14⟩
        have hx14' := hx14.size
        refine X.opw X.wN rfl (X.assign rfl) ?_
        refine X.opsEnd ?_
        refine X.inBlock ?_
        refine X.region ?_
        refine X.opw X.wN rfl (X.move (v := .int .i64 _) rfl) ?_
        refine X.opw X.wN rfl (X.add rfl rfl (X.w_i64 (by omega))) ?_
        refine X.opw X.wN rfl (X.assign (v := .int .i64 _) rfl) ?_
        refine X.opsEnd ?_
        refine hback (i + 1, _) _ _ ⟨rfl, rfl, rfl, trivial⟩ ⟨by simp only []; omega, ?_, (((((hk.trans hk10).step hx11 (by intros; (try simp only [] at *); omega)).step hx12 (by intros; (try simp only [] at *); omega)).trans hk13).step hx14 (by intros; (try simp only [] at *); omega))⟩ (by simp only []; omega)
        have e := hM14
        simp only []
        rw [map_step cutV hx]
        exact e
      · refine X.opsEnd ?_
        refine X.condF rfl ?_
        refine X.skip ?_
        refine X.region ?_
        refine X.opw X.wN rfl (X.move rfl) ?_
        refine X.opw X.wN rfl (X.loadNB Try.isAgg75 Try.sizeOf75 hB11 rfl rfl rfl) ?_
        refine X.opE X.wN rfl (X.litKE (K := KV) (xs := [Operand.tmp 31]) (vs := [.agg (encV x).toArray]) (ys := [cutV x]) Try.underlying23 Try.sizeOf75 Try.zeroValue75 rfl rfl rfl rfl rfl ⟨⟨encV (cutV x), by rw [cutV, if_neg (by omega)]; rfl, rfl, hC.1⟩, trivial⟩) ?_
        rintro _ w15 ⟨rfl, hs15, hB15, hk15, hz15⟩
        refine X.opE X.wN rfl (X.appE (K := KV) (S := fun k => w.heap.size ≤ k) KV_flat Try.underlying23 EV rfl rfl (hM.keep ((hk10.step hx11 (by intros; (try simp only [] at *); omega)).trans hk15)) hs15 (by (try simp only [List.length_append, List.length_cons, List.length_nil, List.length_take, List.length_drop, List.length_map, List.length_range]); omega) (by intros; (try simp only [] at *); omega)) ?_
        rintro v16 w16 ⟨hM16, hx16⟩
        have hx16' := hx16.size
        refine X.opw X.wN rfl (X.assign rfl) ?_
        refine X.opsEnd ?_
        refine X.inBlock ?_
        refine X.region ?_
        refine X.opw X.wN rfl (X.move (v := .int .i64 _) rfl) ?_
        refine X.opw X.wN rfl (X.add rfl rfl (X.w_i64 (by omega))) ?_
        refine X.opw X.wN rfl (X.assign (v := .int .i64 _) rfl) ?_
        refine X.opsEnd ?_
        refine hback (i + 1, _) _ _ ⟨rfl, rfl, rfl, trivial⟩ ⟨by simp only []; omega, ?_, ((((hk.trans hk10).step hx11 (by intros; (try simp only [] at *); omega)).trans hk15).step hx16 (by intros; (try simp only [] at *); omega))⟩ (by simp only []; omega)
        have e := hM16
        simp only []
        rw [map_step cutV hx]
        exact e
    · refine X.opsEnd ?_
      refine X.condF rfl ?_
      refine X.exit rfl ?_
      refine X.seq ?_
      refine X.region ?_
      refine X.opw X.wN rfl (X.move rfl) ?_
      refine X.opw X.wN rfl (X.assign rfl) ?_
      refine X.opsEnd ?_
      refine X.ret1 Try.func10 Try.results10 rfl ?_
      have e := hM
      rw [show i = l.length by omega, List.take_length] at e
      exact ⟨by rw [cutT, List.take_of_length_le (by omega)]; exact e, hk⟩
end Go.Proofs.Ytaclpphhidlgpaa
