/- Contracts of the small functions of package pack and its reference: values. -/
import Derived.Test.YtaclpphhidlgpaaXOpen
import Derived.Test.YtaclpphhidlgpaaXMore
import Derived.Test.YtaclpphhidlgpaaProg
namespace Go.Proofs.Ytaclpphhidlgpaa
open Go Go.Proofs.Ytaclpphhidlgpaa.X

/-- A value: its kind, its number, its symbol. -/
abbrev VAL := Int × Int × ByteArray
def encV (v : VAL) : List Value := [.int .i64 v.1, .int .i64 v.2.1, .string v.2.2]
def okI (n : Int) : Prop := -9223372036854775808 ≤ n ∧ n ≤ 9223372036854775807
def okV (v : VAL) : Prop := okI v.1 ∧ okI v.2.1 ∧ v.2.2.size ≤ 9223372036854775807
def KV : Kd VAL := Kd.plain 3 encV okV (fun _ => rfl) (fun x u hu => by simp [encV] at hu; rcases hu with rfl | rfl | rfl <;> rfl)
theorem KV_flat : Flat KV := fun h => h
/-- May it be? -/
def isV (v : VAL) : Bool := decide ((v.1 = 1 ∧ v.2.2 = ⟨#[]⟩) ∨ (v.1 = 2 ∧ v.2.1 = 0 ∧ v.2.2.size ≤ 256))
theorem isV_1 {v : VAL} (h1 : v.1 = 1) : isV v = decide (v.2.2 = ⟨#[]⟩) := by simp [isV, h1]
theorem isV_2 {v : VAL} (h1 : v.1 = 2) : isV v = decide (v.2.1 = 0 ∧ v.2.2.size ≤ 256) := by simp [isV, h1]
theorem isV_0 {v : VAL} (h1 : ¬ v.1 = 1) (h2 : ¬ v.1 = 2) : isV v = false := by simp [isV, h1, h2]
theorem E5 : ElemInfo Try.prog 5 1 1 := ElemInfo.of (z := .int .u8 0) (by kernel_rfl) rfl rfl rfl
set_option linter.unusedVariables false
set_option linter.unusedSimpArgs false
theorem R01Is_c (v : VAL) (w : World) : Ret Try.prog 42 #[.agg (encV v).toArray] w fun r w' => r = .bool (isV v) ∧ Keep w w' := by
  refine X.enter Try.func42 rfl Try.ntmps42 rfl ?_
  refine X.seq ?_
  refine X.region ?_
  refine X.opE X.wN rfl (X.boxE rfl rfl) ?_
  rintro _ w1 ⟨rfl, hB1, hk1, hz1⟩
  refine X.opw X.wN rfl (X.assign rfl) ?_
  refine X.opsEnd ?_
  refine X.seq ?_
  refine X.region ?_
  refine X.opw X.wN rfl (X.fldB (j := 0) Try.underlying75 rfl rfl Try.sizeOf73 rfl) ?_
  refine X.opw X.wN rfl (X.load1B Try.isAgg73 hB1 rfl rfl) ?_
  refine X.opP X.wN rfl rfl (X.eqI rfl rfl) (fun h5 => ?_) (fun h5 => ?_)
  · refine X.opw X.wN rfl (X.move rfl) ?_
    refine X.opw (X.wG rfl rfl rfl) rfl (X.fldB (j := 2) Try.underlying75 rfl rfl Try.sizeOf9 rfl) ?_
    refine X.opw (X.wG rfl rfl rfl) rfl (X.load1B Try.isAgg9 hB1 rfl rfl) ?_
    refine X.opP (X.wG rfl rfl rfl) rfl rfl (X.eqD rfl rfl) (fun h9 => ?_) (fun h9 => ?_)
    · refine X.opw X.wN rfl (X.pickT rfl rfl) ?_
      refine X.opw X.wN rfl (X.move rfl) ?_
      refine X.opS rfl rfl rfl rfl rfl ?_
      refine X.opS rfl rfl rfl rfl rfl ?_
      refine X.opS rfl rfl rfl rfl rfl ?_
      refine X.opS rfl rfl rfl rfl rfl ?_
      refine X.opU rfl rfl rfl rfl ?_
      refine X.opU rfl rfl rfl rfl ?_
      refine X.opU rfl rfl rfl rfl ?_
      refine X.opS rfl rfl rfl rfl rfl ?_
      refine X.opS rfl rfl rfl rfl rfl ?_
      refine X.opU rfl rfl rfl rfl ?_
      refine X.opU rfl rfl rfl rfl ?_
      refine X.opU rfl rfl rfl rfl ?_
      refine X.opU rfl rfl rfl rfl ?_
      refine X.opS rfl rfl rfl rfl rfl ?_
      refine X.opw X.wN rfl (X.pickT rfl rfl) ?_
      refine X.opw X.wN rfl (X.assign rfl) ?_
      refine X.opsEnd ?_
      refine X.ret1 (v := .bool _) Try.func42 Try.results42 rfl ?_
      exact ⟨by congr 1; simp_all [isV] <;> omega, hk1⟩
    · refine X.opw X.wN rfl (X.pickT rfl rfl) ?_
      refine X.opw X.wN rfl (X.move rfl) ?_
      refine X.opw (X.wG rfl rfl rfl) rfl (X.fldB (j := 0) Try.underlying75 rfl rfl Try.sizeOf73 rfl) ?_
      refine X.opw (X.wG rfl rfl rfl) rfl (X.load1B Try.isAgg73 hB1 rfl rfl) ?_
      refine X.opP (X.wG rfl rfl rfl) rfl rfl (X.eqI rfl rfl) (fun h14 => ?_) (fun h14 => ?_)
      · refine X.opw (X.wG rfl rfl rfl) rfl (X.move rfl) ?_
        refine X.opw (X.wG rfl rfl rfl) rfl (X.fldB (j := 1) Try.underlying75 rfl rfl Try.sizeOf2 rfl) ?_
        refine X.opw (X.wG rfl rfl rfl) rfl (X.load1B Try.isAgg2 hB1 rfl rfl) ?_
        refine X.opP (X.wG rfl rfl rfl) rfl rfl (X.eqI rfl rfl) (fun h18 => ?_) (fun h18 => ?_)
        · refine X.opw (X.wG rfl rfl rfl) rfl (X.pickT rfl rfl) ?_
          refine X.opw (X.wG rfl rfl rfl) rfl (X.move rfl) ?_
          refine X.opw (X.wG rfl rfl rfl) rfl (X.fldB (j := 2) Try.underlying75 rfl rfl Try.sizeOf9 rfl) ?_
          refine X.opw (X.wG rfl rfl rfl) rfl (X.load1B Try.isAgg9 hB1 rfl rfl) ?_
          refine X.opw (X.wG rfl rfl rfl) rfl (X.lenS Try.underlying9 rfl) ?_
          refine X.opw (X.wG rfl rfl rfl) rfl (X.leq rfl rfl) ?_
          refine X.opw (X.wG rfl rfl rfl) rfl (X.pickT rfl rfl) ?_
          refine X.opw X.wN rfl (X.pickF rfl rfl) ?_
          refine X.opw X.wN rfl (X.assign rfl) ?_
          refine X.opsEnd ?_
          refine X.ret1 (v := .bool _) Try.func42 Try.results42 rfl ?_
          exact ⟨by congr 1; simp_all [isV] <;> omega, hk1⟩
        · refine X.opw (X.wG rfl rfl rfl) rfl (X.pickT rfl rfl) ?_
          refine X.opw (X.wG rfl rfl rfl) rfl (X.move rfl) ?_
          refine X.opS rfl rfl rfl rfl rfl ?_
          refine X.opS rfl rfl rfl rfl rfl ?_
          refine X.opS rfl rfl rfl rfl rfl ?_
          refine X.opS rfl rfl rfl rfl rfl ?_
          refine X.opw (X.wG rfl rfl rfl) rfl (X.pickF rfl rfl) ?_
          refine X.opw X.wN rfl (X.pickF rfl rfl) ?_
          refine X.opw X.wN rfl (X.assign rfl) ?_
          refine X.opsEnd ?_
          refine X.ret1 (v := .bool _) Try.func42 Try.results42 rfl ?_
          exact ⟨by congr 1; simp_all [isV] <;> omega, hk1⟩
      · refine X.opw (X.wG rfl rfl rfl) rfl (X.move rfl) ?_
        refine X.opS rfl rfl rfl rfl rfl ?_
        refine X.opS rfl rfl rfl rfl rfl ?_
        refine X.opS rfl rfl rfl rfl rfl ?_
        refine X.opw (X.wG rfl rfl rfl) rfl (X.pickF rfl rfl) ?_
        refine X.opw (X.wG rfl rfl rfl) rfl (X.move rfl) ?_
        refine X.opS rfl rfl rfl rfl rfl ?_
        refine X.opS rfl rfl rfl rfl rfl ?_
        refine X.opS rfl rfl rfl rfl rfl ?_
        refine X.opS rfl rfl rfl rfl rfl ?_
        refine X.opw (X.wG rfl rfl rfl) rfl (X.pickF rfl rfl) ?_
        refine X.opw X.wN rfl (X.pickF rfl rfl) ?_
        refine X.opw X.wN rfl (X.assign rfl) ?_
        refine X.opsEnd ?_
        refine X.ret1 (v := .bool _) Try.func42 Try.results42 rfl ?_
        exact ⟨by congr 1; simp_all [isV] <;> omega, hk1⟩
  · refine X.opw X.wN rfl (X.move rfl) ?_
    refine X.opS rfl rfl rfl rfl rfl ?_
    refine X.opS rfl rfl rfl rfl rfl ?_
    refine X.opS rfl rfl rfl rfl rfl ?_
    refine X.opw X.wN rfl (X.pickF rfl rfl) ?_
    refine X.opw X.wN rfl (X.move rfl) ?_
    refine X.opw (X.wG rfl rfl rfl) rfl (X.fldB (j := 0) Try.underlying75 rfl rfl Try.sizeOf73 rfl) ?_
    refine X.opw (X.wG rfl rfl rfl) rfl (X.load1B Try.isAgg73 hB1 rfl rfl) ?_
    refine X.opP (X.wG rfl rfl rfl) rfl rfl (X.eqI rfl rfl) (fun h14 => ?_) (fun h14 => ?_)
    · refine X.opw (X.wG rfl rfl rfl) rfl (X.move rfl) ?_
      refine X.opw (X.wG rfl rfl rfl) rfl (X.fldB (j := 1) Try.underlying75 rfl rfl Try.sizeOf2 rfl) ?_
      refine X.opw (X.wG rfl rfl rfl) rfl (X.load1B Try.isAgg2 hB1 rfl rfl) ?_
      refine X.opP (X.wG rfl rfl rfl) rfl rfl (X.eqI rfl rfl) (fun h18 => ?_) (fun h18 => ?_)
      · refine X.opw (X.wG rfl rfl rfl) rfl (X.pickT rfl rfl) ?_
        refine X.opw (X.wG rfl rfl rfl) rfl (X.move rfl) ?_
        refine X.opw (X.wG rfl rfl rfl) rfl (X.fldB (j := 2) Try.underlying75 rfl rfl Try.sizeOf9 rfl) ?_
        refine X.opw (X.wG rfl rfl rfl) rfl (X.load1B Try.isAgg9 hB1 rfl rfl) ?_
        refine X.opw (X.wG rfl rfl rfl) rfl (X.lenS Try.underlying9 rfl) ?_
        refine X.opw (X.wG rfl rfl rfl) rfl (X.leq rfl rfl) ?_
        refine X.opw (X.wG rfl rfl rfl) rfl (X.pickT rfl rfl) ?_
        refine X.opw X.wN rfl (X.pickF rfl rfl) ?_
        refine X.opw X.wN rfl (X.assign rfl) ?_
        refine X.opsEnd ?_
        refine X.ret1 (v := .bool _) Try.func42 Try.results42 rfl ?_
        exact ⟨by congr 1; simp_all [isV] <;> omega, hk1⟩
      · refine X.opw (X.wG rfl rfl rfl) rfl (X.pickT rfl rfl) ?_
        refine X.opw (X.wG rfl rfl rfl) rfl (X.move rfl) ?_
        refine X.opS rfl rfl rfl rfl rfl ?_
        refine X.opS rfl rfl rfl rfl rfl ?_
        refine X.opS rfl rfl rfl rfl rfl ?_
        refine X.opS rfl rfl rfl rfl rfl ?_
        refine X.opw (X.wG rfl rfl rfl) rfl (X.pickF rfl rfl) ?_
        refine X.opw X.wN rfl (X.pickF rfl rfl) ?_
        refine X.opw X.wN rfl (X.assign rfl) ?_
        refine X.opsEnd ?_
        refine X.ret1 (v := .bool _) Try.func42 Try.results42 rfl ?_
        exact ⟨by congr 1; simp_all [isV] <;> omega, hk1⟩
    · refine X.opw (X.wG rfl rfl rfl) rfl (X.move rfl) ?_
      refine X.opS rfl rfl rfl rfl rfl ?_
      refine X.opS rfl rfl rfl rfl rfl ?_
      refine X.opS rfl rfl rfl rfl rfl ?_
      refine X.opw (X.wG rfl rfl rfl) rfl (X.pickF rfl rfl) ?_
      refine X.opw (X.wG rfl rfl rfl) rfl (X.move rfl) ?_
      refine X.opS rfl rfl rfl rfl rfl ?_
      refine X.opS rfl rfl rfl rfl rfl ?_
      refine X.opS rfl rfl rfl rfl rfl ?_
      refine X.opS rfl rfl rfl rfl rfl ?_
      refine X.opw (X.wG rfl rfl rfl) rfl (X.pickF rfl rfl) ?_
      refine X.opw X.wN rfl (X.pickF rfl rfl) ?_
      refine X.opw X.wN rfl (X.assign rfl) ?_
      refine X.opsEnd ?_
      refine X.ret1 (v := .bool _) Try.func42 Try.results42 rfl ?_
      exact ⟨by congr 1; simp_all [isV] <;> omega, hk1⟩

theorem Check_c (v : VAL) (w : World) : Ret Try.prog 65 #[.agg (encV v).toArray] w fun r w' => r = .int .i64 (if isV v then 0 else 10) ∧ Keep w w' := by
  refine X.enter Try.func65 rfl Try.ntmps65 rfl ?_
  refine X.seq ?_
  refine X.region ?_
  refine X.opE X.wN rfl (X.boxE rfl rfl) ?_
  rintro _ w1 ⟨rfl, hB1, hk1, hz1⟩
  refine X.opw X.wN rfl (X.assign rfl) ?_
  refine X.opsEnd ?_
  refine X.seq ?_
  refine X.block ?_
  refine X.seq ?_
  refine X.region ?_
  refine X.opw X.wN rfl (X.fldB (j := 0) Try.underlying75 rfl rfl Try.sizeOf73 rfl) ?_
  refine X.opw X.wN rfl (X.load1B Try.isAgg73 hB1 rfl rfl) ?_
  refine X.opP X.wN rfl rfl (X.eqI rfl rfl) (fun h6 => ?_) (fun h6 => ?_)
  · refine X.opw X.wN rfl (X.move rfl) ?_
    refine X.opw (X.wG rfl rfl rfl) rfl (X.fldB (j := 2) Try.underlying75 rfl rfl Try.sizeOf9 rfl) ?_
    refine X.opw (X.wG rfl rfl rfl) rfl (X.load1B Try.isAgg9 hB1 rfl rfl) ?_
    refine X.opP (X.wG rfl rfl rfl) rfl rfl (X.eqD rfl rfl) (fun h10 => ?_) (fun h10 => ?_)
    · refine X.opw X.wN rfl (X.pickT rfl rfl) ?_
      refine X.opw X.wN rfl (X.assign rfl) ?_
      refine X.opsEnd ?_
      refine X.condT rfl ?_
      refine X.seq ?_
      refine X.region ?_
      refine X.opw X.wN rfl (X.assign rfl) ?_
      refine X.opsEnd ?_
      refine X.ret1 (v := .int .i64 _) Try.func65 Try.results65 rfl ?_
      exact ⟨by congr 1; simp_all [isV] <;> omega, hk1⟩
    · refine X.opw X.wN rfl (X.pickT rfl rfl) ?_
      refine X.opw X.wN rfl (X.assign rfl) ?_
      refine X.opsEnd ?_
      refine X.condF rfl ?_
      refine X.seq ?_
      refine X.region ?_
      refine X.opw X.wN rfl (X.fldB (j := 0) Try.underlying75 rfl rfl Try.sizeOf73 rfl) ?_
      refine X.opw X.wN rfl (X.load1B Try.isAgg73 hB1 rfl rfl) ?_
      refine X.opP X.wN rfl rfl (X.eqI rfl rfl) (fun h15 => ?_) (fun h15 => ?_)
      · refine X.opw X.wN rfl (X.move rfl) ?_
        refine X.opw (X.wG rfl rfl rfl) rfl (X.fldB (j := 1) Try.underlying75 rfl rfl Try.sizeOf2 rfl) ?_
        refine X.opw (X.wG rfl rfl rfl) rfl (X.load1B Try.isAgg2 hB1 rfl rfl) ?_
        refine X.opP (X.wG rfl rfl rfl) rfl rfl (X.eqI rfl rfl) (fun h19 => ?_) (fun h19 => ?_)
        · refine X.opw X.wN rfl (X.pickT rfl rfl) ?_
          refine X.opw X.wN rfl (X.move rfl) ?_
          refine X.opw (X.wG rfl rfl rfl) rfl (X.fldB (j := 2) Try.underlying75 rfl rfl Try.sizeOf9 rfl) ?_
          refine X.opw (X.wG rfl rfl rfl) rfl (X.load1B Try.isAgg9 hB1 rfl rfl) ?_
          refine X.opw (X.wG rfl rfl rfl) rfl (X.lenS Try.underlying9 rfl) ?_
          refine X.opP (X.wG rfl rfl rfl) rfl rfl (X.leq rfl rfl) (fun h25 => ?_) (fun h25 => ?_)
          · refine X.opw X.wN rfl (X.pickT rfl rfl) ?_
            refine X.opw X.wN rfl (X.assign rfl) ?_
            refine X.opsEnd ?_
            refine X.condT rfl ?_
            refine X.seq ?_
            refine X.region ?_
            refine X.opw X.wN rfl (X.assign rfl) ?_
            refine X.opsEnd ?_
            refine X.ret1 (v := .int .i64 _) Try.func65 Try.results65 rfl ?_
            exact ⟨by congr 1; simp_all [isV] <;> omega, hk1⟩
          · refine X.opw X.wN rfl (X.pickT rfl rfl) ?_
            refine X.opw X.wN rfl (X.assign rfl) ?_
            refine X.opsEnd ?_
            refine X.condF rfl ?_
            refine X.skip ?_
            refine X.inBlock ?_
            refine X.seq ?_
            refine X.region ?_
            refine X.opw X.wN rfl (X.assign rfl) ?_
            refine X.opsEnd ?_
            refine X.ret1 (v := .int .i64 _) Try.func65 Try.results65 rfl ?_
            exact ⟨by congr 1; simp_all [isV] <;> omega, hk1⟩
        · refine X.opw X.wN rfl (X.pickT rfl rfl) ?_
          refine X.opw X.wN rfl (X.move rfl) ?_
          refine X.opS rfl rfl rfl rfl rfl ?_
          refine X.opS rfl rfl rfl rfl rfl ?_
          refine X.opS rfl rfl rfl rfl rfl ?_
          refine X.opS rfl rfl rfl rfl rfl ?_
          refine X.opw X.wN rfl (X.pickF rfl rfl) ?_
          refine X.opw X.wN rfl (X.assign rfl) ?_
          refine X.opsEnd ?_
          refine X.condF rfl ?_
          refine X.skip ?_
          refine X.inBlock ?_
          refine X.seq ?_
          refine X.region ?_
          refine X.opw X.wN rfl (X.assign rfl) ?_
          refine X.opsEnd ?_
          refine X.ret1 (v := .int .i64 _) Try.func65 Try.results65 rfl ?_
          exact ⟨by congr 1; simp_all [isV] <;> omega, hk1⟩
      · refine X.opw X.wN rfl (X.move rfl) ?_
        refine X.opS rfl rfl rfl rfl rfl ?_
        refine X.opS rfl rfl rfl rfl rfl ?_
        refine X.opS rfl rfl rfl rfl rfl ?_
        refine X.opw X.wN rfl (X.pickF rfl rfl) ?_
        refine X.opw X.wN rfl (X.move rfl) ?_
        refine X.opS rfl rfl rfl rfl rfl ?_
        refine X.opS rfl rfl rfl rfl rfl ?_
        refine X.opS rfl rfl rfl rfl rfl ?_
        refine X.opS rfl rfl rfl rfl rfl ?_
        refine X.opw X.wN rfl (X.pickF rfl rfl) ?_
        refine X.opw X.wN rfl (X.assign rfl) ?_
        refine X.opsEnd ?_
        refine X.condF rfl ?_
        refine X.skip ?_
        refine X.inBlock ?_
        refine X.seq ?_
        refine X.region ?_
        refine X.opw X.wN rfl (X.assign rfl) ?_
        refine X.opsEnd ?_
        refine X.ret1 (v := .int .i64 _) Try.func65 Try.results65 rfl ?_
        exact ⟨by congr 1; simp_all [isV] <;> omega, hk1⟩
  · refine X.opw X.wN rfl (X.move rfl) ?_
    refine X.opS rfl rfl rfl rfl rfl ?_
    refine X.opS rfl rfl rfl rfl rfl ?_
    refine X.opS rfl rfl rfl rfl rfl ?_
    refine X.opw X.wN rfl (X.pickF rfl rfl) ?_
    refine X.opw X.wN rfl (X.assign rfl) ?_
    refine X.opsEnd ?_
    refine X.condF rfl ?_
    refine X.seq ?_
    refine X.region ?_
    refine X.opw X.wN rfl (X.fldB (j := 0) Try.underlying75 rfl rfl Try.sizeOf73 rfl) ?_
    refine X.opw X.wN rfl (X.load1B Try.isAgg73 hB1 rfl rfl) ?_
    refine X.opP X.wN rfl rfl (X.eqI rfl rfl) (fun h15 => ?_) (fun h15 => ?_)
    · refine X.opw X.wN rfl (X.move rfl) ?_
      refine X.opw (X.wG rfl rfl rfl) rfl (X.fldB (j := 1) Try.underlying75 rfl rfl Try.sizeOf2 rfl) ?_
      refine X.opw (X.wG rfl rfl rfl) rfl (X.load1B Try.isAgg2 hB1 rfl rfl) ?_
      refine X.opP (X.wG rfl rfl rfl) rfl rfl (X.eqI rfl rfl) (fun h19 => ?_) (fun h19 => ?_)
      · refine X.opw X.wN rfl (X.pickT rfl rfl) ?_
        refine X.opw X.wN rfl (X.move rfl) ?_
        refine X.opw (X.wG rfl rfl rfl) rfl (X.fldB (j := 2) Try.underlying75 rfl rfl Try.sizeOf9 rfl) ?_
        refine X.opw (X.wG rfl rfl rfl) rfl (X.load1B Try.isAgg9 hB1 rfl rfl) ?_
        refine X.opw (X.wG rfl rfl rfl) rfl (X.lenS Try.underlying9 rfl) ?_
        refine X.opP (X.wG rfl rfl rfl) rfl rfl (X.leq rfl rfl) (fun h25 => ?_) (fun h25 => ?_)
        · refine X.opw X.wN rfl (X.pickT rfl rfl) ?_
          refine X.opw X.wN rfl (X.assign rfl) ?_
          refine X.opsEnd ?_
          refine X.condT rfl ?_
          refine X.seq ?_
          refine X.region ?_
          refine X.opw X.wN rfl (X.assign rfl) ?_
          refine X.opsEnd ?_
          refine X.ret1 (v := .int .i64 _) Try.func65 Try.results65 rfl ?_
          exact ⟨by congr 1; simp_all [isV] <;> omega, hk1⟩
        · refine X.opw X.wN rfl (X.pickT rfl rfl) ?_
          refine X.opw X.wN rfl (X.assign rfl) ?_
          refine X.opsEnd ?_
          refine X.condF rfl ?_
          refine X.skip ?_
          refine X.inBlock ?_
          refine X.seq ?_
          refine X.region ?_
          refine X.opw X.wN rfl (X.assign rfl) ?_
          refine X.opsEnd ?_
          refine X.ret1 (v := .int .i64 _) Try.func65 Try.results65 rfl ?_
          exact ⟨by congr 1; simp_all [isV] <;> omega, hk1⟩
      · refine X.opw X.wN rfl (X.pickT rfl rfl) ?_
        refine X.opw X.wN rfl (X.move rfl) ?_
        refine X.opS rfl rfl rfl rfl rfl ?_
        refine X.opS rfl rfl rfl rfl rfl ?_
        refine X.opS rfl rfl rfl rfl rfl ?_
        refine X.opS rfl rfl rfl rfl rfl ?_
        refine X.opw X.wN rfl (X.pickF rfl rfl) ?_
        refine X.opw X.wN rfl (X.assign rfl) ?_
        refine X.opsEnd ?_
        refine X.condF rfl ?_
        refine X.skip ?_
        refine X.inBlock ?_
        refine X.seq ?_
        refine X.region ?_
        refine X.opw X.wN rfl (X.assign rfl) ?_
        refine X.opsEnd ?_
        refine X.ret1 (v := .int .i64 _) Try.func65 Try.results65 rfl ?_
        exact ⟨by congr 1; simp_all [isV] <;> omega, hk1⟩
    · refine X.opw X.wN rfl (X.move rfl) ?_
      refine X.opS rfl rfl rfl rfl rfl ?_
      refine X.opS rfl rfl rfl rfl rfl ?_
      refine X.opS rfl rfl rfl rfl rfl ?_
      refine X.opw X.wN rfl (X.pickF rfl rfl) ?_
      refine X.opw X.wN rfl (X.move rfl) ?_
      refine X.opS rfl rfl rfl rfl rfl ?_
      refine X.opS rfl rfl rfl rfl rfl ?_
      refine X.opS rfl rfl rfl rfl rfl ?_
      refine X.opS rfl rfl rfl rfl rfl ?_
      refine X.opw X.wN rfl (X.pickF rfl rfl) ?_
      refine X.opw X.wN rfl (X.assign rfl) ?_
      refine X.opsEnd ?_
      refine X.condF rfl ?_
      refine X.skip ?_
      refine X.inBlock ?_
      refine X.seq ?_
      refine X.region ?_
      refine X.opw X.wN rfl (X.assign rfl) ?_
      refine X.opsEnd ?_
      refine X.ret1 (v := .int .i64 _) Try.func65 Try.results65 rfl ?_
      exact ⟨by congr 1; simp_all [isV] <;> omega, hk1⟩

theorem may1_c (v : VAL) (w : World) : Ret Try.prog 64 #[.agg (encV v).toArray] w fun r w' => r = .bool (!isV v) ∧ Keep w w' := by
  refine X.enter Try.func64 rfl Try.ntmps64 rfl ?_
  refine X.seq ?_
  refine X.region ?_
  refine X.opE X.wN rfl (X.boxE rfl rfl) ?_
  rintro _ w1 ⟨rfl, hB1, hk1, hz1⟩
  refine X.opw X.wN rfl (X.assign rfl) ?_
  refine X.opsEnd ?_
  refine X.seq ?_
  refine X.region ?_
  refine X.opw X.wN rfl (X.loadNB Try.isAgg75 Try.sizeOf75 hB1 rfl rfl rfl) ?_
  refine X.opE X.wN rfl (X.callE (Check_c v _) Try.call65 rfl rfl) ?_
  rintro _ w2 ⟨rfl, hk2⟩
  refine X.opw X.wN rfl (X.neI rfl rfl) ?_
  refine X.opw X.wN rfl (X.assign rfl) ?_
  refine X.opsEnd ?_
  refine X.ret1 (v := .bool _) Try.func64 Try.results64 rfl ?_
  exact ⟨by congr 1; cases isV v <;> rfl, hk1.trans hk2⟩

end Go.Proofs.Ytaclpphhidlgpaa
